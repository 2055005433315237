/- Lemmas on which the law stands, part 4: Iter, DevN, DevU, DevV, DKnown. -/
import Derived.Shelf.SlIter.Nil
import Derived.Shelf.SortM.Plain
import Derived.Shelf.SortM.SortNone
import Derived.Ground.GgzProg
import Derived.Ground.SlgmProg
import Derived.Test.YtnmbkaccoaeijaaDoorProg
import Derived.Test.YtnmbkaccoaeijaaDoorKDK2
import Derived.Test.YtnmbkaccoaeijaaDoorKDK3
import Derived.Deep.QuietTactic
import Derived.BigQuiet
set_option linter.unusedVariables false
set_option linter.unusedSimpArgs false
/- The library's contracts on the sorted keys of a map, laid at this program by the kit's own two commands (lay-iter, lay-plain). -/
namespace Go.Proofs
open Go.Shelf
def Tryd.keys27_ren : Go.Shelf.Ren := ⟨fun | 7 => 27 | 10 => 37 | n => n, fun | 23 => 40 | 26 => 9 | 3 => 46 | 28 => 56 | 0 => 0 | 27 => 55 | 33 => 44 | 4 => 4 | n => n, fun | n => n⟩
theorem Tryd.keys27 : Go.Proofs.SlLaysZ.n7 Tryd.prog Tryd.keys27_ren := {
  mixed := by kernel_rfl
  f7 := ⟨Tryd.f27.name, by decide, Tryd.func27.trans (congrArg some (by kernel_rfl))⟩
  f10 := ⟨Tryd.f37.name, by decide, Tryd.func37.trans (congrArg some (by kernel_rfl))⟩
  t0 := Tryd.underlying0
  a0 := Tryd.isAgg0
  z0 := Tryd.sizeOf0
  v0 := Tryd.zeroValue0
  t4 := Tryd.underlying4
  a4 := Tryd.isAgg4
  z4 := Tryd.sizeOf4
  v4 := Tryd.zeroValue4
  t23 := Tryd.underlying40
  a23 := Tryd.isAgg40
  z23 := Tryd.sizeOf40
  v23 := Tryd.zeroValue40
  t26 := Tryd.underlying9
  a26 := Tryd.isAgg9
  z26 := Tryd.sizeOf9
  v26 := Tryd.zeroValue9
  t27 := Tryd.underlying55
  a27 := Tryd.isAgg55
  z27 := Tryd.sizeOf55
  v27 := Tryd.zeroValue55
  t28 := Tryd.underlying56
  a28 := Tryd.isAgg56
  z28 := Tryd.sizeOf56
  v28 := Tryd.zeroValue56
  t33 := Tryd.underlying44
  a33 := Tryd.isAgg44
  z33 := Tryd.sizeOf44
  v33 := Tryd.zeroValue44 }
def Tryd.sorted26_ren : Go.Shelf.Ren := ⟨fun | 6 => 26 | 8 => 35 | 9 => 36 | 11 => 40 | 13 => 42 | 12 => 41 | 23 => 57 | 24 => 58 | 14 => 48 | 15 => 49 | 16 => 50 | 17 => 51 | 18 => 52 | 19 => 53 | 20 => 54 | 21 => 55 | 22 => 56 | 25 => 63 | 26 => 64 | 27 => 65 | 28 => 66 | 29 => 67 | 30 => 68 | 31 => 69 | n => n, fun | 26 => 9 | 28 => 56 | 24 => 33 | 0 => 0 | 3 => 3 | 37 => 68 | 48 => 92 | 50 => 94 | 4 => 4 | 40 => 84 | 39 => 83 | 45 => 89 | 5 => 5 | 9 => 9 | 51 => 110 | 55 => 114 | 57 => 119 | 58 => 120 | 33 => 44 | n => n, fun | n => n⟩
theorem Tryd.sorted26 : Go.Proofs.SlLaysZ.n6 Tryd.prog Tryd.sorted26_ren := {
  mixed := by kernel_rfl
  f6 := ⟨Tryd.f26.name, by decide, Tryd.func26.trans (congrArg some (by kernel_rfl))⟩
  f8 := ⟨Tryd.f35.name, by decide, Tryd.func35.trans (congrArg some (by kernel_rfl))⟩
  f11 := ⟨Tryd.f40.name, by decide, Tryd.func40.trans (congrArg some (by kernel_rfl))⟩
  t0 := Tryd.underlying0
  a0 := Tryd.isAgg0
  z0 := Tryd.sizeOf0
  v0 := Tryd.zeroValue0
  t24 := Tryd.underlying33
  a24 := Tryd.isAgg33
  z24 := Tryd.sizeOf33
  v24 := Tryd.zeroValue33
  t26 := Tryd.underlying9
  a26 := Tryd.isAgg9
  z26 := Tryd.sizeOf9
  v26 := Tryd.zeroValue9
  t28 := Tryd.underlying56
  a28 := Tryd.isAgg56
  z28 := Tryd.sizeOf56
  v28 := Tryd.zeroValue56
  i26 := by kernel_rfl }
def Tryd.sort36_ren : Go.Shelf.Ren := ⟨fun | 6 => 36 | 8 => 42 | 9 => 41 | 19 => 57 | 20 => 58 | 21 => 48 | 22 => 49 | 23 => 50 | 24 => 51 | 25 => 52 | 26 => 53 | 27 => 54 | 28 => 55 | 29 => 56 | 36 => 63 | 31 => 64 | 32 => 65 | 37 => 66 | 38 => 67 | 39 => 68 | 41 => 69 | n => n, fun | 27 => 33 | 29 => 9 | 3 => 3 | 32 => 68 | 26 => 33 | 0 => 0 | 44 => 92 | 46 => 94 | 4 => 4 | 36 => 84 | 35 => 83 | 41 => 89 | 5 => 5 | 9 => 9 | 53 => 110 | 57 => 114 | 63 => 119 | 64 => 120 | n => n, fun | n => n⟩
theorem Tryd.sort36 : Go.Proofs.SlLaysM.n6 Tryd.prog Tryd.sort36_ren := {
  mixed := by kernel_rfl
  f6 := ⟨Tryd.f36.name, by decide, Tryd.func36.trans (congrArg some (by kernel_rfl))⟩
  f8 := Tryd.func42.trans (congrArg some (by kernel_rfl))
  f9 := ⟨Tryd.f41.name, by decide, Tryd.func41.trans (congrArg some (by kernel_rfl))⟩
  f19 := Tryd.func57.trans (congrArg some (by kernel_rfl))
  f20 := Tryd.func58.trans (congrArg some (by kernel_rfl))
  f21 := ⟨Tryd.f48.name, by decide, Tryd.func48.trans (congrArg some (by kernel_rfl))⟩
  f22 := ⟨Tryd.f49.name, by decide, Tryd.func49.trans (congrArg some (by kernel_rfl))⟩
  f23 := ⟨Tryd.f50.name, by decide, Tryd.func50.trans (congrArg some (by kernel_rfl))⟩
  f24 := ⟨Tryd.f51.name, by decide, Tryd.func51.trans (congrArg some (by kernel_rfl))⟩
  f25 := ⟨Tryd.f52.name, by decide, Tryd.func52.trans (congrArg some (by kernel_rfl))⟩
  f26 := ⟨Tryd.f53.name, by decide, Tryd.func53.trans (congrArg some (by kernel_rfl))⟩
  f27 := ⟨Tryd.f54.name, by decide, Tryd.func54.trans (congrArg some (by kernel_rfl))⟩
  f28 := ⟨Tryd.f55.name, by decide, Tryd.func55.trans (congrArg some (by kernel_rfl))⟩
  f29 := ⟨Tryd.f56.name, by decide, Tryd.func56.trans (congrArg some (by kernel_rfl))⟩
  f31 := Tryd.func64.trans (congrArg some (by kernel_rfl))
  f32 := Tryd.func65.trans (congrArg some (by kernel_rfl))
  f36 := ⟨Tryd.f63.name, by decide, Tryd.func63.trans (congrArg some (by kernel_rfl))⟩
  f37 := ⟨Tryd.f66.name, by decide, Tryd.func66.trans (congrArg some (by kernel_rfl))⟩
  f38 := ⟨Tryd.f67.name, by decide, Tryd.func67.trans (congrArg some (by kernel_rfl))⟩
  f39 := ⟨Tryd.f68.name, by decide, Tryd.func68.trans (congrArg some (by kernel_rfl))⟩
  f41 := ⟨Tryd.f69.name, by decide, Tryd.func69.trans (congrArg some (by kernel_rfl))⟩
  t0 := Tryd.underlying0
  a0 := Tryd.isAgg0
  z0 := Tryd.sizeOf0
  v0 := Tryd.zeroValue0
  t3 := Tryd.underlying3
  a3 := Tryd.isAgg3
  z3 := Tryd.sizeOf3
  v3 := Tryd.zeroValue3
  t4 := Tryd.underlying4
  a4 := Tryd.isAgg4
  z4 := Tryd.sizeOf4
  v4 := Tryd.zeroValue4
  t5 := Tryd.underlying5
  a5 := Tryd.isAgg5
  z5 := Tryd.sizeOf5
  v5 := Tryd.zeroValue5
  t9 := Tryd.underlying9
  a9 := Tryd.isAgg9
  z9 := Tryd.sizeOf9
  v9 := Tryd.zeroValue9
  t26 := Tryd.underlying33
  a26 := Tryd.isAgg33
  z26 := Tryd.sizeOf33
  v26 := Tryd.zeroValue33
  t27 := Tryd.underlying33
  a27 := Tryd.isAgg33
  z27 := Tryd.sizeOf33
  v27 := Tryd.zeroValue33
  t29 := Tryd.underlying9
  a29 := Tryd.isAgg9
  z29 := Tryd.sizeOf9
  v29 := Tryd.zeroValue9
  t32 := Tryd.underlying68
  a32 := Tryd.isAgg68
  z32 := Tryd.sizeOf68
  v32 := Tryd.zeroValue68
  t35 := Tryd.underlying83
  a35 := Tryd.isAgg83
  z35 := Tryd.sizeOf83
  v35 := Tryd.zeroValue83
  t36 := Tryd.underlying84
  a36 := Tryd.isAgg84
  z36 := Tryd.sizeOf84
  v36 := Tryd.zeroValue84
  t41 := Tryd.underlying89
  a41 := Tryd.isAgg89
  z41 := Tryd.sizeOf89
  v41 := Tryd.zeroValue89
  t44 := Tryd.underlying92
  a44 := Tryd.isAgg92
  z44 := Tryd.sizeOf92
  v44 := Tryd.zeroValue92
  t46 := Tryd.underlying94
  a46 := Tryd.isAgg94
  z46 := Tryd.sizeOf94
  v46 := Tryd.zeroValue94
  t53 := Tryd.underlying110
  a53 := Tryd.isAgg110
  z53 := Tryd.sizeOf110
  v53 := Tryd.zeroValue110
  t57 := Tryd.underlying114
  a57 := Tryd.isAgg114
  z57 := Tryd.sizeOf114
  v57 := Tryd.zeroValue114
  t63 := Tryd.underlying119
  a63 := Tryd.isAgg119
  z63 := Tryd.sizeOf119
  v63 := Tryd.zeroValue119
  t64 := Tryd.underlying120
  a64 := Tryd.isAgg120
  z64 := Tryd.sizeOf120
  v64 := Tryd.zeroValue120 }
end Go.Proofs
namespace Go.Proofs
open Go.RowKit Go.Maps Go.Sort Go.Shelf
theorem Tryd.sorts26 (m : Nat) : AnyZ.SortsIn Tryd.prog Tryd.sorted26_ren Fence.wide m :=
  ⟨fun blk off cap ss W hH hblk hsz => callsIn_wide.2 (AnyM.slices_Sort_string Tryd.sort36 blk off cap ss W hH hblk hsz),
   fun p cap W => callsIn_wide.2 (AnyM.slices_Sort_string_none Tryd.sort36 p cap W)⟩
theorem Tryd.maps_Keys_27 (mb : Option Nat) (W : World) : CallsIn Fence.wide 5 Tryd.prog 27 #[.map mb] W fun e w' => e = .returned (.func (.func 37) #[] #[.pointer (some ⟨W.heap.size, 0, none⟩)]) ∧ w' = W.alloc (.cells #[.map mb] 40) :=
  AnyZ.keys_in Tryd.keys27 Fence.wide 5 trivial rfl mb W
set_option maxHeartbeats 1000000 in
theorem Tryd.slices_Sorted_keys_26_27 {H : Type} (b nn : Nat) (D0 : DataW H) (R : Value → Option (DataW H × List MemPlace)) (w : World) (hown : w.ownsMap Tryd.prog 9 R b nn D0) (hmax : Maps.size D0 ≤ maxLen) (hbytes : Maps.size D0 * 16 ≤ 140737488355328) :
    CallsIn Fence.wide 5 Tryd.prog 26 #[.func (.func 37) #[] #[.pointer (some ⟨w.heap.size, 0, none⟩)]] (w.alloc (.cells #[.map (some b)] 40)) fun e w' => ∃ (v : Value) (ss : List (List UInt8)), e = .returned v ∧ ss.Perm (strKeys D0) ∧
      w'.ownsRow (w.alloc (.cells #[.map (some b)] 40)).heap.size 9 1 v ss.length ((ss.mergeSort (fun x y => decide (x ≤ y))).map encStr) ∧ (v = .slice none 0 0 ↔ ss = []) ∧ Below (w.alloc (.cells #[.map (some b)] 40)).heap.size (w.alloc (.cells #[.map (some b)] 40)) w' := by
  have hbl := hown.lt
  have hseq : SeqGives Fence.wide 2 Tryd.prog 37 #[.pointer (some ⟨w.heap.size, 0, none⟩)] encStr (fun ss => ss.Perm (strKeys D0)) (Maps.size D0) (w.alloc (.cells #[.map (some b)] 40)) :=
    AnyZ.keys_gives (ρ := Tryd.keys27_ren) { Tryd.keys27 with } Fence.wide _ trivial rfl (by omega) w.heap.size b nn D0 _ (by simp) (by simp) (by
      obtain ⟨es, clock, hb, Ft, hs, hD⟩ := hown
      exact ⟨es, clock, (Below.heap_alloc _ _ b hbl).trans hb, Ft, hs, hD⟩)
  exact AnyZ.sorted_in Tryd.sorted26 Fence.wide 5 trivial trivial trivial trivial rfl (by omega) (Tryd.sorts26 _) (enters_of Tryd.func36 (by kernel_rfl) rfl) 37 #[.pointer (some ⟨w.heap.size, 0, none⟩)] trivial (enters_of Tryd.func37 (by kernel_rfl) rfl) _ _ hmax hbytes _ hseq
end Go.Proofs

/- The device's methods walked: Names: the files' names, in order. -/
namespace Go.Proofs.YtnmbkaccoaeijaaDoor
open Go.RowKit Go.Maps Go.Sort Go.Proofs.YtnmbkaccoaeijaaDoorW.PrintWords Go.Proofs.YtnmbkaccoaeijaaDoorW.PrintLast
def txOf (x : List UInt8) : ByteArray := ⟨x.toArray⟩
theorem txOf_list (s : ByteArray) : txOf s.data.toList = s := by cases s; simp [txOf]
theorem list_txOf (x : List UInt8) : (txOf x).data.toList = x := by simp [txOf]
def IsNames (S : DevS) (l : List ByteArray) : Prop := l.Pairwise (fun a b => a.data.toList < b.data.toList) ∧ (∀ s, s ∈ l ↔ (S.file s).isSome = true) ∧ l.length = S.count
theorem sorted_names {ss : List (List UInt8)} (hn : ss.Nodup) : (ss.mergeSort (fun x y => decide (x ≤ y))).Pairwise (fun a b => a < b) := by
  have h1 := List.pairwise_mergeSort (le := fun x y : List UInt8 => decide (x ≤ y)) (fun a b c h1 h2 => by
    simp only [decide_eq_true_eq] at *
    exact List.le_trans h1 h2) (fun a b => by
    simp only [Bool.or_eq_true, decide_eq_true_eq]
    exact List.le_total a b) ss
  have h2 : (ss.mergeSort (fun x y => decide (x ≤ y))).Nodup := (List.mergeSort_perm ss _).nodup_iff.2 hn
  refine (h1.and h2).imp ?_
  rintro a b ⟨h3, h4⟩
  simp only [decide_eq_true_eq] at h3
  exact Classical.byContradiction fun h5 => h4 (List.le_antisymm h3 h5)
theorem MapS.keyList {P : Program} {sT : TypeId} {w : World} {b c : Nat} {M : ByteArray → Option Value} (hs : P.underlying sT = some .string) (h : MapS P sT w b M c) :
    ∃ D n, w.ownsMap P sT hR b n D ∧ Maps.size D = c ∧ c ≤ maxLen ∧ (strKeys D).Nodup ∧ (strKeys D).length = c ∧ ∀ x : List UInt8, x ∈ strKeys D ↔ (M (txOf x)).isSome = true := by
  obtain ⟨D, n, h, h1, h2, h3, h4⟩ := h
  have hK := string_keyed (P := P) hs
  have hle := h.size_le
  obtain ⟨es, clock, hb, F, hsz, hD⟩ := h
  have hst : ∀ p ∈ (es.toList.map (Go.WideElems.rg P sT hR)).foldr DataW.insert [], ∃ x, p.1 = .string x := by
    intro p hp
    obtain ⟨e, he, rfl⟩ := List.mem_map.1 (mem_sorted.1 hp)
    obtain ⟨y, hy⟩ := F.reads e he
    obtain ⟨s, _, hs', _⟩ := ky_inv hs (Go.WideElems.rd_key hy)
    exact ⟨s.data.toList, by rw [Go.WideElems.rg_of hy, hs']; rfl⟩
  obtain ⟨es', hes, hpw, hkl⟩ := World.ownsMap.entries (w := w) ⟨es, clock, hb, F, hsz, hD⟩ hK
  rw [hD] at hes
  injection hes with hes
  have hmem : ∀ x : List UInt8, x ∈ strKeys D ↔ Maps.has D (.string x) = true := by
    intro x
    subst hD
    simp only [strKeys, Maps.has, List.mem_map, List.any_eq_true]
    constructor
    · rintro ⟨p, hp, rfl⟩
      obtain ⟨y, hy⟩ := hst p hp
      refine ⟨p, hp, ?_⟩
      rw [hy]
      exact WideAt.sameKey_self trivial
    · rintro ⟨p, hp, hq⟩
      obtain ⟨y, hy⟩ := hst p hp
      refine ⟨p, hp, ?_⟩
      have := WideAt.sameKey_eq hq
      rw [hy] at this ⊢
      injection this with this
  refine ⟨D, n, ⟨es, clock, hb, F, hsz, hD⟩, h3, by omega, ?_, ?_, fun x => ?_⟩
  · subst hD
    show List.Nodup (List.map _ _)
    refine List.Pairwise.map _ ?_ (List.Pairwise.and_mem.1 (hes ▸ hpw))
    rintro p q ⟨hp, hq, hne⟩ he
    obtain ⟨x, hx⟩ := hst p hp
    obtain ⟨y, hy⟩ := hst q hq
    refine hne ?_
    rw [hx, hy] at he ⊢
    have he' : x = y := he
    rw [he']
  · subst hD
    rw [← h3]
    simp [strKeys, Maps.size]
  · rw [hmem x, ← (h4 (txOf x)).1]
    unfold kyL
    rw [list_txOf]
set_option maxHeartbeats 2000000 in
set_option maxRecDepth 100000 in
theorem names_calls (w : World) (base d mb : Nat) (G : ByteArray → Option (Nat × Value)) (S : DevS) (hD : DevG w base d mb G S) (hc : S.count ≤ 64) :
    Calls Tryd.prog 11 #[.pointer (some ⟨d, 0, none⟩)] w fun e w' => ∃ v l, e = .returned v ∧ IsNames S l ∧ w'.ownsRow w.heap.size sT 1 v l.length (l.map Value.string) ∧ (v = .slice none 0 0 ↔ l = []) ∧ Below w.heap.size w w' := by
  obtain ⟨D, n, hown, hsz, hmx, hnd, hlen, hmem⟩ := hD.map.keyList Tryd.underlying9
  have C0 : w.cell? ⟨d, 0, none⟩ = some (.map (some mb)) := (cell_of_row _ _ 0 _ _ _ hD.cell).trans rfl
  have HK := Lib.hid ((callsIn_wide (n := 5)).1 (Tryd.maps_Keys_27 (some mb) w))
  have HS := Lib.hid ((callsIn_wide (n := 5)).1 (Tryd.slices_Sorted_keys_26_27 mb n D hR w hown (by rw [hsz]; exact hmx) (by rw [hsz]; omega)))
  have HD := Lib.hid (And.intro hnd (And.intro hlen (And.intro hmem hD)))
  clear hown hsz hmx hnd hlen hmem hD hc
  go_enter Tryd.func11, Tryd.ntmps11
  go_wp2_with (first
    | (go_at_call 27; (with_reducible refine HK.out.mono ?_); rintro e w1 ⟨rfl, hw1⟩; rw [hw1]; clear hw1)
    | (go_at_call 26; (with_reducible refine HS.out.mono ?_); rintro e w2 ⟨v, ss, rfl, hp, hrow, hnil, hb⟩; have H2 := Lib.hid (And.intro hp (And.intro hrow (And.intro hnil hb))); clear hp hrow hnil hb))
  go_ret
  obtain ⟨hp, hrow, hnil, hb⟩ := H2.out
  obtain ⟨hnd, hlen, hmem, hD⟩ := HD.out
  have hperm := List.mergeSort_perm ss (fun x y => decide (x ≤ y))
  have hl1 : ss.length = (ss.mergeSort (fun x y => decide (x ≤ y))).length := hperm.length_eq.symm
  refine ⟨v, (ss.mergeSort (fun x y => decide (x ≤ y))).map txOf, rfl, ⟨?_, fun s => ?_, ?_⟩, ?_, ?_, (below_alloc (Below.refl _ _) _).trans (hb.mono (by simp))⟩
  · rw [List.pairwise_map]
    refine (sorted_names (hp.nodup_iff.2 hnd)).imp ?_
    intro a b h
    rw [list_txOf, list_txOf]
    exact h
  · have e1 : s ∈ (ss.mergeSort (fun x y => decide (x ≤ y))).map txOf ↔ s.data.toList ∈ strKeys D := by
      rw [← hp.mem_iff, ← hperm.mem_iff, List.mem_map]
      constructor
      · rintro ⟨x, hx, rfl⟩
        rw [list_txOf]
        exact hx
      · intro h
        exact ⟨_, h, txOf_list s⟩
    rw [e1, hmem, txOf_list]
    cases hG : G s with
    | none => rw [hD.absent s hG]; simp
    | some p =>
      obtain ⟨f, hf, _⟩ := hD.file s p hG
      rw [hf]
      simp
  · rw [List.length_map, ← hl1, hp.length_eq, hlen]
  · rw [List.length_map, ← hl1, List.map_map]
    exact ownsRow_base_a (base' := w.heap.size) hrow (by simp)
  · rw [hnil]
    constructor
    · rintro rfl
      rw [List.eq_nil_of_length_eq_zero (l := ([] : List (List UInt8)).mergeSort (fun x y => decide (x ≤ y))) (by simp)]
      rfl
    · intro h
      have : (ss.mergeSort (fun x y => decide (x ≤ y))) = [] := by simpa using h
      rw [this] at hl1
      exact List.eq_nil_of_length_eq_zero hl1
end Go.Proofs.YtnmbkaccoaeijaaDoor

/- A device in memory as the document's: what each call does to it; rows of texts held against each other. -/
namespace Go.Proofs.YtnmbkaccoaeijaaDoor
open Go.RowKit Go.Proofs.YtnmbkaccoaeijaaDoorW.PrintWords Go.Proofs.YtnmbkaccoaeijaaDoorW.PrintLast
def TxtB (w : World) (A : Option Addr) (l : List ByteArray) : Prop := ∀ (k : Nat) (s : ByteArray), l[k]? = some s → ∃ a, A = some a ∧ w.cell? (a.add k) = some (.string s)
theorem TxtB.below {w w' : World} {A : Option Addr} {l : List ByteArray} (h : TxtB w A l) (hb : Below w.heap.size w w') : TxtB w' A l := fun k s hk => by
  obtain ⟨a, e, hc⟩ := h k s hk
  exact ⟨a, e, cell_below hb hc⟩
theorem txt_of_list {a b : ByteArray} (h : a.toList = b.toList) : a = b := by
  rw [Go.Lib.toList_data, Go.Lib.toList_data] at h
  cases a
  cases b
  congr 1
  exact Array.toList_inj.1 h
theorem txt_ne {a b : ByteArray} (h : a ≠ b) : (a.toList == b.toList) = false := beq_eq_false_iff_ne.2 (fun e => h (txt_of_list e))
theorem owned_txt {w : World} {base : Nat} {v : Value} {l : List ByteArray} (h : w.ownsRow base sT 1 v l.length (l.map Value.string)) : ∃ A c, v = .slice A l.length c ∧ TxtB w A l := by
  obtain ⟨h1, ⟨rfl, h2⟩ | ⟨g, cap, cur, rfl, hb, hg, hc, hm, hs, ht⟩⟩ := h
  · obtain rfl : l = [] := List.eq_nil_of_length_eq_zero h2
    exact ⟨none, 0, rfl, fun k s hk => by simp at hk⟩
  · refine ⟨some ⟨g, 0, none⟩, cap, rfl, fun k s hk => ⟨_, rfl, ?_⟩⟩
    rw [add_lit0, cell_of_row w g k cur _ _ hg]
    have hk1 : k < l.length := (List.getElem?_eq_some_iff.1 hk).1
    have h4 : (l.map Value.string)[k]? = some (.string s) := by rw [List.getElem?_map, hk]; rfl
    rw [← ht, List.getElem?_take, if_pos (by omega)] at h4
    simpa using h4
set_option maxHeartbeats 2000000 in
set_option maxRecDepth 100000 in
theorem sameTexts_calls {w : World} {A B : Option Addr} {n m c c' : Nat} {a b : List ByteArray} (h : TxtB w A a) (g : TxtB w B b) (hn : n = a.length) (hm : m = b.length) (hl : n ≤ 1000000) (hl2 : m ≤ 1000000) :
    Calls Tryd.prog 10 #[.slice A n c, .slice B m c'] w fun e w' => e = .returned (.bool (decide (a = b))) ∧ Below w.heap.size w w' := by
  by_cases hnm : n = m
  · subst hnm
    have H := Lib.hid (And.intro h (And.intro g (And.intro hn hm)))
    clear h g hn hm
    go_enter Tryd.func10, Tryd.ntmps10
    go_wp2
    go_loopw [5] (fun v5 wr => ∃ k : Nat, k ≤ n ∧ v5 = .int .i64 k ∧ Hid (a.take k = b.take k ∧ Below w.heap.size w wr)) (fun v5 _ => n - (intOf v5).toNat)
    case atStart => exact ⟨0, Nat.zero_le _, rfl, Lib.hid ⟨rfl, Below.refl _ _⟩⟩
    case round =>
      obtain ⟨k, hk, rfl, HI⟩ := hrel
      by_cases hlt : k < n
      · obtain ⟨x, hx⟩ : ∃ x, a[k]? = some x := ⟨_, List.getElem?_eq_getElem (by have := H.out.2.2.1; omega)⟩
        obtain ⟨y, hy⟩ : ∃ y, b[k]? = some y := ⟨_, List.getElem?_eq_getElem (by have := H.out.2.2.2; omega)⟩
        obtain ⟨a1, rfl, hca⟩ := (H.out.1.below HI.out.2) k x hx
        obtain ⟨b1, rfl, hcb⟩ := (H.out.2.1.below HI.out.2) k y hy
        have HX := Lib.hid (And.intro hx hy)
        clear hx hy
        by_cases hxy : x = y
        · subst hxy
          have q1 : (x.toList != x.toList) = false := by simp
          have HN : Hid (a.take (k + 1) = b.take (k + 1)) := Lib.hid (by rw [List.take_add_one, List.take_add_one, HX.out.1, HX.out.2, HI.out.1])
          go_upto_region 6 with (fail)
          go_quiet (fail)
          have hq : Hid (Below w.heap.size w (wr.drewN nq)) := Lib.hid (HI.out.2.trans ⟨rfl, rfl, rfl, Nat.le_refl _, fun _ _ => rfl⟩)
          generalize wr.drewN nq = w1 at hq ⊢
          go_wp2
          go_roundw
          case rel => exact ⟨k + 1, by omega, by go_num, Lib.hid ⟨HN.out, hq.out⟩⟩
          case measure => simp [intOf]; omega
        · have q0 := txt_ne hxy
          have q1 : (x.toList != y.toList) = true := by simp [bne, q0]
          have HD : Hid (decide (a = b) = false) := Lib.hid (decide_eq_false (fun e => hxy (by have h1 := HX.out.1; rw [e, HX.out.2] at h1; exact (Option.some.inj h1).symm)))
          have hne : ¬ x = y := hxy
          clear hxy
          go_upto_region 6 with (fail)
          go_quiet (fail)
          have hq : Hid (Below w.heap.size w (wr.drewN nq)) := Lib.hid (HI.out.2.trans ⟨rfl, rfl, rfl, Nat.le_refl _, fun _ _ => rfl⟩)
          generalize wr.drewN nq = w1 at hq ⊢
          go_wp2
          go_ret
          exact ⟨by rw [HD.out]; rfl, hq.out⟩
      · have HD : Hid (decide (a = b) = true) := Lib.hid (decide_eq_true (by
          have h1 := HI.out.1
          rw [List.take_of_length_le (by have := H.out.2.2.1; omega), List.take_of_length_le (by have := H.out.2.2.2; omega)] at h1
          exact h1))
        go_wp2
        go_ret
        exact ⟨by rw [HD.out]; rfl, HI.out.2⟩
  · have HD : Hid (decide (a = b) = false) := Lib.hid (decide_eq_false (fun e => hnm (by rw [hn, hm, e])))
    have d1 : (n == m) = false := beq_eq_false_iff_ne.2 hnm
    clear h g hn hm
    go_enter Tryd.func10, Tryd.ntmps10
    go_wp2
    go_ret
    exact ⟨by rw [HD.out]; rfl, Below.refl _ _⟩
theorem Fine.stepF {S : DevS} (h : Fine S) (ho : S.ops < 4611686018427387904) : Fine S.step := by
  refine ⟨h.count, h.file, ?_, ?_⟩
  · have := h.ops
    show 0 ≤ S.ops + 1 ∧ S.ops + 1 ≤ _
    omega
  · have := h.left
    show -1 ≤ lessL S.left ∧ lessL S.left ≤ _
    unfold lessL
    split <;> omega
theorem Fine.delF {S : DevS} (h : Fine S) (s : ByteArray) : Fine (S.del s) := by
  refine ⟨?_, fun t f hf => ?_, h.ops, h.left⟩
  · have := h.count
    show (if (S.file s).isSome then S.count - 1 else S.count) ≤ 64
    split <;> omega
  · replace hf : (if t = s then none else S.file t) = some f := hf
    split at hf
    · cases hf
    · exact h.file t f hf
theorem Fine.putF {S : DevS} (h : Fine S) (s : ByteArray) (f : FileS) (hf : f.bytes.length ≤ 262144 ∧ 0 ≤ f.synced ∧ f.synced ≤ f.bytes.length) (hc : (S.file s).isSome = true ∨ S.count < 64) : Fine (S.put s f) := by
  refine ⟨?_, fun t g hg => ?_, h.ops, h.left⟩
  · have := h.count
    show (if (S.file s).isSome then S.count else S.count + 1) ≤ 64
    rcases hc with hc | hc
    · rw [if_pos hc]; exact this
    · split <;> omega
  · replace hg : (if t = s then some f else S.file t) = some g := hg
    split at hg
    · obtain rfl := Option.some.inj hg; exact hf
    · exact h.file t g hg
theorem Fine.trn {S : DevS} (h : Fine S) (s : ByteArray) (n : Int) (ho : S.ops < 4611686018427387904) : Fine (trnS S s n).2 := by
  unfold trnS
  split
  · exact h
  · rename_i f hf
    have hfi := h.file s f hf
    split
    · exact h
    · split
      · exact h
      · refine (h.stepF ho).putF s _ ?_ (Or.inl (by show (S.file s).isSome = true; rw [hf]; rfl))
        simp only [List.length_take]
        omega
theorem Fine.rem {S : DevS} (h : Fine S) (s : ByteArray) (ho : S.ops < 4611686018427387904) : Fine (remS S s).2 := by
  unfold remS
  split
  · exact h
  · split
    · exact h
    · exact (h.stepF ho).delF s
theorem Fine.ren {S : DevS} (h : Fine S) (s t : ByteArray) (ho : S.ops < 4611686018427387904) : Fine (renS S s t).2 := by
  unfold renS
  split
  · exact h
  · split
    · exact h
    · rename_i f hf
      split
      · exact h
      · refine ((h.stepF ho).delF s).putF t f (h.file s f hf) ?_
        by_cases hc : S.count < 64
        · right
          show (if (S.file s).isSome then S.count - 1 else S.count) < 64
          split <;> omega
        · right
          show (if (S.file s).isSome then S.count - 1 else S.count) < 64
          have := h.count
          rw [hf]
          show S.count - 1 < 64
          omega
def DevK (w0 w : World) (d : Nat) (R : RDev) : Prop := ∃ S, DevAt w0 w d S ∧ Fine S ∧ Rep S R
section
variable {w0 w w' : World} {d : Nat} {R : RDev}
theorem DevK.bel (h : DevK w0 w d R) : Below w0.heap.size w0 w := by
  obtain ⟨S, h, _⟩ := h
  exact h.bel
theorem DevK.step (h : DevK w0 w d R) (hb : Below w.heap.size w w') : DevK w0 w' d R := by
  obtain ⟨S, h1, h2, h3⟩ := h
  exact ⟨S, h1.step hb, h2, h3⟩
theorem app_k (s : ByteArray) (bs : List Int) (h : DevK w0 w d R) (ho : R.ops < 4611686018427387904) (hl : bs.length ≤ 1000000) :
    Calls Tryd.prog 6 #[.pointer (some ⟨d, 0, none⟩), .string s, litV w bs] (litW w bs) fun e w' => e = .returned (errV (appR R s bs).1) ∧ DevK w0 w' d (appR R s bs).2 := by
  obtain ⟨S, h1, h2, h3⟩ := h
  refine (append_lit s bs h1 h2 hl).mono ?_
  rintro e w' ⟨rfl, h⟩
  obtain ⟨r1, r2⟩ := h3.app s bs
  exact ⟨by rw [r1], _, h, h2.app s bs (by rw [h3.ops]; exact ho), r2⟩
theorem app_kv (s : ByteArray) (bv : Value) (bs : List Int) (h : DevK w0 w d R) (ho : R.ops < 4611686018427387904) (hl : bs.length ≤ 1000000) (hR : ∀ own : Nat → Prop, (∀ k, own k → w0.heap.size ≤ k) → ReadB w own bv bs) :
    Calls Tryd.prog 6 #[.pointer (some ⟨d, 0, none⟩), .string s, bv] w fun e w' => e = .returned (errV (appR R s bs).1) ∧ DevK w0 w' d (appR R s bs).2 := by
  obtain ⟨S, h1, h2, h3⟩ := h
  refine (append_at s bv bs h1 h2 hl hR).mono ?_
  rintro e w' ⟨rfl, h⟩
  obtain ⟨r1, r2⟩ := h3.app s bs
  exact ⟨by rw [r1], _, h, h2.app s bs (by rw [h3.ops]; exact ho), r2⟩
theorem app_k0 (s : ByteArray) (h : DevK w0 w d R) (ho : R.ops < 4611686018427387904) :
    Calls Tryd.prog 6 #[.pointer (some ⟨d, 0, none⟩), .string s, .slice none 0 0] w fun e w' => e = .returned (errV (appR R s []).1) ∧ DevK w0 w' d (appR R s []).2 :=
  app_kv s (.slice none 0 0) [] h ho (Nat.zero_le _) (fun _ _ => Or.inl ⟨rfl, rfl⟩)
theorem syn_k (s : ByteArray) (h : DevK w0 w d R) (ho : R.ops < 4611686018427387904) (hs : s.size ≤ maxLen) :
    Calls Tryd.prog 7 #[.pointer (some ⟨d, 0, none⟩), .string s] w fun e w' => e = .returned (errV (synR R s).1) ∧ DevK w0 w' d (synR R s).2 := by
  obtain ⟨S, h1, h2, h3⟩ := h
  refine (sync_at s h1 h2 hs).mono ?_
  rintro e w' ⟨rfl, h⟩
  obtain ⟨r1, r2⟩ := h3.syn s
  exact ⟨by rw [r1], _, h, h2.syn s (by rw [h3.ops]; exact ho), r2⟩
theorem trn_k (s : ByteArray) (n : Int) (h : DevK w0 w d R) (ho : R.ops < 4611686018427387904) (hs : s.size ≤ maxLen) :
    Calls Tryd.prog 13 #[.pointer (some ⟨d, 0, none⟩), .string s, .int .i64 n] w fun e w' => e = .returned (errV (trnR R s n).1) ∧ DevK w0 w' d (trnR R s n).2 := by
  obtain ⟨S, ⟨mb, G, g1, g2⟩, h2, h3⟩ := h
  refine (truncate_calls w w0.heap.size d mb G S s n g1 h2 hs).mono ?_
  intro e w' hd
  obtain ⟨rfl, h⟩ := DevAt.did (w1 := w) g1 g2 hd
  obtain ⟨r1, r2⟩ := h3.trn s n
  exact ⟨by rw [r1], _, h, h2.trn s n (by rw [h3.ops]; exact ho), r2⟩
theorem ren_k (s t : ByteArray) (h : DevK w0 w d R) (ho : R.ops < 4611686018427387904) (hs : s.size ≤ maxLen) :
    Calls Tryd.prog 14 #[.pointer (some ⟨d, 0, none⟩), .string s, .string t] w fun e w' => e = .returned (errV (renR R s t).1) ∧ DevK w0 w' d (renR R s t).2 := by
  obtain ⟨S, ⟨mb, G, g1, g2⟩, h2, h3⟩ := h
  refine (rename_calls w w0.heap.size d mb G S s t g1 h2 hs).mono ?_
  intro e w' hd
  obtain ⟨rfl, h⟩ := DevAt.did (w1 := w) g1 g2 hd
  obtain ⟨r1, r2⟩ := h3.ren s t
  exact ⟨by rw [r1], _, h, h2.ren s t (by rw [h3.ops]; exact ho), r2⟩
theorem rem_k (s : ByteArray) (h : DevK w0 w d R) (ho : R.ops < 4611686018427387904) (hs : s.size ≤ maxLen) :
    Calls Tryd.prog 16 #[.pointer (some ⟨d, 0, none⟩), .string s] w fun e w' => e = .returned (errV (remR R s).1) ∧ DevK w0 w' d (remR R s).2 := by
  obtain ⟨S, ⟨mb, G, g1, g2⟩, h2, h3⟩ := h
  refine (remove_calls w w0.heap.size d mb G S s g1 h2 hs).mono ?_
  intro e w' hd
  obtain ⟨rfl, h⟩ := DevAt.did (w1 := w) g1 g2 hd
  obtain ⟨r1, r2⟩ := h3.rem s
  exact ⟨by rw [r1], _, h, h2.rem s (by rw [h3.ops]; exact ho), r2⟩
theorem cut_k (n : Int) (h : DevK w0 w d R) (hn : n ≤ 4611686018427387904) :
    Calls Tryd.prog 17 #[.pointer (some ⟨d, 0, none⟩), .int .i64 n] w fun e w' => e = .returned (.tuple #[]) ∧ DevK w0 w' d (cutR R n) := by
  obtain ⟨S, h1, h2, h3⟩ := h
  refine (cut_at n h1).mono ?_
  rintro e w' ⟨rfl, h⟩
  exact ⟨rfl, _, h, h2.cut n hn, h3.cut n⟩
theorem rest_k (n : Int) (h : DevK w0 w d R) (hn : -4611686018427387904 ≤ n ∧ n ≤ 4611686018427387904) :
    Calls Tryd.prog 8 #[.pointer (some ⟨d, 0, none⟩), .int .i64 n] w fun e w' => e = .returned (.tuple #[]) ∧ DevK w0 w' d (restR R n) := by
  obtain ⟨S, ⟨mb, G, g1, g2⟩, h2, h3⟩ := h
  refine (restart_calls w w0.heap.size d mb G S n g1 h2 hn).mono ?_
  intro e w' hd
  obtain ⟨rfl, h⟩ := DevAt.did (w1 := w) g1 g2 hd
  exact ⟨rfl, _, h, h2.rest n, h3.rest n⟩
theorem new_k (h : Below w0.heap.size w0 w) : Calls Tryd.prog 4 #[] w fun e w' => ∃ d, e = .returned (.pointer (some ⟨d, 0, none⟩)) ∧ DevK w0 w' d RDev.new := by
  refine (new_at h).mono ?_
  rintro e w' ⟨d, rfl, h⟩
  exact ⟨d, rfl, _, h, Fine.new, Rep.new⟩
def readsR (R : RDev) (s : ByteArray) (bs : List Int) : Bool := (rfind R.files s).isSome && decide ((gotR R s).bytes = bs)
theorem Rep.reads {S : DevS} (h : Rep S R) (s : ByteArray) (bs : List Int) : readsS S s bs = readsR R s bs := by
  unfold readsS readsR
  rw [h.got, h.file, Option.isSome_map]
  rfl
theorem reads_k (s : ByteArray) (v : Value) (bs : List Int) (h : DevK w0 w d R) (hs : s.size ≤ maxLen) (hl : bs.length ≤ 1000000) (hr : RowB w v bs) :
    Calls Tryd.prog 9 #[.pointer (some ⟨d, 0, none⟩), .string s, v] w fun e w' => e = .returned (.bool (readsR R s bs)) ∧ DevK w0 w' d R := by
  obtain ⟨S, h1, h2, h3⟩ := h
  refine (reads_row s v bs h1 h2 hs hl hr).mono ?_
  rintro e w' ⟨rfl, h⟩
  exact ⟨by rw [h3.reads], S, h, h2, h3⟩
theorem readsL_k (s : ByteArray) (bs : List Int) (h : DevK w0 w d R) (hs : s.size ≤ maxLen) (hl : bs.length ≤ 1000000) :
    Calls Tryd.prog 9 #[.pointer (some ⟨d, 0, none⟩), .string s, litV w bs] (litW w bs) fun e w' => e = .returned (.bool (readsR R s bs)) ∧ DevK w0 w' d R :=
  reads_k s (litV w bs) bs (h.step (lit_bel w bs)) hs hl (lit_row w bs)
theorem readsN_k (s : ByteArray) (h : DevK w0 w d R) (hs : s.size ≤ maxLen) :
    Calls Tryd.prog 9 #[.pointer (some ⟨d, 0, none⟩), .string s, .slice none 0 0] w fun e w' => e = .returned (.bool (readsR R s [])) ∧ DevK w0 w' d R :=
  reads_k s (.slice none 0 0) [] h hs (Nat.zero_le _) ⟨none, 0, rfl, fun j x hx => by simp at hx⟩
theorem names_k (h : DevK w0 w d R) : Calls Tryd.prog 11 #[.pointer (some ⟨d, 0, none⟩)] w fun e w' => ∃ A c, e = .returned (.slice A (namesR R).length c) ∧ TxtB w' A (namesR R) ∧ DevK w0 w' d R := by
  obtain ⟨S, h1, h2, h3⟩ := h
  obtain ⟨mb, G, g1, g2⟩ := id h1
  refine (names_calls w w0.heap.size d mb G S g1 h2.count).mono ?_
  rintro e w' ⟨v, l, rfl, hN, hrow, _, hb⟩
  obtain rfl := h3.names_of hN.1 hN.2.1
  obtain ⟨A, c, rfl, hT⟩ := owned_txt hrow
  exact ⟨A, c, rfl, hT, S, h1.step hb, h2, h3⟩
def litTW (W : World) (l : List ByteArray) : World := W.alloc (Obj.cells (l.map Value.string).toArray sT (0, 0))
def litTV (W : World) (l : List ByteArray) : Value := .slice (some ⟨W.heap.size, 0, none⟩) l.length l.length
theorem litT_txt (W : World) (l : List ByteArray) : TxtB (litTW W l) (some ⟨W.heap.size, 0, none⟩) l := fun k s hk => ⟨_, rfl, by
  rw [add_lit0, cell_of_row (litTW W l) _ k _ _ _ (heap_alloc_new W _)]
  simp [hk]⟩
theorem litT_bel (W : World) (l : List ByteArray) : Below W.heap.size W (litTW W l) := below_alloc (Below.refl _ _) _
end
end Go.Proofs.YtnmbkaccoaeijaaDoor

/- A device beside a row of bytes of one's own; no; the plain law of limits. -/
namespace Go.Proofs.YtnmbkaccoaeijaaDoor
open Go.RowKit Go.Proofs.YtnmbkaccoaeijaaDoorW.PrintWords Go.Proofs.YtnmbkaccoaeijaaDoorW.PrintLast
def SideM (w0 w : World) (d : Nat) (R : RDev) (va : Value) (all : List Int) : Prop :=
  ∃ S mb G, DevG w w0.heap.size d mb G S ∧ Fine S ∧ Rep S R ∧ BytesAt bT w w0.heap.size va all ∧ (∀ k, OwnD d mb G k → va.ownBlock ≠ some k) ∧ Below w0.heap.size w0 w
section
variable {w0 w w' : World} {d : Nat} {R : RDev} {va : Value} {all : List Int}
theorem SideM.dev (h : SideM w0 w d R va all) : DevK w0 w d R := by
  obtain ⟨S, mb, G, h1, h2, h3, h4, h5, h6⟩ := h
  exact ⟨S, ⟨mb, G, h1, h6⟩, h2, h3⟩
theorem SideM.form (h : SideM w0 w d R va all) : ∃ A c, va = .slice A all.length c ∧ all.length ≤ c := by
  obtain ⟨S, mb, G, h1, h2, h3, h4, h5, h6⟩ := h
  exact h4.form
theorem SideM.lit (h : DevK w0 w d R) (x : Int) : SideM w0 (litW w [x]) d R (litV w [x]) [x] := by
  obtain ⟨S, ⟨mb, G, h1, h6⟩, h2, h3⟩ := h
  refine ⟨S, mb, G, h1.below (lit_bel w [x]), h2, h3, Or.inr ⟨w.heap.size, 1, _, rfl, h6.size, heap_alloc_new w _, Nat.le_refl _, Nat.le_refl _, by unfold maxLen; omega, rfl⟩, fun k hk e => ?_, h6.trans ((lit_bel w [x]).mono h6.size)⟩
  have h7 := h1.own_lt k hk
  have h8 : some w.heap.size = some k := e
  have := Option.some.inj h8
  omega
theorem bytes_read {w : World} {base : Nat} {v : Value} {bs : List Int} (h : BytesAt bT w base v bs) (own : Nat → Prop) (ho : ∀ k, own k → v.ownBlock ≠ some k) : ReadB w own v bs := by
  rcases id h with h1 | ⟨g, cap, cur, rfl, hb, hh, hc, hm, hx, ht⟩
  · exact Or.inl h1
  · refine Or.inr ⟨⟨g, 0, none⟩, cap, rfl, fun _ => ⟨fun e => ho g e rfl, (Array.getElem?_eq_some_iff.1 hh).1⟩, fun j u hu => ?_⟩
    rw [List.getElem?_map] at hu
    obtain ⟨x, hx, rfl⟩ := Option.map_eq_some_iff.1 hu
    obtain ⟨g', e, hcc⟩ := (h.cells rfl).2 j x hx
    obtain rfl : g = g' := by injection e with e; injection e
    rw [add_lit0]
    exact hcc
theorem SideM.twice (h : SideM w0 w d R va all) (hl : all.length ≤ 1000000) (ty : TypeId) :
    ∃ v' w1, (Builtin.append_ #[28, 28] ty #[va, va]).run Tryd.prog w = .ok v' w1 ∧ SideM w0 w1 d R v' (all ++ all) := by
  obtain ⟨S, mb, G, h1, h2, h3, h4, h5, h6⟩ := h
  obtain ⟨v', w1, hrun, hB1, hg1, ho1⟩ := append_read (own := fun _ => False) ty h4 (bytes_read h4 _ (fun _ h => h.elim)) (by omega) h6.size
  have hlt : ∀ k, OwnD d mb G k → k < w.heap.size := h1.own_lt
  refine ⟨v', w1, hrun, S, mb, G, h1.same (fun k hk => hg1.block k (hlt k hk) (fun e => h5 k hk e.symm)), h2, h3, hB1, fun k hk e => ?_, ?_⟩
  · rcases ho1 with h | h
    · rw [h] at e; exact h5 k hk e
    · rw [h] at e
      have := Option.some.inj e
      have := hlt k hk
      omega
  · exact ⟨hg1.os.trans h6.os, hg1.tape.trans h6.tape, hg1.output.trans h6.output, Nat.le_trans h6.size hg1.size, fun k hk => (hg1.block k (Nat.lt_of_lt_of_le hk h6.size) (fun e => by have := (h4.own k e.symm).1; omega)).trans (h6.block k hk)⟩
theorem SideM.app (h : SideM w0 w d R va all) (s : ByteArray) (ho : R.ops < 4611686018427387904) (hl : all.length ≤ 1000000) :
    Calls Tryd.prog 6 #[.pointer (some ⟨d, 0, none⟩), .string s, va] w fun e w' => e = .returned (errV (appR R s all).1) ∧ SideM w0 w' d (appR R s all).2 va all := by
  obtain ⟨S, mb, G, h1, h2, h3, h4, h5, h6⟩ := h
  refine (append_calls w w0.heap.size d mb G S s va all h1 h2 (bytes_read h4 _ h5) hl h6.size).mono ?_
  rintro e w' ⟨rfl, G', r1, r2, r3⟩
  obtain ⟨q1, q2⟩ := h3.app s all
  refine ⟨by rw [q1], _, mb, G', r1, h2.app s all (by rw [h3.ops]; exact ho), q2, h4.same (fun g hg => r2.block g (h4.own g hg).2.1 (fun o => h5 g o hg)), fun k hk e => ?_, h6.trans (r2.below h1.own_base h6.size)⟩
  rcases r3 k hk with h | h
  · exact h5 k h e
  · have := (h4.own k e).2.1
    omega
end
set_option maxHeartbeats 2000000 in
set_option maxRecDepth 100000 in
theorem no_e (k n : Int) (w : World) (h1 : 1 ≤ k) (h2 : k ≤ 36) (hg : ETypeAt w) :
    Calls Tryd.prog 12 #[.iface 45 (.int .i64 k), .int .i64 n] w fun e w' => e = .returned (.bool (k == n)) ∧ Below w.heap.size w w' := by
  have HP := Lib.hid (plain_no (hasNoP_no k h1 h2) n w hg)
  clear hg
  go_enter Tryd.func12, Tryd.ntmps12
  go_wp2_with (go_at_call 28; (with_reducible refine HP.out.mono ?_); rintro e w1 ⟨rfl, hb⟩; have H1 := Lib.hid hb; clear hb)
  go_ret
  exact ⟨rfl, H1.out⟩
def txa : ByteArray := ⟨#[97]⟩
def txb : ByteArray := ⟨#[98]⟩
def txc : ByteArray := ⟨#[99]⟩
def txz : ByteArray := ⟨#[122]⟩
def txzz : ByteArray := ⟨#[122, 122]⟩
def txE : ByteArray := ⟨#[]⟩
def txI (i : Nat) : ByteArray := ⟨#[UInt8.ofNat (48 + i)]⟩
def RLim (i : Nat) : RDev := ⟨(List.range i).map (fun j => ⟨txI j, [], 0⟩), i, -1⟩
theorem rlim_all : (List.range 64).all (fun i => decide (appR (RLim i) (txI i) [] = (0, RLim (i + 1)))) = true := by kernel_rfl
theorem rlim_step (i : Nat) (h : i < 64) : appR (RLim i) (txI i) [] = (0, RLim (i + 1)) := of_decide_eq_true (List.all_eq_true.1 rlim_all i (List.mem_range.2 h))
theorem rlim_zz : appR (RLim 64) txzz [] = (19, RLim 64) := by kernel_rfl
def rsortedB (l : List RFile) : Bool := match l with | [] => true | x :: t => t.all (fun y => decide (bLt x.name y.name)) && rsortedB t
theorem rsorted_of : ∀ {l : List RFile}, rsortedB l = true → RSorted l
  | [], _ => List.Pairwise.nil
  | x :: t, h => by
    simp only [rsortedB, Bool.and_eq_true] at h
    exact List.pairwise_cons.2 ⟨fun y hy => of_decide_eq_true (List.all_eq_true.1 h.1 y hy), rsorted_of h.2⟩
theorem rlim_sorted : RSorted (RLim 64).files := rsorted_of (by kernel_rfl)
theorem rfind_set {R : RDev} (h : RSorted R.files) (f : RFile) (s : ByteArray) : rfind (R.set f).files s = if s = f.name then some f else rfind R.files s := by
  show rfind (rput (rwithout R.files f.name) f) s = _
  rw [rfind_put (rwithout_sorted h _) rwithout_ne, rfind_without h]
  by_cases e : s = f.name
  · rw [if_pos e, if_pos e]
  · rw [if_neg e, if_neg e, if_neg e]
theorem set_sorted {R : RDev} (h : RSorted R.files) (f : RFile) : RSorted (R.set f).files := rput_sorted (rwithout_sorted h _) rwithout_ne
theorem set_len {R : RDev} (h : RSorted R.files) (f : RFile) (hf : (rfind R.files f.name).isSome = true) : (R.set f).files.length = R.files.length := by
  show (rput (rwithout R.files f.name) f).length = _
  rw [rput_len, rwithout_len h, if_pos hf]
  obtain ⟨g, hg⟩ := Option.isSome_iff_exists.1 hf
  have := List.length_pos_of_mem (rfind_some hg).1
  omega
structure Lim (R : RDev) (bs : List Int) : Prop where
  sorted : RSorted R.files
  a : ∃ f, rfind R.files txa = some f ∧ f.bytes = bs
  b : (rfind R.files txb).isSome = true
  zz : rfind R.files txzz = none
  len : R.files.length = 64
  left : R.left = -1
theorem lim0 : Lim (RLim 64) [] := ⟨rlim_sorted, ⟨⟨txa, [], 0⟩, by kernel_rfl, rfl⟩, by kernel_rfl, by kernel_rfl, by kernel_rfl, rfl⟩
theorem Lim.app {R : RDev} {bs : List Int} (h : Lim R bs) (x : List Int) (hl : bs.length + x.length ≤ 262144) : (appR R txa x).1 = 0 ∧ Lim (appR R txa x).2 (bs ++ x) ∧ (appR R txa x).2.ops = R.ops + 1 := by
  obtain ⟨f, hf, hb⟩ := h.a
  have hg : gotR R txa = f := by unfold gotR; rw [hf]; rfl
  have e1 : appR R txa x = (0, R.step.set { f with bytes := bs ++ x }) := by
    unfold appR
    rw [if_neg (by decide), hg, hf, hb, if_neg (by simp; omega), if_neg (by rw [h.left]; decide)]
  have hn : ({ f with bytes := bs ++ x } : RFile).name = txa := (rfind_some hf).2
  have hs : RSorted R.step.files := h.sorted
  rw [e1]
  refine ⟨rfl, ⟨set_sorted hs _, ⟨_, by rw [rfind_set hs, if_pos hn.symm], rfl⟩, ?_, ?_, ?_, ?_⟩, rfl⟩
  · rw [rfind_set hs, hn, if_neg (by decide)]
    exact h.b
  · rw [rfind_set hs, hn, if_neg (by decide)]
    exact h.zz
  · rw [set_len hs _ (by rw [hn]; show (rfind R.files txa).isSome = true; rw [hf]; rfl)]
    exact h.len
  · show lessL R.left = -1
    rw [h.left]
    rfl
theorem Lim.full {R : RDev} {bs : List Int} (h : Lim R bs) (x : List Int) (hl : 262144 < bs.length + x.length) : appR R txa x = (19, R) := by
  obtain ⟨f, hf, hb⟩ := h.a
  have hg : gotR R txa = f := by unfold gotR; rw [hf]; rfl
  unfold appR
  rw [if_neg (by decide), hg, hf, hb, if_pos (by simp; omega)]
theorem Lim.end_ {R : RDev} {bs : List Int} (h : Lim R bs) : (renR R txa txb).1 = 0 ∧ (renR R txa txb).2.ops = R.ops + 1 ∧ (appR (renR R txa txb).2 txzz []).1 = 0 := by
  obtain ⟨f, hf, hb⟩ := h.a
  have e1 : renR R txa txb = (0, (R.step.del txa).set { f with name := txb }) := by
    unfold renR
    rw [if_neg (by decide), hf]
    show (if R.left = 0 then _ else _) = _
    rw [if_neg (by rw [h.left]; decide)]
  have hs : RSorted R.step.files := h.sorted
  have hs2 : RSorted (R.step.del txa).files := rwithout_sorted hs txa
  rw [e1]
  refine ⟨rfl, rfl, ?_⟩
  have hz : rfind ((R.step.del txa).set { f with name := txb }).files txzz = none := by
    rw [rfind_set hs2, if_neg (by show ¬ txzz = txb; decide)]
    show rfind (rwithout R.files txa) txzz = none
    rw [rfind_without h.sorted, if_neg (by decide)]
    exact h.zz
  have hlen : ((R.step.del txa).set { f with name := txb }).files.length = 63 := by
    rw [set_len hs2 _ (by
      show (rfind (rwithout R.files txa) txb).isSome = true
      rw [rfind_without h.sorted, if_neg (by decide)]
      exact h.b)]
    show (rwithout R.files txa).length = 63
    rw [rwithout_len h.sorted, hf, h.len]
    rfl
  have hleft : ((R.step.del txa).set { f with name := txb }).left = -1 := by
    show lessL R.left = -1
    rw [h.left]
    rfl
  have hg : gotR ((R.step.del txa).set { f with name := txb }) txzz = ⟨txzz, [], 0⟩ := by unfold gotR; rw [hz]; rfl
  unfold appR
  rw [if_neg (by decide), hg, hz, hlen, if_neg (by decide), if_neg (by rw [hleft]; decide)]
end Go.Proofs.YtnmbkaccoaeijaaDoor

/- truncated, limits, DeviceKnown walked: true. (errors.errorType reads as laid.) -/
namespace Go.Proofs.YtnmbkaccoaeijaaDoor
open Go.RowKit Go.Proofs.YtnmbkaccoaeijaaDoorW.PrintWords Go.Proofs.YtnmbkaccoaeijaaDoorW.PrintLast
def txN (k : Nat) : ByteArray := ⟨(List.replicate k (110 : UInt8)).toArray⟩
theorem txN_succ (k : Nat) : txN k ++ ⟨#[110]⟩ = txN (k + 1) := by
  have h : (txN k ++ ⟨#[110]⟩).data = (txN (k + 1)).data := by
    apply Array.toList_inj.1
    simp [txN, List.replicate_succ']
  show (⟨(txN k ++ ⟨#[110]⟩).data⟩ : ByteArray) = ⟨(txN (k + 1)).data⟩
  rw [h]
def Tr1 : RDev := (appR RDev.new txa [1, 2, 3]).2
theorem Tr1q : (appR RDev.new txa [1, 2, 3]).2 = Tr1 := by delta Tr1; exact Eq.refl _
theorem Tr1c : (appR RDev.new txa [1, 2, 3]).1 = 0 := by kernel_rfl
theorem Tr1e : errV (appR RDev.new txa [1, 2, 3]).1 = .nilIface := by rw [Tr1c]; rfl
def Tr2 : RDev := (trnR Tr1 txa 2).2
theorem Tr2q : (trnR Tr1 txa 2).2 = Tr2 := by delta Tr2; exact Eq.refl _
theorem Tr2c : (trnR Tr1 txa 2).1 = 0 := by kernel_rfl
theorem Tr2e : errV (trnR Tr1 txa 2).1 = .nilIface := by rw [Tr2c]; rfl
def Tr3 : RDev := restR Tr2 0
theorem Tr3q : restR Tr2 0 = Tr3 := by delta Tr3; exact Eq.refl _
theorem Tr4r : readsR Tr3 txa [] = true := by kernel_rfl
def Tr5 : RDev := (appR Tr3 txa [1, 2, 3]).2
theorem Tr5q : (appR Tr3 txa [1, 2, 3]).2 = Tr5 := by delta Tr5; exact Eq.refl _
theorem Tr5c : (appR Tr3 txa [1, 2, 3]).1 = 0 := by kernel_rfl
theorem Tr5e : errV (appR Tr3 txa [1, 2, 3]).1 = .nilIface := by rw [Tr5c]; rfl
def Tr6 : RDev := (synR Tr5 txa).2
theorem Tr6q : (synR Tr5 txa).2 = Tr6 := by delta Tr6; exact Eq.refl _
theorem Tr6c : (synR Tr5 txa).1 = 0 := by kernel_rfl
theorem Tr6e : errV (synR Tr5 txa).1 = .nilIface := by rw [Tr6c]; rfl
def Tr7 : RDev := (trnR Tr6 txa 1).2
theorem Tr7q : (trnR Tr6 txa 1).2 = Tr7 := by delta Tr7; exact Eq.refl _
theorem Tr7c : (trnR Tr6 txa 1).1 = 0 := by kernel_rfl
theorem Tr7e : errV (trnR Tr6 txa 1).1 = .nilIface := by rw [Tr7c]; rfl
def Tr8 : RDev := (appR Tr7 txa [9, 9]).2
theorem Tr8q : (appR Tr7 txa [9, 9]).2 = Tr8 := by delta Tr8; exact Eq.refl _
theorem Tr8c : (appR Tr7 txa [9, 9]).1 = 0 := by kernel_rfl
theorem Tr8e : errV (appR Tr7 txa [9, 9]).1 = .nilIface := by rw [Tr8c]; rfl
def Tr9 : RDev := restR Tr8 1
theorem Tr9q : restR Tr8 1 = Tr9 := by delta Tr9; exact Eq.refl _
theorem Tr10r : readsR Tr9 txa [1, 9] = true := by kernel_rfl
set_option maxHeartbeats 4000000 in
set_option maxRecDepth 100000 in
theorem truncated_calls (w : World) : Calls Tryd.prog 33 #[] w fun e w' => e = .returned (.bool true) ∧ Below w.heap.size w w' := by
  have e1 := eqNN
  have e2 := eqIN
  have e3 := neNN
  have e4 := neIN
  go_enter Tryd.func33, Tryd.ntmps33
  go_wp2_with (first
    | (go_at_call 4; refine (new_k (w0 := w) (Below.refl _ _)).mono ?_; rintro e w1 ⟨d, rfl, h⟩; have H1 := Lib.hid h; clear h)
    | (go_at_call 6; refine (app_k txa [1, 2, 3] H1.out (of_decide_eq_true (by kernel_rfl : decide (RDev.new.ops < 4611686018427387904) = true)) (by decide)).mono ?_; rintro e w2 ⟨rfl, h⟩; rw [Tr1e]; rw [Tr1q] at h; have H2 := Lib.hid h; clear h H1)
    | (go_at_call 13; refine (trn_k txa 2 H2.out (of_decide_eq_true (by kernel_rfl : decide (Tr1.ops < 4611686018427387904) = true)) (of_decide_eq_true (by kernel_rfl : decide (txa.size ≤ maxLen) = true))).mono ?_; rintro e w3 ⟨rfl, h⟩; rw [Tr2e]; rw [Tr2q] at h; have H3 := Lib.hid h; clear h H2)
    | (go_at_call 8; refine (rest_k 0 H3.out (by decide)).mono ?_; rintro e w4 ⟨rfl, h⟩; rw [Tr3q] at h; have H4 := Lib.hid h; clear h H3)
    | (go_at_call 9; refine (readsN_k txa H4.out (of_decide_eq_true (by kernel_rfl : decide (txa.size ≤ maxLen) = true))).mono ?_; rintro e w5 ⟨rfl, h⟩; rw [Tr4r]; have H5 := Lib.hid h; clear h H4)
    | (go_at_call 6; refine (app_k txa [1, 2, 3] H5.out (of_decide_eq_true (by kernel_rfl : decide (Tr3.ops < 4611686018427387904) = true)) (by decide)).mono ?_; rintro e w6 ⟨rfl, h⟩; rw [Tr5e]; rw [Tr5q] at h; have H6 := Lib.hid h; clear h H5)
    | (go_at_call 7; refine (syn_k txa H6.out (of_decide_eq_true (by kernel_rfl : decide (Tr5.ops < 4611686018427387904) = true)) (of_decide_eq_true (by kernel_rfl : decide (txa.size ≤ maxLen) = true))).mono ?_; rintro e w7 ⟨rfl, h⟩; rw [Tr6e]; rw [Tr6q] at h; have H7 := Lib.hid h; clear h H6)
    | (go_at_call 13; refine (trn_k txa 1 H7.out (of_decide_eq_true (by kernel_rfl : decide (Tr6.ops < 4611686018427387904) = true)) (of_decide_eq_true (by kernel_rfl : decide (txa.size ≤ maxLen) = true))).mono ?_; rintro e w8 ⟨rfl, h⟩; rw [Tr7e]; rw [Tr7q] at h; have H8 := Lib.hid h; clear h H7)
    | (go_at_call 6; refine (app_k txa [9, 9] H8.out (of_decide_eq_true (by kernel_rfl : decide (Tr7.ops < 4611686018427387904) = true)) (by decide)).mono ?_; rintro e w9 ⟨rfl, h⟩; rw [Tr8e]; rw [Tr8q] at h; have H9 := Lib.hid h; clear h H8)
    | (go_at_call 8; refine (rest_k 1 H9.out (by decide)).mono ?_; rintro e w10 ⟨rfl, h⟩; rw [Tr9q] at h; have H10 := Lib.hid h; clear h H9)
    | (go_at_call 9; refine (readsL_k txa [1, 9] H10.out (of_decide_eq_true (by kernel_rfl : decide (txa.size ≤ maxLen) = true)) (by decide)).mono ?_; rintro e w11 ⟨rfl, h⟩; rw [Tr10r]; have H11 := Lib.hid h; clear h H10))
  go_ret
  exact ⟨by trivial, H11.out.bel⟩
def LimB (w wr : World) (d : Nat) (v : Value) (k : Nat) : Prop := ∃ all, SideM w wr d (RLim 64) v all ∧ all.length = 2 ^ k
theorem rlim_ops (i : Nat) (h : i ≤ 64) : (RLim i).ops < 4611686018427387904 := by
  show (i : Int) < _
  omega
set_option maxHeartbeats 4000000 in
set_option maxRecDepth 100000 in
theorem limits_calls (w : World) (hE : ETypeAt w) : Calls Tryd.prog 18 #[] w fun e w' => e = .returned (.bool true) ∧ Below w.heap.size w w' := by
  have e1 := eqNN
  have e2 := eqIN
  have e3 := neNN
  have e4 := neIN
  have HE := Lib.hid hE
  clear hE
  go_enter Tryd.func18, Tryd.ntmps18
  go_wp2_with (first
    | (go_at_call 4; refine (new_k (w0 := w) (Below.refl _ _)).mono ?_; rintro e w1 ⟨d, rfl, h⟩; have H1 := Lib.hid h; clear h))
  go_loopw [2] (fun v2 wr => ∃ i : Nat, i ≤ 64 ∧ v2 = .int .i64 i ∧ Hid (DevK w wr d (RLim i))) (fun v2 _ => 64 - (intOf v2).toNat)
  case atStart => exact ⟨0, by decide, rfl, H1⟩
  case round =>
    obtain ⟨i, hi, rfl, HI⟩ := hrel
    by_cases hlt : i < 64
    · have ha := rlim_step i hlt
      have HA : Hid (errV (appR (RLim i) (txI i) []).1 = .nilIface ∧ (appR (RLim i) (txI i) []).2 = RLim (i + 1)) := Lib.hid ⟨by rw [ha]; rfl, by rw [ha]⟩
      clear ha
      have hconv : (convert 28 9 (.slice (some ⟨wr.heap.size, 0, none⟩) 1 1)).run Tryd.prog (wr.alloc (Obj.cells #[.int .u8 (48 + (i : Int))] 5 (0, 0))) = .ok (.string (txI i)) (wr.alloc (Obj.cells #[.int .u8 (48 + (i : Int))] 5 (0, 0))) := by
        have h1 := run_convert_bytes_arg (P := Tryd.prog) (wr.alloc (Obj.cells #[.int .u8 (48 + (i : Int))] 5 (0, 0))) 28 5 Tryd.underlying28 Tryd.underlying5 wr.heap.size 0 1 1 [48 + (i : Int)] rfl (fun j hj => by
          obtain rfl : j = 0 := by omega
          exact (cell_of_row _ _ 0 _ _ _ (heap_alloc_new wr _)).trans rfl) 9 Tryd.underlying9
        rw [h1, show strOfNums [48 + (i : Int)] = txI i from (by
          show (⟨#[UInt8.ofNat (48 + (i : Int)).toNat]⟩ : ByteArray) = ⟨#[UInt8.ofNat (48 + i)]⟩
          rw [show (48 + (i : Int)).toNat = 48 + i from by omega])]
      go_wp2_with (go_at_call 6; refine (app_k0 (txI i) (HI.out.step (lit_bel wr [48 + (i : Int)])) (rlim_ops i hi)).mono ?_; rintro e w3 ⟨rfl, h⟩; rw [HA.out.1]; rw [HA.out.2] at h; have H3 := Lib.hid h; clear h)
      go_roundw
      case rel => exact ⟨i + 1, by omega, by go_num, H3⟩
      case measure => simp [intOf]; omega
    · obtain rfl : i = 64 := by omega
      clear hlt hi
      have HZ : Hid (errV (appR (RLim 64) txzz []).1 = .iface 45 (.int .i64 19) ∧ (appR (RLim 64) txzz []).2 = RLim 64) := Lib.hid ⟨by rw [rlim_zz]; rfl, by rw [rlim_zz]⟩
      go_wp2_with (go_at_call 6; refine (app_k0 txzz HI.out (rlim_ops 64 (Nat.le_refl _))).mono ?_; rintro e w3 ⟨rfl, h⟩; rw [HZ.out.1]; rw [HZ.out.2] at h; have H3 := Lib.hid h; clear h HI)
      go_loopw [4] (fun v4 wr => ∃ k : Nat, k ≤ 17 ∧ Hid (LimB w wr d v4 k)) (fun v4 _ => match v4 with | .slice _ n _ => 200000 - n | _ => 0)
      case atStart => exact ⟨0, by decide, Lib.hid ⟨[1], SideM.lit H3.out 1, rfl⟩⟩
      case round =>
        obtain ⟨k, hk, HI⟩ := hrel
        obtain ⟨va, hva⟩ : ∃ x, x = u4 := ⟨_, rfl⟩
        rw [← hva] at HI ⊢
        clear hva u4
        obtain ⟨all, hS, hl⟩ := HI.out
        obtain ⟨A, c, hv, hc⟩ := hS.form
        subst hv
        obtain ⟨n, hn⟩ : ∃ x, x = all.length := ⟨_, rfl⟩
        rw [← hn] at hS hl hc ⊢
        by_cases hlt : k < 17
        · have hpow : 2 ^ k ≤ 65536 := (Nat.pow_le_pow_right (by decide) (by omega : k ≤ 16))
          have hpow1 : 2 ^ (k + 1) = 2 ^ k + 2 ^ k := by rw [Nat.pow_succ]; omega
          have d1 : n < 131072 := by omega
          have d2 : ((n : Int) < 131072) = True := eq_true (by omega)
          obtain ⟨v5, w5, hrun, h5⟩ := hS.twice (by rw [← hn]; omega) 28
          have HR := Lib.hid hrun
          have hpos : 0 < n := by rw [hl]; exact Nat.two_pow_pos k
          have hlen2 : (all ++ all).length = n + n := by rw [List.length_append, ← hn]
          obtain ⟨A5, c5, hv5, _⟩ := h5.form
          rw [hlen2] at hv5
          have H5 := Lib.hid (And.intro h5 (show (all ++ all).length = 2 ^ (k + 1) by rw [hlen2, hpow1, hl]))
          subst hv5
          clear hrun h5 hS HI hl hpow hpow1 hn hlen2
          go_wp2_with (at_builtin; refine wpList_appB rfl (.tmp 28) (.tmp 29) 28 rfl _ _ rfl rfl HR.out ?_)
          go_roundw
          case rel => exact ⟨k + 1, by omega, Lib.hid ⟨_, H5.out.1, H5.out.2⟩⟩
          case measure => simp <;> omega
        · obtain rfl : k = 17 := by omega
          have hn2 : n = 131072 := hl.trans (by decide)
          subst hn2
          obtain ⟨c1, l1, o1⟩ := lim0.app all (by rw [← hn]; decide)
          obtain ⟨c2, l2, o2⟩ := l1.app all (by rw [List.nil_append, ← hn]; decide)
          have c3 := l2.full [1] (by rw [List.nil_append, List.length_append, ← hn]; decide)
          obtain ⟨c4, l4, o4⟩ := l2.app [] (by rw [List.nil_append, List.length_append, ← hn]; decide)
          obtain ⟨c5, o5, c6⟩ := l4.end_
          have H1 := Lib.hid (And.intro hS (show errV (appR (RLim 64) txa all).1 = .nilIface by rw [c1]; rfl))
          have H2 := Lib.hid (And.intro (show errV (appR (appR (RLim 64) txa all).2 txa all).1 = .nilIface by rw [c2]; rfl) (And.intro (show errV (appR (appR (appR (RLim 64) txa all).2 txa all).2 txa [1]).1 = .iface 45 (.int .i64 19) by rw [c3]; rfl) (And.intro (show (appR (appR (appR (RLim 64) txa all).2 txa all).2 txa [1]).2 = (appR (appR (RLim 64) txa all).2 txa all).2 by rw [c3]) (And.intro (show errV (appR (appR (appR (RLim 64) txa all).2 txa all).2 txa []).1 = .nilIface by rw [c4]; rfl) (And.intro (show errV (renR (appR (appR (appR (RLim 64) txa all).2 txa all).2 txa []).2 txa txb).1 = .nilIface by rw [c5]; rfl) (show errV (appR (renR (appR (appR (appR (RLim 64) txa all).2 txa all).2 txa []).2 txa txb).2 txzz []).1 = .nilIface by rw [c6]; rfl))))))
          have q0 : (RLim 64).ops = 64 := rfl
          have HO := Lib.hid (And.intro (show (appR (RLim 64) txa all).2.ops < 4611686018427387904 by rw [o1, q0]; decide) (And.intro (show (appR (appR (RLim 64) txa all).2 txa all).2.ops < 4611686018427387904 by rw [o2, o1, q0]; decide) (And.intro (show (appR (appR (appR (RLim 64) txa all).2 txa all).2 txa []).2.ops < 4611686018427387904 by rw [o4, o2, o1, q0]; decide) (And.intro (show (renR (appR (appR (appR (RLim 64) txa all).2 txa all).2 txa []).2 txa txb).2.ops < 4611686018427387904 by rw [o5, o4, o2, o1, q0]; decide) (show all.length ≤ 1000000 by rw [← hn]; decide)))))
          clear hS c1 l1 o1 c2 l2 o2 c3 c4 l4 o4 c5 o5 c6 q0 HI hl hn
          go_wp2_with (first
            | (go_at_call 6; refine (H1.out.1.app txa (rlim_ops 64 (Nat.le_refl _)) HO.out.2.2.2.2).mono ?_; rintro e w4 ⟨rfl, h⟩; rw [H1.out.2]; have H4 := Lib.hid h; clear h H1)
            | (go_at_call 6; refine (H4.out.app txa HO.out.1 HO.out.2.2.2.2).mono ?_; rintro e w5 ⟨rfl, h⟩; rw [H2.out.1]; have H5 := Lib.hid h.dev; clear h H4)
            | (go_at_call 6; refine (app_k txa [1] H5.out HO.out.2.1 (by decide)).mono ?_; rintro e w6 ⟨rfl, h⟩; rw [H2.out.2.1]; rw [H2.out.2.2.1] at h; have H6 := Lib.hid h; clear h H5)
            | (go_at_call 6; refine (app_k0 txa H6.out HO.out.2.1).mono ?_; rintro e w7 ⟨rfl, h⟩; rw [H2.out.2.2.2.1]; have H7 := Lib.hid h; clear h H6)
            | (go_at_call 33; refine (truncated_calls w7).mono ?_; rintro e w8 ⟨rfl, h⟩; have H8 := Lib.hid (H7.out.step h); clear h H7)
            | (go_at_call 12; refine (no_e 19 19 _ (by decide) (by decide) (HE.out.below H8.out.bel)).mono ?_; rintro e w9 ⟨rfl, h⟩; rw [show ((19 : Int) == 19) = true from rfl]; have H9 := Lib.hid (H8.out.step h); clear h H8)
            | (go_at_call 12; refine (no_e 19 19 _ (by decide) (by decide) (HE.out.below H9.out.bel)).mono ?_; rintro e w10 ⟨rfl, h⟩; rw [show ((19 : Int) == 19) = true from rfl]; have H10 := Lib.hid (H9.out.step h); clear h H9)
            | (go_at_call 14; refine (ren_k txa txb H10.out HO.out.2.2.1 (by decide)).mono ?_; rintro e w11 ⟨rfl, h⟩; rw [H2.out.2.2.2.2.1]; have H11 := Lib.hid h; clear h H10)
            | (go_at_call 6; refine (app_k0 txzz H11.out HO.out.2.2.2.1).mono ?_; rintro e w12 ⟨rfl, h⟩; rw [H2.out.2.2.2.2.2]; have H12 := Lib.hid h; clear h H11))
          go_ret
          exact ⟨by trivial, H12.out.bel⟩
theorem readNo_k {w0 w : World} {d : Nat} {R : RDev} (s : ByteArray) (h : DevK w0 w d R) (hn : rfind R.files s = none) (hs : s.size ≤ maxLen) :
    Calls Tryd.prog 15 #[.pointer (some ⟨d, 0, none⟩), .string s] w fun e w' => ∃ v, e = .returned (.tuple #[v, .iface 45 (.int .i64 10)]) ∧ DevK w0 w' d R := by
  obtain ⟨S, h1, h2, h3⟩ := h
  obtain ⟨mb, G, g1, g2⟩ := id h1
  refine (read_calls w w0.heap.size d mb G S s g1 h2 hs).mono ?_
  rintro e w' ⟨v, rfl, hB, hb⟩
  have hf : S.file s = none := by rw [h3.file, hn]; rfl
  have hno : readNo S s = 10 := by unfold readNo; rw [hf]; rfl
  rw [hno]
  exact ⟨v, rfl, S, h1.step hb, h2, h3⟩
def Kn1 : RDev := (appR RDev.new txa [1, 2]).2
theorem Kn1q : (appR RDev.new txa [1, 2]).2 = Kn1 := by delta Kn1; exact Eq.refl _
theorem Kn1c : (appR RDev.new txa [1, 2]).1 = 0 := by kernel_rfl
theorem Kn1e : errV (appR RDev.new txa [1, 2]).1 = .nilIface := by rw [Kn1c]; rfl
def Kn2 : RDev := (synR Kn1 txa).2
theorem Kn2q : (synR Kn1 txa).2 = Kn2 := by delta Kn2; exact Eq.refl _
theorem Kn2c : (synR Kn1 txa).1 = 0 := by kernel_rfl
theorem Kn2e : errV (synR Kn1 txa).1 = .nilIface := by rw [Kn2c]; rfl
def Kn3 : RDev := (appR Kn2 txa [3, 4]).2
theorem Kn3q : (appR Kn2 txa [3, 4]).2 = Kn3 := by delta Kn3; exact Eq.refl _
theorem Kn3c : (appR Kn2 txa [3, 4]).1 = 0 := by kernel_rfl
theorem Kn3e : errV (appR Kn2 txa [3, 4]).1 = .nilIface := by rw [Kn3c]; rfl
def Kn4 : RDev := restR Kn3 1
theorem Kn4q : restR Kn3 1 = Kn4 := by delta Kn4; exact Eq.refl _
theorem Kn5r : readsR Kn4 txa [1, 2, 3] = true := by kernel_rfl
def Kn6 : RDev := (appR Kn4 txb [5]).2
theorem Kn6q : (appR Kn4 txb [5]).2 = Kn6 := by delta Kn6; exact Eq.refl _
theorem Kn6c : (appR Kn4 txb [5]).1 = 0 := by kernel_rfl
theorem Kn6e : errV (appR Kn4 txb [5]).1 = .nilIface := by rw [Kn6c]; rfl
def Kn7 : RDev := restR Kn6 0
theorem Kn7q : restR Kn6 0 = Kn7 := by delta Kn7; exact Eq.refl _
theorem Kn8r : readsR Kn7 txb [] = true := by kernel_rfl
theorem Kn9n : namesR Kn7 = [txa, txb] := by kernel_rfl
def Kn10 : RDev := (trnR Kn7 txa 4).2
theorem Kn10q : (trnR Kn7 txa 4).2 = Kn10 := by delta Kn10; exact Eq.refl _
theorem Kn10c : (trnR Kn7 txa 4).1 = 1 := by kernel_rfl
theorem Kn10e : errV (trnR Kn7 txa 4).1 = .iface 45 (.int .i64 1) := by rw [Kn10c]; rfl
def Kn11 : RDev := (trnR Kn10 txa (-1)).2
theorem Kn11q : (trnR Kn10 txa (-1)).2 = Kn11 := by delta Kn11; exact Eq.refl _
theorem Kn11c : (trnR Kn10 txa (-1)).1 = 1 := by kernel_rfl
theorem Kn11e : errV (trnR Kn10 txa (-1)).1 = .iface 45 (.int .i64 1) := by rw [Kn11c]; rfl
def Kn12 : RDev := (trnR Kn11 txa 1).2
theorem Kn12q : (trnR Kn11 txa 1).2 = Kn12 := by delta Kn12; exact Eq.refl _
theorem Kn12c : (trnR Kn11 txa 1).1 = 0 := by kernel_rfl
theorem Kn12e : errV (trnR Kn11 txa 1).1 = .nilIface := by rw [Kn12c]; rfl
theorem Kn13r : readsR Kn12 txa [1] = true := by kernel_rfl
def Kn14 : RDev := (renR Kn12 txa txb).2
theorem Kn14q : (renR Kn12 txa txb).2 = Kn14 := by delta Kn14; exact Eq.refl _
theorem Kn14c : (renR Kn12 txa txb).1 = 0 := by kernel_rfl
theorem Kn14e : errV (renR Kn12 txa txb).1 = .nilIface := by rw [Kn14c]; rfl
theorem Kn15n : namesR Kn14 = [txb] := by kernel_rfl
theorem Kn16r : readsR Kn14 txb [1] = true := by kernel_rfl
def Kn17 : RDev := (synR Kn14 txa).2
theorem Kn17q : (synR Kn14 txa).2 = Kn17 := by delta Kn17; exact Eq.refl _
theorem Kn17c : (synR Kn14 txa).1 = 10 := by kernel_rfl
theorem Kn17e : errV (synR Kn14 txa).1 = .iface 45 (.int .i64 10) := by rw [Kn17c]; rfl
def Kn18 : RDev := (renR Kn17 txa txc).2
theorem Kn18q : (renR Kn17 txa txc).2 = Kn18 := by delta Kn18; exact Eq.refl _
theorem Kn18c : (renR Kn17 txa txc).1 = 10 := by kernel_rfl
theorem Kn18e : errV (renR Kn17 txa txc).1 = .iface 45 (.int .i64 10) := by rw [Kn18c]; rfl
def Kn19 : RDev := (renR Kn18 txb ((txN 40) ++ ⟨#[110]⟩)).2
theorem Kn19q (s : ByteArray) (hs : s = txN 40) : (renR Kn18 txb (s ++ ⟨#[110]⟩)).2 = Kn19 := by rw [hs]; delta Kn19; exact Eq.refl _
theorem Kn19c : (renR Kn18 txb ((txN 40) ++ ⟨#[110]⟩)).1 = 8 := by kernel_rfl
theorem Kn19e (s : ByteArray) (hs : s = txN 40) : errV (renR Kn18 txb (s ++ ⟨#[110]⟩)).1 = .iface 45 (.int .i64 8) := by rw [hs]; rw [Kn19c]; rfl
def Kn20 : RDev := (appR Kn19 txE []).2
theorem Kn20q : (appR Kn19 txE []).2 = Kn20 := by delta Kn20; exact Eq.refl _
theorem Kn20c : (appR Kn19 txE []).1 = 8 := by kernel_rfl
theorem Kn20e : errV (appR Kn19 txE []).1 = .iface 45 (.int .i64 8) := by rw [Kn20c]; rfl
def Kn21 : RDev := (renR Kn20 txb (txN 40)).2
theorem Kn21q (s : ByteArray) (hs : s = txN 40) : (renR Kn20 txb s).2 = Kn21 := by rw [hs]; delta Kn21; exact Eq.refl _
theorem Kn21c : (renR Kn20 txb (txN 40)).1 = 0 := by kernel_rfl
theorem Kn21e (s : ByteArray) (hs : s = txN 40) : errV (renR Kn20 txb s).1 = .nilIface := by rw [hs]; rw [Kn21c]; rfl
def Kn22 : RDev := (remR Kn21 (txN 40)).2
theorem Kn22q (s : ByteArray) (hs : s = txN 40) : (remR Kn21 s).2 = Kn22 := by rw [hs]; delta Kn22; exact Eq.refl _
theorem Kn22c : (remR Kn21 (txN 40)).1 = 0 := by kernel_rfl
theorem Kn22e (s : ByteArray) (hs : s = txN 40) : errV (remR Kn21 s).1 = .nilIface := by rw [hs]; rw [Kn22c]; rfl
def Kn23 : RDev := (remR Kn22 (txN 40)).2
theorem Kn23q (s : ByteArray) (hs : s = txN 40) : (remR Kn22 s).2 = Kn23 := by rw [hs]; delta Kn23; exact Eq.refl _
theorem Kn23c : (remR Kn22 (txN 40)).1 = 10 := by kernel_rfl
theorem Kn23e (s : ByteArray) (hs : s = txN 40) : errV (remR Kn22 s).1 = .iface 45 (.int .i64 10) := by rw [hs]; rw [Kn23c]; rfl
def Kn24 : RDev := (trnR Kn23 (txN 40) 0).2
theorem Kn24q (s : ByteArray) (hs : s = txN 40) : (trnR Kn23 s 0).2 = Kn24 := by rw [hs]; delta Kn24; exact Eq.refl _
theorem Kn24c : (trnR Kn23 (txN 40) 0).1 = 10 := by kernel_rfl
theorem Kn24e (s : ByteArray) (hs : s = txN 40) : errV (trnR Kn23 s 0).1 = .iface 45 (.int .i64 10) := by rw [hs]; rw [Kn24c]; rfl
def Kn25 : RDev := cutR Kn24 1
theorem Kn25q : cutR Kn24 1 = Kn25 := by delta Kn25; exact Eq.refl _
def Kn26 : RDev := (appR Kn25 txa [1]).2
theorem Kn26q : (appR Kn25 txa [1]).2 = Kn26 := by delta Kn26; exact Eq.refl _
theorem Kn26c : (appR Kn25 txa [1]).1 = 0 := by kernel_rfl
theorem Kn26e : errV (appR Kn25 txa [1]).1 = .nilIface := by rw [Kn26c]; rfl
def Kn27 : RDev := (appR Kn26 txa [2]).2
theorem Kn27q : (appR Kn26 txa [2]).2 = Kn27 := by delta Kn27; exact Eq.refl _
theorem Kn27c : (appR Kn26 txa [2]).1 = 30 := by kernel_rfl
theorem Kn27e : errV (appR Kn26 txa [2]).1 = .iface 45 (.int .i64 30) := by rw [Kn27c]; rfl
def Kn28 : RDev := (synR Kn27 txz).2
theorem Kn28q : (synR Kn27 txz).2 = Kn28 := by delta Kn28; exact Eq.refl _
theorem Kn28c : (synR Kn27 txz).1 = 10 := by kernel_rfl
theorem Kn28e : errV (synR Kn27 txz).1 = .iface 45 (.int .i64 10) := by rw [Kn28c]; rfl
theorem Kn29r : readsR Kn28 txa [1] = true := by kernel_rfl
def Kn30 : RDev := cutR Kn28 (-1)
theorem Kn30q : cutR Kn28 (-1) = Kn30 := by delta Kn30; exact Eq.refl _
def Kn31 : RDev := (synR Kn30 txa).2
theorem Kn31q : (synR Kn30 txa).2 = Kn31 := by delta Kn31; exact Eq.refl _
theorem Kn31c : (synR Kn30 txa).1 = 30 := by kernel_rfl
theorem Kn31e : errV (synR Kn30 txa).1 = .iface 45 (.int .i64 30) := by rw [Kn31c]; rfl
def Kn32 : RDev := (renR Kn31 txa txb).2
theorem Kn32q : (renR Kn31 txa txb).2 = Kn32 := by delta Kn32; exact Eq.refl _
theorem Kn32c : (renR Kn31 txa txb).1 = 30 := by kernel_rfl
theorem Kn32e : errV (renR Kn31 txa txb).1 = .iface 45 (.int .i64 30) := by rw [Kn32c]; rfl
def Kn33 : RDev := (remR Kn32 txa).2
theorem Kn33q : (remR Kn32 txa).2 = Kn33 := by delta Kn33; exact Eq.refl _
theorem Kn33c : (remR Kn32 txa).1 = 30 := by kernel_rfl
theorem Kn33e : errV (remR Kn32 txa).1 = .iface 45 (.int .i64 30) := by rw [Kn33c]; rfl
def Kn34 : RDev := (trnR Kn33 txa 0).2
theorem Kn34q : (trnR Kn33 txa 0).2 = Kn34 := by delta Kn34; exact Eq.refl _
theorem Kn34c : (trnR Kn33 txa 0).1 = 30 := by kernel_rfl
theorem Kn34e : errV (trnR Kn33 txa 0).1 = .iface 45 (.int .i64 30) := by rw [Kn34c]; rfl
def Kn35 : RDev := restR Kn34 9
theorem Kn35q : restR Kn34 9 = Kn35 := by delta Kn35; exact Eq.refl _
def Kn36 : RDev := (synR Kn35 txa).2
theorem Kn36q : (synR Kn35 txa).2 = Kn36 := by delta Kn36; exact Eq.refl _
theorem Kn36c : (synR Kn35 txa).1 = 0 := by kernel_rfl
theorem Kn36e : errV (synR Kn35 txa).1 = .nilIface := by rw [Kn36c]; rfl
theorem Kn37r : readsR Kn36 txa [1] = true := by kernel_rfl
set_option maxHeartbeats 8000000 in
set_option maxRecDepth 100000 in
theorem deviceKnown_calls (w : World) (hE : ETypeAt w) : Calls Tryd.prog 3 #[] w fun e w' => e = .returned (.bool true) ∧ Below w.heap.size w w' := by
  have e1 := eqNN
  have e2 := eqIN
  have e3 := neNN
  have e4 := neIN
  have HE := Lib.hid hE
  clear hE
  go_enter Tryd.func3, Tryd.ntmps3
  go_wp2_with (first
    | (go_at_call 4; refine (new_k (w0 := w) (Below.refl _ _)).mono ?_; rintro e w1 ⟨d, rfl, h⟩; have H1 := Lib.hid h; clear h)
    | (go_at_call 5; refine (works_calls w1).mono ?_; rintro e w2 ⟨rfl, h⟩; have H2 := Lib.hid (H1.out.step h); clear h H1)
    | (go_at_call 6; refine (app_k txa [1, 2] H2.out (of_decide_eq_true (by kernel_rfl : decide (RDev.new.ops < 4611686018427387904) = true)) (by decide)).mono ?_; rintro e w3 ⟨rfl, h⟩; rw [Kn1e]; rw [Kn1q] at h; have H3 := Lib.hid h; clear h H2)
    | (go_at_call 7; refine (syn_k txa H3.out (of_decide_eq_true (by kernel_rfl : decide (Kn1.ops < 4611686018427387904) = true)) (of_decide_eq_true (by kernel_rfl : decide (txa.size ≤ maxLen) = true))).mono ?_; rintro e w4 ⟨rfl, h⟩; rw [Kn2e]; rw [Kn2q] at h; have H4 := Lib.hid h; clear h H3)
    | (go_at_call 6; refine (app_k txa [3, 4] H4.out (of_decide_eq_true (by kernel_rfl : decide (Kn2.ops < 4611686018427387904) = true)) (by decide)).mono ?_; rintro e w5 ⟨rfl, h⟩; rw [Kn3e]; rw [Kn3q] at h; have H5 := Lib.hid h; clear h H4)
    | (go_at_call 8; refine (rest_k 1 H5.out (by decide)).mono ?_; rintro e w6 ⟨rfl, h⟩; rw [Kn4q] at h; have H6 := Lib.hid h; clear h H5)
    | (go_at_call 9; refine (readsL_k txa [1, 2, 3] H6.out (of_decide_eq_true (by kernel_rfl : decide (txa.size ≤ maxLen) = true)) (by decide)).mono ?_; rintro e w7 ⟨rfl, h⟩; rw [Kn5r]; have H7 := Lib.hid h; clear h H6)
    | (go_at_call 6; refine (app_k txb [5] H7.out (of_decide_eq_true (by kernel_rfl : decide (Kn4.ops < 4611686018427387904) = true)) (by decide)).mono ?_; rintro e w8 ⟨rfl, h⟩; rw [Kn6e]; rw [Kn6q] at h; have H8 := Lib.hid h; clear h H7)
    | (go_at_call 8; refine (rest_k 0 H8.out (by decide)).mono ?_; rintro e w9 ⟨rfl, h⟩; rw [Kn7q] at h; have H9 := Lib.hid h; clear h H8)
    | (go_at_call 9; refine (readsN_k txb H9.out (of_decide_eq_true (by kernel_rfl : decide (txb.size ≤ maxLen) = true))).mono ?_; rintro e w10 ⟨rfl, h⟩; rw [Kn8r]; have H10 := Lib.hid h; clear h H9)
    | (go_at_call 11; refine (names_k H10.out).mono ?_; rintro e w11 ⟨A9, c9, rfl, hT, h⟩; rw [Kn9n] at hT ⊢; have H11 := Lib.hid h; have T11 := Lib.hid hT; clear h hT H10)
    | (go_at_call 10; refine (sameTexts_calls (a := [txa, txb]) (b := [txa, txb]) (T11.out.below (litT_bel w11 [txa, txb])) (litT_txt w11 [txa, txb]) rfl rfl (by decide) (by decide)).mono ?_; rintro e w12 ⟨rfl, h⟩; rw [decide_eq_true rfl]; have H12 := Lib.hid ((H11.out.step (litT_bel w11 [txa, txb])).step h); clear h H11 T11)
    | (go_at_call 13; refine (trn_k txa 4 H12.out (of_decide_eq_true (by kernel_rfl : decide (Kn7.ops < 4611686018427387904) = true)) (of_decide_eq_true (by kernel_rfl : decide (txa.size ≤ maxLen) = true))).mono ?_; rintro e w13 ⟨rfl, h⟩; rw [Kn10e]; rw [Kn10q] at h; have H13 := Lib.hid h; clear h H12)
    | (go_at_call 12; refine (no_e 1 1 _ (by decide) (by decide) (HE.out.below H13.out.bel)).mono ?_; rintro e w14 ⟨rfl, h⟩; rw [show ((1 : Int) == 1) = true from rfl]; have H14 := Lib.hid (H13.out.step h); clear h H13)
    | (go_at_call 13; refine (trn_k txa (-1) H14.out (of_decide_eq_true (by kernel_rfl : decide (Kn10.ops < 4611686018427387904) = true)) (of_decide_eq_true (by kernel_rfl : decide (txa.size ≤ maxLen) = true))).mono ?_; rintro e w15 ⟨rfl, h⟩; rw [Kn11e]; rw [Kn11q] at h; have H15 := Lib.hid h; clear h H14)
    | (go_at_call 12; refine (no_e 1 1 _ (by decide) (by decide) (HE.out.below H15.out.bel)).mono ?_; rintro e w16 ⟨rfl, h⟩; rw [show ((1 : Int) == 1) = true from rfl]; have H16 := Lib.hid (H15.out.step h); clear h H15)
    | (go_at_call 13; refine (trn_k txa 1 H16.out (of_decide_eq_true (by kernel_rfl : decide (Kn11.ops < 4611686018427387904) = true)) (of_decide_eq_true (by kernel_rfl : decide (txa.size ≤ maxLen) = true))).mono ?_; rintro e w17 ⟨rfl, h⟩; rw [Kn12e]; rw [Kn12q] at h; have H17 := Lib.hid h; clear h H16)
    | (go_at_call 9; refine (readsL_k txa [1] H17.out (of_decide_eq_true (by kernel_rfl : decide (txa.size ≤ maxLen) = true)) (by decide)).mono ?_; rintro e w18 ⟨rfl, h⟩; rw [Kn13r]; have H18 := Lib.hid h; clear h H17)
    | (go_at_call 14; refine (ren_k txa txb H18.out (of_decide_eq_true (by kernel_rfl : decide (Kn12.ops < 4611686018427387904) = true)) (of_decide_eq_true (by kernel_rfl : decide (txa.size ≤ maxLen) = true))).mono ?_; rintro e w19 ⟨rfl, h⟩; rw [Kn14e]; rw [Kn14q] at h; have H19 := Lib.hid h; clear h H18)
    | (go_at_call 11; refine (names_k H19.out).mono ?_; rintro e w20 ⟨A18, c18, rfl, hT, h⟩; rw [Kn15n] at hT ⊢; have H20 := Lib.hid h; have T20 := Lib.hid hT; clear h hT H19)
    | (go_at_call 10; refine (sameTexts_calls (a := [txb]) (b := [txb]) (T20.out.below (litT_bel w20 [txb])) (litT_txt w20 [txb]) rfl rfl (by decide) (by decide)).mono ?_; rintro e w21 ⟨rfl, h⟩; rw [decide_eq_true rfl]; have H21 := Lib.hid ((H20.out.step (litT_bel w20 [txb])).step h); clear h H20 T20)
    | (go_at_call 9; refine (readsL_k txb [1] H21.out (of_decide_eq_true (by kernel_rfl : decide (txb.size ≤ maxLen) = true)) (by decide)).mono ?_; rintro e w22 ⟨rfl, h⟩; rw [Kn16r]; have H22 := Lib.hid h; clear h H21))
  go_loopw [2, 3] (fun v2 v3 wr => ∃ (k : Nat) (s : ByteArray), k ≤ 40 ∧ v3 = .int .i64 k ∧ v2 = .string s ∧ s.size = k ∧ Hid (s = txN k) ∧ wr = w22) (fun _ v3 _ => 40 - (intOf v3).toNat)
  case atStart => exact ⟨0, _, by decide, rfl, rfl, rfl, Lib.hid rfl, rfl⟩
  case round =>
    obtain ⟨k, s, hk, rfl, rfl, hsz, HT, rfl⟩ := hrel
    have HZ := Lib.hid hsz
    have hsz2 : s.size ≤ 40 := by omega
    clear hsz
    by_cases hlt : k < 40
    · have HT2 : Hid (s ++ ⟨#[110]⟩ = txN (k + 1)) := Lib.hid (by rw [HT.out]; exact txN_succ k)
      go_wp2
      go_roundw
      case rel => exact ⟨k + 1, _, by omega, by go_num, rfl, by have := HZ.out; rw [ByteArray.size_append, this]; rfl, HT2, by trivial⟩
      case measure => simp [intOf]; omega
    · obtain rfl : k = 40 := by omega
      have HS := HT
      have hsm : s.size ≤ maxLen := Nat.le_trans hsz2 (by decide)
      clear HT hlt hk
      go_wp2_with (first
        | (go_at_call 15; refine (readNo_k txa H22.out (by kernel_rfl) (of_decide_eq_true (by kernel_rfl : decide (txa.size ≤ maxLen) = true))).mono ?_; rintro e w23 ⟨vr, rfl, h⟩; have H23 := Lib.hid h; clear h H22)
        | (go_at_call 7; refine (syn_k txa H23.out (of_decide_eq_true (by kernel_rfl : decide (Kn14.ops < 4611686018427387904) = true)) (of_decide_eq_true (by kernel_rfl : decide (txa.size ≤ maxLen) = true))).mono ?_; rintro e w24 ⟨rfl, h⟩; rw [Kn17e]; rw [Kn17q] at h; have H24 := Lib.hid h; clear h H23)
        | (go_at_call 12; refine (no_e 10 10 _ (by decide) (by decide) (HE.out.below H24.out.bel)).mono ?_; rintro e w25 ⟨rfl, h⟩; rw [show ((10 : Int) == 10) = true from rfl]; have H25 := Lib.hid (H24.out.step h); clear h H24)
        | (go_at_call 14; refine (ren_k txa txc H25.out (of_decide_eq_true (by kernel_rfl : decide (Kn17.ops < 4611686018427387904) = true)) (of_decide_eq_true (by kernel_rfl : decide (txa.size ≤ maxLen) = true))).mono ?_; rintro e w26 ⟨rfl, h⟩; rw [Kn18e]; rw [Kn18q] at h; have H26 := Lib.hid h; clear h H25)
        | (go_at_call 12; refine (no_e 10 10 _ (by decide) (by decide) (HE.out.below H26.out.bel)).mono ?_; rintro e w27 ⟨rfl, h⟩; rw [show ((10 : Int) == 10) = true from rfl]; have H27 := Lib.hid (H26.out.step h); clear h H26)
        | (go_at_call 14; have hx := ren_k txb (s ++ ⟨#[110]⟩) H27.out (of_decide_eq_true (by kernel_rfl : decide (Kn18.ops < 4611686018427387904) = true)) (of_decide_eq_true (by kernel_rfl : decide (txb.size ≤ maxLen) = true)); refine hx.mono ?_; clear hx; rintro e w28 ⟨rfl, h⟩; rw [Kn19e s HS.out]; rw [Kn19q s HS.out] at h; have H28 := Lib.hid h; clear h H27)
        | (go_at_call 12; refine (no_e 8 8 _ (by decide) (by decide) (HE.out.below H28.out.bel)).mono ?_; rintro e w29 ⟨rfl, h⟩; rw [show ((8 : Int) == 8) = true from rfl]; have H29 := Lib.hid (H28.out.step h); clear h H28)
        | (go_at_call 6; refine (app_k0 txE H29.out (of_decide_eq_true (by kernel_rfl : decide (Kn19.ops < 4611686018427387904) = true))).mono ?_; rintro e w30 ⟨rfl, h⟩; rw [Kn20e]; rw [Kn20q] at h; have H30 := Lib.hid h; clear h H29)
        | (go_at_call 12; refine (no_e 8 8 _ (by decide) (by decide) (HE.out.below H30.out.bel)).mono ?_; rintro e w31 ⟨rfl, h⟩; rw [show ((8 : Int) == 8) = true from rfl]; have H31 := Lib.hid (H30.out.step h); clear h H30)
        | (go_at_call 12; refine (no_e 10 10 _ (by decide) (by decide) (HE.out.below H31.out.bel)).mono ?_; rintro e w32 ⟨rfl, h⟩; rw [show ((10 : Int) == 10) = true from rfl]; have H32 := Lib.hid (H31.out.step h); clear h H31)
        | (go_at_call 14; have hx := ren_k txb s H32.out (of_decide_eq_true (by kernel_rfl : decide (Kn20.ops < 4611686018427387904) = true)) (of_decide_eq_true (by kernel_rfl : decide (txb.size ≤ maxLen) = true)); refine hx.mono ?_; clear hx; rintro e w33 ⟨rfl, h⟩; rw [Kn21e s HS.out]; rw [Kn21q s HS.out] at h; have H33 := Lib.hid h; clear h H32)
        | (go_at_call 16; have hx := rem_k s H33.out (of_decide_eq_true (by kernel_rfl : decide (Kn21.ops < 4611686018427387904) = true)) hsm; refine hx.mono ?_; clear hx; rintro e w34 ⟨rfl, h⟩; rw [Kn22e s HS.out]; rw [Kn22q s HS.out] at h; have H34 := Lib.hid h; clear h H33)
        | (go_at_call 16; have hx := rem_k s H34.out (of_decide_eq_true (by kernel_rfl : decide (Kn22.ops < 4611686018427387904) = true)) hsm; refine hx.mono ?_; clear hx; rintro e w35 ⟨rfl, h⟩; rw [Kn23e s HS.out]; rw [Kn23q s HS.out] at h; have H35 := Lib.hid h; clear h H34)
        | (go_at_call 12; refine (no_e 10 10 _ (by decide) (by decide) (HE.out.below H35.out.bel)).mono ?_; rintro e w36 ⟨rfl, h⟩; rw [show ((10 : Int) == 10) = true from rfl]; have H36 := Lib.hid (H35.out.step h); clear h H35)
        | (go_at_call 13; have hx := trn_k s 0 H36.out (of_decide_eq_true (by kernel_rfl : decide (Kn23.ops < 4611686018427387904) = true)) hsm; refine hx.mono ?_; clear hx; rintro e w37 ⟨rfl, h⟩; rw [Kn24e s HS.out]; rw [Kn24q s HS.out] at h; have H37 := Lib.hid h; clear h H36)
        | (go_at_call 12; refine (no_e 10 10 _ (by decide) (by decide) (HE.out.below H37.out.bel)).mono ?_; rintro e w38 ⟨rfl, h⟩; rw [show ((10 : Int) == 10) = true from rfl]; have H38 := Lib.hid (H37.out.step h); clear h H37)
        | (go_at_call 17; refine (cut_k 1 H38.out (by decide)).mono ?_; rintro e w39 ⟨rfl, h⟩; rw [Kn25q] at h; have H39 := Lib.hid h; clear h H38)
        | (go_at_call 6; refine (app_k txa [1] H39.out (of_decide_eq_true (by kernel_rfl : decide (Kn25.ops < 4611686018427387904) = true)) (by decide)).mono ?_; rintro e w40 ⟨rfl, h⟩; rw [Kn26e]; rw [Kn26q] at h; have H40 := Lib.hid h; clear h H39)
        | (go_at_call 6; refine (app_k txa [2] H40.out (of_decide_eq_true (by kernel_rfl : decide (Kn26.ops < 4611686018427387904) = true)) (by decide)).mono ?_; rintro e w41 ⟨rfl, h⟩; rw [Kn27e]; rw [Kn27q] at h; have H41 := Lib.hid h; clear h H40)
        | (go_at_call 12; refine (no_e 30 30 _ (by decide) (by decide) (HE.out.below H41.out.bel)).mono ?_; rintro e w42 ⟨rfl, h⟩; rw [show ((30 : Int) == 30) = true from rfl]; have H42 := Lib.hid (H41.out.step h); clear h H41)
        | (go_at_call 7; refine (syn_k txz H42.out (of_decide_eq_true (by kernel_rfl : decide (Kn27.ops < 4611686018427387904) = true)) (of_decide_eq_true (by kernel_rfl : decide (txz.size ≤ maxLen) = true))).mono ?_; rintro e w43 ⟨rfl, h⟩; rw [Kn28e]; rw [Kn28q] at h; have H43 := Lib.hid h; clear h H42)
        | (go_at_call 12; refine (no_e 10 10 _ (by decide) (by decide) (HE.out.below H43.out.bel)).mono ?_; rintro e w44 ⟨rfl, h⟩; rw [show ((10 : Int) == 10) = true from rfl]; have H44 := Lib.hid (H43.out.step h); clear h H43)
        | (go_at_call 9; refine (readsL_k txa [1] H44.out (of_decide_eq_true (by kernel_rfl : decide (txa.size ≤ maxLen) = true)) (by decide)).mono ?_; rintro e w45 ⟨rfl, h⟩; rw [Kn29r]; have H45 := Lib.hid h; clear h H44)
        | (go_at_call 17; refine (cut_k (-1) H45.out (by decide)).mono ?_; rintro e w46 ⟨rfl, h⟩; rw [Kn30q] at h; have H46 := Lib.hid h; clear h H45)
        | (go_at_call 7; refine (syn_k txa H46.out (of_decide_eq_true (by kernel_rfl : decide (Kn30.ops < 4611686018427387904) = true)) (of_decide_eq_true (by kernel_rfl : decide (txa.size ≤ maxLen) = true))).mono ?_; rintro e w47 ⟨rfl, h⟩; rw [Kn31e]; rw [Kn31q] at h; have H47 := Lib.hid h; clear h H46)
        | (go_at_call 14; refine (ren_k txa txb H47.out (of_decide_eq_true (by kernel_rfl : decide (Kn31.ops < 4611686018427387904) = true)) (of_decide_eq_true (by kernel_rfl : decide (txa.size ≤ maxLen) = true))).mono ?_; rintro e w48 ⟨rfl, h⟩; rw [Kn32e]; rw [Kn32q] at h; have H48 := Lib.hid h; clear h H47)
        | (go_at_call 16; refine (rem_k txa H48.out (of_decide_eq_true (by kernel_rfl : decide (Kn32.ops < 4611686018427387904) = true)) (of_decide_eq_true (by kernel_rfl : decide (txa.size ≤ maxLen) = true))).mono ?_; rintro e w49 ⟨rfl, h⟩; rw [Kn33e]; rw [Kn33q] at h; have H49 := Lib.hid h; clear h H48)
        | (go_at_call 13; refine (trn_k txa 0 H49.out (of_decide_eq_true (by kernel_rfl : decide (Kn33.ops < 4611686018427387904) = true)) (of_decide_eq_true (by kernel_rfl : decide (txa.size ≤ maxLen) = true))).mono ?_; rintro e w50 ⟨rfl, h⟩; rw [Kn34e]; rw [Kn34q] at h; have H50 := Lib.hid h; clear h H49)
        | (go_at_call 8; refine (rest_k 9 H50.out (by decide)).mono ?_; rintro e w51 ⟨rfl, h⟩; rw [Kn35q] at h; have H51 := Lib.hid h; clear h H50)
        | (go_at_call 12; refine (no_e 30 30 _ (by decide) (by decide) (HE.out.below H51.out.bel)).mono ?_; rintro e w52 ⟨rfl, h⟩; rw [show ((30 : Int) == 30) = true from rfl]; have H52 := Lib.hid (H51.out.step h); clear h H51)
        | (go_at_call 12; refine (no_e 30 30 _ (by decide) (by decide) (HE.out.below H52.out.bel)).mono ?_; rintro e w53 ⟨rfl, h⟩; rw [show ((30 : Int) == 30) = true from rfl]; have H53 := Lib.hid (H52.out.step h); clear h H52)
        | (go_at_call 12; refine (no_e 30 30 _ (by decide) (by decide) (HE.out.below H53.out.bel)).mono ?_; rintro e w54 ⟨rfl, h⟩; rw [show ((30 : Int) == 30) = true from rfl]; have H54 := Lib.hid (H53.out.step h); clear h H53)
        | (go_at_call 12; refine (no_e 30 30 _ (by decide) (by decide) (HE.out.below H54.out.bel)).mono ?_; rintro e w55 ⟨rfl, h⟩; rw [show ((30 : Int) == 30) = true from rfl]; have H55 := Lib.hid (H54.out.step h); clear h H54)
        | (go_at_call 7; refine (syn_k txa H55.out (of_decide_eq_true (by kernel_rfl : decide (Kn35.ops < 4611686018427387904) = true)) (of_decide_eq_true (by kernel_rfl : decide (txa.size ≤ maxLen) = true))).mono ?_; rintro e w56 ⟨rfl, h⟩; rw [Kn36e]; rw [Kn36q] at h; have H56 := Lib.hid h; clear h H55)
        | (go_at_call 9; refine (readsL_k txa [1] H56.out (of_decide_eq_true (by kernel_rfl : decide (txa.size ≤ maxLen) = true)) (by decide)).mono ?_; rintro e w57 ⟨rfl, h⟩; rw [Kn37r]; have H57 := Lib.hid h; clear h H56)
        | (go_at_call 18; refine (limits_calls _ (HE.out.below H57.out.bel)).mono ?_; rintro e w58 ⟨rfl, h⟩; have H58 := Lib.hid (H57.out.step h); clear h H57))
      go_ret
      exact ⟨by trivial, H58.out.bel⟩
end Go.Proofs.YtnmbkaccoaeijaaDoor
