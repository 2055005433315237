/- Lemmas on which the law stands, part 6: Rf27, FirstP, OpenPod, OpenObj, RefV, Pl27, Fl4, Emp, Wide27, FlLent, Kept, KeptO, FlKept, ApL, Apnd, ApLB, ApLA, Book, BookO, BookL, ApO, ApOW, NilB. -/
import Derived.Test.YtoepbjgldmgaoaaGreatDoorKDQ4
import Derived.Test.YtoepbjgldmgaoaaGreatDoorKDQ5
import Derived.SizedLaws
import Derived.ChangeArms
import Derived.WideShapes
import Derived.OpenShut
import Derived.Deep.SlicePairs
import Derived.ChangeSame
import Derived.Handy
set_option linter.unusedVariables false
set_option linter.unusedSimpArgs false
/- flotillaref27.On, draining: the document's pods of a node, and its nodes that drain, by names. -/
namespace Go.Proofs.YtoepbjgldmgaoaaGreatDoor
open Go.RowKit Go.Proofs.YtoepbjgldmgaoaaGreatDoorW.PrintWords Go.Proofs.YtoepbjgldmgaoaaGreatDoorW.PrintLast
def rg22_12_T : Bool × List (List Nat × List Nat) := (true, [([], []), ([0], [0]), ([1], [1]), ([2], [2]), ([3, 2], [2, 3]), ([2], [2]), ([2], [2]), ([5, 6, 2], [2, 5, 6]), ([7, 2], [2, 7]), ([8, 2], [2, 8]), ([4, 9, 2, 2], [2, 4, 9]), ([10, 2], [2, 10]), ([2, 11], [2, 11])])
def rg22_12_B : List Nat := [0, 1, 3, 7, 15, 7, 7, 103, 231, 487, 1023, 2047, 4095]
theorem rg22_12_tab : rtab .any (opsOf Tryz.f22 12) = rg22_12_T := by kernel_rfl
theorem rg22_12_bits : waitsOk rg22_12_T.2 rg22_12_B = true := by kernel_rfl
set_option maxHeartbeats 2000000 in
set_option maxRecDepth 100000 in
theorem on27_calls (v0 v2 v3 : Value) (A : Option Addr) (c n : Nat) (s : ByteArray) (ts : List Ot) (w : World) (hr : kT.C w A n ts) (hl : n ≤ 1000000) :
    Calls Tryz.prog 24 #[.agg #[v0, .slice A n c, v2, v3], .string s] w fun e w' => ∃ v, e = .returned v ∧ kT.R 53 w' w.heap.size (fun _ => True) v (onF s ts) ∧ Below w.heap.size w w' := by
  have HL : Hid (ts.length = n) := Lib.hid hr.1
  obtain ⟨W0, hW0⟩ : ∃ x, x = w.alloc (Obj.cells #[v0, .slice A n c, v2, v3] 24) := ⟨_, rfl⟩
  have hn0 : W0.heap[w.heap.size]? = some (.cells #[v0, .slice A n c, v2, v3] 24 (0, 0)) := by rw [hW0]; exact heap_alloc_new w _
  have q0 : Hid (W0.cell? ⟨w.heap.size, 1, none⟩ = some (.slice A n c)) := Lib.hid (cell_of_row _ _ 1 _ _ _ hn0)
  have hlt0 : Hid (w.heap.size < W0.heap.size) := Lib.hid (blkLt hn0)
  have HB0 : Hid (Below w.heap.size w W0) := Lib.hid (by rw [hW0]; exact below_alloc (Below.refl w.heap.size w) _)
  have HR := Lib.hid (Kd.C_below hr HB0.out)
  clear hr hn0
  replace hW0 := Lib.hid hW0
  go_enter Tryz.func24, Tryz.ntmps24
  go_wp2
  rw [← hW0.out]
  clear hW0
  go_loopw [5, 6] (fun v5 v6 wr => ∃ k : Nat, v6 = .int .i64 k ∧ k ≤ n ∧ Hid (Kd.R kT 53 wr W0.heap.size (fun _ => True) v5 (onF s (ts.take k)) ∧ Below W0.heap.size W0 wr)) (fun _ v6 _ => n - (intOf v6).toNat)
  case atStart => exact ⟨0, rfl, Nat.zero_le _, Lib.hid ⟨Kd.R_nil _ _ _ _ _, Below.refl _ _⟩⟩
  case round =>
    obtain ⟨k, rfl, hk, hI⟩ := hrel
    have c1 : wr.cell? ⟨w.heap.size, 1, none⟩ = some (.slice A n c) := cell_below hI.out.2 q0.out
    by_cases hlt : k < n
    · obtain ⟨t, ht⟩ : ∃ o, ts[k]? = some o := ⟨_, List.getElem?_eq_getElem (by have := HL.out; omega)⟩
      obtain ⟨ad, rfl, hc1, hO⟩ := tAt (Kd.C_below HR.out hI.out.2) k t ht
      have hlk : (k : Int) < (n : Int) := by omega
      obtain ⟨nd, hnd⟩ : ∃ x, x = t.1.node := ⟨_, rfl⟩
      have hsn : onF s (ts.take (k + 1)) = onF s (ts.take k) ++ (if nd = s then [t] else []) := by
        unfold onF
        rw [List.take_add_one, ht, List.filter_append, hnd]
        by_cases e : t.1.node = s <;> simp [e]
      have hlen : ((onF s (ts.take k)).length + 1) * 312 ≤ 140737488355328 := by
        have h1 : (onF s (ts.take k)).length ≤ (ts.take k).length := List.length_filter_le _ _
        rw [List.length_take] at h1
        omega
      obtain ⟨cs, hcs⟩ : ∃ cs, cs = Ot.cs t := ⟨_, rfl⟩
      have hM : Hid (∀ W : World, kT.M W W0.heap.size (fun _ => False) t cs.toList) := Lib.hid (fun W => ⟨by rw [hcs], hc1⟩)
      rw [← hcs] at hc1 hO
      have HO := Lib.hid hO
      have e12 : cs[13]? = some (.string nd) := by rw [hcs, hnd]; rfl
      have c13 := t_field hO 13 (by decide) e12
      have hi1 : (Tryz.prog.info? 53).map (·.size) = some cs.size := by rw [hcs, Ot.cs_size]; kernel_rfl
      have hi2 : 32 = cs.size := by rw [hcs, Ot.cs_size]
      have HC := Lib.hid (And.intro hc1 (And.intro e12 (And.intro hi1 hi2)))
      have HLn := Lib.hid hlen
      clear hnd ht hO hcs hc1 e12 hi1 hi2 hlen
      by_cases hs : nd = s
      · have d1 : decide (nd = s) = true := decide_eq_true hs
        have d2 : (nd.toList == s.toList) = true := by rw [hs]; exact beq_self_eq_true _
        rw [if_pos hs] at hsn
        have HS := Lib.hid hsn
        clear hsn
        go_wp2_with (first
          | ((with_reducible refine wpList_load_any (op := ⟨some 27, _, _, _, _, _⟩) rfl 53 (.tmp 26) rfl (ad.add (k * 32)) ?l1a cs _ ?l2a Tryz.underlying53 ?l3a ?l4a ?_); (case l1a => rfl); (case l2a => exact HO.out); (case l3a => rfl); (case l4a => exact HC.out.2.2.1))
          | ((with_reducible refine wpList_build1 (op := ⟨some 28, _, _, _, _, _⟩) rfl 22 53 (.tmp 27) rfl cs ?d1a (.agg (Ob.zero.cells (.slice none 0 0) (.slice none 0 0))) 32 312 Tryz.underlying22 ?d3a ?d4a (by omega) (by omega) ?d5a ?_); (case d1a => rfl); (case d3a => exact infoO); (case d4a => exact HC.out.2.2.2.symm); (case d5a => rfl))
          | ((with_reducible refine gate_ (.call { callee := .builtin .append, args := #[.tmp 22, .tmp 28], argTypes := #[22, 22] }) rfl ?_); refine Kd.R_append kT (w0 := W0) (W := wr) W0.heap.size rfl (.tmp 22) (.tmp 28) 22 53 (.agg (Ob.zero.cells (.slice none 0 0) (.slice none 0 0))) 312 rfl Tryz.underlying22 infoO rfl (by decide) (by decide) u5 (onF s (ts.take k)) t cs.toList (fun _ => True) (fun _ => False) rfl rfl ?p1a (fun _ h => h.elim) (fun _ _ => trivial) ?p2a ?p3a ?p4a ?p5a ?_; (case p1a => exact hM.out wr); (case p2a => exact hI.out.1); (case p3a => exact hI.out.2); (case p4a => exact (hI.out.2).size); (case p5a => exact HLn.out); intro v1 w6 hR6 hB6 hg6 hat6))
        go_roundw
        case rel => exact ⟨k + 1, by go_num, by omega, Lib.hid ⟨by rw [HS.out]; exact hR6, hB6⟩⟩
        case measure => simp [intOf]; omega
      · have d1 : decide (nd = s) = false := decide_eq_false hs
        have d2 : (nd.toList == s.toList) = false := beq_eq_false_iff_ne.mpr (fun e => hs (bytes_of_list e))
        rw [if_neg hs, List.append_nil] at hsn
        have HS := Lib.hid hsn
        clear hsn
        go_wp2
        go_roundw
        case rel => exact ⟨k + 1, by go_num, by omega, Lib.hid ⟨by rw [HS.out]; exact hI.out.1, hI.out.2⟩⟩
        case measure => simp [intOf]; omega
    · obtain rfl : n = k := by omega
      have hI1 := hI.out.1
      rw [List.take_of_length_le (Nat.le_of_eq HL.out)] at hI1
      have HI1 := Lib.hid (And.intro (Kd.R_lower hI1 (Nat.le_of_lt hlt0.out)) (belT HB0.out hI.out.2))
      clear hI1
      go_wp2
      go_ret
      exact ⟨_, rfl, HI1.out.1, HI1.out.2⟩
theorem sort27_snoc {p : Ot → Bool} {ts : List Ot} {k : Nat} {t : Ot} (h : ts[k]? = some t) : Srt.isort cT ((ts.take (k + 1)).filter p) = if p t = true then Srt.ins cT t (Srt.isort cT ((ts.take k).filter p)) else Srt.isort cT ((ts.take k).filter p) := by
  rw [List.take_add_one, h, List.filter_append]
  cases hp : p t
  · simp [hp]
  · rw [if_pos rfl, show (some t).toList.filter p = [t] by simp [hp], Srt.isort_snoc]
set_option maxHeartbeats 8000000 in
set_option maxRecDepth 100000 in
theorem draining_calls (v0 v1 v2 : Value) (A : Option Addr) (c n : Nat) (ts : List Ot) (w : World) (hr : kT.C w A n ts) (hl : n ≤ 10000) (hfn : ∀ t ∈ ts, t.1.name.size ≤ 140737488351232) :
    Calls Tryz.prog 22 #[.agg #[.slice A n c, v0, v1, v2]] w fun e w' => ∃ v, e = .returned v ∧ kT.R 53 w' w.heap.size (fun _ => True) v (Srt.isort cT (ts.filter (fun t => t.1.draining))) ∧ Below w.heap.size w w' := by
  have HL : Hid (ts.length = n) := Lib.hid hr.1
  have HFn := Lib.hid hfn
  obtain ⟨W0, hW0⟩ : ∃ x, x = w.alloc (Obj.cells #[.slice A n c, v0, v1, v2] 24) := ⟨_, rfl⟩
  have hn0 : W0.heap[w.heap.size]? = some (.cells #[.slice A n c, v0, v1, v2] 24 (0, 0)) := by rw [hW0]; exact heap_alloc_new w _
  have q0 : Hid (W0.cell? ⟨w.heap.size, 0, none⟩ = some (.slice A n c)) := Lib.hid (cell_of_row _ _ 0 _ _ _ hn0)
  have hlt0 : Hid (w.heap.size < W0.heap.size) := Lib.hid (blkLt hn0)
  have HB0 : Hid (Below w.heap.size w W0) := Lib.hid (by rw [hW0]; exact below_alloc (Below.refl w.heap.size w) _)
  have HR := Lib.hid (Kd.C_below hr HB0.out)
  clear hr hn0 hfn
  replace hW0 := Lib.hid hW0
  go_enter Tryz.func22, Tryz.ntmps22
  go_wp2
  rw [← hW0.out]
  clear hW0
  go_loopw [3, 4] (fun vL vI wr => ∃ k : Nat, vI = .int .i64 k ∧ k ≤ n ∧ Hid (Kd.R kT 53 wr W0.heap.size (fun _ => True) vL (Srt.isort cT ((ts.take k).filter (fun t => t.1.draining))) ∧ Below W0.heap.size W0 wr)) (fun _ vI _ => n - (intOf vI).toNat)
  case atStart => exact ⟨0, rfl, Nat.zero_le _, Lib.hid ⟨Kd.R_nil _ _ _ _ _, Below.refl _ _⟩⟩
  case round =>
    obtain ⟨k, rfl, hk, hI⟩ := hrel
    rename World => wx
    have c1 : wx.cell? ⟨w.heap.size, 0, none⟩ = some (.slice A n c) := cell_below hI.out.2 q0.out
    by_cases hlt : k < n
    · obtain ⟨t, ht⟩ : ∃ o, ts[k]? = some o := ⟨_, List.getElem?_eq_getElem (by have := HL.out; omega)⟩
      obtain ⟨ad, hA, hc1, hO⟩ := tAt (Kd.C_below HR.out hI.out.2) k t ht
      subst hA
      have hlk : (k : Int) < (n : Int) := by omega
      have hsn := sort27_snoc (p := (fun t => t.1.draining)) ht
      obtain ⟨acc, hacc⟩ : ∃ acc, acc = Srt.isort cT ((ts.take k).filter (fun t => t.1.draining)) := ⟨_, rfl⟩
      obtain ⟨m, hm⟩ : ∃ m, m = acc.length := ⟨_, rfl⟩
      have hmn : m ≤ 10000 := by
        have h1 : ((ts.take k).filter (fun t => t.1.draining)).length ≤ (ts.take k).length := List.length_filter_le _ _
        rw [List.length_take] at h1
        rw [hm, hacc, Srt.isort_length]
        omega
      have hnt := HFn.out t (List.mem_of_getElem? ht)
      have HFa : Hid (∀ y ∈ acc, y.1.name.size ≤ 140737488351232) := Lib.hid (fun y hy => by
        rw [hacc, Srt.mem_isort] at hy
        exact HFn.out y (List.mem_of_mem_take (List.mem_filter.1 hy).1))
      rw [← hacc] at hsn hI
      obtain ⟨pd, hpd⟩ : ∃ b, b = t.1.draining := ⟨_, rfl⟩
      have e0 : t.1.draining = pd := hpd.symm
      rw [e0] at hsn
      obtain ⟨cs, hcs⟩ : ∃ cs, cs = Ot.cs t := ⟨_, rfl⟩
      have hM : Hid (∀ (W : World) (b : Nat), kT.M W b (fun _ => False) t cs.toList) := Lib.hid (fun W b => ⟨by rw [hcs], hc1⟩)
      rw [← hcs] at hc1 hO
      have HO := Lib.hid hO
      obtain ⟨n1, hn1⟩ : ∃ s, s = t.1.name := ⟨_, rfl⟩
      rw [← hn1] at hnt
      have e1 : cs[1]? = some (.string n1) := by rw [hcs, hn1]; rfl
      have e8 : cs[8]? = some (.bool pd) := by rw [hcs, hpd]; rfl
      have hi1 : (Tryz.prog.info? 53).map (·.size) = some cs.size := by rw [hcs, Ot.cs_size]; kernel_rfl
      have hi2 : 32 = cs.size := by rw [hcs, Ot.cs_size]
      have HC := Lib.hid (And.intro hc1 (And.intro (And.intro e1 e8) (And.intro hi1 hi2)))
      have HN := Lib.hid (And.intro hn1 (And.intro hm hnt))
      have HSN := Lib.hid hsn
      have HP := Lib.hid hpd
      obtain ⟨A5, c5, h5⟩ := Kd.R_slice hI.out.1
      rw [← hm] at h5
      clear ht hO hcs hc1 e1 e8 hi1 hi2 hsn hacc hpd e0 hn1 hm hnt
      subst h5
      cases pd
      · have HS : Hid (Srt.isort cT ((ts.take (k + 1)).filter (fun t => t.1.draining)) = acc) := Lib.hid (by rw [HSN.out]; rfl)
        skip
        go_wp2_with (first
          | ((with_reducible refine wpList_load_any (op := ⟨some 20, _, _, _, _, _⟩) rfl 53 (.tmp 19) rfl (ad.add (k * 32)) ?l1sf cs _ ?l2sf Tryz.underlying53 ?l3sf ?l4sf ?_); (case l1sf => rfl); (case l2sf => exact HO.out); (case l3sf => rfl); (case l4sf => exact HC.out.2.2.1))
          | ((with_reducible refine wpList_store_blk rfl 53 (.tmp 5) (.tmp 20) rfl wx.heap.size 53 ?c0sf cs ?c1sf ?c2sf ?c3sf ?c4sf ?c5sf ?c6sf ?_); (case c1sf => rfl); (case c2sf => rfl); (case c3sf => exact heap_alloc_new _ _); (case c4sf => exact HC.out.2.2.1); (case c5sf => exact Eq.trans (b := 32) rfl HC.out.2.2.2); (case c6sf => exact HC.out.1); intro w2 G hk2 hb hz; have HX := Lib.hid (And.intro (Kd.R_below hI.out.1 (hb _ _ (Below.alloc (Below.refl _ _) (Nat.le_refl _) _) (Nat.le_refl _))) (belT hI.out.2 (hb _ _ (Below.alloc (Below.refl _ _) (Nat.le_refl _) _) (Nat.le_refl _)))); obtain ⟨gx, hgx⟩ : ∃ g, g = wx.heap.size := ⟨_, rfl⟩; rw [← hgx] at G ⊢; have HG := Lib.hid G; have C8 : w2.cell? ⟨gx, 8, none⟩ = some (.bool false) := (cell_of_row _ _ 8 _ _ _ G).trans HC.out.2.1.2; clear G hk2 hb hz hgx))
        go_roundw
        case rel => exact ⟨k + 1, by go_num, by omega, Lib.hid ⟨by rw [HS.out]; exact HX.out.1, HX.out.2⟩⟩
        case measure => simp [intOf]; omega
      · have HS : Hid (Srt.isort cT ((ts.take (k + 1)).filter (fun t => t.1.draining)) = Srt.ins cT t acc) := Lib.hid (by rw [HSN.out]; rfl)
        skip
        go_wp2_with (first
          | ((with_reducible refine wpList_load_any (op := ⟨some 20, _, _, _, _, _⟩) rfl 53 (.tmp 19) rfl (ad.add (k * 32)) ?l1st cs _ ?l2st Tryz.underlying53 ?l3st ?l4st ?_); (case l1st => rfl); (case l2st => exact HO.out); (case l3st => rfl); (case l4st => exact HC.out.2.2.1))
          | ((with_reducible refine wpList_store_blk rfl 53 (.tmp 5) (.tmp 20) rfl wx.heap.size 53 ?c0st cs ?c1st ?c2st ?c3st ?c4st ?c5st ?c6st ?_); (case c1st => rfl); (case c2st => rfl); (case c3st => exact heap_alloc_new _ _); (case c4st => exact HC.out.2.2.1); (case c5st => exact Eq.trans (b := 32) rfl HC.out.2.2.2); (case c6st => exact HC.out.1); intro w2 G hk2 hb hz; have HX := Lib.hid (And.intro (Kd.R_below hI.out.1 (hb _ _ (Below.alloc (Below.refl _ _) (Nat.le_refl _) _) (Nat.le_refl _))) (belT hI.out.2 (hb _ _ (Below.alloc (Below.refl _ _) (Nat.le_refl _) _) (Nat.le_refl _)))); obtain ⟨gx, hgx⟩ : ∃ g, g = wx.heap.size := ⟨_, rfl⟩; rw [← hgx] at G ⊢; have HG := Lib.hid G; have C8 : w2.cell? ⟨gx, 8, none⟩ = some (.bool true) := (cell_of_row _ _ 8 _ _ _ G).trans HC.out.2.1.2; clear G hk2 hb hz hgx))
        have HC5 := Lib.hid (Kd.R_reads' HX.out.1)
        have HBX := Lib.hid HX.out.2
        go_loopw [6, 7, 8] (fun v6 v7 v8 wr => ∃ (j : Nat) (d : Bool), v8 = .int .i64 j ∧ j ≤ m ∧ v7 = .bool d ∧ Hid (doneB t (acc.take j) = d ∧ Kd.R kT 53 wr w2.heap.size (fun _ => True) v6 (outP t (acc.take j)) ∧ Below w2.heap.size w2 wr)) (fun _ _ v8 _ => m - (intOf v8).toNat)
        case atStart => exact ⟨0, false, rfl, Nat.zero_le _, rfl, Lib.hid ⟨rfl, Kd.R_nil _ _ _ _ _, Below.refl _ _⟩⟩
        case round =>
          obtain ⟨j, d, rfl, hj, rfl, hJ⟩ := hrel
          by_cases hjm : j < m
          · obtain ⟨y, hy⟩ : ∃ o, acc[j]? = some o := ⟨_, List.getElem?_eq_getElem (by have := HN.out.2.1; omega)⟩
            have hC5 := Kd.C_below HC5.out.2.2 hJ.out.2.2
            rw [← HN.out.2.1] at hC5
            obtain ⟨ad5, hA5, hd1, hY⟩ := tAt hC5 j y hy
            subst hA5
            have hljm : (j : Int) < (m : Int) := by omega
            have hny := HFa.out y (List.mem_of_getElem? hy)
            have htk : acc.take (j + 1) = acc.take j ++ [y] := by rw [List.take_add_one, hy]; rfl
            have HTK := Lib.hid htk
            have hol := out_len t (acc.take j)
            rw [List.length_take] at hol
            have HL2 : Hid (((outP t (acc.take j) ++ [t]).length + 1) * 312 ≤ 140737488355328) := Lib.hid (by rw [List.length_append, List.length_singleton]; omega)
            have HL1 : Hid (((outP t (acc.take j)).length + 1) * 312 ≤ 140737488355328) := Lib.hid (by omega)
            obtain ⟨ds, hds⟩ : ∃ cs, cs = Ot.cs y := ⟨_, rfl⟩
            have hMy : Hid (∀ (W : World) (b : Nat), kT.M W b (fun _ => False) y ds.toList) := Lib.hid (fun W b => ⟨by rw [hds], hd1⟩)
            rw [← hds] at hd1 hY
            have HYQF : Hid (∀ W : World, Below w2.heap.size w2 W → ∀ (i : Nat) (u : Value), ds[i]? = some u → W.cell? ((ad5.add (j * 32)).add i) = some u) := Lib.hid (fun W hW => by
              have hC := Kd.C_below HC5.out.2.2 hW
              rw [← HN.out.2.1] at hC
              obtain ⟨ad6, hA6, _, hY6⟩ := tAt hC j y hy
              injection hA6 with hA6
              subst hA6
              rw [hds]
              exact hY6)
            obtain ⟨n2, hn2⟩ : ∃ s, s = y.1.name := ⟨_, rfl⟩
            rw [← hn2] at hny
            have f1 : ds[1]? = some (.string n2) := by rw [hds, hn2]; rfl
            have hi1 : (Tryz.prog.info? 53).map (·.size) = some ds.size := by rw [hds, Ot.cs_size]; kernel_rfl
            have hi2 : 32 = ds.size := by rw [hds, Ot.cs_size]
            have HD := Lib.hid (And.intro hd1 (And.intro f1 (And.intro hi1 hi2)))
            have C2 := t_field hY 1 (by decide) f1
            have C1 : wr.cell? ⟨gx, 1, none⟩ = some (.string n1) := (cell_of_row _ _ 1 _ _ _ (blkB hJ.out.2.2 HG.out)).trans HC.out.2.1.1
            have HY := Lib.hid hY
            obtain ⟨cw, hcw⟩ : ∃ c, c = Wc.cmpW n1 n2 := ⟨_, rfl⟩
            have HCW : Hid (cT t y = cw) := Lib.hid (by rw [hcw, HN.out.1, hn2]; rfl)
            have QW := Lib.hid (fun W => Wc.ref_calls n1 n2 cw W (by unfold Wc.cmpO; rw [if_pos ⟨HN.out.2.2, hny⟩, hcw]))
            clear hy hY hd1 hny htk hol hds hn2 f1 hi1 hi2 hcw hC5
            have HB : Below wr.heap.size wr wr := Below.refl _ _
            replace HB := below_drew HB
            cases d
            · by_cases hneg : cw < 0
              · have g4 : decide (cw < 0) = true := decide_eq_true hneg
                go_upto_region 12 with (fail)
                refine start_ (n := 13) (S := fun w' => Below wr.heap.size wr w' ∧ w'.cell? ⟨gx, 1, none⟩ = some (.string n1) ∧ w'.cell? ⟨(ad5.add (j * 32)).block, (ad5.add (j * 32)).off + 1, none⟩ = some (.string n2)) (ds := []) (bs 13 0) (by kernel_rfl) rfl (by kernel_rfl) ⟨HB, C1, C2⟩ (fun hHeld => ?_)
                refine with_tabW rg22_12_tab rg22_12_bits (fun HT_ HW_ => ?_)
                refine pu 0 (some 30) (bs 13 1) HT_ rfl rfl (by kernel_rfl) (fun _ _ _ _ h => h) ⟨_, .inl ⟨by rfl, fun _ => by go_simp; with_reducible rfl⟩, _, by simp only [Act.put, sA, sB, sC, i64_w, i32_w]; rfl, ?_⟩
                refine pu 1 (some 31) (bs 13 3) HT_ rfl rfl (by kernel_rfl) (fun _ _ _ _ h => h) ⟨_, .inl ⟨by rfl, fun _ => by go_simp; with_reducible rfl⟩, _, by simp only [Act.put, sA, sB, sC, i64_w, i32_w]; rfl, ?_⟩
                refine pu 2 (some 32) (bs 13 7) HT_ rfl rfl (by kernel_rfl) (fun _ _ _ _ h => h) ⟨_, .inl ⟨by rfl, fun _ => by go_simp; with_reducible rfl⟩, _, by simp only [Act.put, sA, sB, sC, i64_w, i32_w]; rfl, ?_⟩
                refine pu 3 (some 33) (bs 13 15) HT_ rfl rfl (by kernel_rfl) (fun _ _ _ _ h => h) ⟨_, .inl ⟨by rfl, fun _ => by go_simp; with_reducible rfl⟩, _, by simp only [Act.put, sA, sB, sC, i64_w, i32_w]; rfl, ?_⟩
                refine pu 5 (some 35) (bs 13 47) HT_ rfl rfl (by kernel_rfl) (fun _ _ _ _ h => h) ⟨_, .inl ⟨by rfl, fun _ => by go_simp; with_reducible rfl⟩, _, by simp only [Act.put, sA, sB, sC, i64_w, i32_w]; rfl, ?_⟩
                refine pu 6 (some 36) (bs 13 111) HT_ rfl rfl (by kernel_rfl) (fun _ _ _ _ h => h) ⟨_, .inl ⟨by rfl, fun _ => by go_simp; with_reducible rfl⟩, _, by simp only [Act.put, sA, sB, sC, i64_w, i32_w]; rfl, ?_⟩
                refine pu 7 (some 37) (bs 13 239) HT_ rfl rfl (by kernel_rfl) (fun _ _ _ _ h => h) ⟨_, .inl ⟨by rfl, fun _ => by go_simp; with_reducible rfl⟩, _, by simp only [Act.put, sA, sB, sC, i64_w, i32_w]; rfl, ?_⟩
                refine pu 8 (some 38) (bs 13 495) HT_ rfl rfl (by kernel_rfl) (fun _ _ _ _ h => h) ⟨_, .inl ⟨by rfl, fun _ => by go_simp; with_reducible rfl⟩, _, by simp only [Act.put, sA, sB, sC, i64_w, i32_w]; rfl, ?_⟩
                refine tk 4 (some 34) (bs 13 511) HT_ HW_ rfl rfl (by kernel_rfl) (fun _ _ _ _ h => h) hHeld ⟨_, .inl ⟨by rfl, by rintro w' ⟨s0, s1, s2⟩; go_simp; with_reducible rfl⟩, _, by simp only [Act.put, sA, sB, sC, i64_w, i32_w]; rfl, ?_⟩
                refine tk 9 (some 39) (bs 13 1023) HT_ HW_ rfl rfl (by kernel_rfl) (fun _ _ _ _ h => h) hHeld ⟨_, .inl ⟨by rfl, by rintro w' ⟨s0, s1, s2⟩; go_simp; with_reducible rfl⟩, _, by simp only [Act.put, sA, sB, sC, i64_w, i32_w]; rfl, ?_⟩
                refine on1 10 (some 40) (bs 13 2047) HT_ rfl rfl (by kernel_rfl) (by decide) (fun K hK => ?_)
                refine goes_ Tryz.func50 (by kernel_rfl) rfl #[.string n1, .string n2] (by rfl) rfl rfl (by (try simp only [List.map_toArray, List.map_cons, List.map_nil]); first | done | rfl) ?_
                with_reducible refine (QW.out _).mono ?_
                rintro e w5 ⟨rfl, hb⟩
                replace HB := belT HB hb
                replace C1 := cell_below hb C1
                replace C2 := cell_below hb C2
                clear hb
                refine ⟨_, rfl, ?_⟩
                refine hK.out _ _ ⟨HB, C1, C2⟩ (fun hHeld => ?_)
                clear hK K
                refine nm ⟨_, show Act.put _ (some 40) _ = _ by simp only [Act.put, sA, sB, sC, i64_w, i32_w]; rfl, ?_⟩
                refine pu 11 (some 41) (bs 13 4095) HT_ rfl rfl (by kernel_rfl) (fun _ _ _ _ h => h) ⟨_, .inl ⟨by rfl, fun _ => by go_simp; with_reducible rfl⟩, _, by simp only [Act.put, sA, sB, sC, i64_w, i32_w]; rfl, ?_⟩
                refine pu 12 (some 42) (bs 13 8191) HT_ rfl rfl (by kernel_rfl) (fun _ _ _ _ h => h) ⟨_, .inl ⟨by rfl, fun _ => by go_simp; with_reducible rfl⟩, _, by simp only [Act.put, sA, sB, sC, i64_w, i32_w]; rfl, ?_⟩
                refine done_ (done_of HT_.out (by kernel_rfl)) ?_
                have HQ := Lib.hid (And.intro (Kd.R_below hJ.out.2.1 HB) (belT hJ.out.2.2 HB))
                go_wp2_with (first
                  | ((with_reducible refine wpList_load_blk (op := ⟨some 44, _, _, _, _, _⟩) rfl 53 (.tmp 5) rfl gx 53 ?l1p cs _ ?l2p Tryz.underlying53 ?l3p ?l4p ?_); (case l1p => rfl); (case l2p => exact blkB HQ.out.2 HG.out); (case l3p => rfl); (case l4p => exact HC.out.2.2.1))
                  | ((with_reducible refine wpList_build1 (op := ⟨some 45, _, _, _, _, _⟩) rfl 22 53 (.tmp 44) rfl cs ?d1p (.agg (Ob.zero.cells (.slice none 0 0) (.slice none 0 0))) 32 312 Tryz.underlying22 ?d3p ?d4p (by omega) (by omega) ?d5p ?_); (case d1p => rfl); (case d3p => exact infoO); (case d4p => exact HC.out.2.2.2.symm); (case d5p => rfl))
                  | ((with_reducible refine gate_ (.call { callee := .builtin .append, args := #[.tmp 43, .tmp 45], argTypes := #[22, 22] }) rfl ?_); refine Kd.R_append kT (w0 := w2) (W := w5) w2.heap.size rfl (.tmp 43) (.tmp 45) 22 53 (.agg (Ob.zero.cells (.slice none 0 0) (.slice none 0 0))) 312 rfl Tryz.underlying22 infoO rfl (by decide) (by decide) u6 (outP t (acc.take j)) t cs.toList (fun _ => True) (fun _ => False) rfl rfl ?p1p (fun _ h => h.elim) (fun _ _ => trivial) ?p2p ?p3p ?p4p ?p5p ?_; (case p1p => exact hM.out w5 w2.heap.size); (case p2p => exact HQ.out.1); (case p3p => exact HQ.out.2); (case p4p => exact (HQ.out.2).size); (case p5p => exact HL1.out); intro v1 w6 hR6 hB6 hg6 hat6; have H6 := Lib.hid (And.intro hR6 hB6); clear hR6 hB6 hg6 hat6; have HYQ : Hid (∀ (i : Nat) (u : Value), ds[i]? = some u → w6.cell? ((ad5.add (j * 32)).add i) = some u) := Lib.hid (HYQF.out w6 H6.out.2))
                  | ((with_reducible refine wpList_load_any (op := ⟨some 51, _, _, _, _, _⟩) rfl 53 (.tmp 50) rfl (ad5.add (j * 32)) ?l1q ds _ ?l2q Tryz.underlying53 ?l3q ?l4q ?_); (case l1q => rfl); (case l2q => exact HYQ.out); (case l3q => rfl); (case l4q => exact HD.out.2.2.1))
                  | ((with_reducible refine wpList_build1 (op := ⟨some 52, _, _, _, _, _⟩) rfl 22 53 (.tmp 51) rfl ds ?d1q (.agg (Ob.zero.cells (.slice none 0 0) (.slice none 0 0))) 32 312 Tryz.underlying22 ?d3q ?d4q (by omega) (by omega) ?d5q ?_); (case d1q => rfl); (case d3q => exact infoO); (case d4q => exact HD.out.2.2.2.symm); (case d5q => rfl))
                  | ((with_reducible refine gate_ (.call { callee := .builtin .append, args := #[.tmp 47, .tmp 52], argTypes := #[22, 22] }) rfl ?_); refine Kd.R_append kT (w0 := w2) (W := w6) w2.heap.size rfl (.tmp 47) (.tmp 52) 22 53 (.agg (Ob.zero.cells (.slice none 0 0) (.slice none 0 0))) 312 rfl Tryz.underlying22 infoO rfl (by decide) (by decide) v1 (outP t (acc.take j) ++ [t]) y ds.toList (fun _ => True) (fun _ => False) rfl rfl ?p1q (fun _ h => h.elim) (fun _ _ => trivial) ?p2q ?p3q ?p4q ?p5q ?_; (case p1q => exact hMy.out w6 w2.heap.size); (case p2q => exact H6.out.1); (case p3q => exact H6.out.2); (case p4q => exact (H6.out.2).size); (case p5q => exact HL2.out); intro v9 w7 hR7 hB7 hg7 hat7; have H7 := Lib.hid (And.intro hR7 hB7); clear hR7 hB7 hg7 hat7))
                go_roundw
                case rel => exact ⟨j + 1, true, by go_num, by omega, rfl, Lib.hid ⟨by rw [HTK.out]; exact (out_new hJ.out.1 (by rw [HCW.out]; exact hneg)).1, by rw [HTK.out, (out_new hJ.out.1 (by rw [HCW.out]; exact hneg)).2]; exact H7.out.1, H7.out.2⟩⟩
                case measure => simp [intOf]; omega
              · have g4 : decide (cw < 0) = false := decide_eq_false hneg
                go_upto_region 12 with (fail)
                refine start_ (n := 13) (S := fun w' => Below wr.heap.size wr w' ∧ w'.cell? ⟨gx, 1, none⟩ = some (.string n1) ∧ w'.cell? ⟨(ad5.add (j * 32)).block, (ad5.add (j * 32)).off + 1, none⟩ = some (.string n2)) (ds := []) (bs 13 0) (by kernel_rfl) rfl (by kernel_rfl) ⟨HB, C1, C2⟩ (fun hHeld => ?_)
                refine with_tabW rg22_12_tab rg22_12_bits (fun HT_ HW_ => ?_)
                refine pu 0 (some 30) (bs 13 1) HT_ rfl rfl (by kernel_rfl) (fun _ _ _ _ h => h) ⟨_, .inl ⟨by rfl, fun _ => by go_simp; with_reducible rfl⟩, _, by simp only [Act.put, sA, sB, sC, i64_w, i32_w]; rfl, ?_⟩
                refine pu 1 (some 31) (bs 13 3) HT_ rfl rfl (by kernel_rfl) (fun _ _ _ _ h => h) ⟨_, .inl ⟨by rfl, fun _ => by go_simp; with_reducible rfl⟩, _, by simp only [Act.put, sA, sB, sC, i64_w, i32_w]; rfl, ?_⟩
                refine pu 2 (some 32) (bs 13 7) HT_ rfl rfl (by kernel_rfl) (fun _ _ _ _ h => h) ⟨_, .inl ⟨by rfl, fun _ => by go_simp; with_reducible rfl⟩, _, by simp only [Act.put, sA, sB, sC, i64_w, i32_w]; rfl, ?_⟩
                refine pu 3 (some 33) (bs 13 15) HT_ rfl rfl (by kernel_rfl) (fun _ _ _ _ h => h) ⟨_, .inl ⟨by rfl, fun _ => by go_simp; with_reducible rfl⟩, _, by simp only [Act.put, sA, sB, sC, i64_w, i32_w]; rfl, ?_⟩
                refine pu 5 (some 35) (bs 13 47) HT_ rfl rfl (by kernel_rfl) (fun _ _ _ _ h => h) ⟨_, .inl ⟨by rfl, fun _ => by go_simp; with_reducible rfl⟩, _, by simp only [Act.put, sA, sB, sC, i64_w, i32_w]; rfl, ?_⟩
                refine pu 6 (some 36) (bs 13 111) HT_ rfl rfl (by kernel_rfl) (fun _ _ _ _ h => h) ⟨_, .inl ⟨by rfl, fun _ => by go_simp; with_reducible rfl⟩, _, by simp only [Act.put, sA, sB, sC, i64_w, i32_w]; rfl, ?_⟩
                refine pu 7 (some 37) (bs 13 239) HT_ rfl rfl (by kernel_rfl) (fun _ _ _ _ h => h) ⟨_, .inl ⟨by rfl, fun _ => by go_simp; with_reducible rfl⟩, _, by simp only [Act.put, sA, sB, sC, i64_w, i32_w]; rfl, ?_⟩
                refine pu 8 (some 38) (bs 13 495) HT_ rfl rfl (by kernel_rfl) (fun _ _ _ _ h => h) ⟨_, .inl ⟨by rfl, fun _ => by go_simp; with_reducible rfl⟩, _, by simp only [Act.put, sA, sB, sC, i64_w, i32_w]; rfl, ?_⟩
                refine tk 4 (some 34) (bs 13 511) HT_ HW_ rfl rfl (by kernel_rfl) (fun _ _ _ _ h => h) hHeld ⟨_, .inl ⟨by rfl, by rintro w' ⟨s0, s1, s2⟩; go_simp; with_reducible rfl⟩, _, by simp only [Act.put, sA, sB, sC, i64_w, i32_w]; rfl, ?_⟩
                refine tk 9 (some 39) (bs 13 1023) HT_ HW_ rfl rfl (by kernel_rfl) (fun _ _ _ _ h => h) hHeld ⟨_, .inl ⟨by rfl, by rintro w' ⟨s0, s1, s2⟩; go_simp; with_reducible rfl⟩, _, by simp only [Act.put, sA, sB, sC, i64_w, i32_w]; rfl, ?_⟩
                refine on1 10 (some 40) (bs 13 2047) HT_ rfl rfl (by kernel_rfl) (by decide) (fun K hK => ?_)
                refine goes_ Tryz.func50 (by kernel_rfl) rfl #[.string n1, .string n2] (by rfl) rfl rfl (by (try simp only [List.map_toArray, List.map_cons, List.map_nil]); first | done | rfl) ?_
                with_reducible refine (QW.out _).mono ?_
                rintro e w5 ⟨rfl, hb⟩
                replace HB := belT HB hb
                replace C1 := cell_below hb C1
                replace C2 := cell_below hb C2
                clear hb
                refine ⟨_, rfl, ?_⟩
                refine hK.out _ _ ⟨HB, C1, C2⟩ (fun hHeld => ?_)
                clear hK K
                refine nm ⟨_, show Act.put _ (some 40) _ = _ by simp only [Act.put, sA, sB, sC, i64_w, i32_w]; rfl, ?_⟩
                refine pu 11 (some 41) (bs 13 4095) HT_ rfl rfl (by kernel_rfl) (fun _ _ _ _ h => h) ⟨_, .inl ⟨by rfl, fun _ => by go_simp; with_reducible rfl⟩, _, by simp only [Act.put, sA, sB, sC, i64_w, i32_w]; rfl, ?_⟩
                refine pu 12 (some 42) (bs 13 8191) HT_ rfl rfl (by kernel_rfl) (fun _ _ _ _ h => h) ⟨_, .inl ⟨by rfl, fun _ => by go_simp; with_reducible rfl⟩, _, by simp only [Act.put, sA, sB, sC, i64_w, i32_w]; rfl, ?_⟩
                refine done_ (done_of HT_.out (by kernel_rfl)) ?_
                have HQ := Lib.hid (And.intro (Kd.R_below hJ.out.2.1 HB) (belT hJ.out.2.2 HB))
                go_wp2_with (first
                  | ((with_reducible refine wpList_load_any (op := ⟨some 51, _, _, _, _, _⟩) rfl 53 (.tmp 50) rfl (ad5.add (j * 32)) ?l1b ds _ ?l2b Tryz.underlying53 ?l3b ?l4b ?_); (case l1b => rfl); (case l2b => exact HYQF.out _ HQ.out.2); (case l3b => rfl); (case l4b => exact HD.out.2.2.1))
                  | ((with_reducible refine wpList_build1 (op := ⟨some 52, _, _, _, _, _⟩) rfl 22 53 (.tmp 51) rfl ds ?d1b (.agg (Ob.zero.cells (.slice none 0 0) (.slice none 0 0))) 32 312 Tryz.underlying22 ?d3b ?d4b (by omega) (by omega) ?d5b ?_); (case d1b => rfl); (case d3b => exact infoO); (case d4b => exact HD.out.2.2.2.symm); (case d5b => rfl))
                  | ((with_reducible refine gate_ (.call { callee := .builtin .append, args := #[.tmp 47, .tmp 52], argTypes := #[22, 22] }) rfl ?_); refine Kd.R_append kT (w0 := w2) (W := w5) w2.heap.size rfl (.tmp 47) (.tmp 52) 22 53 (.agg (Ob.zero.cells (.slice none 0 0) (.slice none 0 0))) 312 rfl Tryz.underlying22 infoO rfl (by decide) (by decide) u6 (outP t (acc.take j)) y ds.toList (fun _ => True) (fun _ => False) rfl rfl ?p1b (fun _ h => h.elim) (fun _ _ => trivial) ?p2b ?p3b ?p4b ?p5b ?_; (case p1b => exact hMy.out w5 w2.heap.size); (case p2b => exact HQ.out.1); (case p3b => exact HQ.out.2); (case p4b => exact (HQ.out.2).size); (case p5b => exact HL1.out); intro v1 w6 hR6 hB6 hg6 hat6; have H6 := Lib.hid (And.intro hR6 hB6); clear hR6 hB6 hg6 hat6))
                go_roundw
                case rel => exact ⟨j + 1, false, by go_num, by omega, rfl, Lib.hid ⟨by rw [HTK.out]; exact (out_old hJ.out.1 (by rw [HCW.out]; exact hneg)).1, by rw [HTK.out, (out_old hJ.out.1 (by rw [HCW.out]; exact hneg)).2]; exact H6.out.1, H6.out.2⟩⟩
                case measure => simp [intOf]; omega
            · go_upto_region 12 with (fail)
              refine start_ (n := 13) (S := fun w' => Below wr.heap.size wr w') (ds := []) (bs 13 0) (by kernel_rfl) rfl (by kernel_rfl) HB (fun hHeld => ?_)
              refine with_tabW rg22_12_tab rg22_12_bits (fun HT_ HW_ => ?_)
              refine pu 0 (some 30) (bs 13 1) HT_ rfl rfl (by kernel_rfl) (fun _ _ _ _ h => h) ⟨_, .inl ⟨by rfl, fun _ => by go_simp; with_reducible rfl⟩, _, by simp only [Act.put, sA, sB, sC, i64_w, i32_w]; rfl, ?_⟩
              refine pu 1 (some 31) (bs 13 3) HT_ rfl rfl (by kernel_rfl) (fun _ _ _ _ h => h) ⟨_, .inl ⟨by rfl, fun _ => by go_simp; with_reducible rfl⟩, _, by simp only [Act.put, sA, sB, sC, i64_w, i32_w]; rfl, ?_⟩
              refine pu 2 (some 32) (bs 13 7) HT_ rfl rfl (by kernel_rfl) (fun _ _ _ _ h => h) ⟨_, .inl ⟨by rfl, fun _ => by go_simp; with_reducible rfl⟩, _, by simp only [Act.put, sA, sB, sC, i64_w, i32_w]; rfl, ?_⟩
              refine pu 3 (some 33) (bs 13 15) HT_ rfl rfl (by kernel_rfl) (fun _ _ _ _ h => h) ⟨_, .inr ⟨by rfl, rfl⟩, _, by simp only [Act.put, sA, sB, sC, i64_w, i32_w]; rfl, ?_⟩
              refine pu 4 (some 34) (bs 13 31) HT_ rfl rfl (by kernel_rfl) (fun _ _ _ _ h => h) ⟨_, .inr ⟨by rfl, rfl⟩, _, by simp only [Act.put, sA, sB, sC, i64_w, i32_w]; rfl, ?_⟩
              refine pu 5 (some 35) (bs 13 63) HT_ rfl rfl (by kernel_rfl) (fun _ _ _ _ h => h) ⟨_, .inr ⟨by rfl, rfl⟩, _, by simp only [Act.put, sA, sB, sC, i64_w, i32_w]; rfl, ?_⟩
              refine pu 6 (some 36) (bs 13 127) HT_ rfl rfl (by kernel_rfl) (fun _ _ _ _ h => h) ⟨_, .inr ⟨by rfl, rfl⟩, _, by simp only [Act.put, sA, sB, sC, i64_w, i32_w]; rfl, ?_⟩
              refine pu 7 (some 37) (bs 13 255) HT_ rfl rfl (by kernel_rfl) (fun _ _ _ _ h => h) ⟨_, .inr ⟨by rfl, rfl⟩, _, by simp only [Act.put, sA, sB, sC, i64_w, i32_w]; rfl, ?_⟩
              refine pu 8 (some 38) (bs 13 511) HT_ rfl rfl (by kernel_rfl) (fun _ _ _ _ h => h) ⟨_, .inr ⟨by rfl, rfl⟩, _, by simp only [Act.put, sA, sB, sC, i64_w, i32_w]; rfl, ?_⟩
              refine pu 9 (some 39) (bs 13 1023) HT_ rfl rfl (by kernel_rfl) (fun _ _ _ _ h => h) ⟨_, .inr ⟨by rfl, rfl⟩, _, by simp only [Act.put, sA, sB, sC, i64_w, i32_w]; rfl, ?_⟩
              refine pu 10 (some 40) (bs 13 2047) HT_ rfl rfl (by kernel_rfl) (fun _ _ _ _ h => h) ⟨_, .inr ⟨by rfl, rfl⟩, _, by simp only [Act.put, sA, sB, sC, i64_w, i32_w]; rfl, ?_⟩
              refine pu 11 (some 41) (bs 13 4095) HT_ rfl rfl (by kernel_rfl) (fun _ _ _ _ h => h) ⟨_, .inr ⟨by rfl, rfl⟩, _, by simp only [Act.put, sA, sB, sC, i64_w, i32_w]; rfl, ?_⟩
              refine pu 12 (some 42) (bs 13 8191) HT_ rfl rfl (by kernel_rfl) (fun _ _ _ _ h => h) ⟨_, .inl ⟨by rfl, fun _ => by go_simp; with_reducible rfl⟩, _, by simp only [Act.put, sA, sB, sC, i64_w, i32_w]; rfl, ?_⟩
              refine done_ (done_of HT_.out (by kernel_rfl)) ?_
              have HQ := Lib.hid (And.intro (Kd.R_below hJ.out.2.1 HB) (belT hJ.out.2.2 HB))
              go_wp2_with (first
                | ((with_reducible refine wpList_load_any (op := ⟨some 51, _, _, _, _, _⟩) rfl 53 (.tmp 50) rfl (ad5.add (j * 32)) ?l1e ds _ ?l2e Tryz.underlying53 ?l3e ?l4e ?_); (case l1e => rfl); (case l2e => exact HYQF.out _ HQ.out.2); (case l3e => rfl); (case l4e => exact HD.out.2.2.1))
                | ((with_reducible refine wpList_build1 (op := ⟨some 52, _, _, _, _, _⟩) rfl 22 53 (.tmp 51) rfl ds ?d1e (.agg (Ob.zero.cells (.slice none 0 0) (.slice none 0 0))) 32 312 Tryz.underlying22 ?d3e ?d4e (by omega) (by omega) ?d5e ?_); (case d1e => rfl); (case d3e => exact infoO); (case d4e => exact HD.out.2.2.2.symm); (case d5e => rfl))
                | ((with_reducible refine gate_ (.call { callee := .builtin .append, args := #[.tmp 47, .tmp 52], argTypes := #[22, 22] }) rfl ?_); refine Kd.R_append kT (w0 := w2) (W := wr.drew) w2.heap.size rfl (.tmp 47) (.tmp 52) 22 53 (.agg (Ob.zero.cells (.slice none 0 0) (.slice none 0 0))) 312 rfl Tryz.underlying22 infoO rfl (by decide) (by decide) u6 (outP t (acc.take j)) y ds.toList (fun _ => True) (fun _ => False) rfl rfl ?p1e (fun _ h => h.elim) (fun _ _ => trivial) ?p2e ?p3e ?p4e ?p5e ?_; (case p1e => exact hMy.out wr.drew w2.heap.size); (case p2e => exact HQ.out.1); (case p3e => exact HQ.out.2); (case p4e => exact (HQ.out.2).size); (case p5e => exact HL1.out); intro v1 w6 hR6 hB6 hg6 hat6; have H6 := Lib.hid (And.intro hR6 hB6); clear hR6 hB6 hg6 hat6))
              go_roundw
              case rel => exact ⟨j + 1, true, by go_num, by omega, rfl, Lib.hid ⟨by rw [HTK.out]; exact (out_true hJ.out.1).1, by rw [HTK.out, (out_true hJ.out.1).2]; exact H6.out.1, H6.out.2⟩⟩
              case measure => simp [intOf]; omega
          · obtain rfl : j = m := by omega
            have hJ1 := hJ.out
            rw [List.take_of_length_le (Nat.le_of_eq HN.out.2.1.symm)] at hJ1
            have hJ' := Lib.hid hJ1
            have hol := out_len t acc
            rw [← HN.out.2.1] at hol
            have HL1 : Hid (((outP t acc).length + 1) * 312 ≤ 140737488355328) := Lib.hid (by omega)
            clear hJ1 hJ hol
            cases d
            · go_wp2_with (first
                | ((with_reducible refine wpList_load_blk (op := ⟨some 57, _, _, _, _, _⟩) rfl 53 (.tmp 5) rfl gx 53 ?l1z cs _ ?l2z Tryz.underlying53 ?l3z ?l4z ?_); (case l1z => rfl); (case l2z => exact blkB hJ'.out.2.2 HG.out); (case l3z => rfl); (case l4z => exact HC.out.2.2.1))
                | ((with_reducible refine wpList_build1 (op := ⟨some 58, _, _, _, _, _⟩) rfl 22 53 (.tmp 57) rfl cs ?d1z (.agg (Ob.zero.cells (.slice none 0 0) (.slice none 0 0))) 32 312 Tryz.underlying22 ?d3z ?d4z (by omega) (by omega) ?d5z ?_); (case d1z => rfl); (case d3z => exact infoO); (case d4z => exact HC.out.2.2.2.symm); (case d5z => rfl))
                | ((with_reducible refine gate_ (.call { callee := .builtin .append, args := #[.tmp 56, .tmp 58], argTypes := #[22, 22] }) rfl ?_); refine Kd.R_append kT (w0 := w2) (W := wr) w2.heap.size rfl (.tmp 56) (.tmp 58) 22 53 (.agg (Ob.zero.cells (.slice none 0 0) (.slice none 0 0))) 312 rfl Tryz.underlying22 infoO rfl (by decide) (by decide) u6 (outP t acc) t cs.toList (fun _ => True) (fun _ => False) rfl rfl ?p1z (fun _ h => h.elim) (fun _ _ => trivial) ?p2z ?p3z ?p4z ?p5z ?_; (case p1z => exact hM.out wr w2.heap.size); (case p2z => exact hJ'.out.2.1); (case p3z => exact hJ'.out.2.2); (case p4z => exact (hJ'.out.2.2).size); (case p5z => exact HL1.out); intro v1 w6 hR6 hB6 hg6 hat6; have H6 := Lib.hid (And.intro hR6 hB6); clear hR6 hB6 hg6 hat6))
              go_roundw
              case rel => exact ⟨k + 1, by go_num, by omega, Lib.hid ⟨by rw [HS.out, out_end hJ'.out.1]; exact Kd.R_lower H6.out.1 HBX.out.size, belT HBX.out H6.out.2⟩⟩
              case measure => simp [intOf]; omega
            · go_wp2
              go_roundw
              case rel => exact ⟨k + 1, by go_num, by omega, Lib.hid ⟨by rw [HS.out, out_all hJ'.out.1]; exact Kd.R_lower hJ'.out.2.1 HBX.out.size, belT HBX.out (hJ'.out.2.2)⟩⟩
              case measure => simp [intOf]; omega
    · obtain rfl : n = k := by omega
      have hI1 := hI.out.1
      rw [List.take_of_length_le (Nat.le_of_eq HL.out)] at hI1
      have HI1 := Lib.hid (And.intro (Kd.R_lower hI1 (Nat.le_of_lt hlt0.out)) (belT HB0.out hI.out.2))
      clear hI1
      go_wp2
      go_ret
      exact ⟨_, rfl, HI1.out.1, HI1.out.2⟩
end Go.Proofs.YtoepbjgldmgaoaaGreatDoor

/- The victims in their order, plainly. -/
namespace Go.Proofs.YtoepbjgldmgaoaaGreatDoor
open Go.RowKit Go.Proofs.YtoepbjgldmgaoaaGreatDoorW.PrintWords Go.Proofs.YtoepbjgldmgaoaaGreatDoorW.PrintLast
def cO (a b : Ob) : Int := cV a.pk b.pk
theorem cO_cmp : Wc.IsCmp cO := cV_cmp.on Ob.pk
theorem sortV_length (l : List Ob) : (sortV l).length = l.length := Srt.isort_length l
theorem mem_live (l : List Ob) (o : Ob) : o ∈ live l ↔ o ∈ l ∧ o.ending = false := by simp [live]
theorem live_length (l : List Ob) : (live l).length ≤ l.length := List.length_filter_le _ _
theorem victF_len (l : List Ob) (n : Int) : (victF l n).length = headN n (live l).length := by
  unfold victF
  rw [List.length_take, sortV_length]
  unfold headN
  omega
end Go.Proofs.YtoepbjgldmgaoaaGreatDoor

/- An object that is an argument, opened: the parts that rank.Less looks at. -/
namespace Go.Proofs.YtoepbjgldmgaoaaGreatDoor
open Go.ChangeShapes Go.WideShapes Go.RowKit
theorem okWide_agg {P : Program} {W : World} {r : Reach} {b0 : Nat} {t : TypeId} {fs : Array Field} {v : Value} (ht : P.underlying t = some (.struct fs)) (h : Value.okWide P W r b0 t v) : ∃ cs, v = .agg cs ∧ cs.size = P.cellsOf t := by
  unfold Value.okWide at h
  rw [ht] at h
  obtain ⟨cs, h1, h2, _⟩ := h
  exact ⟨cs, h1, h2⟩
end Go.Proofs.YtoepbjgldmgaoaaGreatDoor

/- Objects, and lists of objects, that are arguments: opened. -/
namespace Go.Proofs.YtoepbjgldmgaoaaGreatDoor
set_option maxRecDepth 100000
open Go.ChangeShapes Go.WideShapes Go.RowKit Go.Proofs.YtoepbjgldmgaoaaGreatDoorW.PrintWords
theorem weights_mem_all {H : Type} {P : Program} {e : TypeId} : ∀ {ds : List (DataW H)} {j : Nat} {d : DataW H}, ds[j]? = some d → ∀ n ∈ d.weights P e, n ∈ DataW.weightsAll P e ds
  | [], _, _, h, _, _ => by simp at h
  | d0 :: ds, 0, d, h, n, hn => by
    obtain rfl : d0 = d := by simpa using h
    simp only [DataW.weightsAll, List.mem_append]
    exact .inl hn
  | d0 :: ds, j + 1, d, h, n, hn => by
    simp only [DataW.weightsAll, List.mem_append]
    exact .inr (weights_mem_all (by simpa using h) n hn)
section
variable {H : Type} {enc : TypeId × Value → H} {W : World} {base : Nat} {spare : Nat → Bool} {held : Bool}
set_option maxRecDepth 100000 in
theorem open_labels {fuel : Nat} {cs : List Value} {x : DataW H × List MemPlace} (hw : ∀ n ∈ x.1.weights Tryz.prog 48, n ≤ reachBytes) (h : DataW.trod enc Tryz.prog W base spare held fuel 48 cs = some x) :
    ∃ v l, cs = [v] ∧ LabK W l v ∧ l.length ≤ 4398046510976 := by
  rcases Deep.open_slice_pairs Tryz.underlying48 Tryz.underlying60 (by kernel_rfl) rfl rfl (by kernel_rfl) (by kernel_rfl) h with ⟨hcs, hx⟩ | ⟨a, len, cap, m, n, V0, V1, D0, D1, P0, P1, hcs, hb, hl, hm, hmm, hx, hc⟩
  · subst hcs
    exact ⟨_, [], rfl, ⟨none, 0, rfl, Nat.le_refl _, Kd.C_nil _ _⟩, by simp⟩
  · subst hcs
    subst hx
    have hlm : len ≤ m := by rw [hmm]; split <;> omega
    have z : (len + (m - len)) * Tryz.prog.bytesOf 60 ≤ reachBytes := hw _ (by
      unfold DataW.weights
      rw [Tryz.underlying48]
      simp)
    rw [show Tryz.prog.bytesOf 60 = 32 by kernel_rfl] at z
    have each : ∀ i, i < len → ∃ p : Lab, W.cell? (a.add (i * 2)) = some (.string p.f0) ∧ W.cell? (a.add (i * 2 + 1)) = some (.string p.f1) := by
      intro i hi
      obtain ⟨h1, h2, h3, h4⟩ := hc i (by omega)
      obtain ⟨a0, e0, _, _⟩ := DataW.trod_string Tryz.underlying9 h3
      obtain ⟨a1, e1, _, _⟩ := DataW.trod_string Tryz.underlying9 h4
      simp at e0 e1
      exact ⟨⟨a0, a1⟩, by rw [h1, e0], by rw [h2, e1]⟩
    haveI : Inhabited Lab := ⟨⟨ByteArray.empty, ByteArray.empty⟩⟩
    obtain ⟨f, hf'⟩ := Deep.choose_lt each
    have hlen : ((List.range len).map f).length = len := by simp
    unfold reachBytes at z
    refine ⟨_, (List.range len).map f, rfl, ⟨some a, cap, by rw [hlen], by rw [hlen]; exact hl, ?_⟩, by rw [hlen]; omega⟩
    rw [hlen]
    refine ⟨hlen, by omega, fun _ => ⟨a, rfl, fun j p hj => ?_⟩⟩
    have hjl : j < len := by have := (List.getElem?_eq_some_iff.1 hj).1; rw [hlen] at this; exact this
    have hp : f j = p := by simpa [List.getElem?_range hjl] using hj
    subst hp
    refine ⟨[.string (f j).f0, .string (f j).f1], rfl, QLb.k60_mk W (f j), fun i u hu => ?_⟩
    match i with
    | 0 => obtain rfl : Value.string (f j).f0 = u := by simpa using hu
           exact (hf' j hjl).1
    | 1 => obtain rfl : Value.string (f j).f1 = u := by simpa using hu
           exact (hf' j hjl).2
    | i + 2 => simp at hu
def Ob.ints (o : Ob) : List Int := [o.kind, o.version, o.born, o.roomC, o.roomM, o.beat, o.phase, o.needC, o.needM, o.rise, o.fall, o.count, o.surge, o.slack, o.least, o.term, o.till]
def ObInts (o : Ob) : Prop := ∀ z ∈ o.ints, -9223372036854775808 ≤ z ∧ z ≤ 9223372036854775807
set_option maxRecDepth 100000 in
set_option maxHeartbeats 1000000 in
theorem open_obj {fuel : Nat} {cs : List Value} {x : DataW H × List MemPlace} (hw : ∀ n ∈ x.1.weights Tryz.prog 53, n ≤ reachBytes) (h : DataW.trod enc Tryz.prog W base spare held fuel 53 cs = some x) :
    ∃ o v4 v27, cs = (o.cells v4 v27).toList ∧ LabK W o.labels v4 ∧ LabK W o.select v27 ∧ ObFits o ∧ ObInts o := by
  have hu := Tryz.underlying53
  obtain ⟨xs, m, _, hx, hlen, hl, hfd⟩ := DataW.trod_struct hu h
  rw [show Tryz.prog.cellsOf 53 = 32 by kernel_rfl] at hlen
  have hwd : ∀ (j : Nat) (t : TypeId) (y : DataW H × List MemPlace), xs[j]? = some y → (Program.underlying Tryz.prog 53).elim none (fun d => match d with | .struct fs => (fs.toList.map (·.type))[j]? | _ => none) = some t → ∀ n ∈ y.1.weights Tryz.prog t, n ≤ reachBytes := fun j t y hy ht n hn => hw n (by
    rw [hx]
    unfold DataW.weights
    rw [hu] at ht ⊢
    exact DataW.weights_mem_each (j := j) (t := t) (d := y.1) ht (by simp [hy]) n hn)
  rw [hu] at hwd
  have c1 : Tryz.prog.cellsOf 9 = 1 := by kernel_rfl
  have c2 : Tryz.prog.cellsOf 3 = 1 := by kernel_rfl
  have c3 : Tryz.prog.cellsOf 4 = 1 := by kernel_rfl
  have c4 : Tryz.prog.cellsOf 51 = 1 := by kernel_rfl
  have c5 : Tryz.prog.cellsOf 48 = 1 := by kernel_rfl
  have c6 : Tryz.prog.cellsOf 50 = 2 := by kernel_rfl
  have ex : ∀ j, j < 30 → ∃ y, xs[j]? = some y := fun j hj => ⟨_, List.getElem?_eq_getElem (by rw [hl]; exact hj)⟩
  have f0 : DataW.trod enc Tryz.prog W base spare held m 3 ((cs.drop 0).take (Tryz.prog.cellsOf 3)) = xs[0]? := hfd 0 _ rfl
  rw [c2] at f0
  obtain ⟨y0, e0⟩ := ex 0 (by omega)
  rw [e0] at f0
  clear e0
  have f1 : DataW.trod enc Tryz.prog W base spare held m 9 ((cs.drop 1).take (Tryz.prog.cellsOf 9)) = xs[1]? := hfd 1 _ rfl
  rw [c1] at f1
  obtain ⟨y1, e1⟩ := ex 1 (by omega)
  rw [e1] at f1
  have w1 := hwd 1 9 y1 e1 rfl
  clear e1
  have f2 : DataW.trod enc Tryz.prog W base spare held m 3 ((cs.drop 2).take (Tryz.prog.cellsOf 3)) = xs[2]? := hfd 2 _ rfl
  rw [c2] at f2
  obtain ⟨y2, e2⟩ := ex 2 (by omega)
  rw [e2] at f2
  clear e2
  have f3 : DataW.trod enc Tryz.prog W base spare held m 3 ((cs.drop 3).take (Tryz.prog.cellsOf 3)) = xs[3]? := hfd 3 _ rfl
  rw [c2] at f3
  obtain ⟨y3, e3⟩ := ex 3 (by omega)
  rw [e3] at f3
  clear e3
  have f4 : DataW.trod enc Tryz.prog W base spare held m 48 ((cs.drop 4).take (Tryz.prog.cellsOf 48)) = xs[4]? := hfd 4 _ rfl
  rw [c5] at f4
  obtain ⟨y4, e4⟩ := ex 4 (by omega)
  rw [e4] at f4
  have w4 := hwd 4 48 y4 e4 rfl
  clear e4
  have f5 : DataW.trod enc Tryz.prog W base spare held m 50 ((cs.drop 5).take (Tryz.prog.cellsOf 50)) = xs[5]? := hfd 5 _ rfl
  rw [c6] at f5
  obtain ⟨y5, e5⟩ := ex 5 (by omega)
  rw [e5] at f5
  clear e5
  have f6 : DataW.trod enc Tryz.prog W base spare held m 4 ((cs.drop 7).take (Tryz.prog.cellsOf 4)) = xs[6]? := hfd 6 _ rfl
  rw [c3] at f6
  obtain ⟨y6, e6⟩ := ex 6 (by omega)
  rw [e6] at f6
  clear e6
  have f7 : DataW.trod enc Tryz.prog W base spare held m 4 ((cs.drop 8).take (Tryz.prog.cellsOf 4)) = xs[7]? := hfd 7 _ rfl
  rw [c3] at f7
  obtain ⟨y7, e7⟩ := ex 7 (by omega)
  rw [e7] at f7
  clear e7
  have f8 : DataW.trod enc Tryz.prog W base spare held m 4 ((cs.drop 9).take (Tryz.prog.cellsOf 4)) = xs[8]? := hfd 8 _ rfl
  rw [c3] at f8
  obtain ⟨y8, e8⟩ := ex 8 (by omega)
  rw [e8] at f8
  clear e8
  have f9 : DataW.trod enc Tryz.prog W base spare held m 3 ((cs.drop 10).take (Tryz.prog.cellsOf 3)) = xs[9]? := hfd 9 _ rfl
  rw [c2] at f9
  obtain ⟨y9, e9⟩ := ex 9 (by omega)
  rw [e9] at f9
  clear e9
  have f10 : DataW.trod enc Tryz.prog W base spare held m 9 ((cs.drop 11).take (Tryz.prog.cellsOf 9)) = xs[10]? := hfd 10 _ rfl
  rw [c1] at f10
  obtain ⟨y10, e10⟩ := ex 10 (by omega)
  rw [e10] at f10
  have w10 := hwd 10 9 y10 e10 rfl
  clear e10
  have f11 : DataW.trod enc Tryz.prog W base spare held m 9 ((cs.drop 12).take (Tryz.prog.cellsOf 9)) = xs[11]? := hfd 11 _ rfl
  rw [c1] at f11
  obtain ⟨y11, e11⟩ := ex 11 (by omega)
  rw [e11] at f11
  have w11 := hwd 11 9 y11 e11 rfl
  clear e11
  have f12 : DataW.trod enc Tryz.prog W base spare held m 9 ((cs.drop 13).take (Tryz.prog.cellsOf 9)) = xs[12]? := hfd 12 _ rfl
  rw [c1] at f12
  obtain ⟨y12, e12⟩ := ex 12 (by omega)
  rw [e12] at f12
  have w12 := hwd 12 9 y12 e12 rfl
  clear e12
  have f13 : DataW.trod enc Tryz.prog W base spare held m 3 ((cs.drop 14).take (Tryz.prog.cellsOf 3)) = xs[13]? := hfd 13 _ rfl
  rw [c2] at f13
  obtain ⟨y13, e13⟩ := ex 13 (by omega)
  rw [e13] at f13
  clear e13
  have f14 : DataW.trod enc Tryz.prog W base spare held m 4 ((cs.drop 15).take (Tryz.prog.cellsOf 4)) = xs[14]? := hfd 14 _ rfl
  rw [c3] at f14
  obtain ⟨y14, e14⟩ := ex 14 (by omega)
  rw [e14] at f14
  clear e14
  have f15 : DataW.trod enc Tryz.prog W base spare held m 4 ((cs.drop 16).take (Tryz.prog.cellsOf 4)) = xs[15]? := hfd 15 _ rfl
  rw [c3] at f15
  obtain ⟨y15, e15⟩ := ex 15 (by omega)
  rw [e15] at f15
  clear e15
  have f16 : DataW.trod enc Tryz.prog W base spare held m 50 ((cs.drop 17).take (Tryz.prog.cellsOf 50)) = xs[16]? := hfd 16 _ rfl
  rw [c6] at f16
  obtain ⟨y16, e16⟩ := ex 16 (by omega)
  rw [e16] at f16
  clear e16
  have f17 : DataW.trod enc Tryz.prog W base spare held m 9 ((cs.drop 19).take (Tryz.prog.cellsOf 9)) = xs[17]? := hfd 17 _ rfl
  rw [c1] at f17
  obtain ⟨y17, e17⟩ := ex 17 (by omega)
  rw [e17] at f17
  have w17 := hwd 17 9 y17 e17 rfl
  clear e17
  have f18 : DataW.trod enc Tryz.prog W base spare held m 3 ((cs.drop 20).take (Tryz.prog.cellsOf 3)) = xs[18]? := hfd 18 _ rfl
  rw [c2] at f18
  obtain ⟨y18, e18⟩ := ex 18 (by omega)
  rw [e18] at f18
  clear e18
  have f19 : DataW.trod enc Tryz.prog W base spare held m 3 ((cs.drop 21).take (Tryz.prog.cellsOf 3)) = xs[19]? := hfd 19 _ rfl
  rw [c2] at f19
  obtain ⟨y19, e19⟩ := ex 19 (by omega)
  rw [e19] at f19
  clear e19
  have f20 : DataW.trod enc Tryz.prog W base spare held m 3 ((cs.drop 22).take (Tryz.prog.cellsOf 3)) = xs[20]? := hfd 20 _ rfl
  rw [c2] at f20
  obtain ⟨y20, e20⟩ := ex 20 (by omega)
  rw [e20] at f20
  clear e20
  have f21 : DataW.trod enc Tryz.prog W base spare held m 3 ((cs.drop 23).take (Tryz.prog.cellsOf 3)) = xs[21]? := hfd 21 _ rfl
  rw [c2] at f21
  obtain ⟨y21, e21⟩ := ex 21 (by omega)
  rw [e21] at f21
  clear e21
  have f22 : DataW.trod enc Tryz.prog W base spare held m 3 ((cs.drop 24).take (Tryz.prog.cellsOf 3)) = xs[22]? := hfd 22 _ rfl
  rw [c2] at f22
  obtain ⟨y22, e22⟩ := ex 22 (by omega)
  rw [e22] at f22
  clear e22
  have f23 : DataW.trod enc Tryz.prog W base spare held m 4 ((cs.drop 25).take (Tryz.prog.cellsOf 4)) = xs[23]? := hfd 23 _ rfl
  rw [c3] at f23
  obtain ⟨y23, e23⟩ := ex 23 (by omega)
  rw [e23] at f23
  clear e23
  have f24 : DataW.trod enc Tryz.prog W base spare held m 51 ((cs.drop 26).take (Tryz.prog.cellsOf 51)) = xs[24]? := hfd 24 _ rfl
  rw [c4] at f24
  obtain ⟨y24, e24⟩ := ex 24 (by omega)
  rw [e24] at f24
  clear e24
  have f25 : DataW.trod enc Tryz.prog W base spare held m 48 ((cs.drop 27).take (Tryz.prog.cellsOf 48)) = xs[25]? := hfd 25 _ rfl
  rw [c5] at f25
  obtain ⟨y25, e25⟩ := ex 25 (by omega)
  rw [e25] at f25
  have w25 := hwd 25 48 y25 e25 rfl
  clear e25
  have f26 : DataW.trod enc Tryz.prog W base spare held m 3 ((cs.drop 28).take (Tryz.prog.cellsOf 3)) = xs[26]? := hfd 26 _ rfl
  rw [c2] at f26
  obtain ⟨y26, e26⟩ := ex 26 (by omega)
  rw [e26] at f26
  clear e26
  have f27 : DataW.trod enc Tryz.prog W base spare held m 9 ((cs.drop 29).take (Tryz.prog.cellsOf 9)) = xs[27]? := hfd 27 _ rfl
  rw [c1] at f27
  obtain ⟨y27, e27⟩ := ex 27 (by omega)
  rw [e27] at f27
  have w27 := hwd 27 9 y27 e27 rfl
  clear e27
  have f28 : DataW.trod enc Tryz.prog W base spare held m 3 ((cs.drop 30).take (Tryz.prog.cellsOf 3)) = xs[28]? := hfd 28 _ rfl
  rw [c2] at f28
  obtain ⟨y28, e28⟩ := ex 28 (by omega)
  rw [e28] at f28
  clear e28
  have f29 : DataW.trod enc Tryz.prog W base spare held m 3 ((cs.drop 31).take (Tryz.prog.cellsOf 3)) = xs[29]? := hfd 29 _ rfl
  rw [c2] at f29
  obtain ⟨y29, e29⟩ := ex 29 (by omega)
  rw [e29] at f29
  clear e29
  clear hwd hw hx hfd ex h
  match cs, hlen with
  | [c0, c1, c2, c3, c4, c5, c6, c7, c8, c9, c10, c11, c12, c13, c14, c15, c16, c17, c18, c19, c20, c21, c22, c23, c24, c25, c26, c27, c28, c29, c30, c31], _ =>
    simp only [List.drop_succ_cons, List.drop_zero, List.take_succ_cons, List.take_zero] at f0
    obtain ⟨g0, h0, _, b0⟩ := DataW.trod_int Tryz.underlying3 f0
    obtain rfl : c0 = _ := by simpa using h0
    simp only [List.drop_succ_cons, List.drop_zero, List.take_succ_cons, List.take_zero] at f1
    obtain ⟨g1, h1, x1, _⟩ := DataW.trod_string Tryz.underlying9 f1
    obtain rfl : c1 = _ := by simpa using h1
    simp only [List.drop_succ_cons, List.drop_zero, List.take_succ_cons, List.take_zero] at f2
    obtain ⟨g2, h2, _, b2⟩ := DataW.trod_int Tryz.underlying3 f2
    obtain rfl : c2 = _ := by simpa using h2
    simp only [List.drop_succ_cons, List.drop_zero, List.take_succ_cons, List.take_zero] at f3
    obtain ⟨g3, h3, _, b3⟩ := DataW.trod_int Tryz.underlying3 f3
    obtain rfl : c3 = _ := by simpa using h3
    simp only [List.drop_succ_cons, List.drop_zero, List.take_succ_cons, List.take_zero] at f4
    obtain ⟨g4, l4, h4, K4, z4⟩ := open_labels w4 f4
    obtain rfl : c4 = _ := by simpa using h4
    simp only [List.drop_succ_cons, List.drop_zero, List.take_succ_cons, List.take_zero] at f5
    obtain ⟨p5, q5, m5, _, _, s5, t5⟩ := trod_struct2 Tryz.underlying50 f5
    simp only [c2, List.drop_succ_cons, List.drop_zero, List.take_succ_cons, List.take_zero] at s5 t5
    obtain ⟨g5, h5, _, b5⟩ := DataW.trod_int Tryz.underlying3 s5
    obtain ⟨g5', h5', _, b5'⟩ := DataW.trod_int Tryz.underlying3 t5
    obtain rfl : c5 = _ := by simpa using h5
    obtain rfl : c6 = _ := by simpa using h5'
    simp only [List.drop_succ_cons, List.drop_zero, List.take_succ_cons, List.take_zero] at f6
    obtain ⟨g6, h6, _⟩ := DataW.trod_bool Tryz.underlying4 f6
    obtain rfl : c7 = _ := by simpa using h6
    simp only [List.drop_succ_cons, List.drop_zero, List.take_succ_cons, List.take_zero] at f7
    obtain ⟨g7, h7, _⟩ := DataW.trod_bool Tryz.underlying4 f7
    obtain rfl : c8 = _ := by simpa using h7
    simp only [List.drop_succ_cons, List.drop_zero, List.take_succ_cons, List.take_zero] at f8
    obtain ⟨g8, h8, _⟩ := DataW.trod_bool Tryz.underlying4 f8
    obtain rfl : c9 = _ := by simpa using h8
    simp only [List.drop_succ_cons, List.drop_zero, List.take_succ_cons, List.take_zero] at f9
    obtain ⟨g9, h9, _, b9⟩ := DataW.trod_int Tryz.underlying3 f9
    obtain rfl : c10 = _ := by simpa using h9
    simp only [List.drop_succ_cons, List.drop_zero, List.take_succ_cons, List.take_zero] at f10
    obtain ⟨g10, h10, x10, _⟩ := DataW.trod_string Tryz.underlying9 f10
    obtain rfl : c11 = _ := by simpa using h10
    simp only [List.drop_succ_cons, List.drop_zero, List.take_succ_cons, List.take_zero] at f11
    obtain ⟨g11, h11, x11, _⟩ := DataW.trod_string Tryz.underlying9 f11
    obtain rfl : c12 = _ := by simpa using h11
    simp only [List.drop_succ_cons, List.drop_zero, List.take_succ_cons, List.take_zero] at f12
    obtain ⟨g12, h12, x12, _⟩ := DataW.trod_string Tryz.underlying9 f12
    obtain rfl : c13 = _ := by simpa using h12
    simp only [List.drop_succ_cons, List.drop_zero, List.take_succ_cons, List.take_zero] at f13
    obtain ⟨g13, h13, _, b13⟩ := DataW.trod_int Tryz.underlying3 f13
    obtain rfl : c14 = _ := by simpa using h13
    simp only [List.drop_succ_cons, List.drop_zero, List.take_succ_cons, List.take_zero] at f14
    obtain ⟨g14, h14, _⟩ := DataW.trod_bool Tryz.underlying4 f14
    obtain rfl : c15 = _ := by simpa using h14
    simp only [List.drop_succ_cons, List.drop_zero, List.take_succ_cons, List.take_zero] at f15
    obtain ⟨g15, h15, _⟩ := DataW.trod_bool Tryz.underlying4 f15
    obtain rfl : c16 = _ := by simpa using h15
    simp only [List.drop_succ_cons, List.drop_zero, List.take_succ_cons, List.take_zero] at f16
    obtain ⟨p16, q16, m16, _, _, s16, t16⟩ := trod_struct2 Tryz.underlying50 f16
    simp only [c2, List.drop_succ_cons, List.drop_zero, List.take_succ_cons, List.take_zero] at s16 t16
    obtain ⟨g16, h16, _, b16⟩ := DataW.trod_int Tryz.underlying3 s16
    obtain ⟨g16', h16', _, b16'⟩ := DataW.trod_int Tryz.underlying3 t16
    obtain rfl : c17 = _ := by simpa using h16
    obtain rfl : c18 = _ := by simpa using h16'
    simp only [List.drop_succ_cons, List.drop_zero, List.take_succ_cons, List.take_zero] at f17
    obtain ⟨g17, h17, x17, _⟩ := DataW.trod_string Tryz.underlying9 f17
    obtain rfl : c19 = _ := by simpa using h17
    simp only [List.drop_succ_cons, List.drop_zero, List.take_succ_cons, List.take_zero] at f18
    obtain ⟨g18, h18, _, b18⟩ := DataW.trod_int Tryz.underlying3 f18
    obtain rfl : c20 = _ := by simpa using h18
    simp only [List.drop_succ_cons, List.drop_zero, List.take_succ_cons, List.take_zero] at f19
    obtain ⟨g19, h19, _, b19⟩ := DataW.trod_int Tryz.underlying3 f19
    obtain rfl : c21 = _ := by simpa using h19
    simp only [List.drop_succ_cons, List.drop_zero, List.take_succ_cons, List.take_zero] at f20
    obtain ⟨g20, h20, _, b20⟩ := DataW.trod_int Tryz.underlying3 f20
    obtain rfl : c22 = _ := by simpa using h20
    simp only [List.drop_succ_cons, List.drop_zero, List.take_succ_cons, List.take_zero] at f21
    obtain ⟨g21, h21, _, b21⟩ := DataW.trod_int Tryz.underlying3 f21
    obtain rfl : c23 = _ := by simpa using h21
    simp only [List.drop_succ_cons, List.drop_zero, List.take_succ_cons, List.take_zero] at f22
    obtain ⟨g22, h22, _, b22⟩ := DataW.trod_int Tryz.underlying3 f22
    obtain rfl : c24 = _ := by simpa using h22
    simp only [List.drop_succ_cons, List.drop_zero, List.take_succ_cons, List.take_zero] at f23
    obtain ⟨g23, h23, _⟩ := DataW.trod_bool Tryz.underlying4 f23
    obtain rfl : c25 = _ := by simpa using h23
    simp only [List.drop_succ_cons, List.drop_zero, List.take_succ_cons, List.take_zero] at f24
    obtain ⟨g24, h24, _, b24⟩ := DataW.trod_int Tryz.underlying51 f24
    obtain rfl : c26 = _ := by simpa using h24
    simp only [List.drop_succ_cons, List.drop_zero, List.take_succ_cons, List.take_zero] at f25
    obtain ⟨g25, l25, h25, K25, z25⟩ := open_labels w25 f25
    obtain rfl : c27 = _ := by simpa using h25
    simp only [List.drop_succ_cons, List.drop_zero, List.take_succ_cons, List.take_zero] at f26
    obtain ⟨g26, h26, _, b26⟩ := DataW.trod_int Tryz.underlying3 f26
    obtain rfl : c28 = _ := by simpa using h26
    simp only [List.drop_succ_cons, List.drop_zero, List.take_succ_cons, List.take_zero] at f27
    obtain ⟨g27, h27, x27, _⟩ := DataW.trod_string Tryz.underlying9 f27
    obtain rfl : c29 = _ := by simpa using h27
    simp only [List.drop_succ_cons, List.drop_zero, List.take_succ_cons, List.take_zero] at f28
    obtain ⟨g28, h28, _, b28⟩ := DataW.trod_int Tryz.underlying3 f28
    obtain rfl : c30 = _ := by simpa using h28
    simp only [List.drop_succ_cons, List.drop_zero, List.take_succ_cons, List.take_zero] at f29
    obtain ⟨g29, h29, _, b29⟩ := DataW.trod_int Tryz.underlying3 f29
    obtain rfl : c31 = _ := by simpa using h29
    refine ⟨⟨g0, g1, g2, g3, l4, g5, g5', g6, g7, g8, g9, g10, g11, g12, g13, g14, g15, g16, g16', g17, g18, g19, g20, g21, g22, g23, g24, l25, g26, g27, g28, g29⟩, c4, c27, rfl, K4, K25, ⟨?_, z4, z25⟩, ?_⟩
    · have hz : g1.data.toList.length ≤ reachBytes := w1 _ (by rw [x1]; simp [DataW.weights])
      rw [Array.length_toList] at hz
      exact hz
    · intro z hz
      simp only [Ob.ints, List.mem_cons, List.not_mem_nil, or_false] at hz
      rcases hz with rfl | rfl | rfl | rfl | rfl | rfl | rfl | rfl | rfl | rfl | rfl | rfl | rfl | rfl | rfl | rfl | rfl
      all_goals (first | exact bounds_i64 b0 | exact bounds_i64 b2 | exact bounds_i64 b3 | exact bounds_i64 b5 | exact bounds_i64 b5' | exact bounds_i64 b9 | exact bounds_i64 b13 | exact bounds_i64 b16 | exact bounds_i64 b16' | exact bounds_i64 b18 | exact bounds_i64 b19 | exact bounds_i64 b20 | exact bounds_i64 b21 | exact bounds_i64 b22 | exact bounds_i64 b26 | exact bounds_i64 b28 | exact bounds_i64 b29)
set_option maxRecDepth 100000 in
theorem open_objs {fuel : Nat} {cs : List Value} {x : DataW H × List MemPlace} (hw : ∀ n ∈ x.1.weights Tryz.prog 22, n ≤ reachBytes) (h : DataW.trod enc Tryz.prog W base spare held fuel 22 cs = some x) :
    ∃ A c l, cs = [.slice A l.length c] ∧ l.length ≤ c ∧ kO.C W A l.length l ∧ (∀ o ∈ l, ObFits o ∧ ObInts o) ∧ l.length * 312 ≤ 140737488351232 := by
  rcases Deep.open_slice Tryz.underlying22 h with ⟨hcs, hx⟩ | ⟨a, len, cap, m, n, D, Pl, hcs, hb, hl, hm, hmm, hx, hc⟩
  · subst hcs
    exact ⟨none, 0, [], rfl, Nat.le_refl _, Kd.C_nil _ _, fun o ho => absurd ho List.not_mem_nil, by simp⟩
  · subst hcs
    subst hx
    have hlm : len ≤ m := by rw [hmm]; split <;> omega
    have z : (len + (m - len)) * Tryz.prog.bytesOf 53 ≤ reachBytes := hw _ (by
      unfold DataW.weights
      rw [Tryz.underlying22]
      simp)
    rw [show Tryz.prog.bytesOf 53 = 312 by kernel_rfl] at z
    unfold reachBytes at z
    have each : ∀ i, i < len → ∃ q : Ob × Value × Value, LabK W q.1.labels q.2.1 ∧ LabK W q.1.select q.2.2 ∧ (∀ j u, (q.1.cells q.2.1 q.2.2)[j]? = some u → W.cell? (a.add (i * 32 + j)) = some u) ∧ ObFits q.1 ∧ ObInts q.1 := by
      intro i hi
      obtain ⟨cs', h1, h2⟩ := hc i (by omega)
      rw [show Tryz.prog.cellsOf 53 = 32 by kernel_rfl] at h1
      obtain ⟨_, hlen, hcell⟩ := World.cells?_some h1
      obtain ⟨o, v4, v27, rfl, k4, k27, hf, hi'⟩ := open_obj (x := (D i, Pl i)) (fun n hn => hw n (by
        unfold DataW.weights
        rw [Tryz.underlying22]
        refine List.mem_cons_of_mem _ (List.mem_append.2 (.inl ?_))
        exact weights_mem_all (j := i) (d := D i) (by simp [hi]) n hn)) h2
      refine ⟨(o, v4, v27), k4, k27, fun j u hu => ?_, hf, hi'⟩
      have hj : j < 32 := by
        have := (Array.getElem?_eq_some_iff.1 hu).1
        rwa [Ob.cells_size] at this
      have := hcell j hj
      rw [add_add] at this
      rw [this]
      simpa using hu
    haveI : Inhabited (Ob × Value × Value) := ⟨(Ob.zero, .slice none 0 0, .slice none 0 0)⟩
    obtain ⟨f, hf'⟩ := Deep.choose_lt each
    have hlen : ((List.range len).map fun i => (f i).1).length = len := by simp
    refine ⟨some a, cap, (List.range len).map fun i => (f i).1, by rw [hlen], by rw [hlen]; exact hl, ?_, ?_, by rw [hlen]; omega⟩
    · rw [hlen]
      refine ⟨hlen, by omega, fun _ => ⟨a, rfl, fun j p hj => ?_⟩⟩
      have hjl : j < len := by have := (List.getElem?_eq_some_iff.1 hj).1; rw [hlen] at this; exact this
      have hp : (f j).1 = p := by simpa [List.getElem?_range hjl] using hj
      subst hp
      obtain ⟨k4, k27, hcell, _, _⟩ := hf' j hjl
      exact ⟨((f j).1.cells (f j).2.1 (f j).2.2).toList, by rw [Array.length_toList, Ob.cells_size]; rfl, ⟨_, _, rfl, k4, k27⟩, fun i u hu => hcell i u (by simpa using hu)⟩
    · intro o ho
      obtain ⟨j, hj, rfl⟩ := List.mem_map.1 ho
      exact ⟨(hf' j (List.mem_range.1 hj)).2.2.2.1, (hf' j (List.mem_range.1 hj)).2.2.2.2⟩
end
end Go.Proofs.YtoepbjgldmgaoaaGreatDoor

/- flotillaref24.Victims: each object that isn't ending is put in from behind; the first ones of them. -/
namespace Go.Proofs.YtoepbjgldmgaoaaGreatDoor
open Go.RowKit Go.Proofs.YtoepbjgldmgaoaaGreatDoorW.PrintWords Go.Proofs.YtoepbjgldmgaoaaGreatDoorW.PrintLast
attribute [local go_sem] Go.Proofs.YtoepbjgldmgaoaaGreatDoorW.PrintMore.max_two Go.Proofs.YtoepbjgldmgaoaaGreatDoorW.PrintMore.min_two
theorem lab_ne_obj {w : World} {k : Nat} (h : ∃ cells, w.heap[k]? = some (.cells cells 60 (0, 0))) (g : ∃ cells, w.heap[k]? = some (.cells cells 53 (0, 0))) : False := by
  obtain ⟨a, ha⟩ := h
  obtain ⟨b, hb⟩ := g
  rw [ha] at hb
  injection hb with hb
  injection hb with _ hb
  exact absurd hb (by decide)
theorem ref_rows {wo w4 w5 w6 : World} {base : Nat} {A5 : Option Addr} {t c5 : Nat} {acc ys : List Ob} {v8 : Value} (hR : kO.R 53 wo base (fun _ => True) (.slice A5 acc.length c5) acc) (hV : kO.R 53 w4 wo.heap.size (fun _ => True) v8 ys) (hb : Below w4.heap.size w4 w5)
    (hg : w5.grownBy w6 (Value.slice A5 t c5).ownBlock) (hbase : base ≤ wo.heap.size) :
    ∃ A c, v8 = .slice A ys.length c ∧ ReadsRow (fun x cs => kO.M w6 base (fun k => ∃ cells, w6.heap[k]? = some (.cells cells 60 (0, 0))) x cs) kO.sz w6 A ys.length ys := by
  have h5 : kO.R 53 w5 wo.heap.size (fun k => wo.heap.size ≤ k ∧ k < w5.heap.size) v8 ys := Kd.R_mono (Kd.R_bound (Kd.R_below hV hb)) (fun k hk => ⟨hk.2.1, hk.2.2.1⟩)
  have hne : ∀ k, wo.heap.size ≤ k → some k ≠ (Value.slice A5 t c5).ownBlock := fun k hk e => by
    have := Kd.R_lt hR k (by rw [e]; cases A5 <;> rfl)
    omega
  have h6 : kO.R 53 w6 wo.heap.size (fun k => wo.heap.size ≤ k ∧ k < w5.heap.size) v8 ys := Kd.R_move h5 (fun k hk => hg.block k hk.2 (hne k hk.1))
  obtain ⟨h0, inner, ho, hr⟩ := h6
  obtain ⟨A, c, e, hrow⟩ := own_reads_row ho (hr.imp_ (fun p cs hp => kO.M_mono (ok' := fun k => ∃ cells, w6.heap[k]? = some (.cells cells 60 (0, 0))) (fun k hk => by
    obtain ⟨_, _, _, q, hq, cells, hc⟩ := hk
    obtain rfl : q = 60 := by simpa [kO] using hq
    exact ⟨cells, hc⟩) (kO.M_lower hbase (kO.M_bound hp)))) rfl
  exact ⟨A, c, e, hrow⟩
theorem refLess_obj {o p : Ob} {v4 v27 u4 u27 : Value} (ho : ObFits o ∧ ObInts o) (hp : ObFits p ∧ ObInts p) (w : World) :
    Calls Tryz.prog 52 #[.agg (o.cells v4 v27), .agg (p.cells u4 u27)] w fun e w' => e = .returned (.bool (decide (cO o p < 0))) ∧ Below w.heap.size w w' := by
  have h := refLess_calls (o.cells v4 v27) (p.cells u4 u27) _ _ _ _ _ _ _ _ _ _ (pod_cells o v4 v27) (pod_cells p u4 u27) ho.1.1 hp.1.1 w
  rw [ref_less _ _ _ _ _ _ _ _ _ _ (ho.2 o.born (by simp [Ob.ints])) (hp.2 p.born (by simp [Ob.ints]))] at h
  have e : lessF o.name p.name o.born p.born o.node p.node o.phase p.phase o.ready p.ready = decide (cO o p < 0) := by
    have := less_podC o.pk p.pk
    have e2 : o.pk.less p.pk = lessF o.name p.name o.born p.born o.node p.node o.phase p.phase o.ready p.ready := rfl
    rw [← e2, this, decide_eq_decide]
    exact (cV_neg o.pk p.pk).symm
  rw [e] at h
  exact h
def rg25_7_T : Bool × List (List Nat × List Nat) := (true, [([], []), ([0], [0]), ([1], [1]), ([2], [2]), ([2], [2]), ([3, 4, 2], [2, 3, 4]), ([5, 2], [2, 5]), ([2], [2]), ([2], [2]), ([8, 2], [2, 8]), ([7, 9, 2], [2, 7, 9]), ([10, 2], [2, 10]), ([6, 11, 2, 2], [2, 6, 11]), ([2, 12], [2, 12])])
def rg25_7_B : List Nat := [0, 1, 3, 7, 7, 31, 63, 7, 7, 263, 903, 1927, 4095, 8191]
theorem rg25_7_tab : rtab .any (opsOf Tryz.f25 7) = rg25_7_T := by kernel_rfl
theorem rg25_7_bits : waitsOk rg25_7_T.2 rg25_7_B = true := by kernel_rfl
def rg25_10_T : Bool × List (List Nat × List Nat) := (true, [([], []), ([], []), ([0, 1], [0, 1]), ([], []), ([], []), ([3, 4], [3, 4]), ([5], [5]), ([6], [6]), ([7], [7]), ([2, 8, 7], [2, 8]), ([9, 9, 0, 1, 2, 3, 4, 5, 6, 7, 8, 9], [0, 9])])
def rg25_10_B : List Nat := [0, 0, 3, 0, 0, 24, 56, 120, 248, 511, 1023]
theorem rg25_10_tab : rtab .any (opsOf Tryz.f25 10) = rg25_10_T := by kernel_rfl
theorem rg25_10_bits : waitsOk rg25_10_T.2 rg25_10_B = true := by kernel_rfl
set_option maxHeartbeats 8000000 in
set_option maxRecDepth 100000 in
theorem refVictims_R (A : Option Addr) (c n : Nat) (l : List Ob) (m : Int) (w : World) (hr : kO.C w A l.length l) (hln : l.length = n) (hn : n ≤ 1000000) (hf : ∀ o ∈ l, ObFits o ∧ ObInts o) :
    Calls Tryz.prog 25 #[.slice A n c, .int .i64 m] w fun e w' => ∃ A' c', e = .returned (.slice A' (victF l m).length c') ∧ kO.R 53 w' w.heap.size (fun _ => True) (.slice A' (victF l m).length c') (victF l m) ∧ Below w.heap.size w w' := by
  obtain ⟨kk, hkk⟩ : ∃ kk, kk = headN m (live l).length := ⟨_, rfl⟩
  have hvl : (victF l m).length = kk := by rw [victF_len, hkk]
  have hle := live_length l
  obtain ⟨na, hna⟩ : ∃ na, na = (live l).length := ⟨_, rfl⟩
  have hkn : kk ≤ na := by rw [hkk, hna]; unfold headN; omega
  have hnn : na ≤ 1000000 := by omega
  obtain ⟨mx, hmx⟩ : ∃ mx : Int, mx = if m < 0 then 0 else m := ⟨_, rfl⟩
  have hmax : Builtin.max2 (.int .i64 m) (.int .i64 0) = pure (.int .i64 mx) := by rw [Go.Proofs.YtoepbjgldmgaoaaGreatDoorW.PrintMore.max2_int, hmx]
  have hmin : Builtin.min2 (.int .i64 mx) (.int .i64 (na : Int)) = pure (.int .i64 (kk : Int)) := by
    rw [Go.Proofs.YtoepbjgldmgaoaaGreatDoorW.PrintMore.min2_int]
    congr 2
    rw [hkk, ← hna, hmx]
    unfold headN
    split <;> split <;> omega
  rw [hvl]
  have HR := Lib.hid hr
  have HFl := Lib.hid hf
  have HL := Lib.hid (And.intro hln (And.intro hna hkk))
  clear hr hln hf hkk hvl hle hna hmx
  go_enter Tryz.func25, Tryz.ntmps25
  go_wp2
  go_loopw [5, 6] (fun v5 v6 wr => ∃ i : Nat, i ≤ n ∧ v6 = .int .i64 i ∧ Hid (Kd.R kO 53 wr w.heap.size (fun _ => True) v5 (Srt.isort cO (live (l.take i))) ∧ Below w.heap.size w wr)) (fun _ v6 _ => n - (intOf v6).toNat)
  case atStart => exact ⟨0, Nat.zero_le _, rfl, Lib.hid ⟨Kd.R_nil _ _ _ _ _, Below.refl _ _⟩⟩
  case round =>
    obtain ⟨i, hi, rfl, hI⟩ := hrel
    by_cases hit : i < n
    · obtain ⟨o, ho⟩ : ∃ o, l[i]? = some o := ⟨_, List.getElem?_eq_getElem (by have := HL.out.1; omega)⟩
      obtain ⟨ad, v4, v27, rfl, hO⟩ := objAt (Kd.C_below HR.out hI.out.2) i o ho
      have hlk : (i : Int) < (n : Int) := by omega
      have q16 := hO.field 16 (by omega) (u := .bool o.ending) rfl
      have hsn := live_snoc l i o ho
      have hol := HFl.out o (List.mem_of_getElem? ho)
      obtain ⟨b, hb⟩ : ∃ b, b = o.ending := ⟨_, rfl⟩
      rw [← hb] at q16 hsn
      cases b
      · obtain ⟨acc, hacc⟩ : ∃ acc, acc = Srt.isort cO (live (l.take i)) := ⟨_, rfl⟩
        have hI1 := hI.out.1
        rw [← hacc] at hI1
        obtain ⟨A5, c5, rfl⟩ := Kd.R_slice hI1
        have hle5 : acc.length ≤ c5 := (Kd.R_reads' hI1).2.1
        have HC := Lib.hid (Kd.R_reads' hI1).2.2
        have HRo := Lib.hid hI1
        have HBo := Lib.hid hI.out.2
        have hal : acc.length ≤ 1000000 := by
          rw [hacc, Srt.isort_length]
          have := live_length (l.take i)
          rw [List.length_take] at this
          omega
        have HF : Hid (∀ x ∈ acc, ObFits x ∧ ObInts x) := Lib.hid (fun x hx => by
          rw [hacc, Srt.mem_isort, mem_live] at hx
          exact HFl.out x (List.mem_of_mem_take hx.1))
        have HT : Hid (∀ t, t ≤ acc.length ∧ Srt.back (fun a b => decide (cO a b < 0)) o acc acc.length = t → Srt.isort cO (live (l.take (i + 1))) = acc.take t ++ [o] ++ acc.drop t) := Lib.hid (fun t ht => by
          rw [hsn]
          have e : live (l.take i) ++ (if false = true then [] else [o]) = live (l.take i) ++ [o] := rfl
          rw [e, Srt.isort_snoc, ← hacc]
          have h := Srt.back_ins cO_cmp o acc (by rw [hacc]; exact Srt.isort_sorted cO_cmp _) acc.length (Nat.le_refl _) (fun j y hj hy => by
            have := (List.getElem?_eq_some_iff.1 hy).1
            omega)
          rw [ht.2] at h
          rw [← h, List.append_assoc]
          rfl)
        obtain ⟨cs, hcs⟩ : ∃ cs, cs = o.cells v4 v27 := ⟨_, rfl⟩
        have hi1 : Hid ((Tryz.prog.info? 53).map (·.size) = some cs.size) := Lib.hid (by rw [hcs, Ob.cells_size]; kernel_rfl)
        have B1 := hO.cells
        have QC := Lib.hid (fun (W : World) (hW : Below wr.heap.size wr W) => copyObject_calls o v4 v27 W (hO.l4.below hW) (hO.l27.below hW) hol.1)
        have QLL := Lib.hid (fun (p : Ob) (u4 u27 : Value) (hp : ObFits p ∧ ObInts p) (W : World) => refLess_obj (v4 := v4) (v27 := v27) (u4 := u4) (u27 := u27) hol hp W)
        rw [← hcs] at B1 QC QLL
        replace B1 := Lib.hid (fun (W : World) (hW : Below wr.heap.size wr W) j u hu => cell_below hW (B1 j u hu))
        clear ho hO hsn hol hb hcs hI1 hacc hI
        go_wp2
        rename World => wo
        go_loopw [7] (fun v7 wr => ∃ t : Nat, t ≤ acc.length ∧ v7 = .int .i64 t ∧ Hid (Srt.back (fun a b => decide (cO a b < 0)) o acc acc.length = Srt.back (fun a b => decide (cO a b < 0)) o acc t ∧ Below wo.heap.size wo wr)) (fun v7 _ => (intOf v7).toNat)
        case atStart => exact ⟨acc.length, Nat.le_refl _, rfl, Lib.hid ⟨rfl, Below.refl _ _⟩⟩
        case round =>
          obtain ⟨t, ht, rfl, hJ⟩ := hrel
          have HB1 : Below wo.heap.size wo wr := hJ.out.2
          replace HB1 := below_drew HB1
          by_cases ht0 : t = 0
          · have HE : Hid (t ≤ acc.length ∧ Srt.back (fun a b => decide (cO a b < 0)) o acc acc.length = t) := Lib.hid ⟨ht, by rw [hJ.out.1, ht0]; rfl⟩
            have g4 : decide ((0 : Int) < (t : Int)) = false := decide_eq_false (by omega)
            have g5 : decide (0 < t) = false := decide_eq_false (by omega)
            clear hJ ht0
            go_upto_region 7 with (fail)
            refine start_ (n := 14) (S := fun w' => Below wo.heap.size wo w') (ds := []) (bs 14 0) (by kernel_rfl) rfl (by kernel_rfl) HB1 (fun hHeld => ?_)
            refine with_tabW rg25_7_tab rg25_7_bits (fun HT_ HW_ => ?_)
            refine pu 0 (some 22) (bs 14 1) HT_ rfl rfl (by kernel_rfl) (fun _ _ _ _ h => h) ⟨_, .inl ⟨by rfl, fun _ => by go_simp; with_reducible rfl⟩, _, by simp only [Act.put, sA, sB, sC, i64_w, i32_w]; rfl, ?_⟩
            refine pu 1 (some 23) (bs 14 3) HT_ rfl rfl (by kernel_rfl) (fun _ _ _ _ h => h) ⟨_, .inl ⟨by rfl, fun _ => by go_simp; with_reducible rfl⟩, _, by simp only [Act.put, sA, sB, sC, i64_w, i32_w]; rfl, ?_⟩
            refine pu 2 (some 24) (bs 14 7) HT_ rfl rfl (by kernel_rfl) (fun _ _ _ _ h => h) ⟨_, .inl ⟨by rfl, fun _ => by go_simp; with_reducible rfl⟩, _, by simp only [Act.put, sA, sB, sC, i64_w, i32_w]; rfl, ?_⟩
            refine pu 3 (some 25) (bs 14 15) HT_ rfl rfl (by kernel_rfl) (fun _ _ _ _ h => h) ⟨_, .inr ⟨by rfl, rfl⟩, _, by simp only [Act.put, sA, sB, sC, i64_w, i32_w]; rfl, ?_⟩
            refine pu 4 (some 26) (bs 14 31) HT_ rfl rfl (by kernel_rfl) (fun _ _ _ _ h => h) ⟨_, .inr ⟨by rfl, rfl⟩, _, by simp only [Act.put, sA, sB, sC, i64_w, i32_w]; rfl, ?_⟩
            refine pu 5 (some 27) (bs 14 63) HT_ rfl rfl (by kernel_rfl) (fun _ _ _ _ h => h) ⟨_, .inr ⟨by rfl, rfl⟩, _, by simp only [Act.put, sA, sB, sC, i64_w, i32_w]; rfl, ?_⟩
            refine pu 6 (some 28) (bs 14 127) HT_ rfl rfl (by kernel_rfl) (fun _ _ _ _ h => h) ⟨_, .inr ⟨by rfl, rfl⟩, _, by simp only [Act.put, sA, sB, sC, i64_w, i32_w]; rfl, ?_⟩
            refine pu 7 (some 29) (bs 14 255) HT_ rfl rfl (by kernel_rfl) (fun _ _ _ _ h => h) ⟨_, .inr ⟨by rfl, rfl⟩, _, by simp only [Act.put, sA, sB, sC, i64_w, i32_w]; rfl, ?_⟩
            refine pu 8 (some 30) (bs 14 511) HT_ rfl rfl (by kernel_rfl) (fun _ _ _ _ h => h) ⟨_, .inr ⟨by rfl, rfl⟩, _, by simp only [Act.put, sA, sB, sC, i64_w, i32_w]; rfl, ?_⟩
            refine pu 9 (some 31) (bs 14 1023) HT_ rfl rfl (by kernel_rfl) (fun _ _ _ _ h => h) ⟨_, .inr ⟨by rfl, rfl⟩, _, by simp only [Act.put, sA, sB, sC, i64_w, i32_w]; rfl, ?_⟩
            refine pu 10 (some 32) (bs 14 2047) HT_ rfl rfl (by kernel_rfl) (fun _ _ _ _ h => h) ⟨_, .inr ⟨by rfl, rfl⟩, _, by simp only [Act.put, sA, sB, sC, i64_w, i32_w]; rfl, ?_⟩
            refine pu 11 (some 33) (bs 14 4095) HT_ rfl rfl (by kernel_rfl) (fun _ _ _ _ h => h) ⟨_, .inr ⟨by rfl, rfl⟩, _, by simp only [Act.put, sA, sB, sC, i64_w, i32_w]; rfl, ?_⟩
            refine pu 12 (some 34) (bs 14 8191) HT_ rfl rfl (by kernel_rfl) (fun _ _ _ _ h => h) ⟨_, .inr ⟨by rfl, rfl⟩, _, by simp only [Act.put, sA, sB, sC, i64_w, i32_w]; rfl, ?_⟩
            refine pu 13 (some 35) (bs 14 16383) HT_ rfl rfl (by kernel_rfl) (fun _ _ _ _ h => h) ⟨_, .inl ⟨by rfl, fun _ => by go_simp; with_reducible rfl⟩, _, by simp only [Act.put, sA, sB, sC, i64_w, i32_w]; rfl, ?_⟩
            refine done_ (done_of HT_.out (by kernel_rfl)) ?_
            have htl : t ≤ acc.length := ht
            obtain ⟨A9, hcut, hC9⟩ := cut_low A5 acc.length c5 (t) htl hle5
            have hcut2 : ((t : Nat) : Int) ≤ (c5 : Int) := by omega
            have Q9 := Lib.hid (fun (W : World) (hW : Below wo.heap.size wo W) => copyObjects_calls A9 (c5 - t) (acc.length - t) (acc.drop (t)) W (hC9 W acc rfl (Kd.C_below HC.out hW)) List.length_drop (by omega) (fun x hx => (HF.out x (List.mem_of_mem_drop hx)).1))
            clear hC9
            go_wp2_with (first
              | (go_at_call 53; (with_reducible refine (Q9.out _ HB1).mono ?_); rintro e w4 ⟨v8, rfl, hV8, hb4⟩; have hs8 := HB1.size; replace HB1 := belT HB1 hb4; replace hV8 := Lib.hid (And.intro (Kd.R_lower hV8 hs8) HB1); clear hb4 hs8))
            have HB4 := below_drew (Below.refl w4.heap.size w4)
            replace HB1 := Lib.hid HB1
            clear Q9
            refine start_ (n := 11) (S := fun w' => Below w4.heap.size w4 w') (ds := [9]) (bs 11 0) (by kernel_rfl) rfl (by kernel_rfl) HB4 (fun hHeld => ?_)
            refine with_tabW rg25_10_tab rg25_10_bits (fun HT_ HW_ => ?_)
            refine pu 0 (some 42) (bs 11 1) HT_ rfl rfl (by kernel_rfl) (fun _ _ _ _ h => h) ⟨_, .inl ⟨by rfl, fun _ => by go_simp; with_reducible rfl⟩, _, by simp only [Act.put, sA, sB, sC, i64_w, i32_w]; rfl, ?_⟩
            refine pu 1 (some 43) (bs 11 3) HT_ rfl rfl (by kernel_rfl) (fun _ _ _ _ h => h) ⟨_, .inl ⟨by rfl, fun _ => by go_simp; with_reducible rfl⟩, _, by simp only [Act.put, sA, sB, sC, i64_w, i32_w]; rfl, ?_⟩
            refine pu 2 (some 44) (bs 11 7) HT_ rfl rfl (by kernel_rfl) (fun _ _ _ _ h => h) ⟨_, .inl ⟨by rfl, fun _ => by go_simp; with_reducible rfl⟩, _, by simp only [Act.put, sA, sB, sC, i64_w, i32_w]; rfl, ?_⟩
            refine pu 3 (some 45) (bs 11 15) HT_ rfl rfl (by kernel_rfl) (fun _ _ _ _ h => h) ⟨_, .inl ⟨by rfl, fun _ => by go_simp; with_reducible rfl⟩, _, by simp only [Act.put, sA, sB, sC, i64_w, i32_w]; rfl, ?_⟩
            refine pu 4 (some 46) (bs 11 31) HT_ rfl rfl (by kernel_rfl) (fun _ _ _ _ h => h) ⟨_, .inl ⟨by rfl, fun _ => by go_simp; with_reducible rfl⟩, _, by simp only [Act.put, sA, sB, sC, i64_w, i32_w]; rfl, ?_⟩
            refine pu 5 (some 47) (bs 11 63) HT_ rfl rfl (by kernel_rfl) (fun _ _ _ _ h => h) ⟨_, .inl ⟨by rfl, fun _ => by go_simp; with_reducible rfl⟩, _, by simp only [Act.put, sA, sB, sC, i64_w, i32_w]; rfl, ?_⟩
            refine tk 6 (some 48) (bs 11 127) HT_ HW_ rfl rfl (by kernel_rfl) (fun _ _ _ _ h => h) hHeld ⟨_, .inl ⟨by rfl, by rintro w' s0; refine load_any_ (x := .tmp 47) (p := ad.add (i * 32)) ?_ ?_ (B1.out _ (belT HB1.out s0)) Tryz.underlying53 rfl hi1.out <;> rfl⟩, _, by simp only [Act.put, sA, sB, sC, i64_w, i32_w]; rfl, ?_⟩
            refine on1 7 (some 49) (bs 11 255) HT_ rfl rfl (by kernel_rfl) (by decide) (fun K hK => ?_)
            refine goes_ Tryz.func23 (by kernel_rfl) rfl #[.agg cs] (by rfl) rfl rfl (by (try simp only [List.map_toArray, List.map_cons, List.map_nil]); first | done | rfl) ?_
            with_reducible refine (QC.out _ (belT HB1.out HB4)).mono ?_
            rintro e w5 ⟨u4, u27, rfl, HM5, hb⟩
            have hs5 := (belT HB1.out HB4).size
            replace HM5 := Lib.hid (kO.M_mono (fun k hk => hk.2.1) (kO.M_bound (kO.M_lower hs5 HM5)))
            replace HB4 := belT HB4 hb
            have HB5 := Lib.hid (And.intro (belT HB1.out HB4) HB4)
            clear hb hs5
            refine ⟨_, rfl, ?_⟩
            refine hK.out _ _ HB4 (fun hHeld => ?_)
            clear hK K
            refine nm ⟨_, show Act.put _ (some 49) _ = _ by simp only [Act.put, sA, sB, sC, i64_w, i32_w]; rfl, ?_⟩
            refine on1 8 (some 50) (bs 11 511) HT_ rfl rfl (by kernel_rfl) (by decide) (fun K hK => ?_)
            refine build1_ (by rfl) rfl 22 53 (.tmp 49) rfl (o.cells u4 u27) rfl (.agg (Ob.zero.cells (.slice none 0 0) (.slice none 0 0))) 32 312 Tryz.underlying22 infoO (Ob.cells_size _ _ _) (by omega) (by omega) rfl ?_
            refine hK.out _ _ (HB4.alloc HB4.size _) (fun hHeld => ?_)
            clear hK K
            refine nm ⟨_, show Act.put _ (some 50) _ = _ by simp only [Act.put, sA, sB, sC, i64_w, i32_w]; rfl, ?_⟩
            refine la1 9 (some 51) (bs 11 1023) HT_ rfl rfl (by kernel_rfl) (by decide) (fun K hK => ?_)
            refine Kd.R_append_step kO (w0 := w) (W := w5) w.heap.size (by rfl) (.tmp 44) (.tmp 50) 22 53 (.agg (Ob.zero.cells (.slice none 0 0) (.slice none 0 0))) 312 rfl Tryz.underlying22 infoO rfl (by decide) (by omega) (.slice A5 (t) c5) (acc.take (t)) o (o.cells u4 u27).toList (fun _ => True) (fun k => wo.heap.size ≤ k) rfl rfl (kO.M_lower HBo.out.size HM5.out) (fun k hk => ⟨trivial, fun e => by have := Kd.R_lt HRo.out k (by first | exact e.symm | (cases A5 <;> exact e.symm)); omega⟩) (fun _ _ => trivial) (Kd.R_take (Kd.R_below HRo.out HB5.out.1) htl) (belT HBo.out HB5.out.1) (by have := HBo.out.size; have := HB5.out.1.size; omega) (by rw [List.length_take]; omega) ?_
            intro v1 w6 hR6 hB6 hg6 hat6
            refine hK.out _ _ ?_
            clear hK K
            refine nm ⟨_, show Act.put _ (some 51) _ = _ by simp only [Act.put, sA, sB, sC, i64_w, i32_w]; rfl, ?_⟩
            refine pu 10 (some 5) (bs 11 2047) HT_ rfl rfl (by kernel_rfl) (fun _ _ _ _ h => h) ⟨_, .inl ⟨by rfl, fun _ => by go_simp; with_reducible rfl⟩, _, by simp only [Act.put, sA, sB, sC, i64_w, i32_w]; rfl, ?_⟩
            refine done_ (done_of HT_.out (by kernel_rfl)) ?_
            obtain ⟨A8, c8, rfl, hrow⟩ := ref_rows (wo := wo) HRo.out hV8.out.1 HB5.out.2 hg6 HBo.out.size
            replace hrow := Lib.hid hrow
            have hty6 := Kd.R_typed hR6
            replace hty6 := Lib.hid hty6
            replace hR6 := Lib.hid hR6
            replace hB6 := Lib.hid hB6
            have hw6 : Hid (w.heap.size ≤ w6.heap.size) := Lib.hid hB6.out.size
            have hl6 : ((acc.take (t) ++ [o]).length + (acc.drop (t)).length) * 312 ≤ 140737488355328 := by rw [List.length_append, List.length_take, List.length_drop, List.length_singleton]; omega
            clear hg6 hat6 HM5 HB5 hV8 QC B1 hi1 HB1 HB4
            go_wp2_with (first
              | (at_builtin; refine Kd.R_append_rows kO (w0 := w) (Rr := fun x cs => kO.M w6 w.heap.size (fun k => ∃ cells, w6.heap[k]? = some (.cells cells 60 (0, 0))) x cs) w.heap.size rfl (.tmp 52) (.tmp 53) 22 53 (.agg (Ob.zero.cells (.slice none 0 0) (.slice none 0 0))) 312 rfl Tryz.underlying22 infoO rfl (by decide) (by omega) v1 (acc.take (t) ++ [o]) (acc.drop (t)) A8 (acc.drop (t)).length c8 (fun _ => True) (fun k => ∃ cells, w6.heap[k]? = some (.cells cells 60 (0, 0))) rfl rfl hR6.out hrow.out (fun _ _ h => h) (fun k hk => ⟨trivial, fun e => lab_ne_obj hk (hty6.out k e.symm)⟩) (fun _ _ => trivial) hB6.out hw6.out hl6 ?_; intro v2 w7 hR7 hB7 hg7 hat7))
            go_roundw
            case rel => exact ⟨i + 1, by omega, by go_num, Lib.hid ⟨by rw [HT.out _ HE.out]; exact hR7, hB7⟩⟩
            case measure => simp [intOf]; omega
          · obtain ⟨a, ha⟩ : ∃ a, a + 1 = t := ⟨t - 1, by omega⟩
            obtain ⟨p, hp⟩ : ∃ p, acc[a]? = some p := ⟨_, List.getElem?_eq_getElem (by omega)⟩
            obtain ⟨ad5, u4, u27, rfl, hP⟩ := objAt HC.out a p hp
            obtain ⟨ds, hds⟩ : ∃ ds, ds = p.cells u4 u27 := ⟨_, rfl⟩
            have hi2 : Hid ((Tryz.prog.info? 53).map (·.size) = some ds.size) := Lib.hid (by rw [hds, Ob.cells_size]; kernel_rfl)
            have B2 := hP.cells
            have QL := QLL.out p u4 u27 (HF.out p (List.mem_of_getElem? hp))
            rw [← hds] at B2 QL
            obtain ⟨lb, hlb⟩ : ∃ b, b = decide (cO o p < 0) := ⟨_, rfl⟩
            rw [← hlb] at QL
            replace QL := Lib.hid QL
            have hbk : Srt.back (fun a b => decide (cO a b < 0)) o acc (a + 1) = if lb = true then Srt.back (fun a b => decide (cO a b < 0)) o acc a else a + 1 := by
              simp only [Srt.back, hp, hlb]
            rw [ha, ← hJ.out.1] at hbk
            have HJ := Lib.hid hbk
            obtain ⟨z, hz⟩ : ∃ z : Int, z = (t : Int) := ⟨_, rfl⟩
            obtain ⟨z1, hz1⟩ : ∃ z : Int, z = (a : Int) := ⟨_, rfl⟩
            have hw : wrap64 (z - 1) = z1 := by rw [hz, hz1]; unfold wrap64; omega
            have g2 : (0 ≤ z1) = True := eq_true (by omega)
            have g3 : (z1 < (acc.length : Int)) = True := eq_true (by omega)
            have g4 : decide (0 < z) = true := decide_eq_true (by omega)
            have ez1 : z1.toNat = a := by omega
            rw [← ez1] at B2
            rw [← hz]
            replace B2 := Lib.hid (fun (W : World) (hW : Below wo.heap.size wo W) j u hu => cell_below hW (B2 j u hu))
            have HZ := Lib.hid (And.intro hz (And.intro hz1 (And.intro ha ht)))
            clear hP hp hds hlb hbk hz hz1 ez1 ha ht ht0 hJ
            go_upto_region 7 with (fail)
            refine start_ (n := 14) (S := fun w' => Below wo.heap.size wo w') (ds := []) (bs 14 0) (by kernel_rfl) rfl (by kernel_rfl) HB1 (fun hHeld => ?_)
            refine with_tabW rg25_7_tab rg25_7_bits (fun HT_ HW_ => ?_)
            refine pu 0 (some 22) (bs 14 1) HT_ rfl rfl (by kernel_rfl) (fun _ _ _ _ h => h) ⟨_, .inl ⟨by rfl, fun _ => by go_simp; with_reducible rfl⟩, _, by simp only [Act.put, sA, sB, sC, i64_w, i32_w]; rfl, ?_⟩
            refine pu 1 (some 23) (bs 14 3) HT_ rfl rfl (by kernel_rfl) (fun _ _ _ _ h => h) ⟨_, .inl ⟨by rfl, fun _ => by go_simp; with_reducible rfl⟩, _, by simp only [Act.put, sA, sB, sC, i64_w, i32_w]; rfl, ?_⟩
            refine pu 2 (some 24) (bs 14 7) HT_ rfl rfl (by kernel_rfl) (fun _ _ _ _ h => h) ⟨_, .inl ⟨by rfl, fun _ => by go_simp; with_reducible rfl⟩, _, by simp only [Act.put, sA, sB, sC, i64_w, i32_w]; rfl, ?_⟩
            refine pu 3 (some 25) (bs 14 15) HT_ rfl rfl (by kernel_rfl) (fun _ _ _ _ h => h) ⟨_, .inl ⟨by rfl, fun _ => by go_simp; with_reducible rfl⟩, _, by simp only [Act.put, sA, sB, sC, i64_w, i32_w]; rfl, ?_⟩
            refine pu 4 (some 26) (bs 14 31) HT_ rfl rfl (by kernel_rfl) (fun _ _ _ _ h => h) ⟨_, .inl ⟨by rfl, fun _ => by go_simp; with_reducible rfl⟩, _, by simp only [Act.put, sA, sB, sC, i64_w, i32_w]; rfl, ?_⟩
            refine pu 5 (some 27) (bs 14 63) HT_ rfl rfl (by kernel_rfl) (fun _ _ _ _ h => h) ⟨_, .inl ⟨by rfl, fun _ => by go_simp; with_reducible rfl⟩, _, by simp only [Act.put, sA, sB, sC, i64_w, i32_w]; rfl, ?_⟩
            refine pu 7 (some 29) (bs 14 191) HT_ rfl rfl (by kernel_rfl) (fun _ _ _ _ h => h) ⟨_, .inl ⟨by rfl, fun _ => by go_simp; with_reducible rfl⟩, _, by simp only [Act.put, sA, sB, sC, i64_w, i32_w]; rfl, ?_⟩
            refine pu 8 (some 30) (bs 14 447) HT_ rfl rfl (by kernel_rfl) (fun _ _ _ _ h => h) ⟨_, .inl ⟨by rfl, fun _ => by go_simp; with_reducible rfl⟩, _, by simp only [Act.put, sA, sB, sC, i64_w, i32_w]; rfl, ?_⟩
            refine pu 9 (some 31) (bs 14 959) HT_ rfl rfl (by kernel_rfl) (fun _ _ _ _ h => h) ⟨_, .inl ⟨by rfl, fun _ => by go_simp; with_reducible rfl⟩, _, by simp only [Act.put, sA, sB, sC, i64_w, i32_w]; rfl, ?_⟩
            refine pu 10 (some 32) (bs 14 1983) HT_ rfl rfl (by kernel_rfl) (fun _ _ _ _ h => h) ⟨_, .inl ⟨by rfl, fun _ => by go_simp; with_reducible rfl⟩, _, by simp only [Act.put, sA, sB, sC, i64_w, i32_w]; rfl, ?_⟩
            refine tk 6 (some 28) (bs 14 2047) HT_ HW_ rfl rfl (by kernel_rfl) (fun _ _ _ _ h => h) hHeld ⟨_, .inl ⟨by rfl, by rintro w' s0; refine load_any_ (x := .tmp 27) (p := ad.add (i * 32)) ?_ ?_ (B1.out _ s0) Tryz.underlying53 rfl hi1.out <;> rfl⟩, _, by simp only [Act.put, sA, sB, sC, i64_w, i32_w]; rfl, ?_⟩
            refine tk 11 (some 33) (bs 14 4095) HT_ HW_ rfl rfl (by kernel_rfl) (fun _ _ _ _ h => h) hHeld ⟨_, .inl ⟨by rfl, by rintro w' s0; refine load_any_ (x := .tmp 32) (p := ad5.add (z1.toNat * 32)) ?_ ?_ (B2.out _ s0) Tryz.underlying53 rfl hi2.out <;> rfl⟩, _, by simp only [Act.put, sA, sB, sC, i64_w, i32_w]; rfl, ?_⟩
            refine on1 12 (some 34) (bs 14 8191) HT_ rfl rfl (by kernel_rfl) (by decide) (fun K hK => ?_)
            refine goes_ Tryz.func52 (by kernel_rfl) rfl #[.agg cs, .agg ds] (by rfl) rfl rfl (by (try simp only [List.map_toArray, List.map_cons, List.map_nil]); first | done | rfl) ?_
            with_reducible refine (QL.out _).mono ?_
            rintro e w5 ⟨rfl, hb⟩
            replace HB1 := belT HB1 hb
            clear hb
            refine ⟨_, rfl, ?_⟩
            refine hK.out _ _ HB1 (fun hHeld => ?_)
            clear hK K
            refine nm ⟨_, show Act.put _ (some 34) _ = _ by simp only [Act.put, sA, sB, sC, i64_w, i32_w]; rfl, ?_⟩
            refine pu 13 (some 35) (bs 14 16383) HT_ rfl rfl (by kernel_rfl) (fun _ _ _ _ h => h) ⟨_, .inl ⟨by rfl, fun _ => by go_simp; with_reducible rfl⟩, _, by simp only [Act.put, sA, sB, sC, i64_w, i32_w]; rfl, ?_⟩
            refine done_ (done_of HT_.out (by kernel_rfl)) ?_
            clear B2 QL hi2
            cases lb
            · have HE : Hid (t ≤ acc.length ∧ Srt.back (fun a b => decide (cO a b < 0)) o acc acc.length = t) := Lib.hid ⟨HZ.out.2.2.2, by rw [HJ.out, if_neg (by simp)]⟩
              have htt := HZ.out.2.2.2
              clear hw g2 g3 g4 HJ
              have hz := HZ.out.1
              clear HZ
              subst hz
              have htl : t ≤ acc.length := htt
              obtain ⟨A9, hcut, hC9⟩ := cut_low (some ad5) acc.length c5 (t) htl hle5
              have hcut2 : ((t : Nat) : Int) ≤ (c5 : Int) := by omega
              have Q9 := Lib.hid (fun (W : World) (hW : Below wo.heap.size wo W) => copyObjects_calls A9 (c5 - t) (acc.length - t) (acc.drop (t)) W (hC9 W acc rfl (Kd.C_below HC.out hW)) List.length_drop (by omega) (fun x hx => (HF.out x (List.mem_of_mem_drop hx)).1))
              clear hC9
              go_wp2_with (first
                | (go_at_call 53; (with_reducible refine (Q9.out _ HB1).mono ?_); rintro e w4 ⟨v8, rfl, hV8, hb4⟩; have hs8 := HB1.size; replace HB1 := belT HB1 hb4; replace hV8 := Lib.hid (And.intro (Kd.R_lower hV8 hs8) HB1); clear hb4 hs8))
              have HB4 := below_drew (Below.refl w4.heap.size w4)
              replace HB1 := Lib.hid HB1
              clear Q9
              refine start_ (n := 11) (S := fun w' => Below w4.heap.size w4 w') (ds := [9]) (bs 11 0) (by kernel_rfl) rfl (by kernel_rfl) HB4 (fun hHeld => ?_)
              refine with_tabW rg25_10_tab rg25_10_bits (fun HT_ HW_ => ?_)
              refine pu 0 (some 42) (bs 11 1) HT_ rfl rfl (by kernel_rfl) (fun _ _ _ _ h => h) ⟨_, .inl ⟨by rfl, fun _ => by go_simp; with_reducible rfl⟩, _, by simp only [Act.put, sA, sB, sC, i64_w, i32_w]; rfl, ?_⟩
              refine pu 1 (some 43) (bs 11 3) HT_ rfl rfl (by kernel_rfl) (fun _ _ _ _ h => h) ⟨_, .inl ⟨by rfl, fun _ => by go_simp; with_reducible rfl⟩, _, by simp only [Act.put, sA, sB, sC, i64_w, i32_w]; rfl, ?_⟩
              refine pu 2 (some 44) (bs 11 7) HT_ rfl rfl (by kernel_rfl) (fun _ _ _ _ h => h) ⟨_, .inl ⟨by rfl, fun _ => by go_simp; with_reducible rfl⟩, _, by simp only [Act.put, sA, sB, sC, i64_w, i32_w]; rfl, ?_⟩
              refine pu 3 (some 45) (bs 11 15) HT_ rfl rfl (by kernel_rfl) (fun _ _ _ _ h => h) ⟨_, .inl ⟨by rfl, fun _ => by go_simp; with_reducible rfl⟩, _, by simp only [Act.put, sA, sB, sC, i64_w, i32_w]; rfl, ?_⟩
              refine pu 4 (some 46) (bs 11 31) HT_ rfl rfl (by kernel_rfl) (fun _ _ _ _ h => h) ⟨_, .inl ⟨by rfl, fun _ => by go_simp; with_reducible rfl⟩, _, by simp only [Act.put, sA, sB, sC, i64_w, i32_w]; rfl, ?_⟩
              refine pu 5 (some 47) (bs 11 63) HT_ rfl rfl (by kernel_rfl) (fun _ _ _ _ h => h) ⟨_, .inl ⟨by rfl, fun _ => by go_simp; with_reducible rfl⟩, _, by simp only [Act.put, sA, sB, sC, i64_w, i32_w]; rfl, ?_⟩
              refine tk 6 (some 48) (bs 11 127) HT_ HW_ rfl rfl (by kernel_rfl) (fun _ _ _ _ h => h) hHeld ⟨_, .inl ⟨by rfl, by rintro w' s0; refine load_any_ (x := .tmp 47) (p := ad.add (i * 32)) ?_ ?_ (B1.out _ (belT HB1.out s0)) Tryz.underlying53 rfl hi1.out <;> rfl⟩, _, by simp only [Act.put, sA, sB, sC, i64_w, i32_w]; rfl, ?_⟩
              refine on1 7 (some 49) (bs 11 255) HT_ rfl rfl (by kernel_rfl) (by decide) (fun K hK => ?_)
              refine goes_ Tryz.func23 (by kernel_rfl) rfl #[.agg cs] (by rfl) rfl rfl (by (try simp only [List.map_toArray, List.map_cons, List.map_nil]); first | done | rfl) ?_
              with_reducible refine (QC.out _ (belT HB1.out HB4)).mono ?_
              rintro e w5 ⟨u4, u27, rfl, HM5, hb⟩
              have hs5 := (belT HB1.out HB4).size
              replace HM5 := Lib.hid (kO.M_mono (fun k hk => hk.2.1) (kO.M_bound (kO.M_lower hs5 HM5)))
              replace HB4 := belT HB4 hb
              have HB5 := Lib.hid (And.intro (belT HB1.out HB4) HB4)
              clear hb hs5
              refine ⟨_, rfl, ?_⟩
              refine hK.out _ _ HB4 (fun hHeld => ?_)
              clear hK K
              refine nm ⟨_, show Act.put _ (some 49) _ = _ by simp only [Act.put, sA, sB, sC, i64_w, i32_w]; rfl, ?_⟩
              refine on1 8 (some 50) (bs 11 511) HT_ rfl rfl (by kernel_rfl) (by decide) (fun K hK => ?_)
              refine build1_ (by rfl) rfl 22 53 (.tmp 49) rfl (o.cells u4 u27) rfl (.agg (Ob.zero.cells (.slice none 0 0) (.slice none 0 0))) 32 312 Tryz.underlying22 infoO (Ob.cells_size _ _ _) (by omega) (by omega) rfl ?_
              refine hK.out _ _ (HB4.alloc HB4.size _) (fun hHeld => ?_)
              clear hK K
              refine nm ⟨_, show Act.put _ (some 50) _ = _ by simp only [Act.put, sA, sB, sC, i64_w, i32_w]; rfl, ?_⟩
              refine la1 9 (some 51) (bs 11 1023) HT_ rfl rfl (by kernel_rfl) (by decide) (fun K hK => ?_)
              refine Kd.R_append_step kO (w0 := w) (W := w5) w.heap.size (by rfl) (.tmp 44) (.tmp 50) 22 53 (.agg (Ob.zero.cells (.slice none 0 0) (.slice none 0 0))) 312 rfl Tryz.underlying22 infoO rfl (by decide) (by omega) (.slice (some ad5) (t) c5) (acc.take (t)) o (o.cells u4 u27).toList (fun _ => True) (fun k => wo.heap.size ≤ k) rfl rfl (kO.M_lower HBo.out.size HM5.out) (fun k hk => ⟨trivial, fun e => by have := Kd.R_lt HRo.out k (by first | exact e.symm | (cases A5 <;> exact e.symm)); omega⟩) (fun _ _ => trivial) (Kd.R_take (Kd.R_below HRo.out HB5.out.1) htl) (belT HBo.out HB5.out.1) (by have := HBo.out.size; have := HB5.out.1.size; omega) (by rw [List.length_take]; omega) ?_
              intro v1 w6 hR6 hB6 hg6 hat6
              refine hK.out _ _ ?_
              clear hK K
              refine nm ⟨_, show Act.put _ (some 51) _ = _ by simp only [Act.put, sA, sB, sC, i64_w, i32_w]; rfl, ?_⟩
              refine pu 10 (some 5) (bs 11 2047) HT_ rfl rfl (by kernel_rfl) (fun _ _ _ _ h => h) ⟨_, .inl ⟨by rfl, fun _ => by go_simp; with_reducible rfl⟩, _, by simp only [Act.put, sA, sB, sC, i64_w, i32_w]; rfl, ?_⟩
              refine done_ (done_of HT_.out (by kernel_rfl)) ?_
              obtain ⟨A8, c8, rfl, hrow⟩ := ref_rows (wo := wo) HRo.out hV8.out.1 HB5.out.2 hg6 HBo.out.size
              replace hrow := Lib.hid hrow
              have hty6 := Kd.R_typed hR6
              replace hty6 := Lib.hid hty6
              replace hR6 := Lib.hid hR6
              replace hB6 := Lib.hid hB6
              have hw6 : Hid (w.heap.size ≤ w6.heap.size) := Lib.hid hB6.out.size
              have hl6 : ((acc.take (t) ++ [o]).length + (acc.drop (t)).length) * 312 ≤ 140737488355328 := by rw [List.length_append, List.length_take, List.length_drop, List.length_singleton]; omega
              clear hg6 hat6 HM5 HB5 hV8 QC B1 hi1 HB1 HB4
              go_wp2_with (first
                | (at_builtin; refine Kd.R_append_rows kO (w0 := w) (Rr := fun x cs => kO.M w6 w.heap.size (fun k => ∃ cells, w6.heap[k]? = some (.cells cells 60 (0, 0))) x cs) w.heap.size rfl (.tmp 52) (.tmp 53) 22 53 (.agg (Ob.zero.cells (.slice none 0 0) (.slice none 0 0))) 312 rfl Tryz.underlying22 infoO rfl (by decide) (by omega) v1 (acc.take (t) ++ [o]) (acc.drop (t)) A8 (acc.drop (t)).length c8 (fun _ => True) (fun k => ∃ cells, w6.heap[k]? = some (.cells cells 60 (0, 0))) rfl rfl hR6.out hrow.out (fun _ _ h => h) (fun k hk => ⟨trivial, fun e => lab_ne_obj hk (hty6.out k e.symm)⟩) (fun _ _ => trivial) hB6.out hw6.out hl6 ?_; intro v2 w7 hR7 hB7 hg7 hat7))
              go_roundw
              case rel => exact ⟨i + 1, by omega, by go_num, Lib.hid ⟨by rw [HT.out _ HE.out]; exact hR7, hB7⟩⟩
              case measure => simp [intOf]; omega
            · clear QC QLL
              go_wp2
              go_roundw
              case rel => exact ⟨a, by have := HZ.out.2.2; omega, by rw [hw, HZ.out.2.1], Lib.hid ⟨by rw [HJ.out, if_pos rfl], HB1⟩⟩
              case measure =>
                have h1 := HZ.out
                rw [hw, h1.1, h1.2.1]
                simp [intOf]
                omega
      · clear hb ho hO hol
        go_wp2
        go_roundw
        case rel =>
          refine ⟨i + 1, by omega, by go_num, Lib.hid ⟨?_, hI.out.2⟩⟩
          rw [hsn, if_pos rfl, List.append_nil]
          exact hI.out.1
        case measure => simp [intOf]; omega
    · obtain rfl : n = i := by omega
      have hI1 := hI.out.1
      rw [List.take_of_length_le (Nat.le_of_eq HL.out.1)] at hI1
      have hI2 : Kd.R kO 53 wr w.heap.size (fun _ => True) u5 (sortV (live l)) := hI1
      obtain ⟨A5, c5, rfl⟩ := Kd.R_slice hI2
      have h3 := Kd.R_reads' hI2
      have hsl : (sortV (live l)).length = na := by rw [sortV_length, HL.out.2.1]
      rw [hsl] at h3 ⊢
      have hkc : (kk : Int) ≤ (c5 : Int) := by have := h3.2.1; omega
      have hkc2 : kk ≤ c5 := by omega
      have hR3 : Kd.R kO 53 wr w.heap.size (fun _ => True) (.slice A5 kk c5) (victF l m) := by
        have h := Kd.R_take hI2 (m := kk) (by rw [hsl]; exact hkn)
        have e : victF l m = (sortV (live l)).take kk := by rw [HL.out.2.2]; rfl
        rw [e]
        exact h
      have HX := Lib.hid hR3
      have HB := Lib.hid hI.out.2
      clear hI hI1 hI2 h3 hsl hR3
      go_wp2
      go_ret
      exact ⟨A5, c5, rfl, HX.out, HB.out⟩
end Go.Proofs.YtoepbjgldmgaoaaGreatDoor

/- flotillaref27.Plan: what the document asks for. -/
namespace Go.Proofs.YtoepbjgldmgaoaaGreatDoor
open Go.RowKit Go.Proofs.YtoepbjgldmgaoaaGreatDoorW.PrintWords Go.Proofs.YtoepbjgldmgaoaaGreatDoorW.PrintLast
theorem planF_drain (ts : List Ot) (ps : List Ob) : ((Srt.isort cT (ts.filter (fun t => t.1.draining))).map (·.1)).flatMap (askN ps) = planF (ts.map (·.1)) ps := by
  unfold planF
  rw [isort_filter cT_cmp, ← cT_map]
  generalize Srt.isort cT ts = l
  induction l with
  | nil => rfl
  | cons t l ih =>
    cases hd : t.1.draining
    · have e : askN ps t.1 = [] := by unfold askN; rw [hd]; rfl
      rw [List.filter_cons_of_neg (by simp [hd]), List.map_cons, List.flatMap_cons, e, List.nil_append]
      exact ih
    · rw [List.filter_cons_of_pos (by simp [hd]), List.map_cons, List.map_cons, List.flatMap_cons, List.flatMap_cons, ih]
theorem upd_M {w : World} {base : Nat} {ok : Nat → Prop} {o : Ob} {v4 v27 : Value} (h : kO.M w base ok o (o.cells v4 v27).toList) : kRq.M w base ok (upd o) ((upd o).cells v4 v27).toList := by
  obtain ⟨a, b, e, h4, h27⟩ := h
  have e' := Array.toList_inj.1 e
  have e4 : v4 = a := by
    exact Option.some.inj (congrArg (·[4]?) e')
  have e27 : v27 = b := by
    exact Option.some.inj (congrArg (·[27]?) e')
  subst e4
  subst e27
  exact ⟨v4, v27, rfl, h4, h27⟩
theorem vict27_at {w : World} {base n c5 : Nat} {A5 : Option Addr} {nm : ByteArray} {ps : List Ob} {qs : List Ot} (hq : qs.map (·.1) = ps) (hR : kT.R 53 w base (fun _ => True) (.slice A5 n c5) (onF nm qs)) (hl : LabT w qs) (hf : ∀ o ∈ ps, ObFits o ∧ ObInts o) (hn : qs.length ≤ 10000) :
    Calls Tryz.prog 25 #[.slice A5 n c5, .int .i64 n] w fun e w' => ∃ (A' : Option Addr) (m c' : Nat) (tv : List Ot), e = .returned (.slice A' m c') ∧ Hid (tv.map (·.1) = victOn ps nm ∧ kT.C w' A' m tv ∧ (∀ ad, A' = some ad → w.heap.size ≤ ad.block ∧ ad.block < w'.heap.size) ∧ Below w.heap.size w w') := by
  have hm := onF_map nm qs
  rw [hq] at hm
  obtain ⟨h1, _, h3⟩ := Kd.R_reads' hR
  have hC := kO_of_T h3 (fun t ht => hl t (List.mem_filter.1 ht).1)
  rw [hm] at hC
  have hlen : (vOn ps nm).length = n := by rw [← hm, List.length_map, h1]
  have hle : (vOn ps nm).length ≤ 10000 := by
    have := vOn_len ps nm
    rw [← hq, List.length_map] at this
    rw [← hq]
    omega
  have hv := refVictims_R A5 c5 n (vOn ps nm) ((vOn ps nm).length : Nat) w (by rw [hlen, h1]; exact hC) hlen (by omega) (fun o ho => hf o (List.mem_filter.1 ho).1)
  rw [hlen] at hv
  refine hv.mono ?_
  rintro e w' ⟨A', c', rfl, hR', hb⟩
  obtain ⟨g1, _, g3⟩ := Kd.R_reads' hR'
  obtain ⟨tv, e1, e2, _⟩ := T_of_kO g3
  refine ⟨A', _, c', tv, rfl, Lib.hid ⟨?_, e2, ?_, hb⟩⟩
  · rw [e1]
    unfold victOn
    rw [hlen]
  · intro ad e
    subst e
    exact ⟨Kd.R_base hR' _ rfl, Kd.R_lt hR' _ rfl⟩
structure P27 (w7 w5 : World) (g : Nat) (o : Ob) (v : Value) (xs : List Rq) (ok : Nat → Prop) (cc : Array Value) (rl : List Value) : Prop where
  heap : w5.heap[g]? = some (.cells cc 53 (0, 0))
  csz : (Tryz.prog.info? 53).map (·.size) = some cc.size
  built : Tryz.prog.built 62 [(0, .int .i64 1), (1, .agg cc), (4, .int .i64 o.version)] = some rl.toArray
  rsz : rl.toArray.size = 42
  ver : w5.cell? ⟨g, 2, none⟩ = some (.int .i64 o.version)
  mm : kRq.M w5 w7.heap.size ok (upd o) rl
  op : ∀ k, ok k → True ∧ some k ≠ v.ownBlock
  rq : Kd.S kRq 62 w5 w7.heap.size (fun k => True ∧ ¬ ok k) v xs
  bl : Below w7.heap.size w7 w5
theorem p27_facts {w7 wx w2 w3 w5 : World} {g : Nat} {o : Ob} {u4 u27 v : Value} {oc : Array Value} {xs : List Rq} (hS : Kd.S kRq 62 wx w7.heap.size (fun _ => True) v xs) (hB : Below w7.heap.size w7 wx)
    (hM : kO.M w2 wx.heap.size (fun _ => True) o (o.cells u4 u27).toList) (hoc : oc = o.cells u4 u27) (hb2 : Below wx.heap.size wx w2) (hb3 : Below w2.heap.size w2 w3) (hg : g = w2.heap.size)
    (G5 : w5.heap[g]? = some (.cells (oc.setIfInBounds 7 (.bool true)) 53 (0, 0))) (hk5 : ∀ k, k ≠ g → w5.heap[k]? = w3.heap[k]?) (hb5 : ∀ B w0, Below B w0 w3 → B ≤ g → Below B w0 w5) :
    ∃ cc rl, P27 w7 w5 g o v xs (fun k => wx.heap.size ≤ k ∧ k < w2.heap.size) cc rl := by
  subst hoc
  have hxw := hb2.size
  have h7 := hB.size
  have hb5' : Below wx.heap.size wx w5 := hb5 _ _ (belT hb2 hb3) (by omega)
  have hst : ∀ k, k < w2.heap.size → w5.heap[k]? = w2.heap[k]? := fun k hk => (hk5 k (by omega)).trans (hb3.block k hk)
  refine ⟨(cord o).cells u4 u27, ((upd o).cells u4 u27).toList, G5, infoO1, upd_built o u4 u27, rfl, (cell_of_row _ _ 2 _ _ _ G5).trans rfl, ?_, ?_, ?_, belT hB hb5'⟩
  · have h1 := upd_M (kO.M_mono (ok' := fun k => wx.heap.size ≤ k ∧ k < w2.heap.size) (fun k hk => ⟨hk.2.1, hk.2.2.1⟩) (kO.M_bound hM))
    exact kRq.M_lower h7 (kRq.M_move (fun k hk => hst k hk.2) h1)
  · intro k hk
    exact ⟨trivial, fun e => by have := Kd.S_lt hS k e.symm; omega⟩
  · exact Kd.S_mono (Kd.S_below (Kd.S_bound hS) hb5') (fun k hk => ⟨trivial, fun e => by have := hk.2.2.1; omega⟩)
def rg7_10_T : Bool × List (List Nat × List Nat) := (true, [([], []), ([], []), ([], []), ([1, 2], [1, 2]), ([3], [3]), ([4], [4]), ([0, 5], [0, 5]), ([6, 6, 0, 1, 2, 3, 4, 5, 6], [6])])
def rg7_10_B : List Nat := [0, 0, 0, 6, 14, 30, 63, 127]
theorem rg7_10_tab : rtab .any (opsOf Tryz.f7 10) = rg7_10_T := by kernel_rfl
theorem rg7_10_bits : waitsOk rg7_10_T.2 rg7_10_B = true := by kernel_rfl
set_option maxHeartbeats 16000000 in
set_option maxRecDepth 100000 in
theorem plan27_calls (An Ap : Option Addr) (nn np cn cp : Nat) (v2 v3 : Value) (ns ps : List Ob) (w : World) (h2 : v2.oneCell' = true) (h3 : v3.oneCell' = true) (hn : kO.C w An nn ns) (hp : kO.C w Ap np ps) (ln : nn ≤ 10000) (lp : np ≤ 10000) (fn : ∀ o ∈ ns, ObFits o) (fp : ∀ o ∈ ps, ObFits o ∧ ObInts o) :
    Calls Tryz.prog 7 #[.agg #[.slice An nn cn, .slice Ap np cp, v2, v3]] w fun e w' => ∃ v, e = .returned v ∧ Kd.S kRq 62 w' w.heap.size (fun _ => True) v (planF ns ps) ∧ Below w.heap.size w w' := by
  obtain ⟨ts, hts, hT, hL⟩ := T_of_kO hn
  obtain ⟨qs, hqs, hP, hLP⟩ := T_of_kO hp
  have HTS := Lib.hid (And.intro hts hqs)
  have hfl : (w.alloc (Obj.cells #[.slice An nn cn, .slice Ap np cp, v2, v3] 24)).heap[w.heap.size]? = some (.cells #[.slice An nn cn, .slice Ap np cp, v2, v3] 24 (0, 0)) := heap_alloc_new w _
  obtain ⟨W0, hW0⟩ : ∃ x, x = w.alloc (Obj.cells #[.slice An nn cn, .slice Ap np cp, v2, v3] 24) := ⟨_, rfl⟩
  have HF0 : Hid (W0.heap[w.heap.size]? = some (.cells #[.slice An nn cn, .slice Ap np cp, v2, v3] 24 (0, 0))) := Lib.hid (by rw [hW0]; exact hfl)
  have HB0 : Hid (Below w.heap.size w W0) := Lib.hid (by rw [hW0]; exact below_alloc (Below.refl w.heap.size w) _)
  have HSrc := Lib.hid (And.intro (And.intro hT hL) (And.intro hP hLP))
  have hft : ∀ t ∈ ts, ObFits t.1 := fun t ht => fn t.1 (by rw [← hts]; exact List.mem_map_of_mem ht)
  have HFt := Lib.hid hft
  have HFn : Hid (∀ t ∈ ts, t.1.name.size ≤ 140737488351232) := Lib.hid (fun t ht => (hft t ht).1)
  have HFp := Lib.hid fp
  have HV := Lib.hid (And.intro h2 h3)
  have HLn : Hid (ts.length = nn) := Lib.hid hT.1
  have HLP : Hid (np ≤ 1000000 ∧ qs.length ≤ 10000) := Lib.hid ⟨by omega, by rw [hP.1]; exact lp⟩
  replace hW0 := Lib.hid hW0
  clear hn hp hts hqs hT hL hP hLP fn fp hfl hft
  go_enter Tryz.func7, Tryz.ntmps7
  go_wp2_with (first
    | ((with_reducible refine gate_ (.load 24 (.tmp 1)) rfl ?_); rw [← hW0.out]; clear hW0; (with_reducible refine wpList_load_blk (op := ⟨some 10, _, _, _, _, _⟩) rfl 24 (.tmp 1) rfl w.heap.size 24 ?f1 #[.slice An nn cn, .slice Ap np cp, v2, v3] _ ?f2 Tryz.underlying24 ?f3 ?f4 ?_); (case f1 => rfl); (case f2 => exact HF0.out); (case f3 => rfl); (case f4 => exact infoF1))
    | (go_at_call 22; (with_reducible refine (draining_calls (.slice Ap np cp) v2 v3 An cn nn ts W0 (Kd.C_below HSrc.out.1.1 HB0.out) ln HFn.out).mono ?_); rintro e w7 ⟨v, rfl, hR7, hB7⟩; obtain ⟨A1, c1, hv⟩ := Kd.R_slice hR7; obtain ⟨ss, hss⟩ : ∃ x, x = Srt.isort cT (ts.filter (fun t => t.1.draining)) := ⟨_, rfl⟩; rw [← hss] at hv hR7; obtain ⟨ms, hms⟩ : ∃ x, x = ss.length := ⟨_, rfl⟩; rw [← hms] at hv; subst hv; have HSS := Lib.hid (And.intro hss hms); have HR7 := Lib.hid hR7; have HB7 := Lib.hid hB7; clear hR7 hB7 hss hms))
  have HMS : Hid (ms ≤ 10000 ∧ (∀ t ∈ ss, ObFits t.1 ∧ t ∈ ts) ∧ (ss.map (·.1)).flatMap (askN ps) = planF ns ps) := Lib.hid ⟨by
      have h1 : (ts.filter (fun t => t.1.draining)).length ≤ ts.length := List.length_filter_le _ _
      rw [HSS.out.2, HSS.out.1, Srt.isort_length]
      have := HLn.out
      omega, fun t ht => by
      rw [HSS.out.1, Srt.mem_isort] at ht
      exact ⟨HFt.out t (List.mem_filter.1 ht).1, (List.mem_filter.1 ht).1⟩, by rw [HSS.out.1, planF_drain, HTS.out.1]⟩
  have HM : Hid (Mid w w7 #[.slice An nn cn, .slice Ap np cp, v2, v3] An Ap A1 np ss qs) := Lib.hid ⟨blkB HB7.out HF0.out, (Kd.R_reads' HR7.out).2.2, fun t ht => (HSrc.out.1.2.below (belT HB0.out HB7.out)) t (HMS.out.2.1 t ht).2, Kd.C_below HSrc.out.2.1 (belT HB0.out HB7.out), HSrc.out.2.2.below (belT HB0.out HB7.out), belT HB0.out HB7.out⟩
  have hms := HMS.out.1
  clear HR7 HB7 HF0
  go_loopw [3, 5] (fun v3 v5 wr => ∃ k : Nat, v5 = .int .i64 k ∧ k ≤ ms ∧ Hid (Kd.S kRq 62 wr w7.heap.size (fun _ => True) v3 (((ss.map (·.1)).take k).flatMap (askN ps)) ∧ Below w7.heap.size w7 wr)) (fun _ v5 _ => ms - (intOf v5).toNat)
  case atStart => exact ⟨0, rfl, Nat.zero_le _, Lib.hid ⟨Kd.S_nil _ _ _ _ _, Below.refl _ _⟩⟩
  case round =>
    obtain ⟨k, rfl, hk, hI⟩ := hrel
    rename World => wx
    by_cases hlt : k < ms
    · obtain ⟨⟨o, y4, y27⟩, ht⟩ : ∃ t, ss[k]? = some t := ⟨_, List.getElem?_eq_getElem (by have := HSS.out.2; omega)⟩
      have HMx := HM.out.below hI.out.2
      have hns := HMx.ns
      rw [← HSS.out.2] at hns
      obtain ⟨ad, hA1, hc1, hO⟩ := tAt hns k _ ht
      subst hA1
      replace hc1 : (o.cells y4 y27).all (·.oneCell') = true := hc1
      replace hO : ∀ (j : Nat) (u : Value), (o.cells y4 y27)[j]? = some u → wx.cell? ((ad.add (k * 32)).add j) = some u := hO
      obtain ⟨h4, h27⟩ : LabK wx o.labels y4 ∧ LabK wx o.select y27 := HMx.nl _ (List.mem_of_getElem? ht)
      have hf : ObFits o := (HMS.out.2.1 _ (List.mem_of_getElem? ht)).1
      have hlk : (k : Int) < (ms : Int) := by omega
      obtain ⟨nmx, hnm⟩ : ∃ s, s = o.name := ⟨_, rfl⟩
      have QC := Lib.hid (copyObject_calls o y4 y27 wx h4 h27 hf)
      have hsn := ask_snoc ps (l := ss.map (·.1)) (k := k) (o := o) (by rw [List.getElem?_map, ht]; rfl)
      obtain ⟨d, hd⟩ : ∃ b, b = o.cordoned := ⟨_, rfl⟩
      have hdr : o.draining = true := by
        have h1 := List.mem_of_getElem? ht
        rw [HSS.out.1, Srt.mem_isort] at h1
        exact (List.mem_filter.1 h1).2
      have hsz : (((ss.map (·.1)).take k).flatMap (askN ps)).length + 20000 ≤ 200000000 := by
        have h1 := ask_len ps ((ss.map (·.1)).take k)
        rw [List.length_take] at h1
        have h2 : ps.length ≤ 10000 := by rw [← HTS.out.2, List.length_map]; exact HLP.out.2
        have h3 : min k (ss.map (·.1)).length * (1 + ps.length) ≤ 10000 * 10001 := Nat.mul_le_mul (by omega) (by omega)
        omega
      have HSZ := Lib.hid hsz
      have HLEN1 : Hid (((((ss.map (·.1)).take k).flatMap (askN ps)).length + 1) * 416 ≤ 140737488355328) := Lib.hid (by omega)
      obtain ⟨cs, hcs⟩ : ∃ cs, cs = o.cells y4 y27 := ⟨_, rfl⟩
      have hi1 : Hid ((Tryz.prog.info? 53).map (·.size) = some cs.size) := Lib.hid (by rw [hcs]; exact infoO1)
      have c7 : wx.cell? ⟨(ad.add (k * 32)).block, (ad.add (k * 32)).off + 7, none⟩ = some (.bool d) := t_field hO 7 (by decide) (by rw [hd]; rfl)
      have HC1 : Hid (∀ W : World, Below w7.heap.size w7 W → W.cell? ⟨(ad.add (k * 32)).block, (ad.add (k * 32)).off + 1, none⟩ = some (.string nmx)) := Lib.hid (fun W hW => by
        have hns2 := (HM.out.below hW).ns
        rw [← HSS.out.2] at hns2
        obtain ⟨ad2, hA2, _, hO2⟩ := tAt hns2 k _ ht
        injection hA2 with hA2
        subst hA2
        exact t_field hO2 1 (by decide) (by rw [hnm]; rfl))
      rw [← hcs] at hO QC
      have HO := Lib.hid hO
      have HE := Lib.hid (And.intro hdr (And.intro hd (And.intro hsn hnm)))
      clear ht hc1 hO hcs h4 h27 hf hsn hd hnm hdr hsz hns HMx
      cases d
      · have hask : Hid (askN ps o = [upd o] ++ (victOn ps nmx).map evict) := Lib.hid (by unfold askN; rw [HE.out.1, ← HE.out.2.1, HE.out.2.2.2]; rfl)
        go_wp2_with (first
          | ((with_reducible refine wpList_load_any (op := ⟨some 27, _, _, _, _, _⟩) rfl 53 (.tmp 26) rfl (ad.add (k * 32)) ?c1 cs _ ?c2 Tryz.underlying53 ?c3 ?c4 ?_); (case c1 => rfl); (case c2 => exact HO.out); (case c3 => rfl); (case c4 => exact hi1.out))
          | (go_at_call 23; (with_reducible refine QC.out.mono ?_); rintro e w2 ⟨u4, u27, rfl, hM2, hb2⟩; have h1c := kO.K_one (kO.K_of_M hM2); obtain ⟨oc, hoc⟩ : ∃ x, x = o.cells u4 u27 := ⟨_, rfl⟩; have HO1 : Hid (oc.all (·.oneCell') = true) := Lib.hid (by rw [hoc]; exact Array.all_eq_true_iff_forall_mem.2 (fun u hu => h1c u (by simpa using hu))); have HM2 := Lib.hid (And.intro hM2 (And.intro hoc hb2)); have HOS : Hid ((Tryz.prog.info? 53).map (·.size) = some oc.size ∧ 32 = oc.size) := Lib.hid (by rw [hoc]; exact ⟨infoO1, rfl⟩); rw [← hoc]; clear hM2 hb2 hoc h1c)
          | ((with_reducible refine wpList_store_blk rfl 53 (.tmp 6) (.tmp 28) rfl w2.heap.size 53 ?c0s oc ?c1s ?c2s ?c3s ?c4s ?c5s ?c6s ?_); (case c1s => rfl); (case c2s => rfl); (case c3s => exact heap_alloc_new _ _); (case c4s => exact HOS.out.1); (case c5s => exact Eq.trans (b := 32) rfl HOS.out.2); (case c6s => exact HO1.out); intro w3 G3 hk3 hb3 hz3; have HB3 := Lib.hid (hb3 _ _ (below_alloc (Below.refl _ _) _) (Nat.le_refl _)); obtain ⟨g, hg⟩ : ∃ g, g = w2.heap.size := ⟨_, rfl⟩; rw [← hg] at G3 ⊢; have HG := Lib.hid hg; clear hk3 hb3 hz3 hg)
          | ((with_reducible refine wpList_store1 rfl 4 (.tmp 29) (.const (.bool true)) rfl g 7 53 oc (.bool true) ?n1 ?n2 ?n3 ?n4 ?n5 ?n6 ?n7 ?_); (case n1 => rfl); (case n2 => rfl); (case n3 => rfl); (case n4 => exact G3); (case n5 => exact (by rw [← HOS.out.2]; decide)); (case n6 => kernel_rfl); (case n7 => rfl); intro w5 G5 hk5 hb5 hz5; obtain ⟨cc, rl, hX⟩ := (p27_facts hI.out.1 hI.out.2 HM2.out.1 HM2.out.2.1 HM2.out.2.2 HB3.out HG.out G5 hk5 hb5); have HX := Lib.hid hX; have E2 : Hid (w5.cell? ⟨g, 2, none⟩ = some (.int .i64 o.version)) := Lib.hid hX.ver; clear hk5 hb5 hz5 G5 G3 hX)
          | ((with_reducible refine wpList_load_blk (op := ⟨some 31, _, _, _, _, _⟩) rfl 53 (.tmp 6) rfl g 53 ?b1 cc _ ?b2 Tryz.underlying53 ?b3 ?b4 ?_); (case b1 => rfl); (case b2 => exact HX.out.heap); (case b3 => rfl); (case b4 => exact HX.out.csz))
          | ((with_reducible refine wpList_load1_g 3 (.tmp 32) rfl ⟨g, 2, none⟩ rfl ?l1 (.int .i64 o.version) _ E2.out Tryz.underlying3 rfl ?_); (case l1 => rfl); refine wpList_builtL rfl 62 [(0, .const (.int .i64 1)), (1, .tmp 31), (4, .tmp 33)] rfl (some 34) rfl [(0, .int .i64 1), (1, .agg cc), (4, .int .i64 o.version)] rfl rl.toArray HX.out.built ?_)
          | ((with_reducible refine wpList_build1 (op := ⟨some 35, _, _, _, _, _⟩) rfl 27 62 (.tmp 34) rfl rl.toArray ?d1u (.agg (Rq.zero.cells (.slice none 0 0) (.slice none 0 0))) 42 416 Tryz.underlying27 ?d3u ?d4u (by omega) (by omega) ?d5u ?_); (case d1u => rfl); (case d3u => exact infoRq); (case d4u => exact HX.out.rsz); (case d5u => rfl))
          | ((with_reducible refine gate_ (.call { callee := .builtin .append, args := #[.tmp 30, .tmp 35], argTypes := #[27, 27] }) rfl ?_); refine Kd.S_append kRq (w0 := w7) (W := w5) w7.heap.size rfl (.tmp 30) (.tmp 35) 27 62 (.agg (Rq.zero.cells (.slice none 0 0) (.slice none 0 0))) 416 rfl Tryz.underlying27 infoRq rfl (by decide) (by decide) u3 (((ss.map (·.1)).take k).flatMap (askN ps)) (upd o) rl (fun _ => True) (fun k => wx.heap.size ≤ k ∧ k < w2.heap.size) rfl rfl ?p1u ?p0u (fun _ _ => trivial) ?p2u ?p3u ?p4u ?p5u ?_; (case p1u => exact HX.out.mm); (case p0u => exact HX.out.op); (case p2u => exact HX.out.rq); (case p3u => exact HX.out.bl); (case p4u => exact (HX.out.bl).size); (case p5u => exact HLEN1.out); intro v1 wg hRg hBg hgg hatg; have HW := Lib.hid (And.intro hRg hBg); clear hRg hBg hgg hatg))
        have HCN : Hid (wg.cell? ⟨(ad.add (k * 32)).block, (ad.add (k * 32)).off + 1, none⟩ = some (.string nmx)) := Lib.hid (HC1.out _ HW.out.2)
        have HFL : Hid (∀ W : World, Below wg.heap.size wg W → ∀ (j : Nat) (u : Value), (#[.slice An nn cn, .slice Ap np cp, v2, v3] : Array Value)[j]? = some u → W.cell? ((⟨w.heap.size, 0, none⟩ : Addr).add j) = some u) := Lib.hid (fun W hW j u hu => by
          rw [add_at, Nat.zero_add, cell_of_row _ _ _ _ _ _ (HM.out.below (belT HW.out.2 hW)).fl]
          exact hu)
        have QON : Hid (∀ W : World, Below wg.heap.size wg W → Calls Tryz.prog 24 #[.agg #[.slice An nn cn, .slice Ap np cp, v2, v3], .string nmx] W fun e w' => ∃ v, e = .returned v ∧ kT.R 53 w' W.heap.size (fun _ => True) v (onF nmx qs) ∧ Below W.heap.size W w') := Lib.hid (fun W hW => on27_calls (.slice An nn cn) v2 v3 Ap cp np nmx qs W (HM.out.below (belT HW.out.2 hW)).ps HLP.out.1)
        have HB : Below wg.heap.size wg wg := Below.refl _ _
        replace HB := below_drew HB
        have CN : wg.drew.cell? ⟨(ad.add (k * 32)).block, (ad.add (k * 32)).off + 1, none⟩ = some (.string nmx) := HCN.out
        go_upto_region 10 with (fail)
        refine start_ (n := 8) (S := fun w' => Below wg.heap.size wg w' ∧ w'.cell? ⟨(ad.add (k * 32)).block, (ad.add (k * 32)).off + 1, none⟩ = some (.string nmx)) (ds := [6]) (bs 8 0) (by kernel_rfl) rfl (by kernel_rfl) ⟨HB, CN⟩ (fun hHeld => ?_)
        refine with_tabW rg7_10_tab rg7_10_bits (fun HT_ HW_ => ?_)
        refine pu 1 (some 38) (bs 8 2) HT_ rfl rfl (by kernel_rfl) (fun _ _ _ _ h => h) ⟨_, .inl ⟨by rfl, fun _ => by go_simp; with_reducible rfl⟩, _, by simp only [Act.put, sA, sB, sC, i64_w, i32_w]; rfl, ?_⟩
        refine pu 2 (some 39) (bs 8 6) HT_ rfl rfl (by kernel_rfl) (fun _ _ _ _ h => h) ⟨_, .inl ⟨by rfl, fun _ => by go_simp; with_reducible rfl⟩, _, by simp only [Act.put, sA, sB, sC, i64_w, i32_w]; rfl, ?_⟩
        refine pu 3 (some 40) (bs 8 14) HT_ rfl rfl (by kernel_rfl) (fun _ _ _ _ h => h) ⟨_, .inl ⟨by rfl, fun _ => by go_simp; with_reducible rfl⟩, _, by simp only [Act.put, sA, sB, sC, i64_w, i32_w]; rfl, ?_⟩
        refine pu 4 (some 41) (bs 8 30) HT_ rfl rfl (by kernel_rfl) (fun _ _ _ _ h => h) ⟨_, .inl ⟨by rfl, fun _ => by go_simp; with_reducible rfl⟩, _, by simp only [Act.put, sA, sB, sC, i64_w, i32_w]; rfl, ?_⟩
        refine tk 0 (some 37) (bs 8 31) HT_ HW_ rfl rfl (by kernel_rfl) (fun _ _ _ _ h => h) hHeld ⟨_, .inl ⟨by rfl, by rintro w' ⟨s0, s1⟩; refine load_any_ (x := .tmp 1) (p := ⟨w.heap.size, 0, none⟩) (cs := #[.slice An nn cn, .slice Ap np cp, v2, v3]) ?_ ?_ (HFL.out _ s0) Tryz.underlying24 rfl infoF1 <;> rfl⟩, _, by simp only [Act.put, sA, sB, sC, i64_w, i32_w]; rfl, ?_⟩
        refine tk 5 (some 42) (bs 8 63) HT_ HW_ rfl rfl (by kernel_rfl) (fun _ _ _ _ h => h) hHeld ⟨_, .inl ⟨by rfl, by rintro w' ⟨s0, s1⟩; go_simp; with_reducible rfl⟩, _, by simp only [Act.put, sA, sB, sC, i64_w, i32_w]; rfl, ?_⟩
        refine la1 6 (some 43) (bs 8 127) HT_ rfl rfl (by kernel_rfl) (by decide) (fun K hK => ?_)
        refine goes_ Tryz.func24 (by kernel_rfl) rfl #[.agg #[.slice An nn cn, .slice Ap np cp, v2, v3], .string nmx] (by rfl) rfl rfl (by (try simp only [List.map_toArray, List.map_cons, List.map_nil]); first | done | rfl) ?_
        with_reducible refine (QON.out _ HB).mono ?_
        rintro e wa ⟨v, rfl, hRa, hba⟩
        have HRA := Lib.hid hRa
        have HBA := Lib.hid (belT HB hba)
        clear hRa hba HB CN
        refine ⟨_, rfl, ?_⟩
        refine hK.out _ _ ?_
        clear hK K
        refine nm ⟨_, show Act.put _ (some 43) _ = _ by simp only [Act.put, sA, sB, sC, i64_w, i32_w]; rfl, ?_⟩
        refine pu 7 (some 7) (bs 8 255) HT_ rfl rfl (by kernel_rfl) (fun _ _ _ _ h => h) ⟨_, .inl ⟨by rfl, fun _ => by go_simp; with_reducible rfl⟩, _, by simp only [Act.put, sA, sB, sC, i64_w, i32_w]; rfl, ?_⟩
        refine done_ (done_of HT_.out (by kernel_rfl)) ?_
        obtain ⟨A5, c5, hv⟩ := Kd.R_slice HRA.out
        obtain ⟨n5, hn5⟩ : ∃ x, x = (onF nmx qs).length := ⟨_, rfl⟩
        rw [← hn5] at hv
        subst hv
        have QV := Lib.hid (vict27_at HTS.out.2 HRA.out (((HM.out.below HW.out.2).pl).below HBA.out) HFp.out HLP.out.2)
        clear hn5
        go_wp2_with (first
          | (go_at_call 25; (with_reducible refine QV.out.mono ?_); rintro e wb ⟨A6, m, c6, tv, rfl, hv⟩; have HI6 := Lib.hid (inn_start HW.out.1 HW.out.2 HBA.out hv.out.2.2.2 hv.out.2.1 hv.out.2.2.1); have HTV := Lib.hid (And.intro hv.out.1 (And.intro hv.out.2.1.1 (vict_len hv.out.1 HTS.out.2 HLP.out.2))); clear hv QV))
        go_loopw [3, 9] (fun v3 v9 wr => ∃ j : Nat, v9 = .int .i64 j ∧ j ≤ m ∧ Hid (Inn w7 wr A6 m tv v3 (((((ss.map (·.1)).take k).flatMap (askN ps) ++ [upd o])) ++ ((tv.map (·.1)).take j).map evict))) (fun _ v9 _ => m - (intOf v9).toNat)
        case atStart => exact ⟨0, rfl, Nat.zero_le _, Lib.hid (by simpa using HI6.out)⟩
        case round =>
          obtain ⟨j, rfl, hj, hJ⟩ := hrel
          by_cases hjm : j < m
          · obtain ⟨⟨p, z4, z27⟩, ht⟩ : ∃ t, tv[j]? = some t := ⟨_, List.getElem?_eq_getElem (by have := HTV.out.2.1; omega)⟩
            obtain ⟨bd, hA6, hc1, hO⟩ := tAt hJ.out.vs j _ ht
            subst hA6
            have D1 : wr.cell? ⟨(bd.add (j * 32)).block, (bd.add (j * 32)).off + 1, none⟩ = some (.string p.name) := t_field hO 1 (by decide) rfl
            have hjl : (j : Int) < (m : Int) := by omega
            have hjm10 : j ≤ 10000 := by have := HTV.out.2; omega
            have htk : ((tv.map (·.1)).take (j + 1)).map evict = ((tv.map (·.1)).take j).map evict ++ [evict p] := by rw [List.take_add_one, List.getElem?_map, ht]; simp
            have HTK := Lib.hid htk
            have HLEN : Hid (((((((ss.map (·.1)).take k).flatMap (askN ps) ++ [upd o])) ++ ((tv.map (·.1)).take j).map evict).length + 1) * 416 ≤ 140737488355328) := Lib.hid (by have h1 := HSZ.out; have h2 := HTV.out.2.2; simp only [List.length_append, List.length_map, List.length_take, List.length_cons, List.length_nil] at h1 ⊢; omega)
            clear ht hc1 hO htk
            go_wp2_with (first
              | ((with_reducible refine wpList_build1 (op := ⟨some 61, _, _, _, _, _⟩) rfl 27 62 (.tmp 60) rfl ((evict p).cells (.slice none 0 0) (.slice none 0 0)) ?d1v (.agg (Rq.zero.cells (.slice none 0 0) (.slice none 0 0))) 42 416 Tryz.underlying27 ?d3v ?d4v (by omega) (by omega) ?d5v ?_); (case d1v => rfl); (case d3v => exact infoRq); (case d4v => exact rfl); (case d5v => rfl))
              | ((with_reducible refine gate_ (.call { callee := .builtin .append, args := #[.tmp 54, .tmp 61], argTypes := #[27, 27] }) rfl ?_); refine Kd.S_append kRq (w0 := w7) (W := wr) w7.heap.size rfl (.tmp 54) (.tmp 61) 27 62 (.agg (Rq.zero.cells (.slice none 0 0) (.slice none 0 0))) 416 rfl Tryz.underlying27 infoRq rfl (by decide) (by decide) u3 (((((ss.map (·.1)).take k).flatMap (askN ps) ++ [upd o])) ++ ((tv.map (·.1)).take j).map evict) (evict p) ((evict p).cells (.slice none 0 0) (.slice none 0 0)).toList (fun _ => True) (fun _ => False) rfl rfl ?p1v ?p0v (fun _ _ => trivial) ?p2v ?p3v ?p4v ?p5v ?_; (case p1v => exact evict_M p wr _); (case p0v => exact fun _ h => h.elim); (case p2v => exact Kd.S_mono hJ.out.rq (fun _ _ => ⟨trivial, fun h => h⟩)); (case p3v => exact hJ.out.bl); (case p4v => exact (hJ.out.bl).size); (case p5v => exact HLEN.out); intro v1 wd hRd hBd hgd hatd))
            go_roundw
            case rel => exact ⟨j + 1, by go_num, by omega, Lib.hid (by rw [HTK.out, ← List.append_assoc]; exact hJ.out.app hRd hBd hgd hatd hgd.size)⟩
            case measure => simp [intOf]; omega
          · obtain rfl : j = m := by omega
            have hfin : Hid (Kd.S kRq 62 wr w7.heap.size (fun _ => True) u3 (((ss.map (·.1)).take (k + 1)).flatMap (askN ps)) ∧ Below w7.heap.size w7 wr) := Lib.hid (by
              have h1 := hJ.out.rq
              rw [show (tv.map (·.1)).take j = tv.map (·.1) from List.take_of_length_le (by rw [List.length_map, HTV.out.2.1]; exact Nat.le_refl _), HTV.out.1] at h1
              rw [HE.out.2.2.1, hask.out, ← List.append_assoc]
              exact ⟨by simpa using h1, hJ.out.bl⟩)
            go_wp2
            go_roundw
            case rel => exact ⟨k + 1, by go_num, by omega, hfin⟩
            case measure => simp [intOf]; omega
      · have hask : Hid (askN ps o = [] ++ (victOn ps nmx).map evict) := Lib.hid (by unfold askN; rw [HE.out.1, ← HE.out.2.1, HE.out.2.2.2]; rfl)
        have HW := hI
        have HCN : Hid (wx.cell? ⟨(ad.add (k * 32)).block, (ad.add (k * 32)).off + 1, none⟩ = some (.string nmx)) := Lib.hid (HC1.out _ HW.out.2)
        have HFL : Hid (∀ W : World, Below wx.heap.size wx W → ∀ (j : Nat) (u : Value), (#[.slice An nn cn, .slice Ap np cp, v2, v3] : Array Value)[j]? = some u → W.cell? ((⟨w.heap.size, 0, none⟩ : Addr).add j) = some u) := Lib.hid (fun W hW j u hu => by
          rw [add_at, Nat.zero_add, cell_of_row _ _ _ _ _ _ (HM.out.below (belT HW.out.2 hW)).fl]
          exact hu)
        have QON : Hid (∀ W : World, Below wx.heap.size wx W → Calls Tryz.prog 24 #[.agg #[.slice An nn cn, .slice Ap np cp, v2, v3], .string nmx] W fun e w' => ∃ v, e = .returned v ∧ kT.R 53 w' W.heap.size (fun _ => True) v (onF nmx qs) ∧ Below W.heap.size W w') := Lib.hid (fun W hW => on27_calls (.slice An nn cn) v2 v3 Ap cp np nmx qs W (HM.out.below (belT HW.out.2 hW)).ps HLP.out.1)
        have HB : Below wx.heap.size wx wx := Below.refl _ _
        replace HB := below_drew HB
        have CN : wx.drew.cell? ⟨(ad.add (k * 32)).block, (ad.add (k * 32)).off + 1, none⟩ = some (.string nmx) := HCN.out
        go_upto_region 10 with (fail)
        refine start_ (n := 8) (S := fun w' => Below wx.heap.size wx w' ∧ w'.cell? ⟨(ad.add (k * 32)).block, (ad.add (k * 32)).off + 1, none⟩ = some (.string nmx)) (ds := [6]) (bs 8 0) (by kernel_rfl) rfl (by kernel_rfl) ⟨HB, CN⟩ (fun hHeld => ?_)
        refine with_tabW rg7_10_tab rg7_10_bits (fun HT_ HW_ => ?_)
        refine pu 1 (some 38) (bs 8 2) HT_ rfl rfl (by kernel_rfl) (fun _ _ _ _ h => h) ⟨_, .inl ⟨by rfl, fun _ => by go_simp; with_reducible rfl⟩, _, by simp only [Act.put, sA, sB, sC, i64_w, i32_w]; rfl, ?_⟩
        refine pu 2 (some 39) (bs 8 6) HT_ rfl rfl (by kernel_rfl) (fun _ _ _ _ h => h) ⟨_, .inl ⟨by rfl, fun _ => by go_simp; with_reducible rfl⟩, _, by simp only [Act.put, sA, sB, sC, i64_w, i32_w]; rfl, ?_⟩
        refine pu 3 (some 40) (bs 8 14) HT_ rfl rfl (by kernel_rfl) (fun _ _ _ _ h => h) ⟨_, .inl ⟨by rfl, fun _ => by go_simp; with_reducible rfl⟩, _, by simp only [Act.put, sA, sB, sC, i64_w, i32_w]; rfl, ?_⟩
        refine pu 4 (some 41) (bs 8 30) HT_ rfl rfl (by kernel_rfl) (fun _ _ _ _ h => h) ⟨_, .inl ⟨by rfl, fun _ => by go_simp; with_reducible rfl⟩, _, by simp only [Act.put, sA, sB, sC, i64_w, i32_w]; rfl, ?_⟩
        refine tk 0 (some 37) (bs 8 31) HT_ HW_ rfl rfl (by kernel_rfl) (fun _ _ _ _ h => h) hHeld ⟨_, .inl ⟨by rfl, by rintro w' ⟨s0, s1⟩; refine load_any_ (x := .tmp 1) (p := ⟨w.heap.size, 0, none⟩) (cs := #[.slice An nn cn, .slice Ap np cp, v2, v3]) ?_ ?_ (HFL.out _ s0) Tryz.underlying24 rfl infoF1 <;> rfl⟩, _, by simp only [Act.put, sA, sB, sC, i64_w, i32_w]; rfl, ?_⟩
        refine tk 5 (some 42) (bs 8 63) HT_ HW_ rfl rfl (by kernel_rfl) (fun _ _ _ _ h => h) hHeld ⟨_, .inl ⟨by rfl, by rintro w' ⟨s0, s1⟩; go_simp; with_reducible rfl⟩, _, by simp only [Act.put, sA, sB, sC, i64_w, i32_w]; rfl, ?_⟩
        refine la1 6 (some 43) (bs 8 127) HT_ rfl rfl (by kernel_rfl) (by decide) (fun K hK => ?_)
        refine goes_ Tryz.func24 (by kernel_rfl) rfl #[.agg #[.slice An nn cn, .slice Ap np cp, v2, v3], .string nmx] (by rfl) rfl rfl (by (try simp only [List.map_toArray, List.map_cons, List.map_nil]); first | done | rfl) ?_
        with_reducible refine (QON.out _ HB).mono ?_
        rintro e wa ⟨v, rfl, hRa, hba⟩
        have HRA := Lib.hid hRa
        have HBA := Lib.hid (belT HB hba)
        clear hRa hba HB CN
        refine ⟨_, rfl, ?_⟩
        refine hK.out _ _ ?_
        clear hK K
        refine nm ⟨_, show Act.put _ (some 43) _ = _ by simp only [Act.put, sA, sB, sC, i64_w, i32_w]; rfl, ?_⟩
        refine pu 7 (some 7) (bs 8 255) HT_ rfl rfl (by kernel_rfl) (fun _ _ _ _ h => h) ⟨_, .inl ⟨by rfl, fun _ => by go_simp; with_reducible rfl⟩, _, by simp only [Act.put, sA, sB, sC, i64_w, i32_w]; rfl, ?_⟩
        refine done_ (done_of HT_.out (by kernel_rfl)) ?_
        obtain ⟨A5, c5, hv⟩ := Kd.R_slice HRA.out
        obtain ⟨n5, hn5⟩ : ∃ x, x = (onF nmx qs).length := ⟨_, rfl⟩
        rw [← hn5] at hv
        subst hv
        have QV := Lib.hid (vict27_at HTS.out.2 HRA.out (((HM.out.below HW.out.2).pl).below HBA.out) HFp.out HLP.out.2)
        clear hn5
        go_wp2_with (first
          | (go_at_call 25; (with_reducible refine QV.out.mono ?_); rintro e wb ⟨A6, m, c6, tv, rfl, hv⟩; have HI6 := Lib.hid (inn_start HW.out.1 HW.out.2 HBA.out hv.out.2.2.2 hv.out.2.1 hv.out.2.2.1); have HTV := Lib.hid (And.intro hv.out.1 (And.intro hv.out.2.1.1 (vict_len hv.out.1 HTS.out.2 HLP.out.2))); clear hv QV))
        go_loopw [3, 9] (fun v3 v9 wr => ∃ j : Nat, v9 = .int .i64 j ∧ j ≤ m ∧ Hid (Inn w7 wr A6 m tv v3 ((((ss.map (·.1)).take k).flatMap (askN ps)) ++ ((tv.map (·.1)).take j).map evict))) (fun _ v9 _ => m - (intOf v9).toNat)
        case atStart => exact ⟨0, rfl, Nat.zero_le _, Lib.hid (by simpa using HI6.out)⟩
        case round =>
          obtain ⟨j, rfl, hj, hJ⟩ := hrel
          by_cases hjm : j < m
          · obtain ⟨⟨p, z4, z27⟩, ht⟩ : ∃ t, tv[j]? = some t := ⟨_, List.getElem?_eq_getElem (by have := HTV.out.2.1; omega)⟩
            obtain ⟨bd, hA6, hc1, hO⟩ := tAt hJ.out.vs j _ ht
            subst hA6
            have D1 : wr.cell? ⟨(bd.add (j * 32)).block, (bd.add (j * 32)).off + 1, none⟩ = some (.string p.name) := t_field hO 1 (by decide) rfl
            have hjl : (j : Int) < (m : Int) := by omega
            have hjm10 : j ≤ 10000 := by have := HTV.out.2; omega
            have htk : ((tv.map (·.1)).take (j + 1)).map evict = ((tv.map (·.1)).take j).map evict ++ [evict p] := by rw [List.take_add_one, List.getElem?_map, ht]; simp
            have HTK := Lib.hid htk
            have HLEN : Hid ((((((ss.map (·.1)).take k).flatMap (askN ps)) ++ ((tv.map (·.1)).take j).map evict).length + 1) * 416 ≤ 140737488355328) := Lib.hid (by have h1 := HSZ.out; have h2 := HTV.out.2.2; simp only [List.length_append, List.length_map, List.length_take, List.length_cons, List.length_nil] at h1 ⊢; omega)
            clear ht hc1 hO htk
            go_wp2_with (first
              | ((with_reducible refine wpList_build1 (op := ⟨some 61, _, _, _, _, _⟩) rfl 27 62 (.tmp 60) rfl ((evict p).cells (.slice none 0 0) (.slice none 0 0)) ?d1v (.agg (Rq.zero.cells (.slice none 0 0) (.slice none 0 0))) 42 416 Tryz.underlying27 ?d3v ?d4v (by omega) (by omega) ?d5v ?_); (case d1v => rfl); (case d3v => exact infoRq); (case d4v => exact rfl); (case d5v => rfl))
              | ((with_reducible refine gate_ (.call { callee := .builtin .append, args := #[.tmp 54, .tmp 61], argTypes := #[27, 27] }) rfl ?_); refine Kd.S_append kRq (w0 := w7) (W := wr) w7.heap.size rfl (.tmp 54) (.tmp 61) 27 62 (.agg (Rq.zero.cells (.slice none 0 0) (.slice none 0 0))) 416 rfl Tryz.underlying27 infoRq rfl (by decide) (by decide) u3 ((((ss.map (·.1)).take k).flatMap (askN ps)) ++ ((tv.map (·.1)).take j).map evict) (evict p) ((evict p).cells (.slice none 0 0) (.slice none 0 0)).toList (fun _ => True) (fun _ => False) rfl rfl ?p1v ?p0v (fun _ _ => trivial) ?p2v ?p3v ?p4v ?p5v ?_; (case p1v => exact evict_M p wr _); (case p0v => exact fun _ h => h.elim); (case p2v => exact Kd.S_mono hJ.out.rq (fun _ _ => ⟨trivial, fun h => h⟩)); (case p3v => exact hJ.out.bl); (case p4v => exact (hJ.out.bl).size); (case p5v => exact HLEN.out); intro v1 wd hRd hBd hgd hatd))
            go_roundw
            case rel => exact ⟨j + 1, by go_num, by omega, Lib.hid (by rw [HTK.out, ← List.append_assoc]; exact hJ.out.app hRd hBd hgd hatd hgd.size)⟩
            case measure => simp [intOf]; omega
          · obtain rfl : j = m := by omega
            have hfin : Hid (Kd.S kRq 62 wr w7.heap.size (fun _ => True) u3 (((ss.map (·.1)).take (k + 1)).flatMap (askN ps)) ∧ Below w7.heap.size w7 wr) := Lib.hid (by
              have h1 := hJ.out.rq
              rw [show (tv.map (·.1)).take j = tv.map (·.1) from List.take_of_length_le (by rw [List.length_map, HTV.out.2.1]; exact Nat.le_refl _), HTV.out.1] at h1
              rw [HE.out.2.2.1, hask.out, ← List.append_assoc]
              exact ⟨by simpa using h1, hJ.out.bl⟩)
            go_wp2
            go_roundw
            case rel => exact ⟨k + 1, by go_num, by omega, hfin⟩
            case measure => simp [intOf]; omega
    · obtain rfl : k = ms := by omega
      have hR := Kd.S_lower hI.out.1 HM.out.bl.size
      rw [List.take_of_length_le (by rw [List.length_map, ← HSS.out.2]; exact Nat.le_refl _), HMS.out.2.2] at hR
      have HR := Lib.hid hR
      have HB := Lib.hid (belT HM.out.bl hI.out.2)
      clear hR
      go_wp2
      go_ret
      exact ⟨_, rfl, HR.out, HB.out⟩
end Go.Proofs.YtoepbjgldmgaoaaGreatDoor

/- Fleets: their four lists. -/
namespace Go.Proofs.YtoepbjgldmgaoaaGreatDoor
open Go.RowKit Go.Proofs.YtoepbjgldmgaoaaGreatDoorW.PrintWords Go.Proofs.YtoepbjgldmgaoaaGreatDoorW.PrintLast
theorem R_off {α : Type} {d : Kd α} {e base g : Nat} {w w1 : World} {v : Value} {xs : List α} (h : d.R e w base (fun _ => True) v xs) (hb : g < base) (hk : ∀ k, k ≠ g → w1.heap[k]? = w.heap[k]?) : d.R e w1 base (fun _ => True) v xs :=
  Kd.R_mono (Kd.R_move (Kd.R_bound h) (fun k hk' => hk k (by have := hk'.2.1; omega))) (fun _ _ => trivial)
theorem infoF4 : (Tryz.prog.info? 24).map (·.size) = some 4 := by kernel_rfl
structure F4 where
  A0 : Option Addr
  A1 : Option Addr
  A2 : Option Addr
  A3 : Option Addr
  n0 : Nat
  n1 : Nat
  n2 : Nat
  n3 : Nat
  c0 : Nat
  c1 : Nat
  c2 : Nat
  c3 : Nat
  l0 : List Ob
  l1 : List Ob
  l2 : List Ob
  l3 : List Ob
def F4.v (f : F4) : Array Value := #[.slice f.A0 f.n0 f.c0, .slice f.A1 f.n1 f.c1, .slice f.A2 f.n2 f.c2, .slice f.A3 f.n3 f.c3]
structure F4.At (d : Kd Ob) (w : World) (f : F4) : Prop where
  a0 : d.C w f.A0 f.n0 f.l0
  a1 : d.C w f.A1 f.n1 f.l1
  a2 : d.C w f.A2 f.n2 f.l2
  a3 : d.C w f.A3 f.n3 f.l3
theorem F4.At.below {d : Kd Ob} {w w1 : World} {f : F4} (h : F4.At d w f) (hb : Below w.heap.size w w1) : F4.At d w1 f := ⟨Kd.C_below h.a0 hb, Kd.C_below h.a1 hb, Kd.C_below h.a2 hb, Kd.C_below h.a3 hb⟩
structure F4.Ok (f : F4) : Prop where
  n0 : f.n0 ≤ 451081693433
  n1 : f.n1 ≤ 451081693433
  n2 : f.n2 ≤ 451081693433
  n3 : f.n3 ≤ 451081693433
  f0 : ∀ o ∈ f.l0, ObFits o ∧ ObInts o
  f1 : ∀ o ∈ f.l1, ObFits o ∧ ObInts o
  f2 : ∀ o ∈ f.l2, ObFits o ∧ ObInts o
  f3 : ∀ o ∈ f.l3, ObFits o ∧ ObInts o
theorem heap_alloc_at4 (W : World) (o : Obj) (n : Nat) (h : n = W.heap.size) : (W.alloc o).heap[n]? = some o := by subst h; exact heap_alloc_new W o
end Go.Proofs.YtoepbjgldmgaoaaGreatDoor

/- drain.Empty, and the document's: are there pods on a node? -/
namespace Go.Proofs.YtoepbjgldmgaoaaGreatDoor
open Go.RowKit Go.Proofs.YtoepbjgldmgaoaaGreatDoorW.PrintWords Go.Proofs.YtoepbjgldmgaoaaGreatDoorW.PrintLast
def emptyB (ps : List Ob) (s : ByteArray) : Bool := ((vOn ps s).length : Int) == 0
theorem onF_len (s : ByteArray) (qs : List Ot) : (onF s qs).length = (vOn (qs.map (·.1)) s).length := by rw [← onF_map, List.length_map]
theorem emptyD_calls (v0 v2 v3 : Value) (A : Option Addr) (c n : Nat) (s : ByteArray) (ps : List Ob) (w : World) (h0 : v0.oneCell' = true) (h2 : v2.oneCell' = true) (h3 : v3.oneCell' = true) (hr : kO.C w A n ps) (hl : n ≤ 1000000) :
    Calls Tryz.prog 9 #[.agg #[v0, .slice A n c, v2, v3], .string s] w fun e w' => e = .returned (.bool (emptyB ps s)) ∧ Below w.heap.size w w' := by
  obtain ⟨qs, hqs, hP, _⟩ := T_of_kO hr
  have HB0 := Lib.hid (below_alloc (Below.refl w.heap.size w) (Obj.cells #[v0, .slice A n c, v2, v3] 24))
  have HF0 : Hid ((w.alloc (Obj.cells #[v0, .slice A n c, v2, v3] 24)).heap[w.heap.size]? = some (.cells #[v0, .slice A n c, v2, v3] 24 (0, 0))) := Lib.hid (heap_alloc_new w _)
  have Q := Lib.hid (fun W (hW : Below w.heap.size w W) => on_calls v0 v2 v3 A c n s qs W h0 h2 h3 (Kd.C_below hP hW) hl)
  have HE : Hid (emptyB ps s = (((onF s qs).length : Int) == 0)) := Lib.hid (by rw [onF_len, hqs]; rfl)
  rw [HE.out]
  clear hqs hP h0 h2 h3 hr HE
  obtain ⟨k, hk⟩ : ∃ k, k = (onF s qs).length := ⟨_, rfl⟩
  rw [← hk]
  have HK := Lib.hid hk
  clear hk
  go_enter Tryz.func9, Tryz.ntmps9
  go_wp2_with (first
    | ((with_reducible refine wpList_load_blk rfl 24 (.tmp 2) rfl w.heap.size 24 ?f1 #[v0, .slice A n c, v2, v3] _ ?f2 Tryz.underlying24 ?f3 ?f4 ?_); (case f1 => rfl); (case f2 => exact HF0.out); (case f3 => rfl); (case f4 => exact infoF1))
    | (go_at_call 20; (with_reducible refine (Q.out _ HB0.out).mono ?_); rintro e w1 ⟨v, rfl, hR, hb⟩; obtain ⟨A5, c5, hv⟩ := Kd.R_slice hR; rw [← HK.out] at hv; subst hv; have HB := Lib.hid (belT HB0.out hb); clear hR hb))
  go_ret
  exact ⟨rfl, HB.out⟩
theorem emptyR_calls (v0 v2 v3 : Value) (A : Option Addr) (c n : Nat) (s : ByteArray) (ps : List Ob) (w : World) (hr : kO.C w A n ps) (hl : n ≤ 1000000) :
    Calls Tryz.prog 10 #[.agg #[v0, .slice A n c, v2, v3], .string s] w fun e w' => e = .returned (.bool (emptyB ps s)) ∧ Below w.heap.size w w' := by
  obtain ⟨qs, hqs, hP, _⟩ := T_of_kO hr
  have HB0 := Lib.hid (below_alloc (Below.refl w.heap.size w) (Obj.cells #[v0, .slice A n c, v2, v3] 24))
  have HF0 : Hid ((w.alloc (Obj.cells #[v0, .slice A n c, v2, v3] 24)).heap[w.heap.size]? = some (.cells #[v0, .slice A n c, v2, v3] 24 (0, 0))) := Lib.hid (heap_alloc_new w _)
  have Q := Lib.hid (fun W (hW : Below w.heap.size w W) => on27_calls v0 v2 v3 A c n s qs W (Kd.C_below hP hW) hl)
  have HE : Hid (emptyB ps s = (((onF s qs).length : Int) == 0)) := Lib.hid (by rw [onF_len, hqs]; rfl)
  rw [HE.out]
  clear hqs hP hr HE
  obtain ⟨k, hk⟩ : ∃ k, k = (onF s qs).length := ⟨_, rfl⟩
  rw [← hk]
  have HK := Lib.hid hk
  clear hk
  go_enter Tryz.func10, Tryz.ntmps10
  go_wp2_with (first
    | ((with_reducible refine wpList_load_blk rfl 24 (.tmp 2) rfl w.heap.size 24 ?f1 #[v0, .slice A n c, v2, v3] _ ?f2 Tryz.underlying24 ?f3 ?f4 ?_); (case f1 => rfl); (case f2 => exact HF0.out); (case f3 => rfl); (case f4 => exact infoF1))
    | (go_at_call 24; (with_reducible refine (Q.out _ HB0.out).mono ?_); rintro e w1 ⟨v, rfl, hR, hb⟩; obtain ⟨A5, c5, hv⟩ := Kd.R_slice hR; rw [← HK.out] at hv; subst hv; have HB := Lib.hid (belT HB0.out hb); clear hR hb))
  go_ret
  exact ⟨rfl, HB.out⟩
end Go.Proofs.YtoepbjgldmgaoaaGreatDoor

/- flotillalaw27.wide: where it answers false, there are no more nodes and pods than the statement speaks of. -/
namespace Go.Proofs.YtoepbjgldmgaoaaGreatDoor
open Go.RowKit Go.Proofs.YtoepbjgldmgaoaaGreatDoorW.PrintWords Go.Proofs.YtoepbjgldmgaoaaGreatDoorW.PrintLast
def WideP (n0 n1 : Nat) (w : World) (e : Ending) (w' : World) : Prop := ∃ b : Bool, e = .returned (.bool b) ∧ (b = false → n0 ≤ 100 ∧ n1 ≤ 200) ∧ Below w.heap.size w w'
set_option maxHeartbeats 2000000 in
set_option maxRecDepth 100000 in
theorem wide_calls (v2 v3 : Value) (A0 A1 : Option Addr) (c0 c1 n0 n1 : Nat) (l0 l1 : List Ob) (w : World) (h0 : kO.C w A0 n0 l0) (h1 : kO.C w A1 n1 l1) :
    Calls Tryz.prog 4 #[.agg #[.slice A0 n0 c0, .slice A1 n1 c1, v2, v3]] w (WideP n0 n1 w) := by
  obtain ⟨W0, hW0⟩ : ∃ x, x = w.alloc (Obj.cells #[.slice A0 n0 c0, .slice A1 n1 c1, v2, v3] 24) := ⟨_, rfl⟩
  have hn0 : W0.heap[w.heap.size]? = some (.cells #[.slice A0 n0 c0, .slice A1 n1 c1, v2, v3] 24 (0, 0)) := by rw [hW0]; exact heap_alloc_new w _
  have q0 : W0.cell? ⟨w.heap.size, 0, none⟩ = some (.slice A0 n0 c0) := cell_of_row _ _ 0 _ _ _ hn0
  have q1 : W0.cell? ⟨w.heap.size, 1, none⟩ = some (.slice A1 n1 c1) := cell_of_row _ _ 1 _ _ _ hn0
  have HB0 : Hid (Below w.heap.size w W0) := Lib.hid (by rw [hW0]; exact below_alloc (Below.refl w.heap.size w) _)
  have H0 := Lib.hid (And.intro (Kd.C_below h0 HB0.out) (Kd.C_below h1 HB0.out))
  clear h0 h1 hn0
  replace hW0 := Lib.hid hW0
  by_cases ha : 100 < n0
  · have g0 : ((100 : Int) < (n0 : Int)) := by omega
    go_enter Tryz.func4, Tryz.ntmps4
    go_wp2_with (first
      | ((with_reducible refine gate_ (.load 22 (.tmp 5)) rfl ?_); rw [← hW0.out]; clear hW0; (with_reducible refine wpList_load1_w 22 (.tmp 5) rfl ⟨w.heap.size, 0, none⟩ ?la ?lb (.slice A0 n0 c0) _ ?lc Tryz.underlying22 rfl ?_); (case la => rfl); (case lb => rfl); (case lc => exact q0)))
    go_ret
    exact ⟨true, rfl, (fun h => by cases h), HB0.out⟩
  · by_cases hb : 200 < n1
    · have g0 : ¬ ((100 : Int) < (n0 : Int)) := by omega
      have g1 : ((200 : Int) < (n1 : Int)) := by omega
      go_enter Tryz.func4, Tryz.ntmps4
      go_wp2_with (first
        | ((with_reducible refine gate_ (.load 22 (.tmp 5)) rfl ?_); rw [← hW0.out]; clear hW0; (with_reducible refine wpList_load1_w 22 (.tmp 5) rfl ⟨w.heap.size, 0, none⟩ ?la ?lb (.slice A0 n0 c0) _ ?lc Tryz.underlying22 rfl ?_); (case la => rfl); (case lb => rfl); (case lc => exact q0)))
      go_ret
      exact ⟨true, rfl, (fun h => by cases h), HB0.out⟩
    · have g0 : ¬ ((100 : Int) < (n0 : Int)) := by omega
      have g1 : ¬ ((200 : Int) < (n1 : Int)) := by omega
      have HN : Hid (n0 ≤ 100 ∧ n1 ≤ 200) := Lib.hid ⟨by omega, by omega⟩
      go_enter Tryz.func4, Tryz.ntmps4
      go_wp2_with (first
        | ((with_reducible refine gate_ (.load 22 (.tmp 5)) rfl ?_); rw [← hW0.out]; clear hW0; (with_reducible refine wpList_load1_w 22 (.tmp 5) rfl ⟨w.heap.size, 0, none⟩ ?la ?lb (.slice A0 n0 c0) _ ?lc Tryz.underlying22 rfl ?_); (case la => rfl); (case lb => rfl); (case lc => exact q0)))
      go_loop [3] (fun v3 => ∃ k : Nat, k ≤ n0 ∧ v3 = .int .i64 k) (fun v3 => n0 - (intOf v3).toNat)
      case atStart => exact ⟨0, Nat.zero_le _, rfl⟩
      case round =>
        obtain ⟨k, hk, rfl⟩ := hrel
        by_cases hkn : k < n0
        · obtain ⟨o, ho⟩ : ∃ o, l0[k]? = some o := ⟨_, List.getElem?_eq_getElem (by have := H0.out.1.1; omega)⟩
          obtain ⟨ad, v4, v27, hA, hO⟩ := objAt H0.out.1 k o ho
          subst hA
          have d1 := hO.field 1 (by decide) (u := .string o.name) rfl
          have hlk : (k : Int) < (n0 : Int) := by omega
          obtain ⟨nm, hnm⟩ : ∃ s, s = o.name := ⟨_, rfl⟩
          rw [← hnm] at d1
          clear hO ho hnm
          by_cases hs : 1000 < nm.size
          · have g3 : ((1000 : Int) < (nm.size : Int)) := by omega
            go_wp2
            go_ret
            exact ⟨true, rfl, (fun h => by cases h), HB0.out⟩
          · have g3 : ¬ ((1000 : Int) < (nm.size : Int)) := by omega
            go_wp2
            go_round
            case rel => exact ⟨k + 1, by omega, by go_num⟩
            case measure => simp [intOf]; omega
        · obtain rfl : k = n0 := by omega
          go_wp2
          go_loop [4] (fun v4 => ∃ k : Nat, k ≤ n1 ∧ v4 = .int .i64 k) (fun v4 => n1 - (intOf v4).toNat)
          case atStart => exact ⟨0, Nat.zero_le _, rfl⟩
          case round =>
            obtain ⟨j, hj, rfl⟩ := hrel
            by_cases hjn : j < n1
            · obtain ⟨o, ho⟩ : ∃ o, l1[j]? = some o := ⟨_, List.getElem?_eq_getElem (by have := H0.out.2.1; omega)⟩
              obtain ⟨ad, v4, v27, hA, hO⟩ := objAt H0.out.2 j o ho
              subst hA
              have d1 := hO.field 1 (by decide) (u := .string o.name) rfl
              have hlk : (j : Int) < (n1 : Int) := by omega
              obtain ⟨nm, hnm⟩ : ∃ s, s = o.name := ⟨_, rfl⟩
              rw [← hnm] at d1
              clear hO ho hnm
              by_cases hs : 1000 < nm.size
              · have g3 : ((1000 : Int) < (nm.size : Int)) := by omega
                go_wp2
                go_ret
                exact ⟨true, rfl, (fun h => by cases h), HB0.out⟩
              · have g3 : ¬ ((1000 : Int) < (nm.size : Int)) := by omega
                go_wp2
                go_round
                case rel => exact ⟨j + 1, by omega, by go_num⟩
                case measure => simp [intOf]; omega
            · obtain rfl : j = n1 := by omega
              go_wp2
              go_ret
              exact ⟨false, rfl, fun _ => HN.out, HB0.out⟩
end Go.Proofs.YtoepbjgldmgaoaaGreatDoor

/- LentFleet walked. -/
namespace Go.Proofs.YtoepbjgldmgaoaaGreatDoor
open Go.RowKit Go.Proofs.YtoepbjgldmgaoaaGreatDoorW.PrintWords Go.Proofs.YtoepbjgldmgaoaaGreatDoorW.PrintLast
set_option maxHeartbeats 4000000 in
set_option maxRecDepth 100000 in
theorem lentFleet_calls (f : F4) (w : World) (h : F4.At kO w f) (hok : F4.Ok f) :
    Calls Tryz.prog 5 #[.agg f.v] w fun e w' => ∃ B0 b0 B1 b1 B2 b2 B3 b3, e = .returned (.agg #[.slice B0 f.n0 f.n0, .slice B1 f.n1 f.n1, .slice B2 f.n2 f.n2, .slice B3 f.n3 f.n3]) ∧ (kLent.R 53 w' w.heap.size (fun _ => True) (.slice B0 f.n0 b0) f.l0 ∧ kLent.R 53 w' w.heap.size (fun _ => True) (.slice B1 f.n1 b1) f.l1 ∧ kLent.R 53 w' w.heap.size (fun _ => True) (.slice B2 f.n2 b2) f.l2 ∧ kLent.R 53 w' w.heap.size (fun _ => True) (.slice B3 f.n3 b3) f.l3) ∧ Below w.heap.size w w' := by
  obtain ⟨A0, A1, A2, A3, n0, n1, n2, n3, c0, c1, c2, c3, l0, l1, l2, l3⟩ := f
  have Q0 : Hid (∀ W : World, Below w.heap.size w W → Calls Tryz.prog 14 #[.slice A0 n0 c0] W fun e w' => ∃ A' c', e = .returned (.slice A' n0 n0) ∧ kLent.R 53 w' W.heap.size (fun _ => True) (.slice A' n0 c') l0 ∧ Below W.heap.size W w') := Lib.hid (fun W hW => lentObjects_R A0 c0 n0 l0 W (by have := Kd.C_below h.a0 hW; rw [show l0.length = n0 from h.a0.1]; exact this) h.a0.1 hok.n0 (fun o ho => (hok.f0 o ho).1))
  have Q1 : Hid (∀ W : World, Below w.heap.size w W → Calls Tryz.prog 14 #[.slice A1 n1 c1] W fun e w' => ∃ A' c', e = .returned (.slice A' n1 n1) ∧ kLent.R 53 w' W.heap.size (fun _ => True) (.slice A' n1 c') l1 ∧ Below W.heap.size W w') := Lib.hid (fun W hW => lentObjects_R A1 c1 n1 l1 W (by have := Kd.C_below h.a1 hW; rw [show l1.length = n1 from h.a1.1]; exact this) h.a1.1 hok.n1 (fun o ho => (hok.f1 o ho).1))
  have Q2 : Hid (∀ W : World, Below w.heap.size w W → Calls Tryz.prog 14 #[.slice A2 n2 c2] W fun e w' => ∃ A' c', e = .returned (.slice A' n2 n2) ∧ kLent.R 53 w' W.heap.size (fun _ => True) (.slice A' n2 c') l2 ∧ Below W.heap.size W w') := Lib.hid (fun W hW => lentObjects_R A2 c2 n2 l2 W (by have := Kd.C_below h.a2 hW; rw [show l2.length = n2 from h.a2.1]; exact this) h.a2.1 hok.n2 (fun o ho => (hok.f2 o ho).1))
  have Q3 : Hid (∀ W : World, Below w.heap.size w W → Calls Tryz.prog 14 #[.slice A3 n3 c3] W fun e w' => ∃ A' c', e = .returned (.slice A' n3 n3) ∧ kLent.R 53 w' W.heap.size (fun _ => True) (.slice A' n3 c') l3 ∧ Below W.heap.size W w') := Lib.hid (fun W hW => lentObjects_R A3 c3 n3 l3 W (by have := Kd.C_below h.a3 hW; rw [show l3.length = n3 from h.a3.1]; exact this) h.a3.1 hok.n3 (fun o ho => (hok.f3 o ho).1))
  clear h hok
  have HM := Lib.hid (Eq.refl 0)
  simp only [F4.v]
  go_enter Tryz.func5, Tryz.ntmps5
  go_wp2_with (first
    | ((with_reducible refine gate_ (.load 22 (.tmp 4)) rfl ?_); clear HM; (have HB : Hid (Below w.heap.size w (((w.alloc (Obj.cells #[.slice A0 n0 c0, .slice A1 n1 c1, .slice A2 n2 c2, .slice A3 n3 c3] 24)).alloc (Obj.cells #[.slice none 0 0, .slice none 0 0, .slice none 0 0, .slice none 0 0] 24)).alloc (Obj.cells #[.slice none 0 0, .slice none 0 0, .slice none 0 0, .slice none 0 0] 24))) := Lib.hid (below_alloc (below_alloc (below_alloc (Below.refl _ _) _) _) _)); (have BA : Hid ((((w.alloc (Obj.cells #[.slice A0 n0 c0, .slice A1 n1 c1, .slice A2 n2 c2, .slice A3 n3 c3] 24)).alloc (Obj.cells #[.slice none 0 0, .slice none 0 0, .slice none 0 0, .slice none 0 0] 24)).alloc (Obj.cells #[.slice none 0 0, .slice none 0 0, .slice none 0 0, .slice none 0 0] 24)).heap[w.heap.size]? = some (.cells #[.slice A0 n0 c0, .slice A1 n1 c1, .slice A2 n2 c2, .slice A3 n3 c3] 24 (0, 0))) := Lib.hid (blkB (below_alloc (below_alloc (Below.refl _ _) _) _) (heap_alloc_new w _))); (have BC : Hid ((((w.alloc (Obj.cells #[.slice A0 n0 c0, .slice A1 n1 c1, .slice A2 n2 c2, .slice A3 n3 c3] 24)).alloc (Obj.cells #[.slice none 0 0, .slice none 0 0, .slice none 0 0, .slice none 0 0] 24)).alloc (Obj.cells #[.slice none 0 0, .slice none 0 0, .slice none 0 0, .slice none 0 0] 24)).heap[w.heap.size + 1]? = some (.cells #[.slice none 0 0, .slice none 0 0, .slice none 0 0, .slice none 0 0] 24 (0, 0))) := Lib.hid (blkB (below_alloc (Below.refl _ _) _) (heap_alloc2_new w _ _))); (have BX : Hid ((((w.alloc (Obj.cells #[.slice A0 n0 c0, .slice A1 n1 c1, .slice A2 n2 c2, .slice A3 n3 c3] 24)).alloc (Obj.cells #[.slice none 0 0, .slice none 0 0, .slice none 0 0, .slice none 0 0] 24)).alloc (Obj.cells #[.slice none 0 0, .slice none 0 0, .slice none 0 0, .slice none 0 0] 24)).heap[w.heap.size + 2]? = some (.cells #[.slice none 0 0, .slice none 0 0, .slice none 0 0, .slice none 0 0] 24 (0, 0))) := Lib.hid (heap_alloc_at4 _ _ _ (by simp))); (generalize (((w.alloc (Obj.cells #[.slice A0 n0 c0, .slice A1 n1 c1, .slice A2 n2 c2, .slice A3 n3 c3] 24)).alloc (Obj.cells #[.slice none 0 0, .slice none 0 0, .slice none 0 0, .slice none 0 0] 24)).alloc (Obj.cells #[.slice none 0 0, .slice none 0 0, .slice none 0 0, .slice none 0 0] 24)) = W0 at HB BA BC BX ⊢); obtain ⟨ga, hga⟩ : ∃ x, x = w.heap.size := ⟨_, rfl⟩; obtain ⟨gc, hgc⟩ : ∃ x, x = w.heap.size + 1 := ⟨_, rfl⟩; obtain ⟨gx, hgx⟩ : ∃ x, x = w.heap.size + 2 := ⟨_, rfl⟩; rw [← hgx] at BX ⊢; rw [← hgc] at BC ⊢; rw [← hga] at BA ⊢; (have HN : Hid (w.heap.size ≤ ga ∧ w.heap.size ≤ gc ∧ w.heap.size ≤ gx ∧ ga ≠ gx ∧ gc ≠ gx ∧ ga ≠ gc ∧ gx < W0.heap.size ∧ gc < W0.heap.size) := Lib.hid ⟨by omega, by omega, by omega, by omega, by omega, by omega, blkLt BX.out, blkLt BC.out⟩); have HW0 := Lib.hid (Nat.le_refl W0.heap.size); clear hga hgc hgx)
    | ((with_reducible refine wpList_load1_w (op := ⟨some 5, _, _, _, _, _⟩) 22 (.tmp 4) rfl ⟨ga, 0, none⟩ ?la0 ?lb0 (.slice A0 n0 c0) _ ?lc0 Tryz.underlying22 rfl ?_); (case la0 => rfl); (case lb0 => rfl); (case lc0 => exact (cell_of_row _ _ 0 _ _ _ BA.out).trans rfl))
    | (go_at_call 14; (with_reducible refine (Q0.out _ HB.out).mono ?_); rintro e w1 ⟨B0, b0, rfl, hR, hb⟩; have HR0 := Lib.hid (Kd.R_lower hR HW0.out); clear hR; replace HW0 := Lib.hid (Nat.le_trans HW0.out hb.size); replace BA := Lib.hid (blkB hb BA.out); replace BC := Lib.hid (blkB hb BC.out); replace BX := Lib.hid (blkB hb BX.out); replace HB := Lib.hid (belT HB.out hb); clear hb)
    | ((with_reducible refine wpList_store1 rfl 22 (.tmp 7) (.tmp 6) rfl gx 0 24 #[.slice none 0 0, .slice none 0 0, .slice none 0 0, .slice none 0 0] (.slice B0 n0 n0) ?sa0 ?sb0 ?sc0 ?sd0 ?se0 ?sf0 ?sg0 ?_); (case sa0 => rfl); (case sb0 => rfl); (case sc0 => exact rfl); (case sd0 => exact BX.out); (case se0 => exact (show 0 < 4 by decide)); (case sf0 => kernel_rfl); (case sg0 => exact rfl); intro W1 BX' hk hb hz; replace BX : Hid (W1.heap[gx]? = some (.cells #[.slice B0 n0 n0, .slice none 0 0, .slice none 0 0, .slice none 0 0] 24 (0, 0))) := Lib.hid BX'; replace BA := Lib.hid ((hk _ HN.out.2.2.2.1).trans BA.out); replace BC := Lib.hid ((hk _ HN.out.2.2.2.2.1).trans BC.out); replace HR0 := Lib.hid (R_off HR0.out HN.out.2.2.2.2.2.2.1 hk); replace HB := Lib.hid (hb _ _ HB.out HN.out.2.2.1); replace HW0 : Hid (W0.heap.size ≤ W1.heap.size) := Lib.hid (by have := HW0.out; omega); clear BX' hk hb hz)
    | ((with_reducible refine wpList_load1_w (op := ⟨some 9, _, _, _, _, _⟩) 22 (.tmp 8) rfl ⟨ga, 1, none⟩ ?la1 ?lb1 (.slice A1 n1 c1) _ ?lc1 Tryz.underlying22 rfl ?_); (case la1 => rfl); (case lb1 => rfl); (case lc1 => exact (cell_of_row _ _ 1 _ _ _ BA.out).trans rfl))
    | (go_at_call 14; (with_reducible refine (Q1.out _ HB.out).mono ?_); rintro e w2 ⟨B1, b1, rfl, hR, hb⟩; have HR1 := Lib.hid (Kd.R_lower hR HW0.out); clear hR; replace HR0 := Lib.hid (Kd.R_below HR0.out hb); replace HW0 := Lib.hid (Nat.le_trans HW0.out hb.size); replace BA := Lib.hid (blkB hb BA.out); replace BC := Lib.hid (blkB hb BC.out); replace BX := Lib.hid (blkB hb BX.out); replace HB := Lib.hid (belT HB.out hb); clear hb)
    | ((with_reducible refine wpList_store1 rfl 22 (.tmp 11) (.tmp 10) rfl gx 1 24 #[.slice B0 n0 n0, .slice none 0 0, .slice none 0 0, .slice none 0 0] (.slice B1 n1 n1) ?sa1 ?sb1 ?sc1 ?sd1 ?se1 ?sf1 ?sg1 ?_); (case sa1 => rfl); (case sb1 => rfl); (case sc1 => exact rfl); (case sd1 => exact BX.out); (case se1 => exact (show 1 < 4 by decide)); (case sf1 => kernel_rfl); (case sg1 => exact rfl); intro W2 BX' hk hb hz; replace BX : Hid (W2.heap[gx]? = some (.cells #[.slice B0 n0 n0, .slice B1 n1 n1, .slice none 0 0, .slice none 0 0] 24 (0, 0))) := Lib.hid BX'; replace BA := Lib.hid ((hk _ HN.out.2.2.2.1).trans BA.out); replace BC := Lib.hid ((hk _ HN.out.2.2.2.2.1).trans BC.out); replace HR0 := Lib.hid (R_off HR0.out HN.out.2.2.2.2.2.2.1 hk); replace HR1 := Lib.hid (R_off HR1.out HN.out.2.2.2.2.2.2.1 hk); replace HB := Lib.hid (hb _ _ HB.out HN.out.2.2.1); replace HW0 : Hid (W0.heap.size ≤ W2.heap.size) := Lib.hid (by have := HW0.out; omega); clear BX' hk hb hz)
    | ((with_reducible refine wpList_load1_w (op := ⟨some 13, _, _, _, _, _⟩) 22 (.tmp 12) rfl ⟨ga, 2, none⟩ ?la2 ?lb2 (.slice A2 n2 c2) _ ?lc2 Tryz.underlying22 rfl ?_); (case la2 => rfl); (case lb2 => rfl); (case lc2 => exact (cell_of_row _ _ 2 _ _ _ BA.out).trans rfl))
    | (go_at_call 14; (with_reducible refine (Q2.out _ HB.out).mono ?_); rintro e w3 ⟨B2, b2, rfl, hR, hb⟩; have HR2 := Lib.hid (Kd.R_lower hR HW0.out); clear hR; replace HR0 := Lib.hid (Kd.R_below HR0.out hb); replace HR1 := Lib.hid (Kd.R_below HR1.out hb); replace HW0 := Lib.hid (Nat.le_trans HW0.out hb.size); replace BA := Lib.hid (blkB hb BA.out); replace BC := Lib.hid (blkB hb BC.out); replace BX := Lib.hid (blkB hb BX.out); replace HB := Lib.hid (belT HB.out hb); clear hb)
    | ((with_reducible refine wpList_store1 rfl 22 (.tmp 15) (.tmp 14) rfl gx 2 24 #[.slice B0 n0 n0, .slice B1 n1 n1, .slice none 0 0, .slice none 0 0] (.slice B2 n2 n2) ?sa2 ?sb2 ?sc2 ?sd2 ?se2 ?sf2 ?sg2 ?_); (case sa2 => rfl); (case sb2 => rfl); (case sc2 => exact rfl); (case sd2 => exact BX.out); (case se2 => exact (show 2 < 4 by decide)); (case sf2 => kernel_rfl); (case sg2 => exact rfl); intro W3 BX' hk hb hz; replace BX : Hid (W3.heap[gx]? = some (.cells #[.slice B0 n0 n0, .slice B1 n1 n1, .slice B2 n2 n2, .slice none 0 0] 24 (0, 0))) := Lib.hid BX'; replace BA := Lib.hid ((hk _ HN.out.2.2.2.1).trans BA.out); replace BC := Lib.hid ((hk _ HN.out.2.2.2.2.1).trans BC.out); replace HR0 := Lib.hid (R_off HR0.out HN.out.2.2.2.2.2.2.1 hk); replace HR1 := Lib.hid (R_off HR1.out HN.out.2.2.2.2.2.2.1 hk); replace HR2 := Lib.hid (R_off HR2.out HN.out.2.2.2.2.2.2.1 hk); replace HB := Lib.hid (hb _ _ HB.out HN.out.2.2.1); replace HW0 : Hid (W0.heap.size ≤ W3.heap.size) := Lib.hid (by have := HW0.out; omega); clear BX' hk hb hz)
    | ((with_reducible refine wpList_load1_w (op := ⟨some 17, _, _, _, _, _⟩) 22 (.tmp 16) rfl ⟨ga, 3, none⟩ ?la3 ?lb3 (.slice A3 n3 c3) _ ?lc3 Tryz.underlying22 rfl ?_); (case la3 => rfl); (case lb3 => rfl); (case lc3 => exact (cell_of_row _ _ 3 _ _ _ BA.out).trans rfl))
    | (go_at_call 14; (with_reducible refine (Q3.out _ HB.out).mono ?_); rintro e w4 ⟨B3, b3, rfl, hR, hb⟩; have HR3 := Lib.hid (Kd.R_lower hR HW0.out); clear hR; replace HR0 := Lib.hid (Kd.R_below HR0.out hb); replace HR1 := Lib.hid (Kd.R_below HR1.out hb); replace HR2 := Lib.hid (Kd.R_below HR2.out hb); replace HW0 := Lib.hid (Nat.le_trans HW0.out hb.size); replace BA := Lib.hid (blkB hb BA.out); replace BC := Lib.hid (blkB hb BC.out); replace BX := Lib.hid (blkB hb BX.out); replace HB := Lib.hid (belT HB.out hb); clear hb)
    | ((with_reducible refine wpList_store1 rfl 22 (.tmp 19) (.tmp 18) rfl gx 3 24 #[.slice B0 n0 n0, .slice B1 n1 n1, .slice B2 n2 n2, .slice none 0 0] (.slice B3 n3 n3) ?sa3 ?sb3 ?sc3 ?sd3 ?se3 ?sf3 ?sg3 ?_); (case sa3 => rfl); (case sb3 => rfl); (case sc3 => exact rfl); (case sd3 => exact BX.out); (case se3 => exact (show 3 < 4 by decide)); (case sf3 => kernel_rfl); (case sg3 => exact rfl); intro W4 BX' hk hb hz; replace BX : Hid (W4.heap[gx]? = some (.cells #[.slice B0 n0 n0, .slice B1 n1 n1, .slice B2 n2 n2, .slice B3 n3 n3] 24 (0, 0))) := Lib.hid BX'; replace BA := Lib.hid ((hk _ HN.out.2.2.2.1).trans BA.out); replace BC := Lib.hid ((hk _ HN.out.2.2.2.2.1).trans BC.out); replace HR0 := Lib.hid (R_off HR0.out HN.out.2.2.2.2.2.2.1 hk); replace HR1 := Lib.hid (R_off HR1.out HN.out.2.2.2.2.2.2.1 hk); replace HR2 := Lib.hid (R_off HR2.out HN.out.2.2.2.2.2.2.1 hk); replace HR3 := Lib.hid (R_off HR3.out HN.out.2.2.2.2.2.2.1 hk); replace HB := Lib.hid (hb _ _ HB.out HN.out.2.2.1); replace HW0 : Hid (W0.heap.size ≤ W4.heap.size) := Lib.hid (by have := HW0.out; omega); clear BX' hk hb hz)
    | ((with_reducible refine wpList_load_blk (op := ⟨some 20, _, _, _, _, _⟩) rfl 24 (.tmp 3) rfl gx 24 ?l1 #[.slice B0 n0 n0, .slice B1 n1 n1, .slice B2 n2 n2, .slice B3 n3 n3] _ ?l2 Tryz.underlying24 ?l3 ?l4 ?_); (case l1 => rfl); (case l2 => exact BX.out); (case l3 => rfl); (case l4 => exact infoF4))
    | ((with_reducible refine wpList_store_blk rfl 24 (.tmp 2) (.tmp 20) rfl gc 24 #[.slice none 0 0, .slice none 0 0, .slice none 0 0, .slice none 0 0] #[.slice B0 n0 n0, .slice B1 n1 n1, .slice B2 n2 n2, .slice B3 n3 n3] ?y1 ?y2 ?y3 ?y4 ?y5 ?y6 ?_); (case y1 => rfl); (case y2 => rfl); (case y3 => exact BC.out); (case y4 => exact infoF4); (case y5 => rfl); (case y6 => exact (by simp [Value.oneCell'])); intro W5 BC' hk hb hz; replace HR0 := Lib.hid (R_off HR0.out HN.out.2.2.2.2.2.2.2 hk); replace HR1 := Lib.hid (R_off HR1.out HN.out.2.2.2.2.2.2.2 hk); replace HR2 := Lib.hid (R_off HR2.out HN.out.2.2.2.2.2.2.2 hk); replace HR3 := Lib.hid (R_off HR3.out HN.out.2.2.2.2.2.2.2 hk); replace HB := Lib.hid (hb _ _ HB.out HN.out.2.1); clear hk hb hz))
  refine bodyPost_ret (v := .agg #[.slice B0 n0 n0, .slice B1 n1 n1, .slice B2 n2 n2, .slice B3 n3 n3]) (results_cell_row (p := 2) (ty := 24) rfl _ _ gc 24 #[.slice B0 n0 n0, .slice B1 n1 n1, .slice B2 n2 n2, .slice B3 n3 n3] (0, 0) _ (by rfl) BC' Tryz.underlying24 rfl infoF4) rfl ?_
  exact ⟨B0, b0, B1, b1, B2, b2, B3, b3, rfl, ⟨Kd.R_lower HR0.out (Nat.le_trans HN.out.2.2.1 (Nat.le_of_lt HN.out.2.2.2.2.2.2.1)), Kd.R_lower HR1.out (Nat.le_trans HN.out.2.2.1 (Nat.le_of_lt HN.out.2.2.2.2.2.2.1)), Kd.R_lower HR2.out (Nat.le_trans HN.out.2.2.1 (Nat.le_of_lt HN.out.2.2.2.2.2.2.1)), Kd.R_lower HR3.out (Nat.le_trans HN.out.2.2.1 (Nat.le_of_lt HN.out.2.2.2.2.2.2.1))⟩, HB.out⟩
end Go.Proofs.YtoepbjgldmgaoaaGreatDoor

/- Labels and objects that were lent: are they as they were? -/
namespace Go.Proofs.YtoepbjgldmgaoaaGreatDoor
open Go.RowKit Go.Proofs.YtoepbjgldmgaoaaGreatDoorW.PrintWords Go.Proofs.YtoepbjgldmgaoaaGreatDoorW.PrintLast
section
attribute [local go_sem high] eqLab
theorem labAt {w : World} {b : Addr} {n k : Nat} {xs : List Lab} {p : Lab} (h : kL.C w (some b) n xs) (hp : xs[k]? = some p) :
    w.cell? (b.add (k * 2)) = some (.string p.f0) ∧ w.cell? ⟨(b.add (k * 2)).block, (b.add (k * 2)).off + 1, none⟩ = some (.string p.f1) := by
  have hk : k < xs.length := (List.getElem?_eq_some_iff.1 hp).1
  have hn := h.1
  obtain ⟨ad, e, h0, h1⟩ := QLb.at_T60 h (k : Int) (by omega) (by omega)
  obtain rfl := Option.some.inj e
  have hr : QLb.rd_T60 xs (k : Int) = p := by simp [QLb.rd_T60, List.getD_eq_getElem?_getD, hp]
  rw [hr] at h0 h1
  simpa using ⟨h0, h1⟩
theorem markLabels_calls (j : Int) (w : World) : ∃ s0 s1, markL j = ⟨s0, s1⟩ ∧ Calls Tryz.prog 62 #[.int .i64 90, .int .i64 j] w fun e w' => e = .returned (.agg #[.string s0, .string s1]) ∧ Below w.heap.size w w' :=
  ⟨_, _, rfl, QLb.flotillakit_markLabels.calls 90 j _ _ w (mark_f j)⟩
set_option maxHeartbeats 1600000 in
theorem keptFullLabels (l : List Lab) (b0 : Addr) (A1 : Option Addr) (c0 c1 n0 : Nat) (w : World) (h0 : kL.C w (some b0) (l.length + 16) (l ++ marksL)) (h1 : kL.C w A1 l.length l) (hn0 : n0 = l.length + 16) (hbd : l.length ≤ 4398046510976) :
    Calls Tryz.prog 94 #[.slice (some b0) n0 c0, .slice A1 l.length c1] w fun e w' => e = .returned (.bool true) ∧ Below w.heap.size w w' := by
  rw [← hn0] at h0
  have H0 := Lib.hid h0
  have H1 := Lib.hid h1
  have e1 : ((n0 : Int) != (l.length : Int) + 16) = false := by simp; omega
  have hk16 : n0 ≤ l.length + 16 := by omega
  have hk17 : l.length + 16 ≤ n0 := by omega
  clear h0 h1 hn0
  go_enter Tryz.func94, Tryz.ntmps94
  go_wp2
  go_loopw [5] (fun v5 wr => ∃ k : Nat, k ≤ n0 ∧ v5 = .int .i64 k ∧ Below w.heap.size w wr) (fun v5 _ => n0 - (intOf v5).toNat)
  case atStart => exact ⟨0, Nat.zero_le _, rfl, Below.refl _ _⟩
  case round =>
    obtain ⟨k, hk, rfl, hB⟩ := hrel
    have hC0 : Hid (kL.C wr (some b0) n0 (l ++ marksL)) := Lib.hid (Kd.C_below H0.out hB)
    have hC1 : Hid (kL.C wr A1 l.length l) := Lib.hid (Kd.C_below H1.out hB)
    by_cases hlt : k < n0
    · obtain ⟨s0, s1, hm, QM⟩ := markLabels_calls ((k : Int) - (l.length : Int)) wr
      by_cases hl1 : k < l.length
      · obtain ⟨p, hp⟩ : ∃ p, l[k]? = some p := ⟨l[k], List.getElem?_eq_getElem hl1⟩
        have hp0 : Hid ((l ++ marksL)[k]? = some p) := Lib.hid (by rw [List.getElem?_append_left hl1]; exact hp)
        have hp1 : Hid (l[k]? = some p) := Lib.hid hp
        have HQ := Lib.hid QM
        clear hp hm QM
        obtain ⟨b1, rfl⟩ : ∃ b1, A1 = some b1 := by obtain ⟨ad, e, _⟩ := hC1.out.2.2 (by omega); exact ⟨ad, e⟩
        go_wp2_with (go_at_call 62; refine HQ.out.mono ?_; rintro e w1 ⟨rfl, hb1⟩; have q0 := fun X => (labAt (Kd.C_below hC0.out (below_alloc hb1 X)) hp0.out).1; have q1 := fun X => (labAt (Kd.C_below hC0.out (below_alloc hb1 X)) hp0.out).2; have r0 := fun X => (labAt (Kd.C_below hC1.out (below_alloc hb1 X)) hp1.out).1; have r1 := fun X => (labAt (Kd.C_below hC1.out (below_alloc hb1 X)) hp1.out).2)
        go_quiet (fail)
        go_wp2
        go_roundw
        case rel => exact ⟨k + 1, by omega, by go_num, hB.trans ((pw_below_drewN (below_alloc hb1 _) _).mono hB.size)⟩
        case measure => simp [intOf]; omega
      · have hp0 : Hid ((l ++ marksL)[k]? = some ⟨s0, s1⟩) := Lib.hid (by
          rw [List.getElem?_append_right (by omega), marksN_at 16 _ (by omega), ← hm]
          have e : ((k - l.length : Nat) : Int) = (k : Int) - (l.length : Int) := by omega
          rw [e])
        have HQ := Lib.hid QM
        clear hm QM
        go_wp2_with (go_at_call 62; refine HQ.out.mono ?_; rintro e w1 ⟨rfl, hb1⟩; have q0 := fun X => (labAt (Kd.C_below hC0.out (below_alloc hb1 X)) hp0.out).1; have q1 := fun X => (labAt (Kd.C_below hC0.out (below_alloc hb1 X)) hp0.out).2)
        go_quiet (fail)
        go_wp2
        go_roundw
        case rel => exact ⟨k + 1, by omega, by go_num, hB.trans ((pw_below_drewN (below_alloc hb1 _) _).mono hB.size)⟩
        case measure => simp [intOf]; omega
    · go_wp2
      go_ret
      exact ⟨rfl, hB⟩
theorem keptLabels_calls {w : World} {l : List Lab} {v u : Value} (h : LentK w l v) (g : LabK w l u) (hbd : l.length ≤ 4398046510976) :
    Calls Tryz.prog 82 #[v, u] w fun e w' => e = .returned (.bool true) ∧ Below w.heap.size w w' := by
  obtain ⟨b0, c0, rfl, hc0, h0⟩ := h
  obtain ⟨A1, c1, rfl, hc1', h1⟩ := g
  have hc1 : (l.length : Int) + 16 ≤ (c0 : Int) := by omega
  have hn : ((l.length : Int) + 16).toNat = l.length + 16 := by omega
  have HC := Lib.hid (keptFullLabels l b0 A1 c0 c1 (l.length + 16) w h0 h1 rfl hbd)
  clear h0 h1 hc0
  go_enter Tryz.func82, Tryz.ntmps82
  go_wp2_with (go_at_call 94; refine HC.out.mono ?_; rintro e w1 ⟨rfl, hb1⟩)
  go_ret
  exact ⟨rfl, hb1⟩
end
end Go.Proofs.YtoepbjgldmgaoaaGreatDoor

/- Objects that were lent: are they as they were? -/
namespace Go.Proofs.YtoepbjgldmgaoaaGreatDoor
open Go.RowKit Go.Proofs.YtoepbjgldmgaoaaGreatDoorW.PrintWords Go.Proofs.YtoepbjgldmgaoaaGreatDoorW.PrintLast
set_option maxRecDepth 100000 in
set_option maxHeartbeats 1000000 in
theorem keptObject_calls (o : Ob) (v4 v27 u4 u27 : Value) (w : World) (l4 : LentK w o.labels v4) (l27 : LentK w o.select v27) (m4 : LabK w o.labels u4) (m27 : LabK w o.select u27) (hf : ObFits o) :
    Calls Tryz.prog 55 #[.agg (o.cells v4 v27), .agg (o.cells u4 u27)] w fun e w' => e = .returned (.bool true) ∧ Below w.heap.size w w' := by
  obtain ⟨cs, hcs⟩ : ∃ cs, cs = o.cells v4 v27 := ⟨_, rfl⟩
  obtain ⟨ds, hds⟩ : ∃ ds, ds = o.cells u4 u27 := ⟨_, rfl⟩
  have QB := Lib.hid (fun (W : World) (hW : Below w.heap.size w W) => sameObject_calls o o v4 v27 u4 u27 W (l4.below hW).lab (l27.below hW).lab (m4.below hW) (m27.below hW))
  rw [(sameB_iff o o).2 rfl] at QB
  rw [← hcs, ← hds] at QB ⊢
  have QL4 := Lib.hid (fun (W : World) (hW : Below w.heap.size w W) => keptLabels_calls (l4.below hW) (m4.below hW) hf.2.1)
  have QL27 := Lib.hid (fun (W : World) (hW : Below w.heap.size w W) => keptLabels_calls (l27.below hW) (m27.below hW) hf.2.2)
  have Hcs := Lib.hid hcs
  have Hds := Lib.hid hds
  have hi1 : Hid ((Tryz.prog.info? 53).map (·.size) = some cs.size) := Lib.hid (by rw [hcs, Ob.cells_size]; kernel_rfl)
  have hi2 : Hid ((Tryz.prog.info? 53).map (·.size) = some ds.size) := Lib.hid (by rw [hds, Ob.cells_size]; kernel_rfl)
  clear hcs hds l4 l27 m4 m27 hf
  have HM := Lib.hid (Eq.refl 0)
  go_enter Tryz.func55, Tryz.ntmps55
  go_wp2_with (first
    | ((with_reducible refine gate_ (.load 53 (.tmp 2)) rfl ?_); clear HM; (have HW : Below w.heap.size w ((w.alloc (Obj.cells cs 53)).alloc (Obj.cells ds 53)) := (Go.Joins.below_alloc2 w _ _)); (have B1 : ((w.alloc (Obj.cells cs 53)).alloc (Obj.cells ds 53)).heap[w.heap.size]? = some (.cells cs 53 (0, 0)) := (heap_alloc_old _ _ (by simp)).trans (heap_alloc_new w _)); (have B2 : ((w.alloc (Obj.cells cs 53)).alloc (Obj.cells ds 53)).heap[w.heap.size + 1]? = some (.cells ds 53 (0, 0)) := heap_alloc2_new w _ _); (generalize ((w.alloc (Obj.cells cs 53)).alloc (Obj.cells ds 53)) = W0 at HW B1 B2 ⊢); obtain ⟨ga, hga⟩ : ∃ x, x = w.heap.size := ⟨_, rfl⟩; obtain ⟨gb, hgb⟩ : ∃ x, x = w.heap.size + 1 := ⟨_, rfl⟩; rw [← hgb] at B2 ⊢; rw [← hga] at B1 ⊢; clear hga hgb)
    | ((with_reducible refine wpList_load_blk_w 53 (.tmp 2) rfl ga 53 ?l0 ?l1 cs _ ?l2 Tryz.underlying53 ?l3 ?l4 ?_); (case l0 => rfl); (case l1 => rfl); (case l2 => exact B1); (case l3 => rfl); (case l4 => exact hi1.out))
    | ((with_reducible refine wpList_load_blk_w 53 (.tmp 3) rfl gb 53 ?l0 ?l1 ds _ ?l2 Tryz.underlying53 ?l3 ?l4 ?_); (case l0 => rfl); (case l1 => rfl); (case l2 => exact B2); (case l3 => rfl); (case l4 => exact hi2.out))
    | ((with_reducible refine gate_ (.load 48 _) rfl ?_); first | refine wpList_load1_w 48 _ rfl ⟨ga, 4, none⟩ rfl rfl v4 _ (((cell_of_row _ _ 4 _ _ _ B1).trans (by rw [Hcs.out]; rfl))) Tryz.underlying48 rfl ?_ | refine wpList_load1_w 48 _ rfl ⟨ga, 27, none⟩ rfl rfl v27 _ (((cell_of_row _ _ 27 _ _ _ B1).trans (by rw [Hcs.out]; rfl))) Tryz.underlying48 rfl ?_ | refine wpList_load1_w 48 _ rfl ⟨gb, 4, none⟩ rfl rfl u4 _ (((cell_of_row _ _ 4 _ _ _ B2).trans (by rw [Hds.out]; rfl))) Tryz.underlying48 rfl ?_ | refine wpList_load1_w 48 _ rfl ⟨gb, 27, none⟩ rfl rfl u27 _ (((cell_of_row _ _ 27 _ _ _ B2).trans (by rw [Hds.out]; rfl))) Tryz.underlying48 rfl ?_)
    | (go_at_call 54; (with_reducible refine (QB.out _ HW).mono ?_); rintro e w1 ⟨rfl, hb⟩; replace B1 := blkB hb B1; replace B2 := blkB hb B2; replace HW := belT HW hb; clear hb)
    | (go_at_call 82; (with_reducible first | refine (QL4.out _ HW).mono ?_ | refine (QL27.out _ HW).mono ?_); rintro e w1 ⟨rfl, hb⟩; replace B1 := blkB hb B1; replace B2 := blkB hb B2; replace HW := belT HW hb; clear hb))
  go_ret
  exact ⟨rfl, HW⟩
structure LentAt (w : World) (ad : Addr) (k : Nat) (o : Ob) (v4 v27 : Value) : Prop where
  l4 : LentK w o.labels v4
  l27 : LentK w o.select v27
  cells : ∀ (j : Nat) (u : Value), (o.cells v4 v27)[j]? = some u → w.cell? ((ad.add (k * 32)).add j) = some u
theorem lentAt {w : World} {A : Option Addr} {n : Nat} {l : List Ob} (h : kLent.C w A n l) (k : Nat) (o : Ob) (hk : l[k]? = some o) : ∃ ad v4 v27, A = some ad ∧ LentAt w ad k o v4 v27 := by
  have hl := (List.getElem?_eq_some_iff.1 hk).1
  obtain ⟨ad, e, hc⟩ := h.2.2 (by have := h.1; omega)
  obtain ⟨c, hs, ⟨v4, v27, rfl, h4, h27⟩, hcell⟩ := hc k o hk
  exact ⟨ad, v4, v27, e, h4, h27, fun j u hu => by rw [add_add]; exact hcell j u (by simpa using hu)⟩
def rg27_6_T : Bool × List (List Nat × List Nat) := (true, [([], []), ([], []), ([0, 1], [0, 1]), ([2], [2]), ([], []), ([], []), ([4, 5], [4, 5]), ([6], [6]), ([3, 7], [3, 7]), ([8], [8])])
def rg27_6_B : List Nat := [0, 0, 3, 7, 0, 0, 48, 112, 255, 511]
theorem rg27_6_tab : rtab .any (opsOf Tryz.f27 6) = rg27_6_T := by kernel_rfl
theorem rg27_6_bits : waitsOk rg27_6_T.2 rg27_6_B = true := by kernel_rfl
set_option maxHeartbeats 1600000 in
set_option maxRecDepth 100000 in
theorem keptObjects_big (A B : Option Addr) (l : List Ob) (c d n : Nat) (w : World) (hr : kLent.C w A n l) (hs : kO.C w B n l) (hl : l.length = n) (hn : n ≤ 451081693433) (hf : ∀ o ∈ l, ObFits o) :
    Calls Tryz.prog 27 #[.slice A n c, .slice B n d] w fun e w' => e = .returned (.bool true) ∧ Below w.heap.size w w' := by
  have HR := Lib.hid hr
  have HS := Lib.hid hs
  have HL := Lib.hid hl
  have HF := Lib.hid hf
  clear hr hs hl hf
  go_enter Tryz.func27, Tryz.ntmps27
  go_wp2
  go_loopw [5] (fun v5 wr => ∃ k : Nat, k ≤ n ∧ v5 = .int .i64 k ∧ Hid (Below w.heap.size w wr)) (fun v5 _ => n - (intOf v5).toNat)
  case atStart => exact ⟨0, Nat.zero_le _, rfl, Lib.hid (Below.refl _ _)⟩
  case round =>
    obtain ⟨k, hk, rfl, hI⟩ := hrel
    by_cases hlt : k < n
    · obtain ⟨o, ho⟩ : ∃ o, l[k]? = some o := ⟨_, List.getElem?_eq_getElem (by have := HL.out; omega)⟩
      obtain ⟨ad, v4, v27, rfl, hO⟩ := lentAt (Kd.C_below HR.out hI.out) k o ho
      obtain ⟨bd, u4, u27, rfl, hP⟩ := objAt (Kd.C_below HS.out hI.out) k o ho
      obtain ⟨cs, hcs⟩ : ∃ cs, cs = o.cells v4 v27 := ⟨_, rfl⟩
      obtain ⟨ds, hds⟩ : ∃ ds, ds = o.cells u4 u27 := ⟨_, rfl⟩
      have hi1 : Hid ((Tryz.prog.info? 53).map (·.size) = some cs.size) := Lib.hid (by rw [hcs, Ob.cells_size]; kernel_rfl)
      have hi2 : Hid ((Tryz.prog.info? 53).map (·.size) = some ds.size) := Lib.hid (by rw [hds, Ob.cells_size]; kernel_rfl)
      have B1 := hO.cells
      have B2 := hP.cells
      rw [← hcs] at B1
      rw [← hds] at B2
      have QS := Lib.hid (fun (W : World) (hW : Below wr.heap.size wr W) => keptObject_calls o v4 v27 u4 u27 W (hO.l4.below hW) (hO.l27.below hW) (hP.l4.below hW) (hP.l27.below hW) (HF.out o (List.mem_of_getElem? ho)))
      rw [← hcs, ← hds] at QS
      replace B1 := Lib.hid (fun (W : World) (hW : Below wr.heap.size wr W) j u hu => cell_below hW (B1 j u hu))
      replace B2 := Lib.hid (fun (W : World) (hW : Below wr.heap.size wr W) j u hu => cell_below hW (B2 j u hu))
      clear ho hcs hds hO hP
      have HB : Below wr.heap.size wr wr := Below.refl _ _
      replace HB := below_drew HB
      have hlk : (k : Int) < (n : Int) := by omega
      go_upto_region 6 with (fail)
      refine start_ (n := 10) (S := fun w' => Below wr.heap.size wr w') (ds := []) (bs 10 0) (by kernel_rfl) rfl (by kernel_rfl) HB (fun hHeld => ?_)
      refine with_tabW rg27_6_tab rg27_6_bits (fun HT_ HW_ => ?_)
      refine pu 0 (some 17) (bs 10 1) HT_ rfl rfl (by kernel_rfl) (fun _ _ _ _ h => h) ⟨_, .inl ⟨by rfl, fun _ => by go_simp; with_reducible rfl⟩, _, by simp only [Act.put, sA, sB, sC, i64_w, i32_w]; rfl, ?_⟩
      refine pu 1 (some 18) (bs 10 3) HT_ rfl rfl (by kernel_rfl) (fun _ _ _ _ h => h) ⟨_, .inl ⟨by rfl, fun _ => by go_simp; with_reducible rfl⟩, _, by simp only [Act.put, sA, sB, sC, i64_w, i32_w]; rfl, ?_⟩
      refine pu 2 (some 19) (bs 10 7) HT_ rfl rfl (by kernel_rfl) (fun _ _ _ _ h => h) ⟨_, .inl ⟨by rfl, fun _ => by go_simp; with_reducible rfl⟩, _, by simp only [Act.put, sA, sB, sC, i64_w, i32_w]; rfl, ?_⟩
      refine pu 4 (some 21) (bs 10 23) HT_ rfl rfl (by kernel_rfl) (fun _ _ _ _ h => h) ⟨_, .inl ⟨by rfl, fun _ => by go_simp; with_reducible rfl⟩, _, by simp only [Act.put, sA, sB, sC, i64_w, i32_w]; rfl, ?_⟩
      refine pu 5 (some 22) (bs 10 55) HT_ rfl rfl (by kernel_rfl) (fun _ _ _ _ h => h) ⟨_, .inl ⟨by rfl, fun _ => by go_simp; with_reducible rfl⟩, _, by simp only [Act.put, sA, sB, sC, i64_w, i32_w]; rfl, ?_⟩
      refine pu 6 (some 23) (bs 10 119) HT_ rfl rfl (by kernel_rfl) (fun _ _ _ _ h => h) ⟨_, .inl ⟨by rfl, fun _ => by go_simp; with_reducible rfl⟩, _, by simp only [Act.put, sA, sB, sC, i64_w, i32_w]; rfl, ?_⟩
      refine tk 3 (some 20) (bs 10 127) HT_ HW_ rfl rfl (by kernel_rfl) (fun _ _ _ _ h => h) hHeld ⟨_, .inl ⟨by rfl, by rintro w' s0; refine load_any_ (x := .tmp 19) (p := ad.add (k * 32)) ?_ ?_ (B1.out _ s0) Tryz.underlying53 rfl hi1.out <;> rfl⟩, _, by simp only [Act.put, sA, sB, sC, i64_w, i32_w]; rfl, ?_⟩
      refine tk 7 (some 24) (bs 10 255) HT_ HW_ rfl rfl (by kernel_rfl) (fun _ _ _ _ h => h) hHeld ⟨_, .inl ⟨by rfl, by rintro w' s0; refine load_any_ (x := .tmp 23) (p := bd.add (k * 32)) ?_ ?_ (B2.out _ s0) Tryz.underlying53 rfl hi2.out <;> rfl⟩, _, by simp only [Act.put, sA, sB, sC, i64_w, i32_w]; rfl, ?_⟩
      refine on1 8 (some 25) (bs 10 511) HT_ rfl rfl (by kernel_rfl) (by decide) (fun K hK => ?_)
      refine goes_ Tryz.func55 (by kernel_rfl) rfl #[.agg cs, .agg ds] (by rfl) rfl rfl (by (try simp only [List.map_toArray, List.map_cons, List.map_nil]); first | done | rfl) ?_
      with_reducible refine (QS.out _ HB).mono ?_
      rintro e w1 ⟨rfl, hb⟩
      replace HB := belT HB hb
      clear hb
      refine ⟨_, rfl, ?_⟩
      refine hK.out _ _ HB (fun hHeld => ?_)
      clear hK K
      refine nm ⟨_, show Act.put _ (some 25) _ = _ by simp only [Act.put, sA, sB, sC, i64_w, i32_w]; rfl, ?_⟩
      refine pu 9 (some 26) (bs 10 1023) HT_ rfl rfl (by kernel_rfl) (fun _ _ _ _ h => h) ⟨_, .inl ⟨by rfl, fun _ => by go_simp; with_reducible rfl⟩, _, by simp only [Act.put, sA, sB, sC, i64_w, i32_w]; rfl, ?_⟩
      refine done_ (done_of HT_.out (by kernel_rfl)) ?_
      go_wp2
      go_roundw
      case rel => exact ⟨k + 1, by omega, by go_num, Lib.hid (belT hI.out HB)⟩
      case measure => simp [intOf]; omega
    · obtain rfl : n = k := by omega
      go_wp2
      go_ret
      exact ⟨rfl, hI.out⟩
end Go.Proofs.YtoepbjgldmgaoaaGreatDoor

/- KeptFleet walked. -/
namespace Go.Proofs.YtoepbjgldmgaoaaGreatDoor
open Go.RowKit Go.Proofs.YtoepbjgldmgaoaaGreatDoorW.PrintWords Go.Proofs.YtoepbjgldmgaoaaGreatDoorW.PrintLast
set_option maxHeartbeats 4000000 in
set_option maxRecDepth 100000 in
theorem keptFleet_calls (f g : F4) (w : World) (h : F4.At kLent w g) (h' : F4.At kO w f) (hl : g.l0 = f.l0 ∧ g.l1 = f.l1 ∧ g.l2 = f.l2 ∧ g.l3 = f.l3) (hn : g.n0 = f.n0 ∧ g.n1 = f.n1 ∧ g.n2 = f.n2 ∧ g.n3 = f.n3) (hok : F4.Ok f) :
    Calls Tryz.prog 11 #[.agg g.v, .agg f.v] w fun e w' => e = .returned (.bool true) ∧ Below w.heap.size w w' := by
  obtain ⟨A0, A1, A2, A3, n0, n1, n2, n3, c0, c1, c2, c3, l0, l1, l2, l3⟩ := f
  obtain ⟨B0, B1, B2, B3, m0, m1, m2, m3, d0, d1, d2, d3, k0, k1, k2, k3⟩ := g
  obtain ⟨e0, e1, e2, e3⟩ := hl
  obtain ⟨p0, p1, p2, p3⟩ := hn
  simp only at e0 e1 e2 e3 p0 p1 p2 p3
  subst e0 e1 e2 e3 p0 p1 p2 p3
  have Q0 : Hid (∀ W : World, Below w.heap.size w W → Calls Tryz.prog 27 #[.slice B0 m0 d0, .slice A0 m0 c0] W fun e w' => e = .returned (.bool true) ∧ Below W.heap.size W w') := Lib.hid (fun W hW => keptObjects_big B0 A0 k0 d0 c0 m0 W (Kd.C_below h.a0 hW) (Kd.C_below h'.a0 hW) h.a0.1 hok.n0 (fun o ho => (hok.f0 o ho).1))
  have Q1 : Hid (∀ W : World, Below w.heap.size w W → Calls Tryz.prog 27 #[.slice B1 m1 d1, .slice A1 m1 c1] W fun e w' => e = .returned (.bool true) ∧ Below W.heap.size W w') := Lib.hid (fun W hW => keptObjects_big B1 A1 k1 d1 c1 m1 W (Kd.C_below h.a1 hW) (Kd.C_below h'.a1 hW) h.a1.1 hok.n1 (fun o ho => (hok.f1 o ho).1))
  have Q2 : Hid (∀ W : World, Below w.heap.size w W → Calls Tryz.prog 27 #[.slice B2 m2 d2, .slice A2 m2 c2] W fun e w' => e = .returned (.bool true) ∧ Below W.heap.size W w') := Lib.hid (fun W hW => keptObjects_big B2 A2 k2 d2 c2 m2 W (Kd.C_below h.a2 hW) (Kd.C_below h'.a2 hW) h.a2.1 hok.n2 (fun o ho => (hok.f2 o ho).1))
  have Q3 : Hid (∀ W : World, Below w.heap.size w W → Calls Tryz.prog 27 #[.slice B3 m3 d3, .slice A3 m3 c3] W fun e w' => e = .returned (.bool true) ∧ Below W.heap.size W w') := Lib.hid (fun W hW => keptObjects_big B3 A3 k3 d3 c3 m3 W (Kd.C_below h.a3 hW) (Kd.C_below h'.a3 hW) h.a3.1 hok.n3 (fun o ho => (hok.f3 o ho).1))
  clear h h' hok
  have HM := Lib.hid (Eq.refl 0)
  simp only [F4.v]
  go_enter Tryz.func11, Tryz.ntmps11
  go_wp2_with (first
    | ((with_reducible refine gate_ (.load 22 (.tmp 5)) rfl ?_); clear HM; (have HB : Hid (Below w.heap.size w ((w.alloc (Obj.cells #[.slice B0 m0 d0, .slice B1 m1 d1, .slice B2 m2 d2, .slice B3 m3 d3] 24)).alloc (Obj.cells #[.slice A0 m0 c0, .slice A1 m1 c1, .slice A2 m2 c2, .slice A3 m3 c3] 24))) := Lib.hid (Go.Joins.below_alloc2 w _ _)); (have BA : Hid (((w.alloc (Obj.cells #[.slice B0 m0 d0, .slice B1 m1 d1, .slice B2 m2 d2, .slice B3 m3 d3] 24)).alloc (Obj.cells #[.slice A0 m0 c0, .slice A1 m1 c1, .slice A2 m2 c2, .slice A3 m3 c3] 24)).heap[w.heap.size]? = some (.cells #[.slice B0 m0 d0, .slice B1 m1 d1, .slice B2 m2 d2, .slice B3 m3 d3] 24 (0, 0))) := Lib.hid ((heap_alloc_old _ _ (by simp)).trans (heap_alloc_new w _))); (have BC : Hid (((w.alloc (Obj.cells #[.slice B0 m0 d0, .slice B1 m1 d1, .slice B2 m2 d2, .slice B3 m3 d3] 24)).alloc (Obj.cells #[.slice A0 m0 c0, .slice A1 m1 c1, .slice A2 m2 c2, .slice A3 m3 c3] 24)).heap[w.heap.size + 1]? = some (.cells #[.slice A0 m0 c0, .slice A1 m1 c1, .slice A2 m2 c2, .slice A3 m3 c3] 24 (0, 0))) := Lib.hid (heap_alloc2_new w _ _)); (generalize ((w.alloc (Obj.cells #[.slice B0 m0 d0, .slice B1 m1 d1, .slice B2 m2 d2, .slice B3 m3 d3] 24)).alloc (Obj.cells #[.slice A0 m0 c0, .slice A1 m1 c1, .slice A2 m2 c2, .slice A3 m3 c3] 24)) = W0 at HB BA BC ⊢); obtain ⟨ga, hga⟩ : ∃ x, x = w.heap.size := ⟨_, rfl⟩; obtain ⟨gc, hgc⟩ : ∃ x, x = w.heap.size + 1 := ⟨_, rfl⟩; rw [← hgc] at BC ⊢; rw [← hga] at BA ⊢; clear hga hgc)
    | ((with_reducible refine wpList_load1_w (op := ⟨some 6, _, _, _, _, _⟩) 22 (.tmp 5) rfl ⟨ga, 0, none⟩ ?la0 ?lb0 (.slice B0 m0 d0) _ ?lc0 Tryz.underlying22 rfl ?_); (case la0 => rfl); (case lb0 => rfl); (case lc0 => exact (cell_of_row _ _ 0 _ _ _ BA.out).trans rfl))
    | ((with_reducible refine wpList_load1_w (op := ⟨some 8, _, _, _, _, _⟩) 22 (.tmp 7) rfl ⟨gc, 0, none⟩ ?ma0 ?mb0 (.slice A0 m0 c0) _ ?mc0 Tryz.underlying22 rfl ?_); (case ma0 => rfl); (case mb0 => rfl); (case mc0 => exact (cell_of_row _ _ 0 _ _ _ BC.out).trans rfl))
    | (go_at_call 27; (with_reducible refine (Q0.out _ HB.out).mono ?_); rintro e w1 ⟨rfl, hb⟩; replace BA := Lib.hid (blkB hb BA.out); replace BC := Lib.hid (blkB hb BC.out); replace HB := Lib.hid (belT HB.out hb); clear hb)
    | ((with_reducible refine wpList_load1_w (op := ⟨some 12, _, _, _, _, _⟩) 22 (.tmp 11) rfl ⟨ga, 1, none⟩ ?la1 ?lb1 (.slice B1 m1 d1) _ ?lc1 Tryz.underlying22 rfl ?_); (case la1 => rfl); (case lb1 => rfl); (case lc1 => exact (cell_of_row _ _ 1 _ _ _ BA.out).trans rfl))
    | ((with_reducible refine wpList_load1_w (op := ⟨some 14, _, _, _, _, _⟩) 22 (.tmp 13) rfl ⟨gc, 1, none⟩ ?ma1 ?mb1 (.slice A1 m1 c1) _ ?mc1 Tryz.underlying22 rfl ?_); (case ma1 => rfl); (case mb1 => rfl); (case mc1 => exact (cell_of_row _ _ 1 _ _ _ BC.out).trans rfl))
    | (go_at_call 27; (with_reducible refine (Q1.out _ HB.out).mono ?_); rintro e w2 ⟨rfl, hb⟩; replace BA := Lib.hid (blkB hb BA.out); replace BC := Lib.hid (blkB hb BC.out); replace HB := Lib.hid (belT HB.out hb); clear hb)
    | ((with_reducible refine wpList_load1_w (op := ⟨some 19, _, _, _, _, _⟩) 22 (.tmp 18) rfl ⟨ga, 2, none⟩ ?la2 ?lb2 (.slice B2 m2 d2) _ ?lc2 Tryz.underlying22 rfl ?_); (case la2 => rfl); (case lb2 => rfl); (case lc2 => exact (cell_of_row _ _ 2 _ _ _ BA.out).trans rfl))
    | ((with_reducible refine wpList_load1_w (op := ⟨some 21, _, _, _, _, _⟩) 22 (.tmp 20) rfl ⟨gc, 2, none⟩ ?ma2 ?mb2 (.slice A2 m2 c2) _ ?mc2 Tryz.underlying22 rfl ?_); (case ma2 => rfl); (case mb2 => rfl); (case mc2 => exact (cell_of_row _ _ 2 _ _ _ BC.out).trans rfl))
    | (go_at_call 27; (with_reducible refine (Q2.out _ HB.out).mono ?_); rintro e w3 ⟨rfl, hb⟩; replace BA := Lib.hid (blkB hb BA.out); replace BC := Lib.hid (blkB hb BC.out); replace HB := Lib.hid (belT HB.out hb); clear hb)
    | ((with_reducible refine wpList_load1_w (op := ⟨some 26, _, _, _, _, _⟩) 22 (.tmp 25) rfl ⟨ga, 3, none⟩ ?la3 ?lb3 (.slice B3 m3 d3) _ ?lc3 Tryz.underlying22 rfl ?_); (case la3 => rfl); (case lb3 => rfl); (case lc3 => exact (cell_of_row _ _ 3 _ _ _ BA.out).trans rfl))
    | ((with_reducible refine wpList_load1_w (op := ⟨some 28, _, _, _, _, _⟩) 22 (.tmp 27) rfl ⟨gc, 3, none⟩ ?ma3 ?mb3 (.slice A3 m3 c3) _ ?mc3 Tryz.underlying22 rfl ?_); (case ma3 => rfl); (case mb3 => rfl); (case mc3 => exact (cell_of_row _ _ 3 _ _ _ BC.out).trans rfl))
    | (go_at_call 27; (with_reducible refine (Q3.out _ HB.out).mono ?_); rintro e w4 ⟨rfl, hb⟩; replace BA := Lib.hid (blkB hb BA.out); replace BC := Lib.hid (blkB hb BC.out); replace HB := Lib.hid (belT HB.out hb); clear hb))
  go_ret
  exact ⟨rfl, HB.out⟩
end Go.Proofs.YtoepbjgldmgaoaaGreatDoor

/- ApartLabels: lists of labels, each in memory of its own, are written over, and hold what was written. (Under way.) -/
namespace Go.Proofs.YtoepbjgldmgaoaaGreatDoor
open Go.RowKit Go.Proofs.YtoepbjgldmgaoaaGreatDoorW.PrintWords Go.Proofs.YtoepbjgldmgaoaaGreatDoorW.PrintLast
def markK (k i : Nat) : Lab := ⟨strOfNums ([35, (k : Int) % 256, (k : Int) / 256 % 256, (i : Int) % 256, (i : Int) / 256 % 256] : List Int), (⟨#[]⟩ : ByteArray)⟩
def marksK (k n : Nat) : List Lab := (List.range n).map (markK k)
theorem marksK_length (k n : Nat) : (marksK k n).length = n := by simp [marksK]
theorem marksK_succ (k n : Nat) : marksK k (n + 1) = marksK k n ++ [markK k n] := by simp [marksK, List.range_succ]
theorem marksK_at (k n i : Nat) (h : i < n) : (marksK k n)[i]? = some (markK k i) := by simp [marksK, h]
theorem markK_calls (k i : Nat) (w : World) : Calls Tryz.prog 62 #[.int .i64 k, .int .i64 i] w fun e w' => e = .returned (.agg #[.string (markK k i).f0, .string (markK k i).f1]) ∧ Below w.heap.size w w' :=
  QLb.flotillakit_markLabels.calls k i _ _ w rfl
structure OnlyB (G : Nat → Prop) (w w' : World) : Prop where
  os : w'.os = w.os
  tape : w'.tape = w.tape
  output : w'.output = w.output
  size : w.heap.size ≤ w'.heap.size
  block : ∀ k, k < w.heap.size → ¬ G k → w'.heap[k]? = w.heap[k]?
theorem OnlyB.refl (G : Nat → Prop) (w : World) : OnlyB G w w := ⟨rfl, rfl, rfl, Nat.le_refl _, fun _ _ _ => rfl⟩
theorem OnlyB.of_below {G : Nat → Prop} {w w' : World} (h : Below w.heap.size w w') : OnlyB G w w' := ⟨h.os, h.tape, h.output, h.size, fun k hk _ => h.block k hk⟩
theorem OnlyB.trans {G : Nat → Prop} {a b c : World} (h : OnlyB G a b) (k : OnlyB G b c) : OnlyB G a c :=
  ⟨k.os.trans h.os, k.tape.trans h.tape, k.output.trans h.output, Nat.le_trans h.size k.size, fun i hi hg => (k.block i (Nat.lt_of_lt_of_le hi h.size) hg).trans (h.block i hi hg)⟩
theorem OnlyB.of_grown {G : Nat → Prop} {w w' : World} {row : Option Nat} (h : w.grownBy w' row) (hr : ∀ k, row = some k → G k) : OnlyB G w w' :=
  ⟨h.os, h.tape, h.output, h.size, fun k hk hg => h.block k hk (fun e => hg (hr k e.symm))⟩
theorem OnlyB.below {G : Nat → Prop} {B : Nat} {a b c : World} (h : Below B a b) (k : OnlyB G b c) (hB : ∀ k, G k → B ≤ k) (hs : B ≤ b.heap.size) : Below B a c :=
  ⟨k.os.trans h.os, k.tape.trans h.tape, k.output.trans h.output, Nat.le_trans h.size k.size, fun i hi => (k.block i (by omega) (fun hg => by have := hB i hg; omega)).trans (h.block i hi)⟩
structure Bk (w : World) (base : Nat) (V : List Value) (L : Nat → List Lab) : Prop where
  row : ∀ k v, V[k]? = some v → kL.R 60 w base (fun b => some b = v.ownBlock) v (L k)
def ApartV (V : List Value) : Prop := ∀ (j k : Nat) (v u : Value), j ≠ k → V[j]? = some v → V[k]? = some u → ∀ b, v.ownBlock = some b → u.ownBlock ≠ some b
def inV (V : List Value) (b : Nat) : Prop := ∃ v ∈ V, v.ownBlock = some b
theorem Bk.below {w w1 : World} {base : Nat} {V : List Value} {L : Nat → List Lab} (h : Bk w base V L) (hb : Below w.heap.size w w1) : Bk w1 base V L := ⟨fun k v hv => Kd.R_below (h.row k v hv) hb⟩
theorem Bk.congr {w : World} {base : Nat} {V : List Value} {L M : Nat → List Lab} (h : Bk w base V L) (e : ∀ k, k < V.length → L k = M k) : Bk w base V M := ⟨fun k v hv => by rw [← e k (List.getElem?_eq_some_iff.1 hv).1]; exact h.row k v hv⟩
theorem Bk.turn {w w1 : World} {base : Nat} {V : List Value} {L : Nat → List Lab} (h : Bk w base V L) (ha : ApartV V) {k : Nat} {v : Value} (hk : V[k]? = some v) (hg : w.grownBy w1 v.ownBlock) {l : List Lab} (hR : kL.R 60 w1 base (fun b => some b = v.ownBlock) v l) : Bk w1 base V (fun j => if j = k then l else L j) := by
  refine ⟨fun j u hu => ?_⟩
  by_cases hj : j = k
  · subst hj
    rw [hk] at hu
    obtain rfl := Option.some.inj hu
    rw [if_pos rfl]
    exact hR
  · rw [if_neg hj]
    have hr := h.row j u hu
    refine Kd.R_move hr (fun b hb => hg.block b (Kd.R_lt hr b hb.symm) (fun e => ?_))
    exact ha k j v u (fun e => hj e.symm) hk hu b e.symm hb.symm
section
variable {P : Program}
theorem storeLab_ {ops : Array Oper} {oi : Oper} {a : Act} {W : World} {K : Act → World → Prop} {Q : Exit → Act → World → Prop} {base g n cap i : Nat} {ok : Nat → Prop} {xs : List Lab} {p x : Operand} {s0 s1 : ByteArray} (hinfo : (P.info? 60).map (·.size) = some 2) (hw : Region.wanted oi (yielded ops a.tmps) = true) (hN : oi.dst = none) (ho : oi.op = .store 60 p x)
    (haddr : a.eval p = .pointer (some ⟨g, i * 2, none⟩)) (hx : a.eval x = .agg #[.string s0, .string s1]) (HO : kL.R 60 W base ok (.slice (some ⟨g, 0, none⟩) n cap) xs) (hi : i < n)
    (h : ∀ w1, kL.R 60 w1 base ok (.slice (some ⟨g, 0, none⟩) n cap) (xs.set i ⟨s0, s1⟩) → W.grownBy w1 (some g) → K a w1) :
    if Region.wanted oi (yielded ops a.tmps) = true then Oper.wp P oi a W K Q else K (a.put none undef) W := by
  obtain ⟨hn, _, hC⟩ := Kd.R_reads' HO
  have hil : i < xs.length := by omega
  obtain ⟨p0, hp0⟩ : ∃ p0, xs[i]? = some p0 := ⟨_, List.getElem?_eq_getElem hil⟩
  obtain ⟨c0, c1⟩ := labAt hC hp0
  rw [add_at, Nat.zero_add] at c0 c1
  have hs := Kd.R_seg HO (i : Int) (by omega) (by omega) (c := [.string p0.f0, .string p0.f1]) (seg := [.string s0, .string s1]) (j := 0) rfl (fun j u hu => by
    match j, hu with
    | 0, hu => obtain rfl : Value.string p0.f0 = u := by simpa using hu
               exact c0
    | 1, hu => obtain rfl : Value.string p0.f1 = u := by simpa using hu
               exact c1
    | j + 2, hu => simp at hu) (Nat.le_refl 2) (x' := ⟨s0, s1⟩) (okp := fun _ => False) (QLb.k60_mkM _ _ _ _) (fun _ hk => hk.elim)
  simp only [Nat.add_zero, Int.toNat_natCast] at hs
  have hsz : kL.sz = 2 := rfl
  rw [hsz] at hs
  refine skip_ hw hN (w1 := W.setCells g (i * 2) [.string s0, .string s1]) ?_ (h _ hs.1 hs.2)
  obtain ⟨hok, inner, hown, hr⟩ := HO
  rcases hown.2 with ⟨hv, _⟩ | ⟨g', cap', cur, hv, hb, hh, hnc', hcm, hcs, ht⟩
  · cases hv
  · injection hv with hv1 hv2 hv3
    injection hv1 with hv1
    injection hv1 with hv1
    subst hv1
    have hst := run_store_run (P := P) (w := W) (g := g) (o := i * 2) 60 (.agg #[.string s0, .string s1]) [.string s0, .string s1] hh rfl hinfo (by
      rw [hcs]
      show i * 2 + 2 ≤ _
      rw [hsz]
      omega) (fun q hq => by
      simp only [List.mem_cons, List.not_mem_nil, or_false] at hq
      rcases hq with rfl | rfl <;> rfl)
    unfold execOp
    simp [ho, haddr, hx, hst]
end
end Go.Proofs.YtoepbjgldmgaoaaGreatDoor

/- append to a row of one's own: what it held stays where it lay, whether the row moves or not. -/
namespace Go.Proofs.YtoepbjgldmgaoaaGreatDoor
open Go.RowKit Go.Proofs.YtoepbjgldmgaoaaGreatDoorW.PrintWords Go.Proofs.YtoepbjgldmgaoaaGreatDoorW.PrintLast
section
variable {P : Program}
theorem run_append_keep (w : World) (base : Nat) (t ty e : TypeId) (i : TypeInfo) (z : Value) (size bytes : Nat) (ht : P.underlying t = some (.slice e)) (hi : P.info? e = some i) (hz : i.zero = some z)
    (hsize : i.size = size) (hby : i.bytes = bytes) (hzs : z.cells.size = size) (hsz : 0 < size)
    (v : Value) (n : Nat) (xs : List Value) (hown : w.ownsRow base e size v n xs)
    (a : Addr) (m c : Nat) (news : List Value) (hl : news.length = m * size) (hnews : ∀ j u, news[j]? = some u → w.cell? (a.add j) = some u) (h1 : ∀ u ∈ news, u.oneCell' = true)
    (h63 : n + m ≤ maxLen) (hbytes : (n + m) * bytes ≤ 140737488355328) (hbase : base ≤ w.heap.size) :
    ∃ v' w', (Builtin.append_ #[t, t] ty #[v, .slice (some a) m c]).run P w = .ok v' w' ∧ w'.ownsRow base e size v' (n + m) (xs ++ news) ∧ w.grownBy w' v.ownBlock ∧
      (v'.ownBlock = v.ownBlock ∨ v'.ownBlock = some w.heap.size) ∧ ∀ g q, v.ownBlock = some g → q < n * size → w'.cell? ⟨g, q, none⟩ = w.cell? ⟨g, q, none⟩ := by
  obtain ⟨v', w', hr, h2, h3, _, h5⟩ := run_append_own_at (P := P) w base t ty e i z size bytes ht hi hz hsize hby hzs hsz v n xs hown a m c news hl hnews h1 h63 hbytes hbase
  refine ⟨v', w', hr, h2, h3, h5, fun g q hg hq => ?_⟩
  subst hsize
  subst hby
  have hsmall : n + m ≤ 9223372036854775807 := by simp only [maxLen] at h63; omega
  have hown' := hown
  rcases hown.2 with ⟨rfl, _⟩ | ⟨g0, cap, cur, rfl, hbg, hh, hnc, hcm, hcs, htake⟩
  · simp [Value.ownBlock] at hg
  · obtain rfl : g0 = g := by simpa [Value.ownBlock] using hg
    have hqc : q < cur.size := by
      rw [hcs]
      exact Nat.lt_of_lt_of_le hq (Nat.mul_le_mul_right _ hnc)
    by_cases hroom : n + m ≤ cap
    · have hfit : n * i.size + news.length ≤ cur.size := by rw [hl, hcs, ← Nat.add_mul]; exact Nat.mul_le_mul_right _ hroom
      have hr2 := run_append_room (P := P) w t ty e i ht hi g0 n cap cur hh a m c news hl hnews h1 hroom hfit
      rw [hr] at hr2
      injection hr2 with _ hw
      subst hw
      rw [cell_of_row _ g0 q _ e _ (setRow_heap w g0 cur _ e _ hh), cell_of_row _ g0 q cur e _ hh]
      have : q < (cur.toList.take (n * i.size)).length := by rw [List.length_take, Array.length_toList]; omega
      simp [List.getElem?_append_left this, List.getElem?_take, hq]
    · have holds : ∀ j u, xs[j]? = some u → w.cell? ((⟨g0, 0, none⟩ : Addr).add j) = some u := hown.cells (g := g0) rfl
      have hr2 := run_append_grow (P := P) w t ty e i z ht hi hz ⟨g0, 0, none⟩ n cap xs hown.1 holds a m c news hl hnews (by omega) (by omega) (growslice_fits (by omega) hbytes)
      rw [hr] at hr2
      injection hr2 with _ hw
      subst hw
      have hlt : g0 < w.heap.size := blkLt hh
      have e1 : ∀ o, (w.drew.alloc o).heap[g0]? = w.drew.heap[g0]? := fun o => heap_alloc_old w.drew o hlt
      unfold World.cell?
      simp only [e1]
      rfl
theorem R_append_keep {ops : Array Oper} {rest : List Oper} {o : Oper} {a : Act} {Q : Exit → Act → World → Prop} {α : Type} (d : Kd α) {w0 W : World} (base : Nat) (hgd : o.guard = none) (s x : Operand) (t e : TypeId) (z : Value) (bytes : Nat)
    (ho : o.op = .call { callee := .builtin .append, args := #[s, x], argTypes := #[t, t] })
    (ht : P.underlying t = some (.slice e)) (hinfo : (P.info? e).map (fun i => (i.zero, i.size, i.bytes)) = some (some z, d.sz, bytes)) (hz : z.cells.size = d.sz) (hs0 : 0 < d.sz) (hb0 : 0 < bytes)
    (v : Value) (xs : List α) (p : α) (cs : List Value) (ok okp : Nat → Prop) (hs : a.eval s = v) (hx : a.eval x = .slice (some ⟨W.heap.size, 0, none⟩) 1 1) (hp : d.M W base okp p cs) (hokp : ∀ k, okp k → ok k ∧ some k ≠ v.ownBlock) (hfresh : ∀ k, W.heap.size ≤ k → ok k)
    (HO : d.R e W base ok v xs) (HB : Below base w0 W) (hbase : base ≤ W.heap.size) (hl : (xs.length + 1) * bytes ≤ 140737488355328)
    (h : ∀ v1 w1, d.R e w1 base ok v1 (xs ++ [p]) → Below base w0 w1 → W.grownBy w1 v.ownBlock → (v1.ownBlock = v.ownBlock ∨ ∃ b, v1.ownBlock = some b ∧ W.heap.size ≤ b) → (∀ g q, v.ownBlock = some g → q < xs.length * d.sz → w1.cell? ⟨g, q, none⟩ = W.cell? ⟨g, q, none⟩) → wpList P ops Q rest (a.put o.dst v1) w1) :
    wpList P ops Q (o :: rest) a (W.alloc (.cells cs.toArray e)) := by
  obtain ⟨h0, inner, hown, hr⟩ := HO
  obtain ⟨i0, hi, hzz⟩ := Option.map_eq_some_iff.1 hinfo
  simp only [Prod.mk.injEq] at hzz
  obtain ⟨hz0, hz1, hz2⟩ := hzz
  have hlen : xs.length + 1 ≤ 140737488355328 := Nat.le_trans (Nat.le_mul_of_pos_right _ hb0) hl
  have hcl : cs.length = d.sz := d.K_len (d.K_of_M hp)
  have hown0 := hown
  obtain ⟨v1, w1, hrun, hown1, hg1, hat1, hkeep⟩ := run_append_keep (P := P) (W.alloc (.cells cs.toArray e)) base t o.type e i0 z d.sz bytes ht hi hz0 hz1 hz2 hz hs0 v xs.length inner (hown.alloc _) ⟨W.heap.size, 0, none⟩ 1 1 cs (by rw [hcl, Nat.one_mul])
    (by simpa using World.news_of_block (cs := cs.toArray) (t := e) (fr := (0, 0)) (heap_alloc_new W _)) (d.K_one (d.K_of_M hp)) (by simp only [maxLen]; omega) hl (by simp; omega)
  refine wpList_plain hgd fun K hK => ?_
  unfold Oper.wp execOp
  simp only [ho, resolve, invoke, builtin, Sem.run_bind, Sem.run_pure, Result.andThen_ok, List.map_toArray, List.map_cons, List.map_nil, hs, hx, hrun]
  have hat : v1.ownBlock = v.ownBlock ∨ ∃ b, v1.ownBlock = some b ∧ W.heap.size ≤ b := by
    rcases hat1 with hat | hat
    · exact .inl hat
    · exact .inr ⟨_, hat, by simp⟩
  have hg : W.grownBy w1 v.ownBlock := World.grownBy.trans (World.grownBy_alloc W _ _) hg1
  refine hK _ _ (h v1 w1 (Kd.R_appended h0 hr hp hokp hfresh hown1 hg hat) ((HB.alloc hbase _).grown hg1 (by simp; omega) (own_base hown0)) hg hat (fun g q hgb hq => ?_))
  rw [hkeep g q hgb hq]
  unfold World.cell?
  rw [heap_alloc_old W _ (own_lt hown0 g hgb)]
end
end Go.Proofs.YtoepbjgldmgaoaaGreatDoor

/- ApartLabels' second loop, plainly: lists that are appended to, in place or moved. -/
namespace Go.Proofs.YtoepbjgldmgaoaaGreatDoor
open Go.RowKit Go.Proofs.YtoepbjgldmgaoaaGreatDoorW.PrintWords Go.Proofs.YtoepbjgldmgaoaaGreatDoorW.PrintLast
theorem cell_same {w w' : World} {a : Addr} (h : w'.heap[a.block]? = w.heap[a.block]?) : w'.cell? a = w.cell? a := by
  unfold World.cell?
  rw [h]
theorem add_block (a : Addr) (k : Nat) : (a.add k).block = a.block := by unfold Addr.add; split <;> rfl
theorem OnlyB.grown' {G : Nat → Prop} {w W w1 : World} {row : Option Nat} (h : OnlyB G w W) (hg : W.grownBy w1 row) (hr : ∀ k, row = some k → G k ∨ w.heap.size ≤ k) : OnlyB G w w1 :=
  ⟨hg.os.trans h.os, hg.tape.trans h.tape, hg.output.trans h.output, Nat.le_trans h.size hg.size, fun k hk hn => (hg.block k (Nat.lt_of_lt_of_le hk h.size) (fun e => by
    rcases hr k e.symm with h1 | h1
    · exact hn h1
    · omega)).trans (h.block k hk hn)⟩
structure Gs (w wa : World) (base : Nat) (V G : List Value) (n : Nat → Nat) : Prop where
  row : ∀ (j : Nat) (u : Value), G[j]? = some u → kL.R 60 w base (fun b => some b = u.ownBlock) u (marksK j (n j + 64))
  old : ∀ (j : Nat) (u v : Value), G[j]? = some u → V[j]? = some v → ∀ b, u.ownBlock = some b → v.ownBlock = some b ∨ wa.heap.size ≤ b
theorem Gs.below {w wa w1 : World} {base : Nat} {V G : List Value} {n : Nat → Nat} (h : Gs w wa base V G n) (hb : Below w.heap.size w w1) : Gs w1 wa base V G n := ⟨fun j u hu => Kd.R_below (h.row j u hu) hb, h.old⟩
theorem Gs.other {wa wo W w1 : World} {base k : Nat} {V G : List Value} {n : Nat → Nat} (h : Gs W wa base V G n) (hG : Gs wo wa base V G n) (hl : G.length = k) (ha : ApartV V) {v u : Value} (hv : V[k]? = some v) (hvl : ∀ b, v.ownBlock = some b → b < wa.heap.size) (hlt : G.length ≤ V.length)
    (hu : ∀ b, u.ownBlock = some b → v.ownBlock = some b ∨ wo.heap.size ≤ b) (hg : W.grownBy w1 u.ownBlock) : Gs w1 wa base V G n := by
  refine ⟨fun j x hx => ?_, h.old⟩
  have hr := h.row j x hx
  refine Kd.R_move hr (fun b hb => hg.block b (Kd.R_lt hr b hb.symm) (fun e => ?_))
  have hj : j < G.length := (List.getElem?_eq_some_iff.1 hx).1
  obtain ⟨vj, hvj⟩ : ∃ vj, V[j]? = some vj := ⟨_, List.getElem?_eq_getElem (by omega)⟩
  rcases hu b e.symm with h1 | h1
  · rcases h.old j x vj hx hvj b hb.symm with h2 | h2
    · exact ha j k vj v (by omega) hvj hv b h2 h1
    · have := hvl b h1
      omega
  · have := Kd.R_lt (hG.row j x hx) b hb.symm
    omega
theorem LabK.keep {w w1 : World} {l : List Lab} {v : Value} (h : LabK w l v) (hs : ∀ ad c, v = .slice (some ad) l.length c → ∀ q, q < l.length * 2 → w1.cell? (ad.add q) = w.cell? (ad.add q)) : LabK w1 l v := by
  obtain ⟨A, c, rfl, hl, hr⟩ := h
  refine ⟨A, c, rfl, hl, hr.1, hr.2.1, fun hp => ?_⟩
  obtain ⟨ad, e, hc⟩ := hr.2.2 hp
  subst e
  refine ⟨ad, rfl, fun j p hj => ?_⟩
  obtain ⟨cs, h1, h2, h3⟩ := hc j p hj
  have hjl : j < l.length := (List.getElem?_eq_some_iff.1 hj).1
  refine ⟨cs, h1, QLb.k60_open h2 ▸ QLb.k60_mk w1 p, fun i u hu => ?_⟩
  have hi : i < 2 := by
    have := (List.getElem?_eq_some_iff.1 hu).1
    rw [h1] at this
    exact this
  have hsz : kL.sz = 2 := rfl
  rw [hsz] at h3 ⊢
  rw [hs ad c rfl (j * 2 + i) (by omega)]
  exact h3 i u hu
theorem LabK.same {w w1 : World} {l : List Lab} {v : Value} (h : LabK w l v) (hs : ∀ b, v.ownBlock = some b → w1.heap[b]? = w.heap[b]?) : LabK w1 l v :=
  h.keep fun ad c e q _ => cell_same (a := ad.add q) (by rw [add_block]; exact hs ad.block (by rw [e]; rfl))
structure BI (w wa W : World) (base : Nat) (V G : List Value) (n : Nat → Nat) (v5 : Value) (m : Nat) : Prop where
  rd : ∀ (j : Nat) (v : Value), V[j]? = some v → LabK W (marksK j (n j)) v
  todo : ∀ (j : Nat) (v : Value), m ≤ j → V[j]? = some v → kL.R 60 W base (fun b => some b = v.ownBlock) v (marksK j (n j))
  gs : Gs W wa base V G n
  row : (Kd.raw 1).R 48 W wa.heap.size (fun _ => True) v5 (G.map fun u => [u])
  only : OnlyB (inV V) w W
theorem BI.below {w wa W w1 : World} {base : Nat} {V G : List Value} {n : Nat → Nat} {v5 : Value} {m : Nat} (h : BI w wa W base V G n v5 m) (hb : Below W.heap.size W w1) : BI w wa w1 base V G n v5 m :=
  ⟨fun j v hv => (h.rd j v hv).below hb, fun j v hm hv => Kd.R_below (h.todo j v hm hv) hb, h.gs.below hb, Kd.R_below h.row hb, h.only.trans (OnlyB.of_below hb)⟩
theorem BI.step {w wa wo W w1 : World} {base k : Nat} {V G : List Value} {n : Nat → Nat} {v5 u v : Value} {xs : List Lab} (h : BI w wa W base V G n v5 (k + 1)) (hG : Gs wo wa base V G n) (hl : G.length = k) (ha : ApartV V) (hv : V[k]? = some v) (hV : ∀ x ∈ V, ∀ b, x.ownBlock = some b → b < wa.heap.size) (hww : w.heap.size ≤ wa.heap.size) (hwo : wa.heap.size ≤ wo.heap.size) (hwW : wo.heap.size ≤ W.heap.size)
    (hv0 : ∀ ad c, v = .slice (some ad) (n k) c → ad.off = 0 ∧ ad = ⟨ad.block, 0, none⟩)
    (hu : ∀ b, u.ownBlock = some b → v.ownBlock = some b ∨ wo.heap.size ≤ b) (hR : kL.R 60 W base (fun _ => True) u xs) (hxs : n k ≤ xs.length) (hg : W.grownBy w1 u.ownBlock)
    (hkeep : ∀ g q, u.ownBlock = some g → q < xs.length * 2 → w1.cell? ⟨g, q, none⟩ = W.cell? ⟨g, q, none⟩) : BI w wa w1 base V G n v5 (k + 1) := by
  have hVo : ∀ j x, V[j]? = some x → j ≠ k → ∀ b, x.ownBlock = some b → u.ownBlock ≠ some b := fun j x hx hj b hb e => by
    rcases hu b e with h1 | h1
    · exact ha k j v x (fun e => hj e.symm) hv hx b h1 hb
    · have := hV x (List.mem_of_getElem? hx) b hb
      omega
  have hlt : ∀ x ∈ V, ∀ b, x.ownBlock = some b → b < W.heap.size := fun x hx b hb => by
    have := hV x hx b hb
    omega
  refine ⟨fun j x hx => ?_, fun j x hm hx => ?_, ?_, ?_, ?_⟩
  · by_cases hj : j = k
    · subst hj
      rw [hv] at hx
      obtain rfl := Option.some.inj hx
      have h0 := h.rd j v hv
      refine h0.keep fun ad c e q hq => ?_
      rw [marksK_length] at e hq
      obtain ⟨_, e2⟩ := hv0 ad c e
      by_cases hub : u.ownBlock = some ad.block
      · rw [e2, add_at, Nat.zero_add]
        exact hkeep ad.block q hub (by omega)
      · refine cell_same (a := ad.add q) ?_
        rw [add_block]
        exact hg.block _ (hlt v (List.mem_of_getElem? hv) _ (by rw [e]; rfl)) (fun e' => hub e'.symm)
    · exact (h.rd j x hx).same fun b hb => hg.block b (hlt x (List.mem_of_getElem? hx) b hb) (fun e => hVo j x hx hj b hb e.symm)
  · have hr := h.todo j x hm hx
    exact Kd.R_move hr (fun b hb => hg.block b (Kd.R_lt hr b hb.symm) (fun e => hVo j x hx (by omega) b hb.symm e.symm))
  · exact h.gs.other hG hl ha hv (fun b hb => hV v (List.mem_of_getElem? hv) b hb) (by rw [hl]; exact Nat.le_of_lt (List.getElem?_eq_some_iff.1 hv).1) hu hg
  · exact Kd.R_over' h.row (Kd.R_typed hR) (fun q hq => by
      rcases List.mem_cons.1 hq with rfl | hq
      · decide
      · cases hq) hg
  · exact h.only.grown' hg (fun b hb => by
      rcases hu b hb with h1 | h1
      · exact .inl ⟨v, List.mem_of_getElem? hv, h1⟩
      · exact .inr (by omega))
theorem BI.next {w wa wo W w1 : World} {base k : Nat} {V G : List Value} {n : Nat → Nat} {v5 v5' u v : Value} (h : BI w wa W base V G n v5 (k + 1)) (hl : G.length = k) (hv : V[k]? = some v) (hwa : wa.heap.size ≤ wo.heap.size)
    (hu : ∀ b, u.ownBlock = some b → v.ownBlock = some b ∨ wo.heap.size ≤ b) (hR : kL.R 60 W base (fun _ => True) u (marksK k (n k + 64)))
    (hV : ∀ x ∈ V, ∀ b, x.ownBlock = some b → b < wa.heap.size) (hwaW : wa.heap.size ≤ W.heap.size)
    (hrow : (Kd.raw 1).R 48 w1 wa.heap.size (fun _ => True) v5' (G.map (fun u => [u]) ++ [[u]])) (hg : W.grownBy w1 v5.ownBlock) (hbase : w.heap.size ≤ wa.heap.size) : BI w wa w1 base V (G ++ [u]) n v5' (k + 1) := by
  have hty := Kd.R_typed h.row
  have hne : ∀ b : Nat, (∃ cells, W.heap[b]? = some (Obj.cells cells 60 (0, 0))) → some b ≠ v5.ownBlock := fun b ⟨c, hc⟩ e => by
    obtain ⟨c', hc'⟩ := hty b e.symm
    rw [hc] at hc'
    injection hc' with hc'
    injection hc' with _ hc'
    exact absurd hc' (by decide)
  have hk : ∀ b : Nat, (∃ cells, W.heap[b]? = some (Obj.cells cells 60 (0, 0))) → w1.heap[b]? = W.heap[b]? := fun b hb => by
    obtain ⟨c, hc⟩ := hb
    exact hg.block b (blkLt hc) (hne b ⟨c, hc⟩)
  have hmv : ∀ {ok : Nat → Prop} {x : Value} {l : List Lab}, kL.R 60 W base ok x l → kL.R 60 w1 base (fun b => some b = x.ownBlock) x l := fun {ok x l} hr => Kd.R_move (Kd.R_tight rfl hr) (fun b hb => hk b (Kd.R_typed hr b hb.symm))
  refine ⟨fun j x hx => ?_, fun j x hm hx => hmv (h.todo j x hm hx), ⟨fun j x hx => ?_, fun j x y hx hy b hb => ?_⟩, by rw [List.map_append]; exact hrow, h.only.grown' hg (fun b hb => .inr (by have := Kd.R_base h.row b hb; omega))⟩
  · exact (h.rd j x hx).same fun b hb => hg.block b (by have := hV x (List.mem_of_getElem? hx) b hb; omega) (fun e => by
      have := Kd.R_base h.row b e.symm
      have := hV x (List.mem_of_getElem? hx) b hb
      omega)
  · rcases Nat.lt_or_ge j G.length with hj | hj
    · rw [List.getElem?_append_left hj] at hx
      exact hmv (h.gs.row j x hx)
    · have hjk : j = G.length := by
        have := (List.getElem?_eq_some_iff.1 hx).1
        rw [List.length_append, List.length_singleton] at this
        omega
      subst hjk
      obtain rfl : u = x := by simpa using hx
      rw [hl]
      exact hmv hR
  · rcases Nat.lt_or_ge j G.length with hj | hj
    · rw [List.getElem?_append_left hj] at hx
      exact h.gs.old j x y hx hy b hb
    · have hjk : j = G.length := by
        have := (List.getElem?_eq_some_iff.1 hx).1
        rw [List.length_append, List.length_singleton] at this
        omega
      subst hjk
      obtain rfl : u = x := by simpa using hx
      rw [hl, hv] at hy
      obtain rfl := Option.some.inj hy
      rcases hu b hb with h1 | h1
      · exact .inl h1
      · exact .inr (by omega)
end Go.Proofs.YtoepbjgldmgaoaaGreatDoor

/- ApartLabels walked: lists of labels, each of its own, are written over and appended to, and hold what was written. -/
namespace Go.Proofs.YtoepbjgldmgaoaaGreatDoor
open Go.RowKit Go.Proofs.YtoepbjgldmgaoaaGreatDoorW.PrintWords Go.Proofs.YtoepbjgldmgaoaaGreatDoorW.PrintLast
structure RowV (w : World) (ad : Addr) (V : List Value) : Prop where
  cells : ∀ k v, V[k]? = some v → w.cell? (ad.add k) = some v
  here : ad.block < w.heap.size
  out : ¬ inV V ad.block
theorem RowV.only {w w' : World} {ad : Addr} {V : List Value} (h : RowV w ad V) (hb : OnlyB (inV V) w w') : RowV w' ad V :=
  ⟨fun k v hv => (cell_same (w := w) (w' := w') (a := ad.add k) (by rw [add_block]; exact hb.block _ h.here h.out)).trans (h.cells k v hv), Nat.lt_of_lt_of_le h.here hb.size, h.out⟩
theorem labK_R {w : World} {base : Nat} {ok : Nat → Prop} {v : Value} {l : List Lab} (h : kL.R 60 w base ok v l) : LabK w l v := LabK.of_R h
theorem set_mark (k i : Nat) (l : List Lab) (hi : i < l.length) : (marksK k i ++ l.drop i).set i (markK k i) = marksK k (i + 1) ++ l.drop (i + 1) := by
  rw [List.set_append_right _ _ (by rw [marksK_length]; exact Nat.le_refl _), marksK_length, Nat.sub_self, List.drop_eq_getElem_cons hi, List.set_cons_zero, marksK_succ, List.append_assoc]
  rfl
section
variable {P : Program}
theorem wpList_buildOne {ops : Array Oper} {rest : List Oper} {op : Oper} {a : Act} {w : World} {Q : Exit → Act → World → Prop} (hgd : op.guard = none) (t e : TypeId) (x : Operand) (ho : op.op = .buildSlice t 1 #[(0, x)]) (v : Value) (hx : a.eval x = v) (hv : v.cells = #[v])
    (z : Value) (bytes : Nat) (hu : P.underlying t = some (.slice e)) (hinfo : (P.info? e).map (fun i => (i.zero, i.size, i.bytes)) = some (some z, 1, bytes))
    (h : wpList P ops Q rest (a.put op.dst (.slice (some ⟨w.heap.size, 0, none⟩) 1 1)) (w.alloc (.cells #[v] e))) : wpList P ops Q (op :: rest) a w := by
  obtain ⟨i0, hi, hzz⟩ := Option.map_eq_some_iff.1 hinfo
  simp only [Prod.mk.injEq] at hzz
  obtain ⟨hz0, hz1, hz2⟩ := hzz
  refine wpList_buildSlice hgd t e 1 #[(0, x)] ho #[v] i0 z hu hi hz0 (by rw [hz1]; omega) (by rw [hz1]; omega) ?_ h
  have hf := Great.fill_whole (s := 1) Nat.one_pos [v] ((Array.range (1 * i0.size)).map (z.cells[· % z.cells.size]!)) (fun q hq => by rw [List.mem_singleton.1 hq, hv]; rfl) (by simp [hz1])
  rw [hz1] at hf ⊢
  simpa [hx, hv] using hf
end
theorem infoLs : (Tryz.prog.info? 48).map (fun i => (i.zero, i.size, i.bytes)) = some (some (.slice none 0 0), 1, 24) := by kernel_rfl
theorem rawSome {W : World} {A : Option Addr} {n k : Nat} {G : List Value} {u : Value} (h : (Kd.raw 1).C W A n (G.map fun u => [u])) (hu : G[k]? = some u) : ∃ ad, A = some ad := by
  have hk : k < G.length := (List.getElem?_eq_some_iff.1 hu).1
  have hn := h.1
  rw [List.length_map] at hn
  obtain ⟨ad, e, _⟩ := h.2.2 (by omega)
  exact ⟨ad, e⟩
theorem rawCell {W : World} {ad : Addr} {n k : Nat} {G : List Value} {u : Value} (h : (Kd.raw 1).C W (some ad) n (G.map fun u => [u])) (hu : G[k]? = some u) : W.cell? (ad.add k) = some u := by
  have hk : k < G.length := (List.getElem?_eq_some_iff.1 hu).1
  have hn := h.1
  rw [List.length_map] at hn
  obtain ⟨ad', e, hc⟩ := h.2.2 (by omega)
  obtain rfl := Option.some.inj e
  obtain ⟨cs, _, h2, h3⟩ := hc k [u] (by rw [List.getElem?_map, hu]; rfl)
  have h4 := h3 0 u (by rw [h2.1]; rfl)
  have hsz : (Kd.raw 1).sz = 1 := rfl
  rw [hsz] at h4
  simpa using h4
def rg36_7_T : Bool × List (List Nat × List Nat) := (true, [([], []), ([], []), ([0, 1], [0, 1]), ([2], [2]), ([], []), ([], []), ([], []), ([5, 6], [5, 6]), ([3, 4, 0, 1, 2, 3, 4, 5, 6, 7], [3, 4]), ([8, 7, 7, 0, 1, 2, 3, 4, 5, 6, 7], [7, 8])])
def rg36_7_B : List Nat := [0, 0, 3, 7, 0, 0, 0, 96, 255, 511]
theorem rg36_7_tab : rtab .any (opsOf Tryz.f36 7) = rg36_7_T := by kernel_rfl
theorem rg36_7_bits : waitsOk rg36_7_T.2 rg36_7_B = true := by kernel_rfl
set_option maxHeartbeats 4000000 in
set_option maxRecDepth 100000 in
theorem apartLabels_calls (ad : Addr) (cap N : Nat) (V : List Value) (LS : Nat → List Lab) (w : World) (base : Nat) (hVN : V.length = N) (hN : N ≤ 1000000) (hbase : base ≤ w.heap.size) (hrow : RowV w ad V) (hB : Bk w base V LS) (ha : ApartV V) (hlen : ∀ k, k < N → (LS k).length ≤ 4398046510976) :
    Calls Tryz.prog 36 #[.slice (some ad) N cap] w fun e w' => e = .returned (.bool true) ∧ OnlyB (inV V) w w' := by
  have HRow := Lib.hid hrow
  have HBk := Lib.hid hB
  have HA := Lib.hid ha
  have HL := Lib.hid (And.intro hVN hlen)
  clear hrow hB ha hVN hlen
  go_enter Tryz.func36, Tryz.ntmps36
  go_wp2
  go_loopw [3] (fun v3 wr => ∃ k : Nat, k ≤ N ∧ v3 = .int .i64 k ∧ Hid (Bk wr base V (fun j => if j < k then marksK j (LS j).length else LS j) ∧ OnlyB (inV V) w wr)) (fun v3 _ => N - (intOf v3).toNat)
  case atStart => exact ⟨0, Nat.zero_le _, rfl, Lib.hid ⟨HBk.out.congr (fun k _ => by rw [if_neg (by omega)]), OnlyB.refl _ _⟩⟩
  case round =>
    obtain ⟨k, hk, rfl, hI⟩ := hrel
    by_cases hkn : k < N
    · obtain ⟨v, hv⟩ : ∃ v, V[k]? = some v := ⟨_, List.getElem?_eq_getElem (by have := HL.out.1; omega)⟩
      have hr := hI.out.1.row k v hv
      rw [if_neg (Nat.lt_irrefl k)] at hr
      obtain ⟨Ak, ck, rfl⟩ := Kd.R_slice hr
      obtain ⟨n, hn⟩ : ∃ n, n = (LS k).length := ⟨_, rfl⟩
      have hnb : n ≤ 4398046510976 := by rw [hn]; exact HL.out.2 k hkn
      rw [← hn] at hv hr
      have hlk : (k : Int) < (N : Int) := by omega
      have HV := Lib.hid (And.intro hv hn)
      clear hv hr hn
      go_wp2
      rename World => wo
      go_loopw [4] (fun v4 wr => ∃ i : Nat, i ≤ n ∧ v4 = .int .i64 i ∧ Hid (Bk wr base V (fun j => if j < k then marksK j (LS j).length else if j = k then marksK k i ++ (LS k).drop i else LS j) ∧ OnlyB (inV V) w wr)) (fun v4 _ => n - (intOf v4).toNat)
      case atStart => exact ⟨0, Nat.zero_le _, rfl, Lib.hid ⟨hI.out.1.congr (fun j _ => by
        by_cases h1 : j < k
        · rw [if_pos h1, if_pos h1]
        · rw [if_neg h1, if_neg h1]
          by_cases h2 : j = k
          · subst h2; rw [if_pos rfl]; rfl
          · rw [if_neg h2]), hI.out.2⟩⟩
      case round =>
        obtain ⟨i, hi, rfl, hJ⟩ := hrel
        have q1 := (HRow.out.only hJ.out.2).cells k _ HV.out.1
        by_cases hin : i < n
        · have hr := hJ.out.1.row k _ HV.out.1
          rw [if_neg (Nat.lt_irrefl k), if_pos rfl] at hr
          have hxl : (marksK k i ++ (LS k).drop i).length = n := by rw [List.length_append, marksK_length, List.length_drop, ← HV.out.2]; omega
          obtain ⟨g, cap', e, _, _, _⟩ := Kd.R_form hr (by omega)
          rw [hxl] at e
          injection e with e1 _ e3
          subst e1
          subst e3
          obtain ⟨s0, s1, hm⟩ : ∃ s0 s1, markK k i = ⟨s0, s1⟩ := ⟨_, _, rfl⟩
          have QM := fun W => markK_calls k i W
          rw [hm] at QM
          replace QM := Lib.hid QM
          have HRk := Lib.hid hr
          have HM := Lib.hid (And.intro hm (show i < (LS k).length by rw [← HV.out.2]; exact hin))
          have HRw := Lib.hid (HRow.out.only hJ.out.2)
          have HB1 := below_drew (Below.refl wr.heap.size wr)
          have hini : (i : Int) < (n : Int) := by omega
          clear hr hxl hm
          go_upto_region 7 with (fail)
          refine start_ (n := 10) (S := fun w' => Below wr.heap.size wr w' ∧ w'.cell? (ad.add k) = some (.slice (some ⟨g, 0, none⟩) n ck)) (ds := [9]) (bs 10 0) (by kernel_rfl) rfl (by kernel_rfl) ⟨HB1, (HRw.out.only (OnlyB.of_below HB1)).cells k _ HV.out.1⟩ (fun hHeld => ?_)
          refine with_tabW rg36_7_tab rg36_7_bits (fun HT_ HW_ => ?_)
          refine pu 0 (some 27) (bs 10 1) HT_ rfl rfl (by kernel_rfl) (fun _ _ _ _ h => h) ⟨_, .inl ⟨by rfl, fun _ => by go_simp; with_reducible rfl⟩, _, by simp only [Act.put, sA, sB, sC, i64_w, i32_w]; rfl, ?_⟩
          refine pu 1 (some 28) (bs 10 3) HT_ rfl rfl (by kernel_rfl) (fun _ _ _ _ h => h) ⟨_, .inl ⟨by rfl, fun _ => by go_simp; with_reducible rfl⟩, _, by simp only [Act.put, sA, sB, sC, i64_w, i32_w]; rfl, ?_⟩
          refine pu 2 (some 29) (bs 10 7) HT_ rfl rfl (by kernel_rfl) (fun _ _ _ _ h => h) ⟨_, .inl ⟨by rfl, fun _ => by go_simp; with_reducible rfl⟩, _, by simp only [Act.put, sA, sB, sC, i64_w, i32_w]; rfl, ?_⟩
          refine pu 4 (some 31) (bs 10 23) HT_ rfl rfl (by kernel_rfl) (fun _ _ _ _ h => h) ⟨_, .inl ⟨by rfl, fun _ => by go_simp; with_reducible rfl⟩, _, by simp only [Act.put, sA, sB, sC, i64_w, i32_w]; rfl, ?_⟩
          refine pu 5 (some 32) (bs 10 55) HT_ rfl rfl (by kernel_rfl) (fun _ _ _ _ h => h) ⟨_, .inl ⟨by rfl, fun _ => by go_simp; with_reducible rfl⟩, _, by simp only [Act.put, sA, sB, sC, i64_w, i32_w]; rfl, ?_⟩
          refine pu 6 (some 33) (bs 10 119) HT_ rfl rfl (by kernel_rfl) (fun _ _ _ _ h => h) ⟨_, .inl ⟨by rfl, fun _ => by go_simp; with_reducible rfl⟩, _, by simp only [Act.put, sA, sB, sC, i64_w, i32_w]; rfl, ?_⟩
          refine tk 3 (some 30) (bs 10 127) HT_ HW_ rfl rfl (by kernel_rfl) (fun _ _ _ _ h => h) hHeld ⟨_, .inl ⟨by rfl, by rintro w' ⟨s0, s1⟩; go_simp; with_reducible rfl⟩, _, by simp only [Act.put, sA, sB, sC, i64_w, i32_w]; rfl, ?_⟩
          refine on1 7 (some 34) (bs 10 255) HT_ rfl rfl (by kernel_rfl) (by decide) (fun K hK => ?_)
          refine goes_ Tryz.func62 (by kernel_rfl) rfl #[.int .i64 k, .int .i64 i] (by rfl) rfl rfl (by (try simp only [List.map_toArray, List.map_cons, List.map_nil]); first | done | rfl) ?_
          with_reducible refine (QM.out _).mono ?_
          rintro e w5 ⟨rfl, hb⟩
          replace HB1 := belT HB1 hb
          clear hb
          refine ⟨_, rfl, ?_⟩
          refine hK.out _ _ ⟨HB1, (HRw.out.only (OnlyB.of_below HB1)).cells k _ HV.out.1⟩ (fun hHeld => ?_)
          clear hK K
          refine nm ⟨_, show Act.put _ (some 34) _ = _ by simp only [Act.put, sA, sB, sC, i64_w, i32_w]; rfl, ?_⟩
          refine pu 8 (some 35) (bs 10 511) HT_ rfl rfl (by kernel_rfl) (fun _ _ _ _ h => h) ⟨_, .inl ⟨by rfl, fun _ => by go_simp; with_reducible rfl⟩, _, by simp only [Act.put, sA, sB, sC, i64_w, i32_w]; rfl, ?_⟩
          refine la1 9 (none) (bs 10 1023) HT_ rfl rfl (by kernel_rfl) (by decide) (fun K hK => ?_)
          refine storeLab_ (i := i) (p := .tmp 35) (x := .tmp 34) (by kernel_rfl) (by rfl) rfl rfl rfl rfl (Kd.R_below HRk.out HB1) hin ?_
          intro w6 hR6 hg6
          refine hK.out _ _ ?_
          clear hK K
          refine done_ (done_of HT_.out (by kernel_rfl)) ?_
          have hJ1 := hJ.out.1
          have hBk6 : Bk w6 base V (fun j => if j < k then marksK j (LS j).length else if j = k then marksK k (i + 1) ++ (LS k).drop (i + 1) else LS j) := ((hJ1.below HB1).turn HA.out HV.out.1 hg6 hR6).congr (fun j _ => by
            by_cases h2 : j = k
            · subst h2
              rw [if_pos rfl, if_neg (Nat.lt_irrefl _), if_pos rfl, ← HM.out.1]
              exact set_mark _ _ _ HM.out.2
            · simp only [h2, if_false])
          have hO6 : OnlyB (inV V) w w6 := hJ.out.2.trans ((OnlyB.of_below HB1).trans (OnlyB.of_grown hg6 (fun b hb => ⟨_, List.mem_of_getElem? HV.out.1, hb⟩)))
          replace hBk6 := Lib.hid (And.intro hBk6 hO6)
          clear hJ1 hO6 hR6 hg6 HB1 HRk HRw
          go_wp2
          go_roundw
          case rel => exact ⟨i + 1, by omega, by go_num, hBk6⟩
          case measure => simp [intOf]; omega
        · obtain rfl : n = i := by omega
          go_wp2
          go_roundw
          case rel =>
            refine ⟨k + 1, by omega, by go_num, Lib.hid ⟨hJ.out.1.congr (fun j _ => ?_), hJ.out.2⟩⟩
            by_cases h1 : j < k
            · rw [if_pos h1, if_pos (by omega)]
            · rw [if_neg h1]
              by_cases h2 : j = k
              · subst h2
                rw [if_pos rfl, if_pos (Nat.lt_succ_self _), HV.out.2, List.drop_length, List.append_nil]
              · rw [if_neg h2, if_neg (by omega)]
          case measure => simp [intOf]; omega
    · obtain rfl : N = k := by omega
      have hBm : Bk wr base V (fun j => marksK j (LS j).length) := hI.out.1.congr (fun j hj => by rw [if_pos (by have := HL.out.1; omega)])
      have HBm := Lib.hid (And.intro hBm (And.intro hI.out.2 (HRow.out.only hI.out.2)))
      clear hBm hI
      have hVlt : ∀ x ∈ V, ∀ b, x.ownBlock = some b → b < wr.heap.size := fun x hx b hb => by
        obtain ⟨j, hj⟩ := List.mem_iff_getElem?.1 hx
        exact Kd.R_lt (HBm.out.1.row j x hj) b hb
      replace hVlt := Lib.hid hVlt
      have hww : w.heap.size ≤ wr.heap.size := HBm.out.2.1.size
      rename World => wa
      go_wp2
      go_loopw [5, 6] (fun v5 v6 wr => ∃ k : Nat, k ≤ N ∧ v6 = .int .i64 k ∧ ∃ G : List Value, G.length = k ∧ Hid (BI w wa wr base V G (fun j => (LS j).length) v5 k ∧ wa.heap.size ≤ wr.heap.size)) (fun _ v6 _ => N - (intOf v6).toNat)
      case atStart => exact ⟨0, Nat.zero_le _, rfl, [], rfl, Lib.hid ⟨⟨fun j v hv => labK_R (HBm.out.1.row j v hv), fun j v _ hv => HBm.out.1.row j v hv, ⟨fun j u hu => by simp at hu, fun j u v hu => by simp at hu⟩, Kd.R_nil _ _ _ _ _, HBm.out.2.1⟩, Nat.le_refl _⟩⟩
      case round =>
        obtain ⟨k, hk, rfl, G, hG, hI⟩ := hrel
        by_cases hkn : k < N
        · obtain ⟨v, hv⟩ : ∃ v, V[k]? = some v := ⟨_, List.getElem?_eq_getElem (by have := HL.out.1; omega)⟩
          have hr := hI.out.1.todo k v (Nat.le_refl _) hv
          obtain ⟨Ak, ck, rfl⟩ := Kd.R_slice hr
          rw [marksK_length] at hr hv
          obtain ⟨n, hn⟩ : ∃ n, n = (LS k).length := ⟨_, rfl⟩
          have hnb : n ≤ 4398046510976 := by rw [hn]; exact HL.out.2 k hkn
          rw [← hn] at hv hr
          have hlk : (k : Int) < (N : Int) := by omega
          have q1 := (HRow.out.only hI.out.1.only).cells k _ hv
          have hv0 : Hid (∀ (ad : Addr) (c : Nat), Value.slice Ak n ck = .slice (some ad) n c → ad.off = 0 ∧ ad = ⟨ad.block, 0, none⟩) := Lib.hid (fun ad c e => by
            injection e with e1 _ _
            subst e1
            obtain ⟨g, e⟩ := Kd.R_head hr
            rw [e]
            exact ⟨rfl, rfl⟩)
          have HV := Lib.hid (And.intro hv hn)
          have HRk := Lib.hid hr
          clear hv hr hn
          go_wp2
          rename World => wo
          go_loopw [7, 8] (fun v7 v8 wr => ∃ j : Nat, j ≤ 64 ∧ v8 = .int .i64 j ∧ Hid (BI w wa wr base V G (fun j => (LS j).length) u5 (k + 1) ∧ wo.heap.size ≤ wr.heap.size ∧ kL.R 60 wr base (fun _ => True) v7 (marksK k (n + j)) ∧ ∀ b, v7.ownBlock = some b → (Value.slice Ak n ck).ownBlock = some b ∨ wo.heap.size ≤ b)) (fun _ v8 _ => 64 - (intOf v8).toNat)
          case atStart => exact ⟨0, by omega, rfl, Lib.hid ⟨⟨hI.out.1.rd, fun j v hm hv => hI.out.1.todo j v (by omega) hv, hI.out.1.gs, hI.out.1.row, hI.out.1.only⟩, Nat.le_refl _, Kd.R_mono HRk.out (fun _ _ => trivial), fun b hb => .inl hb⟩⟩
          case round =>
            obtain ⟨j, hj, rfl, hJ⟩ := hrel
            have q1 := (HRow.out.only hJ.out.1.only).cells k _ HV.out.1
            by_cases hj64 : j < 64
            · have g4 : decide ((j : Int) < 64) = true := decide_eq_true (by omega)
              have hw : wrap64 ((n : Int) + (j : Int)) = (n : Int) + (j : Int) := by unfold wrap64; omega
              obtain ⟨s0, s1, hm⟩ : ∃ s0 s1, markK k (n + j) = ⟨s0, s1⟩ := ⟨_, _, rfl⟩
              have QM := fun W => markK_calls k (n + j) W
              rw [hm, Int.natCast_add] at QM
              replace QM := Lib.hid QM
              have HM := Lib.hid hm
              clear hm
              go_wp2_with (first
                | (go_at_call 62; (with_reducible refine (QM.out _).mono ?_); rintro e w1 ⟨rfl, hb1⟩; have HJ1 := Lib.hid (And.intro (hJ.out.1.below hb1) (And.intro (Kd.R_below hJ.out.2.2.1 hb1) hb1.size)); have hb1s : Hid (base ≤ w1.heap.size) := Lib.hid (by have := hb1.size; have := hJ.out.2.1; have := hI.out.2; omega); clear hb1)
                | ((with_reducible refine wpList_build1 rfl 48 60 (.tmp 59) rfl #[.string s0, .string s1] ?d1 ?d2 2 32 Tryz.underlying48 ?d3 ?d4 (by omega) (by omega) ?d5 ?_); (case d1 => rfl); (case d3 => exact infoL); (case d4 => rfl); (case d5 => rfl))
                | (at_builtin; refine R_append_keep kL (w0 := w1) (W := w1) base rfl (.tmp 50) (.tmp 60) 48 60 (.agg #[(.string ⟨#[]⟩), (.string ⟨#[]⟩)]) 32 rfl Tryz.underlying48 infoL rfl (by decide) (by omega) u7 (marksK k (n + j)) ⟨s0, s1⟩ [.string s0, .string s1] (fun _ => True) (fun _ => False) rfl rfl (QLb.k60_mkM _ _ _ _) (fun _ h => h.elim) (fun _ _ => trivial) HJ1.out.2.1 (Below.refl _ _) hb1s.out (by rw [marksK_length]; omega) ?_; intro v1 w6 hR6 hB6 hg6 hat6 hkeep6))
              have hst := BI.step HJ1.out.1 hI.out.1.gs hG HA.out HV.out.1 hVlt.out hww (by have := hI.out.2; omega) (by have := HJ1.out.2.2; have := hJ.out.2.1; omega) (by rw [← HV.out.2]; exact hv0.out) hJ.out.2.2.2 HJ1.out.2.1 (by rw [marksK_length, ← HV.out.2]; omega) hg6 hkeep6
              rw [← HM.out, ← marksK_succ] at hR6
              have hsz6 : wo.heap.size ≤ w6.heap.size := by have := hg6.size; have := HJ1.out.2.2; have := hJ.out.2.1; omega
              have how6 : ∀ b, v1.ownBlock = some b → (Value.slice Ak n ck).ownBlock = some b ∨ wo.heap.size ≤ b := fun b hb => by
                rcases hat6 with e | ⟨b', e, hle⟩
                · exact hJ.out.2.2.2 b (by rw [← e]; exact hb)
                · rw [e] at hb
                  injection hb with hb
                  have := HJ1.out.2.2
                  have := hJ.out.2.1
                  exact .inr (by omega)
              replace hst := Lib.hid (And.intro hst (And.intro hsz6 (And.intro hR6 how6)))
              clear hR6 hB6 hg6 hat6 hkeep6 hsz6 how6
              go_wp2
              go_roundw
              case rel => exact ⟨j + 1, by omega, by go_num, hst⟩
              case measure => simp [intOf]; omega
            · obtain rfl : j = 64 := by omega
              have hR7 := hJ.out.2.2.1
              obtain ⟨A7, c7, e7⟩ := Kd.R_slice hR7
              have hc7 : u7.cells = #[u7] := by rw [e7]; rfl
              have ho7 : u7.oneCell' = true := by rw [e7]; rfl
              rw [HV.out.2] at hR7
              have hwaW : wa.heap.size ≤ wr.heap.size := Nat.le_trans hI.out.2 hJ.out.2.1
              have hGl : ((G.map fun u => [u]).length + 1) * 24 ≤ 140737488355328 := by rw [List.length_map]; omega
              have H7 := Lib.hid (And.intro hR7 (And.intro hc7 (And.intro ho7 (And.intro hwaW hGl))))
              clear hR7 e7 hc7 ho7 hwaW hGl
              go_wp2_with (first
                | ((with_reducible refine wpList_buildOne rfl 37 48 (.tmp 63) rfl u7 ?o1 ?o2 (.slice none 0 0) 24 Tryz.underlying37 ?o3 ?_); (case o1 => rfl); (case o2 => exact H7.out.2.1); (case o3 => exact infoLs))
                | (at_builtin; refine Kd.R_append (Kd.raw 1) (w0 := wr) (W := wr) wa.heap.size rfl (.tmp 62) (.tmp 64) 37 48 (.slice none 0 0) 24 rfl Tryz.underlying37 infoLs rfl (by decide) (by omega) u5 (G.map fun u => [u]) [u7] [u7] (fun _ => True) (fun _ => False) rfl rfl ⟨rfl, rfl, fun q hq => by rw [List.mem_singleton.1 hq]; exact H7.out.2.2.1⟩ (fun _ h => h.elim) (fun _ _ => trivial) hJ.out.1.row ?oB H7.out.2.2.2.1 H7.out.2.2.2.2 ?_; (case oB => exact ⟨rfl, rfl, rfl, Nat.le_refl _, fun _ _ => rfl⟩); intro v1 w6 hR6 hB6 hg6 hat6; have hnx := BI.next hJ.out.1 hG HV.out.1 hI.out.2 hJ.out.2.2.2 H7.out.1 hVlt.out H7.out.2.2.2.1 hR6 hg6 hww; replace hnx := Lib.hid (And.intro hnx (Nat.le_trans H7.out.2.2.2.1 hg6.size)); clear hR6 hB6 hg6 hat6))
              go_roundw
              case rel => exact ⟨k + 1, by omega, by go_num, G ++ [u7], by rw [List.length_append, hG]; rfl, hnx⟩
              case measure => simp [intOf]; omega
        · obtain rfl : N = k := by omega
          obtain ⟨A5, c5, e5⟩ := Kd.R_slice hI.out.1.row
          rw [List.length_map, hG] at e5
          have hrow := hI.out.1.row
          rw [e5] at hrow
          have hC5 := (Kd.R_reads' hrow).2.2
          rw [List.length_map, hG] at hC5
          have HC := Lib.hid (And.intro hC5 (And.intro hI.out.1.rd (And.intro hI.out.1.gs (And.intro hI.out.1.only (HRow.out.only hI.out.1.only)))))
          clear hrow hC5 hI
          subst e5
          rename World => wb
          go_wp2
          go_loopw [9] (fun v9 wr => ∃ k : Nat, k ≤ N ∧ v9 = .int .i64 k ∧ Hid (Below wb.heap.size wb wr)) (fun v9 _ => N - (intOf v9).toNat)
          case atStart => exact ⟨0, Nat.zero_le _, rfl, Lib.hid (Below.refl _ _)⟩
          case round =>
            obtain ⟨k, hk, rfl, hB⟩ := hrel
            by_cases hkn : k < N
            · obtain ⟨v, hv⟩ : ∃ v, V[k]? = some v := ⟨_, List.getElem?_eq_getElem (by have := HL.out.1; omega)⟩
              obtain ⟨u, hu⟩ : ∃ u, G[k]? = some u := ⟨_, List.getElem?_eq_getElem (by omega)⟩
              obtain ⟨gd, rfl⟩ := rawSome HC.out.1 hu
              obtain ⟨Ak, ck, rfl, hck, hCk⟩ := HC.out.2.1 k v hv
              have hr := HC.out.2.2.1.row k u hu
              obtain ⟨Bk, dk, rfl⟩ := Kd.R_slice hr
              have hDk := (Kd.R_reads' hr).2.2
              obtain ⟨n, hn⟩ : ∃ n, n = (LS k).length := ⟨_, rfl⟩
              have hnb : n ≤ 4398046510976 := by rw [hn]; exact HL.out.2 k hkn
              simp only [marksK_length, ← hn] at hv hu hCk hDk
              have hlk : (k : Int) < (N : Int) := by omega
              have HV := Lib.hid (And.intro hv (And.intro hu (And.intro hCk hDk)))
              clear hv hu hCk hDk hck hr hn
              go_wp2
              rename World => wo
              go_loopw [10] (fun v10 wr => ∃ i : Nat, i ≤ n + 64 ∧ v10 = .int .i64 i ∧ Hid (Below wb.heap.size wb wr)) (fun v10 _ => n + 64 - (intOf v10).toNat)
              case atStart => exact ⟨0, Nat.zero_le _, rfl, hB⟩
              case round =>
                obtain ⟨i, hi, rfl, hJ⟩ := hrel
                have HRr := Lib.hid (HC.out.2.2.2.2.only (OnlyB.of_below hJ.out))
                have HG : Hid ((Kd.raw 1).C wr (some gd) N (G.map fun u => [u])) := Lib.hid (Kd.C_below HC.out.1 hJ.out)
                have s1 := HRr.out.cells k _ HV.out.1
                have s2 := rawCell HG.out HV.out.2.1
                by_cases hin : i < n + 64
                · obtain ⟨s0, s1', hm⟩ : ∃ s0 s1, markK k i = ⟨s0, s1⟩ := ⟨_, _, rfl⟩
                  have QM := fun W => markK_calls k i W
                  rw [hm] at QM
                  replace QM := Lib.hid QM
                  have hini : (i : Int) < (n : Int) + 64 := by omega
                  have hD0 : Hid (kL.C wr Bk (n + 64) (marksK k (n + 64))) := Lib.hid (Kd.C_below HV.out.2.2.2 hJ.out)
                  have hE0 : Hid (kL.C wr Ak n (marksK k n)) := Lib.hid (Kd.C_below HV.out.2.2.1 hJ.out)
                  obtain ⟨bk, rfl⟩ : ∃ b, Bk = some b := by obtain ⟨x, e, _⟩ := hD0.out.2.2 (by omega); exact ⟨x, e⟩
                  have hp0 : Hid ((marksK k (n + 64))[i]? = some ⟨s0, s1'⟩) := Lib.hid (by rw [marksK_at _ _ _ hin, hm])
                  by_cases hl1 : i < n
                  · have hp1 : Hid ((marksK k n)[i]? = some ⟨s0, s1'⟩) := Lib.hid (by rw [marksK_at _ _ _ hl1, hm])
                    have hli : (i : Int) < (n : Int) := by omega
                    obtain ⟨ak, rfl⟩ : ∃ b, Ak = some b := by obtain ⟨x, e, _⟩ := hE0.out.2.2 (by omega); exact ⟨x, e⟩
                    clear hm
                    go_wp2_with (go_at_call 62; (with_reducible refine (QM.out _).mono ?_); rintro e w1 ⟨rfl, hb1⟩; have p1 := fun X => (HRr.out.only (OnlyB.of_below (below_alloc hb1 X))).cells k _ HV.out.1; have p2 := fun X => rawCell (Kd.C_below HG.out (below_alloc hb1 X)) HV.out.2.1; have q0 := fun X => (labAt (Kd.C_below hD0.out (below_alloc hb1 X)) hp0.out).1; have q1 := fun X => (labAt (Kd.C_below hD0.out (below_alloc hb1 X)) hp0.out).2; have r0 := fun X => (labAt (Kd.C_below hE0.out (below_alloc hb1 X)) hp1.out).1; have r1 := fun X => (labAt (Kd.C_below hE0.out (below_alloc hb1 X)) hp1.out).2)
                    go_quiet (fail)
                    go_wp2
                    go_roundw
                    case rel => exact ⟨i + 1, by omega, by go_num, Lib.hid (hJ.out.trans ((pw_below_drewN (below_alloc hb1 _) _).mono hJ.out.size))⟩
                    case measure => simp [intOf]; omega
                  · have hd : decide ((i : Int) < (n : Int)) = false := decide_eq_false (by omega)
                    clear hm
                    go_wp2_with (go_at_call 62; (with_reducible refine (QM.out _).mono ?_); rintro e w1 ⟨rfl, hb1⟩; have p1 := fun X => (HRr.out.only (OnlyB.of_below (below_alloc hb1 X))).cells k _ HV.out.1; have p2 := fun X => rawCell (Kd.C_below HG.out (below_alloc hb1 X)) HV.out.2.1; have q0 := fun X => (labAt (Kd.C_below hD0.out (below_alloc hb1 X)) hp0.out).1; have q1 := fun X => (labAt (Kd.C_below hD0.out (below_alloc hb1 X)) hp0.out).2)
                    go_quiet (fail)
                    go_wp2
                    go_roundw
                    case rel => exact ⟨i + 1, by omega, by go_num, Lib.hid (hJ.out.trans ((pw_below_drewN (below_alloc hb1 _) _).mono hJ.out.size))⟩
                    case measure => simp [intOf]; omega
                · obtain rfl : i = n + 64 := by omega
                  go_wp2
                  go_roundw
                  case rel => exact ⟨k + 1, by omega, by go_num, hJ⟩
                  case measure => simp [intOf]; omega
            · obtain rfl : N = k := by omega
              go_wp2
              go_ret
              exact ⟨rfl, HC.out.2.2.2.1.trans (OnlyB.of_below hB.out)⟩
end Go.Proofs.YtoepbjgldmgaoaaGreatDoor

/- A Book: lists that it was handed, kept in rows. -/
namespace Go.Proofs.YtoepbjgldmgaoaaGreatDoor
open Go.RowKit Go.Proofs.YtoepbjgldmgaoaaGreatDoorW.PrintWords Go.Proofs.YtoepbjgldmgaoaaGreatDoorW.PrintLast
def nilV : Value := .slice none 0 0
def bookC (v5 v10 : Value) : Array Value := #[nilV, nilV, nilV, nilV, nilV, v5, nilV, nilV, nilV, nilV, v10, nilV]
structure BookS (w : World) (base b : Nat) (VL VO : List Value) (v5 v10 : Value) : Prop where
  heap : w.heap[b]? = some (.cells (bookC v5 v10) 45 (0, 0))
  old : base ≤ b
  labs : (Kd.raw 1).R 48 w base (fun _ => True) v5 (VL.map fun u => [u])
  objs : (Kd.raw 1).R 22 w base (fun _ => True) v10 (VO.map fun u => [u])
theorem grown_one {w w1 : World} {b : Nat} (hb : Below 0 w w1) (hk : ∀ k, k ≠ b → w1.heap[k]? = w.heap[k]?) : w.grownBy w1 (some b) := ⟨hb.os, hb.tape, hb.output, hb.size, fun k _ hn => hk k (fun e => hn (by rw [e]))⟩
theorem BookS.stored {w w1 w2 : World} {base b : Nat} {VL VO : List Value} {v5 v5' v10 u : Value} (h : BookS w base b VL VO v5 v10) (hg : w.grownBy w1 v5.ownBlock) (hR : (Kd.raw 1).R 48 w1 base (fun _ => True) v5' (VL.map (fun u => [u]) ++ [[u]]))
    (hh : w2.heap[b]? = some (.cells ((bookC v5 v10).setIfInBounds 5 v5') 45 (0, 0))) (hg2 : w1.grownBy w2 (some b)) : BookS w2 base b (VL ++ [u]) VO v5' v10 := by
  have hty := Kd.R_typed h.labs
  have hne : some b ≠ v5.ownBlock := fun e => by
    obtain ⟨c, hc⟩ := hty b e.symm
    rw [h.heap] at hc
    injection hc with hc
    injection hc with _ hc
    exact absurd hc (by decide)
  have hb1 : w1.heap[b]? = some (.cells (bookC v5 v10) 45 (0, 0)) := (hg.block b (blkLt h.heap) hne).trans h.heap
  have ht1 : ∀ k, (Value.slice (some ⟨b, 0, none⟩) 0 0).ownBlock = some k → ∃ cells, w1.heap[k]? = some (Obj.cells cells 45) := fun k hk => by
    obtain rfl : b = k := by simpa [Value.ownBlock] using hk
    exact ⟨_, hb1⟩
  refine ⟨hh, h.old, ?_, ?_⟩
  · rw [List.map_append]
    exact Kd.R_over' (v := .slice (some ⟨b, 0, none⟩) 0 0) hR ht1 (fun q hq => by
      rcases List.mem_cons.1 hq with rfl | hq
      · decide
      · cases hq) hg2
  · exact Kd.R_over' (v := .slice (some ⟨b, 0, none⟩) 0 0) (Kd.R_over' h.objs hty (fun q hq => by
      rcases List.mem_cons.1 hq with rfl | hq
      · decide
      · cases hq) hg) ht1 (fun q hq => by
      rcases List.mem_cons.1 hq with rfl | hq
      · decide
      · cases hq) hg2
theorem BookS.kept {w w1 : World} {base b : Nat} {VL VO : List Value} {v5 v10 : Value} (h : BookS w base b VL VO v5 v10) (hg : w.grownBy w1 v5.ownBlock) : w1.heap[b]? = some (.cells (bookC v5 v10) 45 (0, 0)) := by
  have hne : some b ≠ v5.ownBlock := fun e => by
    obtain ⟨c, hc⟩ := Kd.R_typed h.labs b e.symm
    rw [h.heap] at hc
    injection hc with hc
    injection hc with _ hc
    exact absurd hc (by decide)
  exact (hg.block b (blkLt h.heap) hne).trans h.heap
theorem BookS.below {w w1 : World} {base b : Nat} {VL VO : List Value} {v5 v10 : Value} (h : BookS w base b VL VO v5 v10) (hb : Below w.heap.size w w1) : BookS w1 base b VL VO v5 v10 :=
  ⟨(hb.block b (blkLt h.heap)).trans h.heap, h.old, Kd.R_below h.labs hb, Kd.R_below h.objs hb⟩
def FrameT (w w' : World) : Prop := ∀ (k : Nat) (cells : Array Value) (t : TypeId), w.heap[k]? = some (.cells cells t (0, 0)) → t ≠ 45 → t ≠ 48 → t ≠ 22 → w'.heap[k]? = w.heap[k]?
theorem FrameT.refl (w : World) : FrameT w w := fun _ _ _ _ _ _ _ => rfl
theorem FrameT.trans {a b c : World} (h : FrameT a b) (g : FrameT b c) : FrameT a c := fun k cells t hk h1 h2 h3 => by
  have e := h k cells t hk h1 h2 h3
  exact (g k cells t (e.trans hk) h1 h2 h3).trans e
theorem FrameT.of_below {a b : World} (h : Below a.heap.size a b) : FrameT a b := fun k cells t hk _ _ _ => h.block k (blkLt hk)
theorem BookS.frame {w w' : World} {base b : Nat} {VL VO : List Value} {v5 v10 : Value} (h : BookS w base b VL VO v5 v10) (hk : ∀ k, k < w.heap.size → k ≠ b → some k ≠ v5.ownBlock → w'.heap[k]? = w.heap[k]?) : FrameT w w' := fun k cells t hc h1 h2 h3 => by
  refine hk k (blkLt hc) (fun e => ?_) (fun e => ?_)
  · subst e
    rw [h.heap] at hc
    injection hc with hc
    injection hc with _ hc
    exact h1 hc.symm
  · obtain ⟨c2, hc2⟩ := Kd.R_typed h.labs k e.symm
    rw [hc2] at hc
    injection hc with hc
    injection hc with _ hc
    exact h2 hc.symm
set_option maxHeartbeats 1600000 in
set_option maxRecDepth 100000 in
theorem bookLabels_calls (b base : Nat) (u v5 v10 : Value) (hu : u.cells = #[u]) (hu1 : u.oneCell' = true) (w : World) (VL VO : List Value) (h : BookS w base b VL VO v5 v10) (hn : (VL.length + 1) * 24 ≤ 140737488355328) (hbase : base ≤ w.heap.size) :
    Calls Tryz.prog 56 #[.pointer (some ⟨b, 0, none⟩), u] w fun e w' => e = .returned undef ∧ (∃ v5', BookS w' base b (VL ++ [u]) VO v5' v10) ∧ Below base w w' ∧ ∀ k, k < w.heap.size → k ≠ b → some k ≠ v5.ownBlock → w'.heap[k]? = w.heap[k]? := by
  have hc : w.cell? ⟨b, 5, none⟩ = some v5 := by rw [cell_of_row w b 5 _ _ _ h.heap]; rfl
  have H := Lib.hid h
  have HU := Lib.hid (And.intro hu (And.intro hu1 (And.intro hbase (show ((VL.map fun u => [u]).length + 1) * 24 ≤ 140737488355328 by rw [List.length_map]; exact hn))))
  clear h hu hu1
  go_enter Tryz.func56, Tryz.ntmps56
  go_wp2_with (first
    | ((with_reducible refine wpList_buildOne rfl 37 48 (.tmp 9) rfl u ?o1 ?o2 (.slice none 0 0) 24 Tryz.underlying37 ?o3 ?_); (case o1 => rfl); (case o2 => exact HU.out.1); (case o3 => exact infoLs))
    | (at_builtin; refine Kd.R_append (Kd.raw 1) (w0 := w) (W := w) base rfl (.tmp 8) (.tmp 10) 37 48 (.slice none 0 0) 24 rfl Tryz.underlying37 infoLs rfl (by decide) (by omega) v5 (VL.map fun u => [u]) [u] [u] (fun _ => True) (fun _ => False) rfl rfl ⟨rfl, rfl, fun q hq => by rw [List.mem_singleton.1 hq]; exact HU.out.2.1⟩ (fun _ h => h.elim) (fun _ _ => trivial) H.out.labs (Below.refl _ _) HU.out.2.2.1 HU.out.2.2.2 ?_; intro v1 w6 hR6 hB6 hg6 hat6; obtain ⟨A6, c6, e6⟩ := Kd.R_slice hR6; have hc6 : v1.cells = #[v1] := (by subst e6; rfl); have ho6 : v1.oneCell' = true := (by subst e6; rfl); have HA6 := Lib.hid (And.intro hc6 (And.intro ho6 (And.intro hR6 (And.intro hB6 hg6)))); clear hR6 hB6 hg6 hat6 e6 hc6 ho6)
    | ((with_reducible refine wpList_store1 rfl 37 (.tmp 13) (.tmp 11) rfl b 5 45 (bookC v5 v10) v1 ?q1 ?q2 ?q3 ?q4 ?q5 ?q6 ?q7 ?_); (case q1 => rfl); (case q2 => rfl); (case q3 => exact HA6.out.1); (case q4 => exact BookS.kept H.out HA6.out.2.2.2.2); (case q5 => exact (show 5 < 12 by decide)); (case q6 => kernel_rfl); (case q7 => exact HA6.out.2.1); intro w7 hh7 hk7 hb7 hz7; have hg7 : w6.grownBy w7 (some b) := grown_one (hb7 0 w6 (Below.refl _ _) (Nat.zero_le _)) hk7; have hS := BookS.stored H.out HA6.out.2.2.2.2 HA6.out.2.2.1 hh7 hg7; have hB7 := hb7 base w HA6.out.2.2.2.1 H.out.old; have hK7 : ∀ k, k < w.heap.size → k ≠ b → some k ≠ v5.ownBlock → w7.heap[k]? = w.heap[k]? := (fun k h1 h2 h3 => (hk7 k h2).trans (HA6.out.2.2.2.2.block k h1 h3))))
  go_end0
  exact ⟨rfl, ⟨_, hS⟩, hB7, hK7⟩
end Go.Proofs.YtoepbjgldmgaoaaGreatDoor

/- Book.Object walked. -/
namespace Go.Proofs.YtoepbjgldmgaoaaGreatDoor
open Go.RowKit Go.Proofs.YtoepbjgldmgaoaaGreatDoorW.PrintWords Go.Proofs.YtoepbjgldmgaoaaGreatDoorW.PrintLast
set_option maxHeartbeats 1600000 in
set_option maxRecDepth 100000 in
theorem bookObject_calls (b base : Nat) (o : Ob) (u4 u27 v5 v10 : Value) (h4 : u4.cells = #[u4] ∧ u4.oneCell' = true) (h27 : u27.cells = #[u27] ∧ u27.oneCell' = true) (w : World) (VL VO : List Value) (h : BookS w base b VL VO v5 v10) (hn : (VL.length + 2) * 24 ≤ 140737488355328) (hbase : base ≤ w.heap.size) :
    Calls Tryz.prog 28 #[.pointer (some ⟨b, 0, none⟩), .agg (o.cells u4 u27)] w fun e w' => e = .returned undef ∧ (∃ v5', BookS w' base b (VL ++ [u4] ++ [u27]) VO v5' v10) ∧ Below base w w' ∧ FrameT w w' := by
  have H := Lib.hid h
  have HU := Lib.hid (And.intro h4 (And.intro h27 hbase))
  clear h h4 h27
  have HB1 := Lib.hid (H.out.below (w1 := w.alloc (.cells (o.cells u4 u27) 53)) (below_alloc (Below.refl _ _) _))
  go_enter Tryz.func28, Tryz.ntmps28
  go_wp2_with (first
    | ((with_reducible refine wpList_boxTo rfl 53 (.tmp 1) rfl _ ?b1 w.heap.size ?b2 (o.cells u4 u27) ?b3 ?_); (case b1 => rfl); (case b2 => rfl); (case b3 => rfl))
    | ((with_reducible refine wpList_load1_w 48 (.tmp 5) rfl ⟨w.heap.size, 4, none⟩ ?c1 ?c2 u4 _ ?c3 Tryz.underlying48 rfl ?_); (case c1 => rfl); (case c2 => rfl); (case c3 => rw [cell_of_row _ _ 4 _ _ _ (heap_alloc_new w _)]; rfl))
    | (go_at_call 56; (with_reducible refine (bookLabels_calls b base u4 v5 v10 HU.out.1.1 HU.out.1.2 _ VL VO HB1.out (by omega) (by have := HU.out.2.2; simp; omega)).mono ?_); rintro e w1 ⟨rfl, ⟨v5', hS1⟩, hb1, hk1⟩; have hx1 : w1.heap[w.heap.size]? = some (.cells (o.cells u4 u27) 53 (0, 0)) := (hk1 _ (by simp) (fun e => by have := blkLt H.out.heap; omega) (fun e => by have := Kd.R_lt H.out.labs _ e.symm; omega)).trans (heap_alloc_new w _); have HS1 := Lib.hid (And.intro hS1 (And.intro hb1 hx1)); have HF1 := Lib.hid (BookS.frame HB1.out hk1); clear hS1 hb1 hk1 hx1)
    | ((with_reducible refine wpList_load1_w 48 (.tmp 9) rfl ⟨w.heap.size, 27, none⟩ ?f1 ?f2 u27 _ ?f3 Tryz.underlying48 rfl ?_); (case f1 => rfl); (case f2 => rfl); (case f3 => rw [cell_of_row _ _ 27 _ _ _ HS1.out.2.2]; rfl))
    | (go_at_call 56; (with_reducible refine (bookLabels_calls b base u27 v5' v10 HU.out.2.1.1 HU.out.2.1.2 _ (VL ++ [u4]) VO HS1.out.1 (by rw [List.length_append, List.length_singleton]; omega) (by have := HU.out.2.2; have := HS1.out.2.1.size; simp at this; omega)).mono ?_); rintro e w2 ⟨rfl, ⟨v5'', hS2⟩, hb2, hk2⟩; have HF2 := Lib.hid (BookS.frame HS1.out.1 hk2)))
  go_end0
  exact ⟨rfl, ⟨_, hS2⟩, ((Below.refl base w).alloc HU.out.2.2 _ |>.trans HS1.out.2.1).trans hb2, ((FrameT.of_below (below_alloc (Below.refl _ _) _)).trans HF1.out).trans HF2.out⟩
end Go.Proofs.YtoepbjgldmgaoaaGreatDoor

/- The lists of labels of a list of objects; where they lie. -/
namespace Go.Proofs.YtoepbjgldmgaoaaGreatDoor
open Go.RowKit Go.Proofs.YtoepbjgldmgaoaaGreatDoorW.PrintWords Go.Proofs.YtoepbjgldmgaoaaGreatDoorW.PrintLast
def labsOf (T : List (Ob × Value × Value)) : List Value := T.flatMap fun t => [t.2.1, t.2.2]
theorem labsOf_take {T : List (Ob × Value × Value)} {k : Nat} {o : Ob} {u4 u27 : Value} (h : T[k]? = some (o, u4, u27)) : labsOf (T.take (k + 1)) = labsOf (T.take k) ++ [u4] ++ [u27] := by
  have hk := (List.getElem?_eq_some_iff.1 h).1
  have e := (List.getElem?_eq_some_iff.1 h).2
  rw [List.take_succ_eq_append_getElem hk, e]
  simp [labsOf]
theorem labsOf_len (T : List (Ob × Value × Value)) : (labsOf T).length = 2 * T.length := by
  induction T with
  | nil => rfl
  | cons t r ih =>
    have e : labsOf (t :: r) = [t.2.1, t.2.2] ++ labsOf r := rfl
    have e2 : (t :: r).length = r.length + 1 := rfl
    have e3 : [t.2.1, t.2.2].length = 2 := rfl
    rw [e, List.length_append, ih, e2, e3]
    omega
theorem book_len {T : List (Ob × Value × Value)} {VL : List Value} {k n : Nat} (hT : T.length = n) (h : (VL.length + 2 * n + 2) * 24 ≤ 140737488355328) : ((VL ++ labsOf (T.take k)).length + 2) * 24 ≤ 140737488355328 := by
  rw [List.length_append, labsOf_len, List.length_take]
  have h1 : min k T.length ≤ n := by rw [← hT]; exact Nat.min_le_right _ _
  exact Nat.le_trans (Nat.mul_le_mul_right 24 (Nat.add_le_add_right (Nat.add_le_add_left (Nat.mul_le_mul_left 2 h1) _) 2)) h
structure TabAt (w : World) (A : Option Addr) (T : List (Ob × Value × Value)) : Prop where
  at_ : ∀ (i : Nat) o u4 u27, T[i]? = some (o, u4, u27) → ∃ ad, A = some ad ∧ ∀ (j : Nat) (u : Value), (o.cells u4 u27)[j]? = some u → w.cell? (ad.add (i * 32 + j)) = some u
  one : ∀ t ∈ T, (t.2.1.cells = #[t.2.1] ∧ t.2.1.oneCell' = true) ∧ (t.2.2.cells = #[t.2.2] ∧ t.2.2.oneCell' = true)
theorem TabAt.below {w w1 : World} {A : Option Addr} {T : List (Ob × Value × Value)} {base : Nat} (h : TabAt w A T) (hA : ∀ ad, A = some ad → ad.block < base) (hb : Below base w w1) : TabAt w1 A T :=
  ⟨fun i o u4 u27 hi => by
    obtain ⟨ad, e, hc⟩ := h.at_ i o u4 u27 hi
    refine ⟨ad, e, fun j u hu => ?_⟩
    exact (cell_same (w := w) (w' := w1) (a := ad.add (i * 32 + j)) (by rw [add_block]; exact hb.block _ (hA ad e))).trans (hc j u hu), h.one⟩
end Go.Proofs.YtoepbjgldmgaoaaGreatDoor

/- apartObjects, plainly: lists of objects, each of its own block; two cells of each object are marked. -/
namespace Go.Proofs.YtoepbjgldmgaoaaGreatDoor
open Go.RowKit Go.Proofs.YtoepbjgldmgaoaaGreatDoorW.PrintWords Go.Proofs.YtoepbjgldmgaoaaGreatDoorW.PrintLast
def mkB (n i : Nat) : Int := if i < n then (i : Int) else 1000 + ((i : Int) - (n : Int))
def mF : Nat := 18446744073709551616
inductive OV (w : World) (k m : Nat) : Value → Prop
  | nil : OV w k m (.slice none 0 0)
  | one (b n c : Nat) (cur : Array Value) (hn : n ≤ c) (hx : c ≤ 9223372036854775807) (hh : w.heap[b]? = some (.cells cur 53 (0, 0))) (hs : c * 32 ≤ cur.size)
      (hm : ∀ i, i < m → i < c → i < n + 64 → cur[i * 32 + 2]? = some (.int .i64 (-7 - (k : Int))) ∧ cur[i * 32 + 3]? = some (.int .i64 (mkB n i))) : OV w k m (.slice (some ⟨b, 0, none⟩) n c)
theorem OV.fin {w : World} {k m m' : Nat} {b n c : Nat} (h : OV w k m (.slice (some ⟨b, 0, none⟩) n c)) (hl : c ≤ m ∨ n + 64 ≤ m) : OV w k m' (.slice (some ⟨b, 0, none⟩) n c) := by
  cases h with
  | one _ _ _ cur hn hx hh hs hm => exact .one b n c cur hn hx hh hs (fun i _ hc h6 => hm i (by omega) hc h6)
theorem OV.keep {w w1 : World} {k m : Nat} {v : Value} (h : OV w k m v) (hb : ∀ b, v.ownBlock = some b → b < w.heap.size → w1.heap[b]? = w.heap[b]?) : OV w1 k m v := by
  cases h with
  | nil => exact .nil
  | one b n c cur hn hx hh hs hm => exact .one b n c cur hn hx ((hb b rfl (blkLt hh)).trans hh) hs hm
theorem OV.below {w w1 : World} {k m : Nat} {v : Value} (h : OV w k m v) (hb : Below w.heap.size w w1) : OV w1 k m v := h.keep fun b _ hl => hb.block b hl
theorem OV.open_ {w : World} {k m b n c : Nat} (h : OV w k m (.slice (some ⟨b, 0, none⟩) n c)) : ∃ cur : Array Value, n ≤ c ∧ c ≤ 9223372036854775807 ∧ w.heap[b]? = some (.cells cur 53 (0, 0)) ∧ c * 32 ≤ cur.size ∧
    ∀ i, i < m → i < c → i < n + 64 → cur[i * 32 + 2]? = some (.int .i64 (-7 - (k : Int))) ∧ cur[i * 32 + 3]? = some (.int .i64 (mkB n i)) := by
  cases h with
  | one _ _ _ cur hn hx hh hs hm => exact ⟨cur, hn, hx, hh, hs, hm⟩
theorem OV.step {w w1 : World} {k i : Nat} {b n c : Nat} (h : OV w k i (.slice (some ⟨b, 0, none⟩) n c)) (hi : i < c) {cur : Array Value} (hc : w.heap[b]? = some (.cells cur 53 (0, 0)))
    (h1 : w1.heap[b]? = some (.cells ((cur.setIfInBounds (i * 32 + 2) (.int .i64 (-7 - (k : Int)))).setIfInBounds (i * 32 + 3) (.int .i64 (mkB n i))) 53 (0, 0))) : OV w1 k (i + 1) (.slice (some ⟨b, 0, none⟩) n c) := by
  cases h with
  | one _ _ _ cur' hn hx hh hs hm =>
    rw [hc] at hh
    injection hh with hh
    injection hh with hh
    subst hh
    refine .one b n c _ hn hx h1 (by simpa using hs) (fun j hj hjc hj6 => ?_)
    have hsz : j * 32 + 3 < cur.size := by omega
    by_cases e : j = i
    · subst e
      refine ⟨?_, ?_⟩
      · rw [Array.getElem?_setIfInBounds_ne (by omega), Array.getElem?_setIfInBounds_self_of_lt (by omega)]
      · rw [Array.getElem?_setIfInBounds_self_of_lt (by simpa using hsz)]
    · obtain ⟨p, q⟩ := hm j (by omega) hjc hj6
      refine ⟨?_, ?_⟩
      · rw [Array.getElem?_setIfInBounds_ne (by omega), Array.getElem?_setIfInBounds_ne (by omega)]
        exact p
      · rw [Array.getElem?_setIfInBounds_ne (by omega), Array.getElem?_setIfInBounds_ne (by omega)]
        exact q
structure OVs (w : World) (V : List Value) (m : Nat → Nat) : Prop where
  row : ∀ k v, V[k]? = some v → OV w k (m k) v
theorem OVs.below {w w1 : World} {V : List Value} {m : Nat → Nat} (h : OVs w V m) (hb : Below w.heap.size w w1) : OVs w1 V m := ⟨fun k v hv => (h.row k v hv).below hb⟩
theorem OVs.congr {w : World} {V : List Value} {m m' : Nat → Nat} (h : OVs w V m) (e : ∀ k, m k = m' k) : OVs w V m' := ⟨fun k v hv => by rw [← e k]; exact h.row k v hv⟩
theorem OVs.turn {w w1 : World} {V : List Value} {k m0 i : Nat} (h : OVs w V (fun j => if j < k then mF else if j = k then m0 else 0)) (ha : ApartV V) {v : Value} (hk : V[k]? = some v) (hb : ∀ b, v.ownBlock ≠ some b → w1.heap[b]? = w.heap[b]?) (hR : OV w1 k i v) :
    OVs w1 V (fun j => if j < k then mF else if j = k then i else 0) := by
  refine ⟨fun j u hu => ?_⟩
  by_cases hj : j = k
  · subst hj
    rw [hk] at hu
    obtain rfl := Option.some.inj hu
    simpa using hR
  · have h0 := (h.row j u hu).keep (w1 := w1) fun b hb1 hl => hb b (fun e => ha j k u v hj hu hk b hb1 e)
    simpa only [hj, if_false] using h0
theorem OVs.start {w : World} {V : List Value} {k : Nat} (h : OVs w V (fun j => if j < k then mF else 0)) : OVs w V (fun j => if j < k then mF else if j = k then 0 else 0) := h.congr fun j => by simp
theorem OVs.next {w : World} {V : List Value} {k m0 : Nat} (h : OVs w V (fun j => if j < k then mF else if j = k then m0 else 0)) {v : Value} (hk : V[k]? = some v) (hR : OV w k mF v) : OVs w V (fun j => if j < k + 1 then mF else 0) := by
  refine ⟨fun j u hu => ?_⟩
  by_cases hj : j = k
  · subst hj
    rw [hk] at hu
    obtain rfl := Option.some.inj hu
    simpa using hR
  · have h0 := h.row j u hu
    have e : (j < k + 1) = (j < k) := by simp; omega
    simpa only [e, hj, if_false] using h0
theorem OnlyB.stored {G : Nat → Prop} {w w1 : World} {b : Nat} (hk : ∀ k, k ≠ b → w1.heap[k]? = w.heap[k]?) (hb : ∀ B w0, Below B w0 w → B ≤ b → Below B w0 w1) (hG : G b) : OnlyB G w w1 := by
  have h0 := hb 0 w (Below.refl _ _) (Nat.zero_le _)
  exact ⟨h0.os, h0.tape, h0.output, h0.size, fun k _ hn => hk k (fun e => hn (e ▸ hG))⟩
theorem cut_spare (b n c : Nat) (hn : n ≤ c) :
    ∃ A' : Option Addr, (∀ W : World, (Instr.slice 22 (.slice (some ⟨b, 0, none⟩) n c) (some (.int .i64 (n : Int))) (some (.int .i64 (c : Int))) none).run Tryz.prog W = .ok (.slice A' (c - n) (c - n)) W) ∧ (0 < c - n → A' = some ⟨b, n * 32, none⟩) := by
  have ht := Tryz.underlying22
  obtain ⟨i0, hi, hzz⟩ := Option.map_eq_some_iff.1 infoO
  simp only [Prod.mk.injEq] at hzz
  obtain ⟨_, hz1, _⟩ := hzz
  refine ⟨if c = n then some ⟨b, 0, none⟩ else some ⟨b, n * 32, none⟩, fun W => ?_, fun h => by rw [if_neg (by omega)]⟩
  have hel : Tryz.prog.elem 22 = 53 := by simp [Program.elem, ht]
  have hu : Tryz.prog.underlying 22 = some (.slice (Tryz.prog.elem 22)) := by rw [hel]; exact ht
  rw [run_slice_lh W 22 (some ⟨b, 0, none⟩) n c hu .i64 .i64 (n : Int) (c : Int) (Int.natCast_nonneg _) (by omega) (by omega), hel]
  simp [sizeOf, typeInfo, hi, hz1, sliced, Result.andThen, add_at]
end Go.Proofs.YtoepbjgldmgaoaaGreatDoor

/- apartObjects walked: lists of objects, each of its own block, are marked, their spare room too, and hold the marks. -/
namespace Go.Proofs.YtoepbjgldmgaoaaGreatDoor
open Go.RowKit Go.Proofs.YtoepbjgldmgaoaaGreatDoorW.PrintWords Go.Proofs.YtoepbjgldmgaoaaGreatDoorW.PrintLast
theorem zero_apartObjects (A : Option Addr) (c : Nat) (w : World) : Calls Tryz.prog 29 #[.slice A 0 c] w fun e w' => e = .returned (.bool true) ∧ w' = w := by
  go_enter Tryz.func29, Tryz.ntmps29
  go_wp2
  go_rounds 1
  go_rounds 1
  go_ret
  exact ⟨rfl, rfl⟩
set_option maxHeartbeats 4000000 in
set_option maxRecDepth 100000 in
theorem apartObjects_calls (ad : Addr) (cap N : Nat) (V : List Value) (w : World) (hVN : V.length = N) (hN : N ≤ 1000000) (hrow : RowV w ad V) (hB : OVs w V (fun _ => 0)) (ha : ApartV V) :
    Calls Tryz.prog 29 #[.slice (some ad) N cap] w fun e w' => e = .returned (.bool true) ∧ OnlyB (inV V) w w' := by
  have HRow := Lib.hid hrow
  have HBk := Lib.hid hB
  have HA := Lib.hid ha
  have HL := Lib.hid hVN
  clear hrow hB ha hVN
  go_enter Tryz.func29, Tryz.ntmps29
  go_wp2
  go_loopw [3] (fun v3 wr => ∃ k : Nat, k ≤ N ∧ v3 = .int .i64 k ∧ Hid (OVs wr V (fun j => if j < k then mF else 0) ∧ OnlyB (inV V) w wr)) (fun v3 _ => N - (intOf v3).toNat)
  case atStart => exact ⟨0, Nat.zero_le _, rfl, Lib.hid ⟨HBk.out.congr (fun k => by rw [if_neg (by omega)]), OnlyB.refl _ _⟩⟩
  case round =>
    obtain ⟨k, hk, rfl, hI⟩ := hrel
    by_cases hkn : k < N
    · obtain ⟨v, hv⟩ : ∃ v, V[k]? = some v := ⟨_, List.getElem?_eq_getElem (by have := HL.out; omega)⟩
      have hr := hI.out.1.row k v hv
      rw [if_neg (Nat.lt_irrefl k)] at hr
      have hlk : (k : Int) < (N : Int) := by omega
      have q1 := (HRow.out.only hI.out.2).cells k _ hv
      have hz7 : wrap64 (-7 - (k : Int)) = -7 - (k : Int) := by unfold wrap64; omega
      have HV := Lib.hid hv
      cases hr with
      | nil =>
        have hnx : Hid (OVs wr V (fun j => if j < k + 1 then mF else 0) ∧ OnlyB (inV V) w wr) := Lib.hid ⟨hI.out.1.start.next hv .nil, hI.out.2⟩
        clear hv
        go_wp2
        go_rounds 1
        go_rounds 1
        go_roundw
        case rel => exact ⟨k + 1, by omega, by go_num, hnx⟩
        case measure => simp [intOf]; omega
      | one b n c cur hn hx hh hs hm =>
        have HK := Lib.hid (And.intro hn hx)
        clear hh hs hm hv cur
        have hst := Lib.hid (And.intro hI.out.1.start hI.out.2)
        go_wp2
        rename World => wo
        go_loopw [4] (fun v4 wr => ∃ i : Nat, i ≤ n ∧ v4 = .int .i64 i ∧ Hid (OVs wr V (fun j => if j < k then mF else if j = k then i else 0) ∧ OnlyB (inV V) w wr)) (fun v4 _ => n - (intOf v4).toNat)
        case atStart => exact ⟨0, Nat.zero_le _, rfl, hst⟩
        case round =>
          obtain ⟨i, hi, rfl, hJ⟩ := hrel
          have q1 := (HRow.out.only hJ.out.2).cells k _ HV.out
          by_cases hin : i < n
          · have hr := hJ.out.1.row k _ HV.out
            rw [if_neg (Nat.lt_irrefl k), if_pos rfl] at hr
            obtain ⟨cur, _, _, hh, hs, _⟩ := hr.open_
            have HC := Lib.hid (And.intro hh (And.intro hs hr))
            have hini : (i : Int) < (n : Int) := by omega
            have hbb : inV V b := ⟨_, List.mem_of_getElem? HV.out, rfl⟩
            clear hh hs hr
            go_wp2_with (first
              | ((with_reducible refine wpList_store1 rfl 3 (.tmp 36) (.tmp 34) rfl b (i * 32 + 2) 53 cur (.int .i64 (-7 - (k : Int))) ?q1 ?q2 ?q3 ?q4 ?q5 ?q6 ?q7 ?_); (case q1 => rfl); (case q2 => rfl); (case q3 => rfl); (case q4 => exact HC.out.1); (case q5 => (have := HC.out.2.1; have := HK.out.1; omega)); (case q6 => kernel_rfl); (case q7 => rfl); intro w6 hh6 hk6 hb6 hz6; have HO6 := Lib.hid (And.intro hh6 (And.intro hk6 (hJ.out.2.trans (OnlyB.stored hk6 hb6 hbb)))); have q2 := (HRow.out.only HO6.out.2.2).cells k _ HV.out; clear hh6 hk6 hb6 hz6)
              | ((with_reducible refine wpList_store1 rfl 3 (.tmp 44) (.tmp 42) rfl b (i * 32 + 3) 53 (cur.setIfInBounds (i * 32 + 2) (.int .i64 (-7 - (k : Int)))) (.int .i64 (i : Int)) ?r1 ?r2 ?r3 ?r4 ?r5 ?r6 ?r7 ?_); (case r1 => rfl); (case r2 => rfl); (case r3 => rfl); (case r4 => exact HO6.out.1); (case r5 => (rw [Array.size_setIfInBounds]; have := HC.out.2.1; have := HK.out.1; omega)); (case r6 => kernel_rfl); (case r7 => rfl); intro w7 hh7 hk7 hb7 hz7; have hst7 : Hid (OVs w7 V (fun j => if j < k then mF else if j = k then i + 1 else 0) ∧ OnlyB (inV V) w w7) := Lib.hid ⟨hJ.out.1.turn HA.out HV.out (fun g hg => (hk7 g (fun e => hg (by rw [e]; rfl))).trans (HO6.out.2.1 g (fun e => hg (by rw [e]; rfl)))) (OV.step HC.out.2.2 (by have := HK.out.1; omega) HC.out.1 (by rw [hh7, mkB, if_pos hin])), HO6.out.2.2.trans (OnlyB.stored hk7 hb7 hbb)⟩; clear hh7 hk7 hb7 hz7))
            go_roundw
            case rel => exact ⟨i + 1, by omega, by go_num, hst7⟩
            case measure => simp [intOf]; omega
          · obtain rfl : n = i := by omega
            obtain ⟨A6, hcut, hA6⟩ := cut_spare b n c HK.out.1
            have hA6 := Lib.hid hA6
            have hcn : (n : Int) ≤ (c : Int) := by have := HK.out.1; omega
            go_wp2
            rename World => wo2
            go_loopw [7] (fun v7 wr => ∃ i : Nat, i ≤ c - n ∧ i ≤ 64 ∧ v7 = .int .i64 i ∧ Hid (OVs wr V (fun j => if j < k then mF else if j = k then n + i else 0) ∧ OnlyB (inV V) w wr)) (fun v7 _ => c - n - (intOf v7).toNat)
            case atStart => exact ⟨0, Nat.zero_le _, Nat.zero_le _, rfl, hJ⟩
            case round =>
              obtain ⟨i, hi, hi6, rfl, hJ⟩ := hrel
              by_cases hin : i < c - n
              · by_cases hi64 : i < 64
                · have hr := hJ.out.1.row k _ HV.out
                  rw [if_neg (Nat.lt_irrefl k), if_pos rfl] at hr
                  obtain ⟨cur, _, _, hh, hs, _⟩ := hr.open_
                  obtain rfl := hA6.out (by omega)
                  have HC := Lib.hid (And.intro hh (And.intro hs hr))
                  have hini : (i : Int) < ((c - n : Nat) : Int) := by omega
                  have hi64' : (i : Int) < 64 := by omega
                  have hwi : wrap64 (1000 + (i : Int)) = 1000 + (i : Int) := by unfold wrap64; omega
                  have hbb : inV V b := ⟨_, List.mem_of_getElem? HV.out, rfl⟩
                  clear hh hs hr
                  go_wp2_with (first
                    | ((with_reducible refine wpList_store1 rfl 3 (.tmp 70) (.tmp 68) rfl b (n * 32 + i * 32 + 2) 53 cur (.int .i64 (-7 - (k : Int))) ?q1 ?q2 ?q3 ?q4 ?q5 ?q6 ?q7 ?_); (case q1 => rfl); (case q2 => rfl); (case q3 => rfl); (case q4 => exact HC.out.1); (case q5 => (have := HC.out.2.1; have := HK.out.1; omega)); (case q6 => kernel_rfl); (case q7 => rfl); intro w6 hh6 hk6 hb6 hz6; have HO6 := Lib.hid (And.intro hh6 (And.intro hk6 (hJ.out.2.trans (OnlyB.stored hk6 hb6 hbb)))); clear hh6 hk6 hb6 hz6)
                    | ((with_reducible refine wpList_store1 rfl 3 (.tmp 76) (.tmp 74) rfl b (n * 32 + i * 32 + 3) 53 (cur.setIfInBounds (n * 32 + i * 32 + 2) (.int .i64 (-7 - (k : Int)))) (.int .i64 (1000 + (i : Int))) ?r1 ?r2 ?r3 ?r4 ?r5 ?r6 ?r7 ?_); (case r1 => rfl); (case r2 => rfl); (case r3 => rfl); (case r4 => exact HO6.out.1); (case r5 => (rw [Array.size_setIfInBounds]; have := HC.out.2.1; have := HK.out.1; omega)); (case r6 => kernel_rfl); (case r7 => rfl); intro w7 hh7 hk7 hb7 hz7; have hst7 : Hid (OVs w7 V (fun j => if j < k then mF else if j = k then n + (i + 1) else 0) ∧ OnlyB (inV V) w w7) := Lib.hid ⟨hJ.out.1.turn HA.out HV.out (fun g hg => (hk7 g (fun e => hg (by rw [e]; rfl))).trans (HO6.out.2.1 g (fun e => hg (by rw [e]; rfl)))) (OV.step (i := n + i) HC.out.2.2 (by omega) HC.out.1 (by rw [hh7, mkB, if_neg (by omega), Nat.add_mul, show 1000 + (((n + i : Nat) : Int) - (n : Int)) = 1000 + (i : Int) by omega])), HO6.out.2.2.trans (OnlyB.stored hk7 hb7 hbb)⟩; clear hh7 hk7 hb7 hz7))
                  go_roundw
                  case rel => exact ⟨i + 1, by omega, by omega, by go_num, hst7⟩
                  case measure => simp [intOf]; omega
                · obtain rfl : i = 64 := by omega
                  have hnx : Hid (OVs wr V (fun j => if j < k + 1 then mF else 0) ∧ OnlyB (inV V) w wr) := Lib.hid ⟨hJ.out.1.next HV.out (by
                    have hr := hJ.out.1.row k _ HV.out
                    rw [if_neg (Nat.lt_irrefl k), if_pos rfl] at hr
                    exact hr.fin (.inr (Nat.le_refl _))), hJ.out.2⟩
                  have hini : (64 : Int) < ((c - n : Nat) : Int) := by omega
                  go_wp2
                  go_roundw
                  case rel => exact ⟨k + 1, by omega, by go_num, hnx⟩
                  case measure => simp [intOf]; omega
              · have hic : i = c - n := by omega
                subst hic
                have hnx : Hid (OVs wr V (fun j => if j < k + 1 then mF else 0) ∧ OnlyB (inV V) w wr) := Lib.hid ⟨hJ.out.1.next HV.out (by
                    have hr := hJ.out.1.row k _ HV.out
                    rw [if_neg (Nat.lt_irrefl k), if_pos rfl] at hr
                    exact hr.fin (.inl (by have := HK.out.1; omega))), hJ.out.2⟩
                go_wp2
                go_roundw
                case rel => exact ⟨k + 1, by omega, by go_num, hnx⟩
                case measure => simp [intOf]; omega
    · obtain rfl : N = k := by omega
      have HF := Lib.hid (And.intro hI.out.1 (And.intro hI.out.2 (HRow.out.only hI.out.2)))
      clear hI
      rename World => wa
      go_wp2
      go_loopw [8] (fun v8 wr => ∃ k : Nat, k ≤ N ∧ v8 = .int .i64 k ∧ wr = wa) (fun v8 _ => N - (intOf v8).toNat)
      case atStart => exact ⟨0, Nat.zero_le _, rfl, rfl⟩
      case round =>
        obtain ⟨k, hk, rfl, rfl⟩ := hrel
        by_cases hkn : k < N
        · obtain ⟨v, hv⟩ : ∃ v, V[k]? = some v := ⟨_, List.getElem?_eq_getElem (by have := HL.out; omega)⟩
          have hr := HF.out.1.row k v hv
          rw [if_pos hkn] at hr
          have hlk : (k : Int) < (N : Int) := by omega
          have q1 := HF.out.2.2.cells k _ hv
          have hz7 : wrap64 (-7 - (k : Int)) = -7 - (k : Int) := by unfold wrap64; omega
          have HV := Lib.hid hv
          cases hr with
          | nil =>
            clear hv
            go_wp2
            go_rounds 1
            go_rounds 1
            go_roundw
            case rel => exact ⟨k + 1, by omega, by go_num, by first | rfl | trivial⟩
            case measure => simp [intOf]; omega
          | one b n c cur hn hx hh hs hm =>
            have HK := Lib.hid (And.intro hn hx)
            have HC : Hid (∀ i, i < c → i < n + 64 → wr.cell? ⟨b, i * 32 + 2, none⟩ = some (.int .i64 (-7 - (k : Int))) ∧ wr.cell? ⟨b, i * 32 + 3, none⟩ = some (.int .i64 (mkB n i))) := Lib.hid fun i hi h6 => by
              have hm' := hm i (by show i < 18446744073709551616; omega) hi h6
              rw [cell_of_row _ b _ cur _ _ hh, cell_of_row _ b _ cur _ _ hh]
              exact hm'
            clear hh hs hm hv cur
            go_wp2
            rename World => wo
            go_loopw [9] (fun v9 wr => ∃ i : Nat, i ≤ n ∧ v9 = .int .i64 i ∧ wr = wo) (fun v9 _ => n - (intOf v9).toNat)
            case atStart => exact ⟨0, Nat.zero_le _, rfl, rfl⟩
            case round =>
              obtain ⟨i, hi, rfl, rfl⟩ := hrel
              by_cases hin : i < n
              · obtain ⟨c1, c2⟩ := HC.out i (by have := HK.out.1; omega) (by omega)
                rw [mkB, if_pos hin] at c2
                have hini : (i : Int) < (n : Int) := by omega
                go_wp2
                go_roundw
                case rel => exact ⟨i + 1, by omega, by go_num, by first | rfl | trivial⟩
                case measure => simp [intOf]; omega
              · obtain rfl : n = i := by omega
                obtain ⟨A6, hcut, hA6⟩ := cut_spare b n c HK.out.1
                have hA6 := Lib.hid hA6
                have hcn : (n : Int) ≤ (c : Int) := by have := HK.out.1; omega
                go_wp2
                rename World => wo2
                go_loopw [12] (fun v12 wr => ∃ i : Nat, i ≤ c - n ∧ i ≤ 64 ∧ v12 = .int .i64 i ∧ wr = wo2) (fun v12 _ => c - n - (intOf v12).toNat)
                case atStart => exact ⟨0, Nat.zero_le _, Nat.zero_le _, rfl, rfl⟩
                case round =>
                  obtain ⟨i, hi, hi6, rfl, rfl⟩ := hrel
                  by_cases hin : i < c - n
                  · by_cases hi64 : i < 64
                    · obtain ⟨c1, c2⟩ := HC.out (n + i) (by omega) (by omega)
                      obtain rfl := hA6.out (by omega)
                      rw [mkB, if_neg (by omega), show 1000 + (((n + i : Nat) : Int) - (n : Int)) = 1000 + (i : Int) by omega, Nat.add_mul] at c2
                      rw [Nat.add_mul] at c1
                      have hini : (i : Int) < ((c - n : Nat) : Int) := by omega
                      have hi64' : (i : Int) < 64 := by omega
                      have hwi : wrap64 (1000 + (i : Int)) = 1000 + (i : Int) := by unfold wrap64; omega
                      go_wp2
                      go_roundw
                      case rel => exact ⟨i + 1, by omega, by omega, by go_num, by first | rfl | trivial⟩
                      case measure => simp [intOf]; omega
                    · obtain rfl : i = 64 := by omega
                      have hini : (64 : Int) < ((c - n : Nat) : Int) := by omega
                      go_wp2
                      go_roundw
                      case rel => exact ⟨k + 1, by omega, by go_num, by first | rfl | trivial⟩
                      case measure => simp [intOf]; omega
                  · have hic : i = c - n := by omega
                    subst hic
                    go_wp2
                    go_roundw
                    case rel => exact ⟨k + 1, by omega, by go_num, by first | rfl | trivial⟩
                    case measure => simp [intOf]; omega
        · obtain rfl : N = k := by omega
          go_wp2
          go_ret
          exact ⟨rfl, HF.out.2.1⟩
end Go.Proofs.YtoepbjgldmgaoaaGreatDoor

/- The book's other lists are empty: no round of any loop. -/
namespace Go.Proofs.YtoepbjgldmgaoaaGreatDoor
set_option maxRecDepth 100000
open Go.RowKit Go.Proofs.YtoepbjgldmgaoaaGreatDoorW.PrintWords Go.Proofs.YtoepbjgldmgaoaaGreatDoorW.PrintLast
theorem nil_apartOps (w : World) : Calls Tryz.prog 30 #[.slice none 0 0] w fun e w' => e = .returned (.bool true) ∧ w' = w := by
  go_enter Tryz.func30, Tryz.ntmps30
  go_wp2
  go_rounds 1
  go_rounds 1
  go_ret
  exact ⟨rfl, rfl⟩
theorem nil_ApartBytes (w : World) : Calls Tryz.prog 31 #[.slice none 0 0] w fun e w' => e = .returned (.bool true) ∧ w' = w := by
  go_enter Tryz.func31, Tryz.ntmps31
  go_wp2
  go_rounds 1
  go_rounds 1
  go_rounds 1
  go_ret
  exact ⟨rfl, rfl⟩
theorem nil_ApartTexts (w : World) : Calls Tryz.prog 32 #[.slice none 0 0] w fun e w' => e = .returned (.bool true) ∧ w' = w := by
  go_enter Tryz.func32, Tryz.ntmps32
  go_wp2
  go_rounds 1
  go_rounds 1
  go_rounds 1
  go_ret
  exact ⟨rfl, rfl⟩
theorem nil_ApartInts (w : World) : Calls Tryz.prog 33 #[.slice none 0 0] w fun e w' => e = .returned (.bool true) ∧ w' = w := by
  go_enter Tryz.func33, Tryz.ntmps33
  go_wp2
  go_rounds 1
  go_rounds 1
  go_rounds 1
  go_ret
  exact ⟨rfl, rfl⟩
theorem nil_ApartNumbers (w : World) : Calls Tryz.prog 34 #[.slice none 0 0] w fun e w' => e = .returned (.bool true) ∧ w' = w := by
  go_enter Tryz.func34, Tryz.ntmps34
  go_wp2
  go_rounds 1
  go_rounds 1
  go_rounds 1
  go_ret
  exact ⟨rfl, rfl⟩
theorem nil_ApartBools (w : World) : Calls Tryz.prog 35 #[.slice none 0 0] w fun e w' => e = .returned (.bool true) ∧ w' = w := by
  go_enter Tryz.func35, Tryz.ntmps35
  go_wp2
  go_rounds 1
  go_rounds 1
  go_rounds 1
  go_ret
  exact ⟨rfl, rfl⟩
theorem nil_ApartKeys (w : World) : Calls Tryz.prog 37 #[.slice none 0 0] w fun e w' => e = .returned (.bool true) ∧ w' = w := by
  go_enter Tryz.func37, Tryz.ntmps37
  go_wp2
  go_rounds 1
  go_rounds 1
  go_rounds 1
  go_ret
  exact ⟨rfl, rfl⟩
theorem nil_ApartConds (w : World) : Calls Tryz.prog 38 #[.slice none 0 0] w fun e w' => e = .returned (.bool true) ∧ w' = w := by
  go_enter Tryz.func38, Tryz.ntmps38
  go_wp2
  go_rounds 1
  go_rounds 1
  go_rounds 1
  go_ret
  exact ⟨rfl, rfl⟩
theorem nil_ApartAmounts (w : World) : Calls Tryz.prog 39 #[.slice none 0 0] w fun e w' => e = .returned (.bool true) ∧ w' = w := by
  go_enter Tryz.func39, Tryz.ntmps39
  go_wp2
  go_rounds 1
  go_rounds 1
  go_rounds 1
  go_ret
  exact ⟨rfl, rfl⟩
theorem nil_ApartProbes (w : World) : Calls Tryz.prog 40 #[.slice none 0 0] w fun e w' => e = .returned (.bool true) ∧ w' = w := by
  go_enter Tryz.func40, Tryz.ntmps40
  go_wp2
  go_rounds 1
  go_rounds 1
  go_rounds 1
  go_ret
  exact ⟨rfl, rfl⟩
end Go.Proofs.YtoepbjgldmgaoaaGreatDoor
