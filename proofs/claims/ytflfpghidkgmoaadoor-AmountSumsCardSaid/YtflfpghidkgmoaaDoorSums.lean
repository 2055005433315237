/- AmountSums walked: lists that are lent with marks behind them, and looked at again; the law by its callees' contracts. -/
import Derived.Test.YtflfpghidkgmoaaDoorQAmtx
namespace Go.Proofs.YtflfpghidkgmoaaDoor.Sums
set_option linter.unusedVariables false
set_option linter.unusedSimpArgs false
open Go.RowKit Go.Proofs.YtflfpghidkgmoaaDoor Go.Proofs.YtflfpghidkgmoaaDoor.QAmt Go.Proofs.YtflfpghidkgmoaaDoorW.PrintWords Go.Proofs.YtflfpghidkgmoaaDoorW.PrintLast

def FullPost (r : List S23) (w : World) (e : Ending) (w' : World) : Prop := ∃ b c, e = .returned (.slice (some b) r.length c) ∧ r.length ≤ c ∧ Hid (Kd.C k23 w' (some b) r.length r) ∧ Below w.heap.size w w'
theorem full (k : Nat) (A0 : Option Addr) (c0 : Nat) (l0 r : List S23) (w : World) (hr0 : Kd.C k23 w A0 l0.length l0) (hc0 : l0.length ≤ c0) (hF : flotillakit_FullAmounts.f k l0 = some r) (hl : r.length = l0.length + 16) :
    Calls Tryd.prog 33 #[.slice A0 l0.length c0] w (FullPost r w) :=
  (flotillakit_FullAmounts.calls k A0 c0 l0 r w hr0 hc0 hF).mono fun e w' ⟨v0, he, hR, hb⟩ => by
    obtain ⟨A, c, hv, hc, hC⟩ := Kd.R_reads hR
    obtain ⟨ad, rfl, _⟩ := hC.2.2 (by omega)
    exact ⟨ad, c, by rw [he, hv], hc, Lib.hid hC, hb⟩
def LentPost (r : List S23) (n : Nat) (w : World) (e : Ending) (w' : World) : Prop := ∃ b c, e = .returned (.slice (some b) n c) ∧ r.length ≤ c ∧ Hid (Kd.C k23 w' (some b) r.length r) ∧ Below w.heap.size w w'
theorem lent (k : Nat) (A0 : Option Addr) (c0 : Nat) (l0 r : List S23) (w : World) (hr0 : Kd.C k23 w A0 l0.length l0) (hc0 : l0.length ≤ c0) (hF : flotillakit_FullAmounts.f k l0 = some r) (hl : r.length = l0.length + 16) :
    Calls Tryd.prog 19 #[.slice A0 l0.length c0] w (LentPost r l0.length w) := by
  have CF := full k A0 c0 l0 r w hr0 hc0 hF hl
  clear hF hr0
  have HL := Lib.hid hl
  clear hl
  have hn0 : (0 : Int) ≤ (l0.length : Int) := by omega
  go_enter Tryd.func19, Tryd.ntmps19
  go_wp2_with (go_at_call 33; refine CF.mono ?_; rintro e w1 ⟨b, c, rfl, hc, hC, hb⟩; have hc2 : (l0.length : Int) ≤ (c : Int) := by (have := HL.out; omega))
  go_ret
  exact ⟨b, c, rfl, by have := HL.out; omega, hC, hb⟩

theorem eqAmt (d : Nat) (w : World) (x0 y0 : Int) (x1 y1 : Int) :
    (Op.equalIn (d + 2) 23 (.agg #[.int .i64 x0, .int .i64 x1]) (.agg #[.int .i64 y0, .int .i64 y1])).run Tryd.prog w = .ok (x0 == y0 && (x1 == y1)) w := by
  refine eqA_of Tryd.underlying23 (by kernel_rfl) ?_
  refine eqf_cons (by rfl) (by go_simp; rfl) (by go_simp; rfl) (by go_simp) ?_
  exact eqf_last (by rfl) (by go_simp; rfl) (by go_simp; rfl) (by go_simp)
attribute [local go_sem high] eqAmt
/-- A row's element at k, as the walk reads it. -/
theorem cellsAt {w : World} {b : Addr} {n k : Nat} {xs : List S23} {p : S23} (h : Kd.C k23 w (some b) n xs) (hp : xs[k]? = some p) :
    w.cell? (b.add (k * 2)) = some (.int .i64 p.f0) ∧ w.cell? ⟨(b.add (k * 2)).block, (b.add (k * 2)).off + 1, none⟩ = some (.int .i64 p.f1) := by
  have hk : k < xs.length := (List.getElem?_eq_some_iff.1 hp).1
  have hn := h.1
  obtain ⟨ad, e, h0, h1⟩ := at_T23 h (k : Int) (by omega) (by omega)
  obtain rfl := Option.some.inj e
  have hr : rd_T23 xs (k : Int) = p := by simp [rd_T23, List.getD_eq_getElem?_getD, hp]
  rw [hr] at h0 h1
  simpa using ⟨h0, h1⟩
theorem mark_any (i : Int) (w : World) (h1 : -9000000000000 ≤ i) (h2 : i ≤ 16) : Calls Tryd.prog 52 #[.int .i64 90, .int .i64 i] w fun e w' => e = .returned (.agg #[.int .i64 (-97), .int .i64 (-1 - i)]) ∧ Below w.heap.size w w' := by
  go_enter Tryd.func52, Tryd.ntmps52
  go_wp2
  exact bodyPost_ret (v := .agg #[.int .i64 (-97), .int .i64 (-1 - i)]) (by simp [results, Tryd.results52, go_sem]) rfl ⟨rfl, (Below.refl _ _).alloc (Nat.le_refl _) _⟩
set_option maxHeartbeats 1600000 in
theorem keptFull (l0 l1 : List S23) (b0 : Addr) (A1 : Option Addr) (c0 c1 : Nat) (w : World) (h0 : Kd.C k23 w (some b0) l0.length l0) (h1 : Kd.C k23 w A1 l1.length l1)
    (hl : l0.length = l1.length + 16) (hbd : l1.length ≤ 8796093022208) (hpre : ∀ j, j < l1.length → l0[j]? = l1[j]?) (hmark : ∀ j, j < 16 → l0[l1.length + j]? = some ⟨-97, -1 - j⟩) :
    Calls Tryd.prog 34 #[.slice (some b0) l0.length c0, .slice A1 l1.length c1] w fun e w' => e = .returned (.bool true) ∧ Below w.heap.size w w' := by
  have H0 := Lib.hid h0
  have H1 := Lib.hid h1
  have HL := Lib.hid hl
  have HP := Lib.hid hpre
  have HM := Lib.hid hmark
  clear h0 h1 hpre hmark
  have e1 : ((l0.length : Int) != (l1.length : Int) + 16) = false := by simp; omega
  generalize hn0 : l0.length = n0 at *
  have hk16 : n0 ≤ l1.length + 16 := by omega
  have hk17 : l1.length + 16 ≤ n0 := by omega
  clear hl hn0
  go_enter Tryd.func34, Tryd.ntmps34
  go_wp2
  go_loopw [5] (fun v5 wr => ∃ k : Nat, k ≤ n0 ∧ v5 = .int .i64 k ∧ Below w.heap.size w wr) (fun v5 _ => n0 - (intOf v5).toNat)
  case atStart => exact ⟨0, Nat.zero_le _, rfl, Below.refl _ _⟩
  case round =>
    obtain ⟨k, hk, rfl, hB⟩ := hrel
    have hC0 : Hid (Kd.C k23 wr (some b0) n0 l0) := Lib.hid (Kd.C_below H0.out hB)
    have hC1 : Hid (Kd.C k23 wr A1 l1.length l1) := Lib.hid (Kd.C_below H1.out hB)
    by_cases hlt : k < n0
    · by_cases hl1 : k < l1.length
      · obtain ⟨p, hp⟩ : ∃ p, l1[k]? = some p := ⟨l1[k], List.getElem?_eq_getElem hl1⟩
        have hp0 : Hid (l0[k]? = some p) := Lib.hid ((HP.out k hl1).trans hp)
        have hp1 : Hid (l1[k]? = some p) := Lib.hid hp
        clear hp
        obtain ⟨b1, rfl⟩ : ∃ b1, A1 = some b1 := by obtain ⟨ad, e, _⟩ := hC1.out.2.2 (by omega); exact ⟨ad, e⟩
        go_wp2_with (go_at_call 52; refine (mark_any _ _ (by omega) (by omega)).mono ?_; rintro e w1 ⟨rfl, hb1⟩; have q0 := fun X => (cellsAt (Kd.C_below hC0.out (below_alloc hb1 X)) hp0.out).1; have q1 := fun X => (cellsAt (Kd.C_below hC0.out (below_alloc hb1 X)) hp0.out).2; have r0 := fun X => (cellsAt (Kd.C_below hC1.out (below_alloc hb1 X)) hp1.out).1; have r1 := fun X => (cellsAt (Kd.C_below hC1.out (below_alloc hb1 X)) hp1.out).2)
        go_quiet (fail)
        go_wp2
        go_roundw
        case rel => exact ⟨k + 1, by omega, by go_num, hB.trans ((pw_below_drewN (below_alloc hb1 _) _).mono hB.size)⟩
        case measure => simp [intOf]; omega
      · have hp0 : Hid (l0[k]? = some ⟨-97, -1 - ((k : Int) - (l1.length : Int))⟩) := Lib.hid (by
          have h := HM.out (k - l1.length) (by omega)
          rw [show l1.length + (k - l1.length) = k by omega] at h
          rw [h]
          have e : ((k - l1.length : Nat) : Int) = (k : Int) - (l1.length : Int) := by omega
          rw [e])
        go_wp2_with (go_at_call 52; refine (mark_any _ _ (by omega) (by omega)).mono ?_; rintro e w1 ⟨rfl, hb1⟩; have q0 := fun X => (cellsAt (Kd.C_below hC0.out (below_alloc hb1 X)) hp0.out).1; have q1 := fun X => (cellsAt (Kd.C_below hC0.out (below_alloc hb1 X)) hp0.out).2)
        go_quiet (fail)
        go_wp2
        go_roundw
        case rel => exact ⟨k + 1, by omega, by go_num, hB.trans ((pw_below_drewN (below_alloc hb1 _) _).mono hB.size)⟩
        case measure => simp [intOf]; omega
    · go_wp2
      go_ret
      exact ⟨rfl, hB⟩

theorem kept (l0 l1 : List S23) (b0 : Addr) (A1 : Option Addr) (c0 c1 : Nat) (w : World) (h0 : Kd.C k23 w (some b0) l0.length l0) (hc0 : l0.length ≤ c0) (h1 : Kd.C k23 w A1 l1.length l1)
    (hl : l0.length = l1.length + 16) (hbd : l1.length ≤ 8796093022208) (hpre : ∀ j, j < l1.length → l0[j]? = l1[j]?) (hmark : ∀ j, j < 16 → l0[l1.length + j]? = some ⟨-97, -1 - j⟩) :
    Calls Tryd.prog 21 #[.slice (some b0) l1.length c0, .slice A1 l1.length c1] w fun e w' => e = .returned (.bool true) ∧ Below w.heap.size w w' := by
  have CF := fun (n0 : Nat) (hn : n0 = l0.length) => (hn ▸ keptFull l0 l1 b0 A1 c0 c1 w h0 h1 hl hbd hpre hmark : Calls Tryd.prog 34 #[.slice (some b0) n0 c0, .slice A1 l1.length c1] w fun e w' => e = .returned (.bool true) ∧ Below w.heap.size w w')
  have hc1 : (l1.length : Int) + 16 ≤ (c0 : Int) := by omega
  have hn : ((l1.length : Int) + 16).toNat = l1.length + 16 := by omega
  have HC := Lib.hid (CF (l1.length + 16) hl.symm)
  clear CF h0 h1 hpre hmark hl hc0
  go_enter Tryd.func21, Tryd.ntmps21
  go_wp2_with (go_at_call 34; refine HC.out.mono ?_; rintro e w1 ⟨rfl, hb1⟩)
  go_ret
  exact ⟨rfl, hb1⟩

theorem C_pre {w : World} {A : Option Addr} {r l : List S23} (h : Kd.C k23 w A r.length r) (hm : l.length ≤ r.length) (ht : r.take l.length = l) : Kd.C k23 w A l.length l := by
  have := Kd.C_take h hm
  rwa [ht] at this
set_option maxHeartbeats 1600000 in
theorem law (k : Nat) (l0 r : List S23) (x y no : Int) (er : Option Int) (A0 : Option Addr) (c0 : Nat) (w : World) (hInv : ETypeAt w) (hr0 : Kd.C k23 w A0 l0.length l0) (hc0 : l0.length ≤ c0)
    (hS : flotillaref03_Sum.f k l0 = some (x, y, no)) (hT : amount_Sum.f k l0 = some (x, y, er)) (hP : plainF er no = some true) (hF : flotillakit_FullAmounts.f k l0 = some r)
    (hl : r.length = l0.length + 16) (hbd : l0.length ≤ 8796093022208) (htk : r.take l0.length = l0) (hpre : ∀ j, j < l0.length → r[j]? = l0[j]?) (hmark : ∀ j, j < 16 → r[l0.length + j]? = some ⟨-97, -1 - j⟩) :
    Calls Tryd.prog 4 #[.slice A0 l0.length c0] w fun e w' => e = .returned (.bool true) ∧ Below w.heap.size w w' := by
  have C1 := Lib.hid (flotillaref03_Sum.calls k A0 c0 l0 x y no w hr0 hc0 hS)
  have HR := Lib.hid hr0
  have HF := Lib.hid hF
  have HT := Lib.hid hT
  have HP := Lib.hid hP
  have HL := Lib.hid hl
  have HK := Lib.hid htk
  have HE := Lib.hid hpre
  have HM := Lib.hid hmark
  have HI := Lib.hid hInv
  clear hr0 hF hS hT hP hl htk hpre hmark hInv
  go_enter Tryd.func4, Tryd.ntmps4
  go_wp2_with (first
    | (go_at_call 18; refine C1.out.mono ?_; rintro e w1 ⟨rfl, hb1⟩)
    | (go_at_call 19; refine (lent k A0 c0 l0 r _ (Kd.C_below HR.out (below_alloc hb1 _)) hc0 HF.out HL.out).mono ?_; rintro e w2 ⟨b, c, rfl, hc, hC, hb2⟩; obtain ⟨hcc2, hff2⟩ := bcell hb2; have z2 : w1.heap.size < w2.heap.size := by (have := hb2.size; simp at this; omega))
    | (go_at_call 20; refine (amount_Sum.calls k (some b) c l0 x y er _ (C_pre hC.out (by have := HL.out; omega) HK.out) (by have := HL.out; omega) HT.out).mono ?_; rintro e w3 ⟨rfl, hb3⟩; obtain ⟨hcc3, hff3⟩ := bcell hb3; have z3 : w1.heap.size < w3.heap.size := by (have := hb3.size; omega))
    | (go_at_call 17; refine (flotillakit_Plain.calls er no true _ HP.out (HI.out.below (((below_alloc hb1 _).trans (hb2.mono (by have := hb1.size; simp; omega))).trans ((below_alloc hb3 _).mono (by have := hb1.size; omega))))).mono ?_; rintro e w4 ⟨rfl, hb4⟩; obtain ⟨hcc4, hff4⟩ := bcell hb4; have z4 : w3.heap.size < w4.heap.size := by (have := hb4.size; simp at this; omega))
    | (go_at_call 21; refine (kept r l0 b A0 c c0 _ (Kd.C_below hC.out ((below_alloc hb3 _).trans (hb4.mono (by have := hb3.size; simp; omega)))) hc (Kd.C_below HR.out ((((below_alloc hb1 _).trans (hb2.mono (by have := hb1.size; simp; omega))).trans ((below_alloc hb3 _).mono (by have := hb1.size; omega))).trans (hb4.mono (by have := hb1.size; simp; omega)))) HL.out hbd HE.out HM.out).mono ?_; rintro e w5 ⟨rfl, hb5⟩))
  go_ret
  exact ⟨rfl, ((((below_alloc hb1 _).trans (hb2.mono (by have := hb1.size; simp; omega))).trans ((below_alloc hb3 _).mono (by have := hb1.size; omega))).trans (hb4.mono (by have := hb1.size; simp; omega))).trans (hb5.mono (by have := hb1.size; omega))⟩
end Go.Proofs.YtflfpghidkgmoaaDoor.Sums
