/- errors.As at a *api.Fault, walked for nil and for an api.Errno: it finds none; flotillakit.Plain. Condition: errors.errorType reads as its text lays it. -/
import Derived.Test.YtflfpghidkgmoaaDoorErr
namespace Go.Proofs.YtflfpghidkgmoaaDoor
open Go.RowKit Go.Extern.Stop Go.Stop Go.Extern

theorem bcell {W w1 : World} (hb : Below W.heap.size W w1) : (∀ b o, b < W.heap.size → w1.cell? ⟨b, o, none⟩ = W.cell? ⟨b, o, none⟩) ∧ (∀ b o, b < W.heap.size → w1.frozen? ⟨b, o, none⟩ = W.frozen? ⟨b, o, none⟩) :=
  ⟨fun b o h => hb.cell (p := ⟨b, o, none⟩) h, fun b o h => hb.frozen (p := ⟨b, o, none⟩) h⟩

theorem ret_bool {a b : Bool} (h : a = b) : Ending.returned (.bool a) = .returned (.bool b) := by rw [h]
theorem as_nil (t : Value) (w : World) :
    Calls Tryd.prog 32 #[.nilIface, t] w fun e w' => e = .returned (.bool false) ∧ w' = w := by
  have e2 := eqNN
  go_enter Tryd.func32, Tryd.ntmps32
  go_wp2
  go_ret
  exact ⟨rfl, rfl⟩

/-! ### Closed facts at *api.Fault -/
theorem asValueOf (t : Addr) (w : World) : (ReflectliteValue.unpack (.iface 56 (.pointer (some t)))).run Tryd.prog w
    = .ok (.agg #[.pointer (some ⟨9, 56, none⟩), .pointer (some ⟨w.heap.size, 0, none⟩), .int .u64 150]) (w.alloc (.cells #[.pointer (some t)] 56)) := by kernel_rfl
theorem asType (a : Addr) (w : World) : (ReflectliteValue.methodAny (ReflectliteValue.valueError "reflectlite.Value.Type" 0) (fun t _ _ _ => ReflectliteType.toType t) #[.agg #[.pointer (some ⟨9, 56, none⟩), .pointer (some a), .int .u64 150]]).run Tryd.prog w
    = .ok (.iface 95 (.agg #[.pointer (some ⟨9, 56, none⟩)])) w := by kernel_rfl
theorem asMethodKind (h : Value) (w : World) : (Go.method 293 95 (.agg #[h]) "Kind").run Tryd.prog w = .ok (133, h) w := by kernel_rfl
theorem asKindP (w : World) : ((ReflectliteType.abiMethod fun t => (fun a : Nat => Value.int IntKind.u8 (a : Int)) <$> Rtype.kind t) #[.pointer (some ⟨9, 56, none⟩)]).run Tryd.prog w = .ok (.int .u8 22) w := by kernel_rfl
theorem asKindF (w : World) : ((ReflectliteType.abiMethod fun t => (fun a : Nat => Value.int IntKind.u8 (a : Int)) <$> Rtype.kind t) #[.pointer (some ⟨9, 54, none⟩)]).run Tryd.prog w = .ok (.int .u8 25) w := by kernel_rfl
theorem rlm (z : Sem Value) (f : TypeId → Addr → Nat → Nat → Sem Value) (v : Value) :
    ReflectliteValue.method z f #[v] = (do match ← ReflectliteValue.parts v with | none => z | some (t, a, fl) => f t a fl (fl % 32)) := rfl
theorem asParts (a : Addr) (w : World) : (ReflectliteValue.parts (.agg #[.pointer (some ⟨9, 56, none⟩), .pointer (some a), .int .u64 150])).run Tryd.prog w = .ok (some (56, a, 150)) w := by kernel_rfl
theorem asIsNil (a p : Addr) (W : World) (ha : W.cell? a = some (.pointer (some p))) :
    (ReflectliteValue.method (ReflectliteValue.valueError "reflectlite.Value.IsNil" 0) ReflectliteValue.isNil #[.agg #[.pointer (some ⟨9, 56, none⟩), .pointer (some a), .int .u64 150]]).run Tryd.prog W = .ok (.bool false) W := by
  rw [rlm]
  simp only [Sem.run_bind, asParts, Result.andThen]
  simp [ReflectliteValue.isNil, loadVar, isAgg, underlying, Tryd.underlying56, ha, Result.andThen]
theorem asMethodElem (h : Value) (w : World) : (Go.method 293 95 (.agg #[h]) "Elem").run Tryd.prog w = .ok (147, .agg #[h]) w := by kernel_rfl
theorem asMethodImplements (h : Value) (w : World) : (Go.method 293 95 (.agg #[h]) "Implements").run Tryd.prog w = .ok (148, .agg #[h]) w := by kernel_rfl
theorem asMethodAssignable (h : Value) (w : World) : (Go.method 293 95 (.agg #[h]) "AssignableTo").run Tryd.prog w = .ok (145, .agg #[h]) w := by kernel_rfl
theorem asElem (w : World) : (ReflectliteType.method ReflectliteType.elem #[.agg #[.pointer (some ⟨9, 56, none⟩)]]).run Tryd.prog w = .ok (.iface 95 (.agg #[.pointer (some ⟨9, 54, none⟩)])) w := by kernel_rfl
theorem asImplements (w : World) : (ReflectliteType.relation "Implements" ReflectliteType.implements_ #[.agg #[.pointer (some ⟨9, 54, none⟩)], .iface 95 (.agg #[.pointer (some ⟨9, 29, none⟩)])]).run Tryd.prog w = .ok (.bool true) w := by kernel_rfl
theorem asNotE (w : World) : (ReflectliteType.relation "AssignableTo" ReflectliteType.assignableTo #[.agg #[.pointer (some ⟨9, 52, none⟩)], .iface 95 (.agg #[.pointer (some ⟨9, 54, none⟩)])]).run Tryd.prog w = .ok (.bool false) w := by kernel_rfl
theorem noAsE (v : Value) (xT : TypeId) (w : World) : (Instr.typeAssert (.iface 52 v) xT 99 true).run Tryd.prog w = .ok (.tuple #[.nilIface, .bool false]) w := run_typeAssert_lacksB Tryd.underlying99 (by kernel_rfl) (by kernel_rfl) v xT w

/-- errors.as over an api.Errno: no Fault. -/
theorem asI_no (n : Int) (tv : Value) (c0 c1 c2 : Value) (w : World) :
    Calls Tryd.prog 51 #[.iface 52 (.int .i64 n), tv, .agg #[c0, c1, c2], .iface 95 (.agg #[.pointer (some ⟨9, 54, none⟩)])] w fun e w' => e = .returned (.bool false) ∧ w' = w.alloc (.cells #[c0, c1, c2] 74) := by
  have h8 := @run_callFunc_extern Tryd.prog 61 _ Extern.ReflectliteType.typeOf Tryd.func61 (by kernel_rfl) (by kernel_rfl) (by kernel_rfl) (by kernel_rfl)
  have h35 := @run_callFunc_extern Tryd.prog 145 _ (ReflectliteType.relation "AssignableTo" ReflectliteType.assignableTo) Tryd.func145 (by kernel_rfl) (by kernel_rfl) (by kernel_rfl) (by kernel_rfl)
  have tT := tOE
  have mA := asMethodAssignable
  have nA := asNotE
  have n1 := noAsE
  have n2 := noUnwrapE
  have n3 := noUnwrapsE
  go_enter Tryd.func51, Tryd.ntmps51
  go_wp2
  refine wp_loop_rounds 1 ?_
  rw [rounds_succ]
  go_wp2
  go_ret
  exact ⟨rfl, rfl⟩

/-- errors.As at a *api.Fault, the inner function by its contract. -/
theorem as_of {v : Value} (hv : ∃ t x, v = .iface t x)
    (hI : ∀ tv c0 c1 c2 w, Calls Tryd.prog 51 #[v, tv, .agg #[c0, c1, c2], .iface 95 (.agg #[.pointer (some ⟨9, 54, none⟩)])] w fun e w' => e = .returned (.bool false) ∧ Below w.heap.size w w')
    (t : Addr) (w : World) (hg : w.cell? ⟨0, 0, none⟩ = some (.iface 95 (.agg #[.pointer (some ⟨9, 29, none⟩)]))) :
    Calls Tryd.prog 32 #[v, .iface 56 (.pointer (some t))] w fun e w' => e = .returned (.bool false) ∧ Below w.heap.size w w' := by
  obtain ⟨tt, x, rfl⟩ := hv
  have h6 := @run_callFunc_extern Tryd.prog 48 _ (fun args => ReflectliteValue.unpack (args.getD 0 (.tuple #[]))) Tryd.func48 (by kernel_rfl) (by kernel_rfl) (by kernel_rfl) (by kernel_rfl)
  have h7 := @run_callFunc_extern Tryd.prog 49 _ (ReflectliteValue.methodAny (ReflectliteValue.valueError "reflectlite.Value.Type" 0) (fun t _ _ _ => ReflectliteType.toType t)) Tryd.func49 (by kernel_rfl) (by kernel_rfl) (by kernel_rfl) (by kernel_rfl)
  have h8 := @run_callFunc_extern Tryd.prog 50 _ (ReflectliteValue.method (ReflectliteValue.valueError "reflectlite.Value.IsNil" 0) ReflectliteValue.isNil) Tryd.func50 (by kernel_rfl) (by kernel_rfl) (by kernel_rfl) (by kernel_rfl)
  have h27 := @run_callFunc_extern Tryd.prog 133 _ (ReflectliteType.abiMethod fun t => do pure (.int .u8 (← Rtype.kind t))) Tryd.func133 (by kernel_rfl) (by kernel_rfl) (by kernel_rfl) (by kernel_rfl)
  have h37 := @run_callFunc_extern Tryd.prog 147 _ (ReflectliteType.method ReflectliteType.elem) Tryd.func147 (by kernel_rfl) (by kernel_rfl) (by kernel_rfl) (by kernel_rfl)
  have h38 := @run_callFunc_extern Tryd.prog 148 _ (ReflectliteType.relation "Implements" ReflectliteType.implements_) Tryd.func148 (by kernel_rfl) (by kernel_rfl) (by kernel_rfl) (by kernel_rfl)
  have f6 := asValueOf
  have f7 := asType
  have mK := asMethodKind
  have mE := asMethodElem
  have mI := asMethodImplements
  have k1 := asKindP
  have k2 := asKindF
  have e1 := asElem
  have i1 := asImplements
  have eI := eqIN
  have n8 := asIsNil ⟨w.heap.size, 0, none⟩ t ((w.alloc (.cells #[.pointer (some t)] 56)).alloc (.cells #[.pointer (some ⟨9, 56, none⟩), .pointer (some ⟨w.heap.size, 0, none⟩), .int .u64 150] 74)) (by simp)
  have hlt : 0 < w.heap.size := by
    rcases Nat.lt_or_ge 0 w.heap.size with h | h
    · exact h
    · simp [World.cell?, Array.getElem?_eq_none h] at hg
  have hg2 : ((w.alloc (.cells #[.pointer (some t)] 56)).alloc (.cells #[.pointer (some ⟨9, 56, none⟩), .pointer (some ⟨w.heap.size, 0, none⟩), .int .u64 150] 74)).cell? ⟨0, 0, none⟩ = some (.iface 95 (.agg #[.pointer (some ⟨9, 29, none⟩)])) := by
    rw [World.cell?_alloc_lt _ _ ⟨0, 0, none⟩ (by first | (simp; done) | (simp; omega)), World.cell?_alloc_lt _ _ ⟨0, 0, none⟩ hlt]; exact hg
  have HI := Lib.hid hI
  clear hI
  go_enter Tryd.func32, Tryd.ntmps32
  go_wp2_with (go_at_call 51; refine (HI.out _ _ _ _ _).mono ?_; rintro e w' ⟨rfl, hb⟩)
  go_ret
  exact ⟨rfl, ((((Below.refl _ _).alloc (Nat.le_refl _) _).alloc (by simp) _).trans (hb.mono (by simp; omega)))⟩

/-- errors.errorType reads as its text lays it. -/
def ETypeAt (w : World) : Prop := w.cell? ⟨0, 0, none⟩ = some (.iface 95 (.agg #[.pointer (some ⟨9, 29, none⟩)]))
theorem ETypeAt.lt {w : World} (h : ETypeAt w) : 0 < w.heap.size := by
  rcases Nat.lt_or_ge 0 w.heap.size with h1 | h1
  · exact h1
  · simp [ETypeAt, World.cell?, Array.getElem?_eq_none h1] at h
theorem ETypeAt.below {w w1 : World} (h : ETypeAt w) (hb : Below w.heap.size w w1) : ETypeAt w1 := by
  unfold ETypeAt
  rw [hb.cell (p := ⟨0, 0, none⟩) h.lt]
  exact h
theorem ETypeAt.alloc {w : World} (h : ETypeAt w) (o : Obj) : ETypeAt (w.alloc o) := h.below ((Below.refl _ _).alloc (Nat.le_refl _) o)
structure HasNoP (v : Value) (m : Int) : Prop where
  no : HasNo v m
  ras : ∀ tv c0 c1 c2 w, Calls Tryd.prog 51 #[v, tv, .agg #[c0, c1, c2], .iface 95 (.agg #[.pointer (some ⟨9, 54, none⟩)])] w fun e w' => e = .returned (.bool false) ∧ Below w.heap.size w w'
def EVP (v : Value) (m : Int) : Prop := (v = .nilIface ∧ m = 0) ∨ HasNoP v m
theorem evp_nil : EVP .nilIface 0 := .inl ⟨rfl, rfl⟩
theorem hasNoP_no (m : Int) (h1 : 1 ≤ m) (h2 : m ≤ 36) : HasNoP (.iface 52 (.int .i64 m)) m :=
  ⟨hasNo_no m h1 h2, fun tv c0 c1 c2 w => (asI_no m tv c0 c1 c2 w).mono fun e w' ⟨he, hw⟩ => ⟨he, by rw [hw]; exact (Below.refl _ _).alloc (Nat.le_refl _) _⟩⟩
theorem evp_no (m : Int) (h1 : 1 ≤ m) (h2 : m ≤ 36) : EVP (.iface 52 (.int .i64 m)) m := .inr (hasNoP_no m h1 h2)

theorem plain_nil (n : Int) (w : World) : Calls Tryd.prog 17 #[.nilIface, .int .i64 n] w fun e w' => e = .returned (.bool ((0 : Int) == n)) ∧ Below w.heap.size w w' := by
  have e2 := eqNN
  by_cases h : n = 0
  · subst h
    go_enter Tryd.func17, Tryd.ntmps17
    go_wp2_with (go_at_call 25; refine (num_nil _).mono ?_; rintro e w' ⟨rfl, rfl⟩)
    go_ret
    exact ⟨rfl, (Below.refl _ _).alloc (Nat.le_refl _) _⟩
  · have hb : ((0 : Int) == n) = false := by simp; omega
    clear h
    go_enter Tryd.func17, Tryd.ntmps17
    go_wp2_with (go_at_call 25; refine (num_nil _).mono ?_; rintro e w' ⟨rfl, rfl⟩)
    go_ret
    exact ⟨ret_bool hb.symm, (Below.refl _ _).alloc (Nat.le_refl _) _⟩
theorem plain_no {v : Value} {m : Int} (hv : HasNoP v m) (n : Int) (w : World) (hg : ETypeAt w) : Calls Tryd.prog 17 #[v, .int .i64 n] w fun e w' => e = .returned (.bool (m == n)) ∧ Below w.heap.size w w' := by
  have hn := Lib.hid hv.no
  have ha := Lib.hid hv.ras
  obtain ⟨t, x, rfl⟩ := hv.no.form
  clear hv
  have e2 := eqIN
  by_cases h : m = n
  · subst h
    go_enter Tryd.func17, Tryd.ntmps17
    go_wp2_with (first | (go_at_call 25; refine (num_no hn.out _).mono ?_; rintro e w1 ⟨rfl, hb1⟩) | (go_at_call 32; refine (as_of ⟨t, x, rfl⟩ ha.out _ _ ((hg.alloc _).below hb1)).mono ?_; rintro e w2 ⟨rfl, hb2⟩))
    go_ret
    exact ⟨ret_bool (by simp), (((Below.refl _ _).alloc (Nat.le_refl _) _).trans (hb1.mono (by simp))).trans (hb2.mono (by have := hb1.size; simp at this; omega))⟩
  · have hb : (m == n) = false := by simpa using h
    clear h
    go_enter Tryd.func17, Tryd.ntmps17
    go_wp2_with (go_at_call 25; refine (num_no hn.out _).mono ?_; rintro e w1 ⟨rfl, hb1⟩)
    go_ret
    exact ⟨ret_bool hb.symm, ((Below.refl _ _).alloc (Nat.le_refl _) _).trans (hb1.mono (by simp))⟩
/-- flotillakit.Plain, whatever the error. -/
theorem plain_any {v : Value} {m : Int} (hv : EVP v m) (n : Int) (w : World) (hg : ETypeAt w) : Calls Tryd.prog 17 #[v, .int .i64 n] w fun e w' => e = .returned (.bool (m == n)) ∧ Below w.heap.size w w' := by
  rcases hv with ⟨rfl, rfl⟩ | h
  · exact plain_nil n w
  · exact plain_no h n w hg
end Go.Proofs.YtflfpghidkgmoaaDoor
