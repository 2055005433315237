/- amount's own error (wrong): errors.Is and errors.As walked for it: its number is ErrAmount, it holds no Fault. No conditions. -/
import Derived.Test.YtflfpghidkgmoaaDoorAs
namespace Go.Proofs.YtflfpghidkgmoaaDoor
open Go.RowKit Go.Extern.Stop Go.Stop Go.Extern

theorem eqWE (c m n : Int) (w : World) : (binOp .eql 29 (.iface 91 (.agg #[.int .i64 c, .int .i64 m])) (.iface 52 (.int .i64 n))).run Tryd.prog w = .ok (.bool false) w := by kernel_rfl
theorem noIsW (v : Value) (xT : TypeId) (w : World) : (Instr.typeAssert (.iface 91 v) xT 116 true).run Tryd.prog w = .ok (.tuple #[.nilIface, .bool false]) w := run_typeAssert_lacksB Tryd.underlying116 (by kernel_rfl) (by kernel_rfl) v xT w
theorem noAsW (v : Value) (xT : TypeId) (w : World) : (Instr.typeAssert (.iface 91 v) xT 99 true).run Tryd.prog w = .ok (.tuple #[.nilIface, .bool false]) w := run_typeAssert_lacksB Tryd.underlying99 (by kernel_rfl) (by kernel_rfl) v xT w
theorem hasUnwrapW (v : Value) (xT : TypeId) (w : World) : (Instr.typeAssert (.iface 91 v) xT 102 true).run Tryd.prog w = .ok (.tuple #[.iface 91 v, .bool true]) w := run_typeAssert_hasB Tryd.underlying102 (by kernel_rfl) v xT w
theorem methodUnwrap (v : Value) (w : World) : (Go.method 293 91 v "Unwrap").run Tryd.prog w = .ok (143, v) w := by kernel_rfl
theorem tOW (c m : Int) (w : World) : (Extern.ReflectliteType.typeOf #[.iface 91 (.agg #[.int .i64 c, .int .i64 m])]).run Tryd.prog w = .ok (.iface 95 (.agg #[.pointer (some ⟨9, 91, none⟩)])) w := by kernel_rfl
theorem asNotW (w : World) : (ReflectliteType.relation "AssignableTo" ReflectliteType.assignableTo #[.agg #[.pointer (some ⟨9, 91, none⟩)], .iface 95 (.agg #[.pointer (some ⟨9, 54, none⟩)])]).run Tryd.prog w = .ok (.bool false) w := by kernel_rfl

/-- (wrong).Unwrap. -/
theorem unwrap_w (c m : Int) (w : World) : Calls Tryd.prog 143 #[.agg #[.int .i64 c, .int .i64 m]] w fun e w' => e = .returned (.iface 52 (.int .i64 13)) ∧ Below w.heap.size w w' := by
  go_enter Tryd.func143, Tryd.ntmps143
  go_wp2
  go_ret
  exact ⟨rfl, (Below.refl _ _).alloc (Nat.le_refl _) _⟩

set_option maxRecDepth 100000 in
set_option maxHeartbeats 1600000 in
theorem is_wrong (c m t : Int) (w : World) :
    Calls Tryd.prog 42 #[.iface 91 (.agg #[.int .i64 c, .int .i64 m]), .iface 52 (.int .i64 t)] w fun e w' => e = .returned (.bool ((13 : Int) == t)) ∧ Below w.heap.size w w' := by
  have h8 := @run_callFunc_extern Tryd.prog 61 _ Extern.ReflectliteType.typeOf Tryd.func61 (by kernel_rfl) (by kernel_rfl) (by kernel_rfl) (by kernel_rfl)
  have h32 := @run_callFunc_extern Tryd.prog 146 _ (Extern.ReflectliteType.method fun t => do Rtype.noPackHeld "Comparable" t; pure (.bool (← typeInfo t).comparable)) Tryd.func146 (by kernel_rfl) (by kernel_rfl) (by kernel_rfl) (by kernel_rfl)
  have tT := tOE
  have cT := cOE
  have mR := mOE
  have nE := noIsE
  have uE := noUnwrapE
  have vE := noUnwrapsE
  have nW := noIsW
  have uW := hasUnwrapW
  have mU := methodUnwrap
  have e1 := eqEE
  have e2 := eqIN
  have e3 := eqWE
  by_cases h : 13 = t
  · subst h
    go_enter Tryd.func42, Tryd.ntmps42
    go_wp2
    refine wp_loop_rounds 2 ?_
    rw [rounds_succ]
    go_wp2_with (go_at_call 143; refine (unwrap_w c m _).mono ?_; rintro e w' ⟨rfl, hb⟩)
    rw [rounds_succ]
    go_wp2
    go_ret
    exact ⟨ret_bool (by simp), hb⟩
  · have hb : ((13 : Int) == t) = false := by simpa using h
    clear h
    go_enter Tryd.func42, Tryd.ntmps42
    go_wp2
    refine wp_loop_rounds 2 ?_
    rw [rounds_succ]
    go_wp2_with (go_at_call 143; refine (unwrap_w c m _).mono ?_; rintro e w' ⟨rfl, hb'⟩)
    rw [rounds_succ]
    go_wp2
    go_ret
    exact ⟨ret_bool hb.symm, hb'⟩

theorem asI_wrong (c m : Int) (tv : Value) (c0 c1 c2 : Value) (w : World) :
    Calls Tryd.prog 51 #[.iface 91 (.agg #[.int .i64 c, .int .i64 m]), tv, .agg #[c0, c1, c2], .iface 95 (.agg #[.pointer (some ⟨9, 54, none⟩)])] w fun e w' => e = .returned (.bool false) ∧ Below w.heap.size w w' := by
  have h8 := @run_callFunc_extern Tryd.prog 61 _ Extern.ReflectliteType.typeOf Tryd.func61 (by kernel_rfl) (by kernel_rfl) (by kernel_rfl) (by kernel_rfl)
  have h35 := @run_callFunc_extern Tryd.prog 145 _ (ReflectliteType.relation "AssignableTo" ReflectliteType.assignableTo) Tryd.func145 (by kernel_rfl) (by kernel_rfl) (by kernel_rfl) (by kernel_rfl)
  have tT := tOE
  have tW := tOW
  have mA := asMethodAssignable
  have nA := asNotE
  have nB := asNotW
  have n1 := noAsE
  have n2 := noUnwrapE
  have n3 := noUnwrapsE
  have uW := hasUnwrapW
  have mU := methodUnwrap
  have aW := noAsW
  have eI := eqIN
  go_enter Tryd.func51, Tryd.ntmps51
  go_wp2
  refine wp_loop_rounds 2 ?_
  rw [rounds_succ]
  go_wp2_with (go_at_call 143; refine (unwrap_w c m _).mono ?_; rintro e w' ⟨rfl, hb⟩)
  rw [rounds_succ]
  go_wp2
  go_ret
  exact ⟨rfl, ((Below.refl _ _).alloc (Nat.le_refl _) _).trans (hb.mono (by simp))⟩
theorem hasNoP_wrong (c m : Int) : HasNoP (.iface 91 (.agg #[.int .i64 c, .int .i64 m])) 13 :=
  ⟨⟨⟨_, _, rfl⟩, by decide, by decide, fun t w => is_wrong c m t w⟩, fun tv c0 c1 c2 w => asI_wrong c m tv c0 c1 c2 w⟩
end Go.Proofs.YtflfpghidkgmoaaDoor
