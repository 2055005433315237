/- The errors that the program makes: errors.Is and errors.As walked for api.Errno and nil; an error's number. No conditions. -/
import Derived.Test.YtflfpghidkgmoaaDoorProg
import Derived.WalkKit
import Derived.LaidEql
import Derived.Stop.Asserts
import Derived.RowKitTokens
import Derived.Lib.Hide
namespace Go.Proofs.YtflfpghidkgmoaaDoor
open Go.RowKit Go.Extern.Stop Go.Stop Go.Extern

theorem eqEE (n t : Int) (w : World) : (binOp .eql 29 (.iface 52 (.int .i64 n)) (.iface 52 (.int .i64 t))).run Tryd.prog w = .ok (.bool (n == t)) w := by kernel_rfl
theorem eqNN (w : World) : (binOp .eql 29 .nilIface .nilIface).run Tryd.prog w = .ok (.bool true) w := by kernel_rfl
theorem eqIN (t : Nat) (v : Value) (w : World) : (binOp .eql 29 (.iface t v) .nilIface).run Tryd.prog w = .ok (.bool false) w := by kernel_rfl
theorem neNN (w : World) : (binOp .neq 29 .nilIface .nilIface).run Tryd.prog w = .ok (.bool false) w := by kernel_rfl
theorem neIN (t : Nat) (v : Value) (w : World) : (binOp .neq 29 (.iface t v) .nilIface).run Tryd.prog w = .ok (.bool true) w := by kernel_rfl
theorem eqNE (n : Int) (w : World) : (binOp .eql 29 .nilIface (.iface 52 (.int .i64 n))).run Tryd.prog w = .ok (.bool false) w := by kernel_rfl
theorem tOE (n : Int) (w : World) : (Extern.ReflectliteType.typeOf #[.iface 52 (.int .i64 n)]).run Tryd.prog w = .ok (.iface 95 (.agg #[.pointer (some ⟨9, 52, none⟩)])) w := by kernel_rfl
theorem cOE (w : World) : ((Extern.ReflectliteType.method fun t => do Rtype.noPackHeld "Comparable" t; (fun a => Value.bool a.comparable) <$> typeInfo t) #[.agg #[.pointer (some ⟨9, 52, none⟩)]]).run Tryd.prog w = .ok (.bool true) w := by kernel_rfl
theorem mOE (v : Value) (w : World) : (Go.method 293 95 v "Comparable").run Tryd.prog w = .ok (146, v) w := by kernel_rfl
theorem noIsE (v : Value) (xT : TypeId) (w : World) : (Instr.typeAssert (.iface 52 v) xT 116 true).run Tryd.prog w = .ok (.tuple #[.nilIface, .bool false]) w := run_typeAssert_lacksB Tryd.underlying116 (by kernel_rfl) (by kernel_rfl) v xT w
theorem noUnwrapE (v : Value) (xT : TypeId) (w : World) : (Instr.typeAssert (.iface 52 v) xT 102 true).run Tryd.prog w = .ok (.tuple #[.nilIface, .bool false]) w := run_typeAssert_lacksB Tryd.underlying102 (by kernel_rfl) (by kernel_rfl) v xT w
theorem noUnwrapsE (v : Value) (xT : TypeId) (w : World) : (Instr.typeAssert (.iface 52 v) xT 104 true).run Tryd.prog w = .ok (.tuple #[.nilIface, .bool false]) w := run_typeAssert_lacksB Tryd.underlying104 (by kernel_rfl) (by kernel_rfl) v xT w

theorem is_nil (n : Int) (w : World) :
    Calls Tryd.prog 42 #[.nilIface, .iface 52 (.int .i64 n)] w fun e w' => e = .returned (.bool false) ∧ w' = w := by
  have hn := eqNE
  have hn2 := eqNN
  go_enter Tryd.func42, Tryd.ntmps42
  go_wp2
  go_ret
  exact ⟨rfl, rfl⟩

set_option maxRecDepth 100000 in
set_option maxHeartbeats 800000 in
theorem is_no (n t : Int) (w : World) :
    Calls Tryd.prog 42 #[.iface 52 (.int .i64 n), .iface 52 (.int .i64 t)] w fun e w' => e = .returned (.bool (n == t)) ∧ w' = w := by
  have h8 := @run_callFunc_extern Tryd.prog 61 _ Extern.ReflectliteType.typeOf Tryd.func61 (by kernel_rfl) (by kernel_rfl) (by kernel_rfl) (by kernel_rfl)
  have h32 := @run_callFunc_extern Tryd.prog 146 _ (Extern.ReflectliteType.method fun t => do Rtype.noPackHeld "Comparable" t; pure (.bool (← typeInfo t).comparable)) Tryd.func146 (by kernel_rfl) (by kernel_rfl) (by kernel_rfl) (by kernel_rfl)
  have tT := tOE
  have cT := cOE
  have mR := mOE
  have nE := noIsE
  have uE := noUnwrapE
  have vE := noUnwrapsE
  have e1 := eqEE
  have e2 := eqIN
  by_cases h : n = t
  · subst h
    go_enter Tryd.func42, Tryd.ntmps42
    go_wp2
    refine wp_loop_rounds 1 ?_
    rw [rounds_succ]
    go_wp2
    go_ret
    exact ⟨by simp, rfl⟩
  · have hb : (n == t) = false := by simpa using h
    clear h
    go_enter Tryd.func42, Tryd.ntmps42
    go_wp2
    refine wp_loop_rounds 1 ?_
    rw [rounds_succ]
    go_wp2
    go_ret
    exact ⟨by simp [hb], rfl⟩

/-- What an error value is good for: its number m (0: nil), told by errors.Is; errors.As finds no Fault in it. -/
structure HasNo (v : Value) (m : Int) : Prop where
  form : ∃ t x, v = .iface t x
  lo : 1 ≤ m
  hi : m ≤ 36
  is : ∀ t w, Calls Tryd.prog 42 #[v, .iface 52 (.int .i64 t)] w fun e w' => e = .returned (.bool (m == t)) ∧ Below w.heap.size w w'
def EV (v : Value) (m : Int) : Prop := (v = .nilIface ∧ m = 0) ∨ HasNo v m
theorem ev_nil : EV .nilIface 0 := .inl ⟨rfl, rfl⟩
theorem hasNo_no (m : Int) (h1 : 1 ≤ m) (h2 : m ≤ 36) : HasNo (.iface 52 (.int .i64 m)) m := ⟨⟨_, _, rfl⟩, h1, h2, fun t w => (is_no m t w).mono fun e w' ⟨he, hw⟩ => ⟨he, by rw [hw]; exact Below.refl _ _⟩⟩
theorem ev_no (m : Int) (h1 : 1 ≤ m) (h2 : m ≤ 36) : EV (.iface 52 (.int .i64 m)) m := .inr (hasNo_no m h1 h2)

/-- What Num has found behind k of the numbers. -/
def foundTo (m : Int) (k : Int) : Int := if m < k then m else 0
theorem num_nil (w : World) : Calls Tryd.prog 25 #[.nilIface] w fun e w' => e = .returned (.int .i64 0) ∧ w' = w := by
  have e2 := eqNN
  go_enter Tryd.func25, Tryd.ntmps25
  go_wp2
  go_ret
  exact ⟨rfl, rfl⟩

set_option maxHeartbeats 800000 in
theorem num_no {v : Value} {m : Int} (h : HasNo v m) (w : World) : Calls Tryd.prog 25 #[v] w fun e w' => e = .returned (.int .i64 m) ∧ Below w.heap.size w w' := by
  have e2 := eqIN
  obtain ⟨⟨t, x, rfl⟩, lo, hi, hIs0⟩ := h
  have hIs := Lib.hid hIs0
  clear hIs0
  have hm0 : (m == 0) = false := by simp; omega
  go_enter Tryd.func25, Tryd.ntmps25
  go_wp2
  go_loopw [3, 4] (fun f i wr => ∃ k : Nat, 1 ≤ k ∧ k ≤ 37 ∧ i = .int .i64 k ∧ f = .int .i64 (foundTo m k) ∧ Below w.heap.size w wr) (fun _ i _ => 37 - (intOf i).toNat)
  case atStart => exact ⟨1, by omega, by omega, rfl, by simp [foundTo]; omega, Below.refl _ _⟩
  case round =>
    obtain ⟨k, hk1, hk2, rfl, rfl, hB⟩ := hrel
    by_cases hlt : k ≤ 36
    · by_cases hmk : m = (k : Int)
      · have hf0 : foundTo m k = 0 := by simp [foundTo]; omega
        have hf1 : foundTo m ↑(k + 1) = ↑k := by simp [foundTo]; omega
        have F0 := Lib.hid hf0
        have F1 := Lib.hid hf1
        have hb : (m == (k : Int)) = true := by simpa using hmk
        have HB := Lib.hid hb
        clear hf0 hf1 hb hmk
        rw [F0.out]
        go_wp2_with (go_at_call 42; refine (hIs.out _ _).mono ?_; rintro e w1 ⟨rfl, hb1⟩; rw [HB.out])
        go_roundw
        case rel => exact ⟨k + 1, by omega, by omega, by go_num, by rw [F1.out], hB.trans (hb1.mono hB.size)⟩
        case measure => simp [intOf]; omega
      · have hf1 : foundTo m ↑(k + 1) = foundTo m k := by simp only [foundTo]; split <;> split <;> omega
        have F1 := Lib.hid hf1
        have hb : (m == (k : Int)) = false := by simpa using hmk
        have HB := Lib.hid hb
        clear hf1 hb hmk
        go_wp2_with (go_at_call 42; refine (hIs.out _ _).mono ?_; rintro e w1 ⟨rfl, hb1⟩; rw [HB.out])
        go_roundw
        case rel => exact ⟨k + 1, by omega, by omega, by go_num, by rw [F1.out], hB.trans (hb1.mono hB.size)⟩
        case measure => simp [intOf]; omega
    · have hk : k = 37 := by omega
      subst hk
      have hf1 : foundTo m ((37 : Nat) : Int) = m := by simp [foundTo]; omega
      rw [hf1]
      clear hf1
      go_wp2_with (go_at_call 42; refine (hIs.out _ _).mono ?_; rintro e w1 ⟨rfl, hb1⟩)
      go_ret
      exact ⟨rfl, hB.trans (hb1.mono hB.size)⟩
end Go.Proofs.YtflfpghidkgmoaaDoor
