/- Lemmas on which the law stands, part 3: As, DevK, Laid. -/
import Derived.Test.YtnmbkaccoaeijaaDoorKDK2
import Derived.Test.YtnmbkaccoaeijaaDoorCards
import Derived.WalkKit
import Derived.ProofKit
set_option linter.unusedVariables false
set_option linter.unusedSimpArgs false
/- errors.As at a *api.Fault, walked for nil and for an api.Errno: it finds none; flotillakit.Plain. Condition: errors.errorType reads as its text lays it. -/
namespace Go.Proofs.YtnmbkaccoaeijaaDoor
open Go.RowKit Go.Extern.Stop Go.Stop Go.Extern
theorem ret_bool {a b : Bool} (h : a = b) : Ending.returned (.bool a) = .returned (.bool b) := by rw [h]
theorem asValueOf (t : Addr) (w : World) : (ReflectliteValue.unpack (.iface 64 (.pointer (some t)))).run Tryd.prog w
    = .ok (.agg #[.pointer (some ⟨1, 64, none⟩), .pointer (some ⟨w.heap.size, 0, none⟩), .int .u64 150]) (w.alloc (.cells #[.pointer (some t)] 64)) := by kernel_rfl
theorem asType (a : Addr) (w : World) : (ReflectliteValue.methodAny (ReflectliteValue.valueError "reflectlite.Value.Type" 0) (fun t _ _ _ => ReflectliteType.toType t) #[.agg #[.pointer (some ⟨1, 64, none⟩), .pointer (some a), .int .u64 150]]).run Tryd.prog w
    = .ok (.iface 98 (.agg #[.pointer (some ⟨1, 64, none⟩)])) w := by kernel_rfl
theorem asMethodKind (h : Value) (w : World) : (Go.method 250 98 (.agg #[h]) "Kind").run Tryd.prog w = .ok (84, h) w := by kernel_rfl
theorem asKindP (w : World) : ((ReflectliteType.abiMethod fun t => (fun a : Nat => Value.int IntKind.u8 (a : Int)) <$> Rtype.kind t) #[.pointer (some ⟨1, 64, none⟩)]).run Tryd.prog w = .ok (.int .u8 22) w := by kernel_rfl
theorem asKindF (w : World) : ((ReflectliteType.abiMethod fun t => (fun a : Nat => Value.int IntKind.u8 (a : Int)) <$> Rtype.kind t) #[.pointer (some ⟨1, 61, none⟩)]).run Tryd.prog w = .ok (.int .u8 25) w := by kernel_rfl
theorem rlm (z : Sem Value) (f : TypeId → Addr → Nat → Nat → Sem Value) (v : Value) :
    ReflectliteValue.method z f #[v] = (do match ← ReflectliteValue.parts v with | none => z | some (t, a, fl) => f t a fl (fl % 32)) := rfl
theorem asParts (a : Addr) (w : World) : (ReflectliteValue.parts (.agg #[.pointer (some ⟨1, 64, none⟩), .pointer (some a), .int .u64 150])).run Tryd.prog w = .ok (some (64, a, 150)) w := by kernel_rfl
theorem asIsNil (a p : Addr) (W : World) (ha : W.cell? a = some (.pointer (some p))) :
    (ReflectliteValue.method (ReflectliteValue.valueError "reflectlite.Value.IsNil" 0) ReflectliteValue.isNil #[.agg #[.pointer (some ⟨1, 64, none⟩), .pointer (some a), .int .u64 150]]).run Tryd.prog W = .ok (.bool false) W := by
  rw [rlm]
  simp only [Sem.run_bind, asParts, Result.andThen]
  simp [ReflectliteValue.isNil, loadVar, isAgg, underlying, Tryd.underlying64, ha, Result.andThen]
theorem asMethodElem (h : Value) (w : World) : (Go.method 250 98 (.agg #[h]) "Elem").run Tryd.prog w = .ok (96, .agg #[h]) w := by kernel_rfl
theorem asMethodImplements (h : Value) (w : World) : (Go.method 250 98 (.agg #[h]) "Implements").run Tryd.prog w = .ok (97, .agg #[h]) w := by kernel_rfl
theorem asMethodAssignable (h : Value) (w : World) : (Go.method 250 98 (.agg #[h]) "AssignableTo").run Tryd.prog w = .ok (94, .agg #[h]) w := by kernel_rfl
theorem asElem (w : World) : (ReflectliteType.method ReflectliteType.elem #[.agg #[.pointer (some ⟨1, 64, none⟩)]]).run Tryd.prog w = .ok (.iface 98 (.agg #[.pointer (some ⟨1, 61, none⟩)])) w := by kernel_rfl
theorem asImplements (w : World) : (ReflectliteType.relation "Implements" ReflectliteType.implements_ #[.agg #[.pointer (some ⟨1, 61, none⟩)], .iface 98 (.agg #[.pointer (some ⟨1, 26, none⟩)])]).run Tryd.prog w = .ok (.bool true) w := by kernel_rfl
theorem asNotE (w : World) : (ReflectliteType.relation "AssignableTo" ReflectliteType.assignableTo #[.agg #[.pointer (some ⟨1, 45, none⟩)], .iface 98 (.agg #[.pointer (some ⟨1, 61, none⟩)])]).run Tryd.prog w = .ok (.bool false) w := by kernel_rfl
theorem noAsE (v : Value) (xT : TypeId) (w : World) : (Instr.typeAssert (.iface 45 v) xT 102 true).run Tryd.prog w = .ok (.tuple #[.nilIface, .bool false]) w := run_typeAssert_lacksB Tryd.underlying102 (by kernel_rfl) (by kernel_rfl) v xT w
theorem asI_no (n : Int) (tv : Value) (c0 c1 c2 : Value) (w : World) :
    Calls Tryd.prog 47 #[.iface 45 (.int .i64 n), tv, .agg #[c0, c1, c2], .iface 98 (.agg #[.pointer (some ⟨1, 61, none⟩)])] w fun e w' => e = .returned (.bool false) ∧ w' = w.alloc (.cells #[c0, c1, c2] 73) := by
  have h8 := @run_callFunc_extern Tryd.prog 59 _ Extern.ReflectliteType.typeOf Tryd.func59 (by kernel_rfl) (by kernel_rfl) (by kernel_rfl) (by kernel_rfl)
  have h35 := @run_callFunc_extern Tryd.prog 94 _ (ReflectliteType.relation "AssignableTo" ReflectliteType.assignableTo) Tryd.func94 (by kernel_rfl) (by kernel_rfl) (by kernel_rfl) (by kernel_rfl)
  have tT := tOE
  have mA := asMethodAssignable
  have nA := asNotE
  have n1 := noAsE
  have n2 := noUnwrapE
  have n3 := noUnwrapsE
  go_enter Tryd.func47, Tryd.ntmps47
  go_wp2
  refine wp_loop_rounds 1 ?_
  rw [rounds_succ]
  go_wp2
  go_ret
  exact ⟨rfl, rfl⟩
theorem as_of {v : Value} (hv : ∃ t x, v = .iface t x)
    (hI : ∀ tv c0 c1 c2 w, Calls Tryd.prog 47 #[v, tv, .agg #[c0, c1, c2], .iface 98 (.agg #[.pointer (some ⟨1, 61, none⟩)])] w fun e w' => e = .returned (.bool false) ∧ Below w.heap.size w w')
    (t : Addr) (w : World) (hg : w.cell? ⟨0, 0, none⟩ = some (.iface 98 (.agg #[.pointer (some ⟨1, 26, none⟩)]))) :
    Calls Tryd.prog 39 #[v, .iface 64 (.pointer (some t))] w fun e w' => e = .returned (.bool false) ∧ Below w.heap.size w w' := by
  obtain ⟨tt, x, rfl⟩ := hv
  have h6 := @run_callFunc_extern Tryd.prog 44 _ (fun args => ReflectliteValue.unpack (args.getD 0 (.tuple #[]))) Tryd.func44 (by kernel_rfl) (by kernel_rfl) (by kernel_rfl) (by kernel_rfl)
  have h7 := @run_callFunc_extern Tryd.prog 45 _ (ReflectliteValue.methodAny (ReflectliteValue.valueError "reflectlite.Value.Type" 0) (fun t _ _ _ => ReflectliteType.toType t)) Tryd.func45 (by kernel_rfl) (by kernel_rfl) (by kernel_rfl) (by kernel_rfl)
  have h8 := @run_callFunc_extern Tryd.prog 46 _ (ReflectliteValue.method (ReflectliteValue.valueError "reflectlite.Value.IsNil" 0) ReflectliteValue.isNil) Tryd.func46 (by kernel_rfl) (by kernel_rfl) (by kernel_rfl) (by kernel_rfl)
  have h27 := @run_callFunc_extern Tryd.prog 84 _ (ReflectliteType.abiMethod fun t => do pure (.int .u8 (← Rtype.kind t))) Tryd.func84 (by kernel_rfl) (by kernel_rfl) (by kernel_rfl) (by kernel_rfl)
  have h37 := @run_callFunc_extern Tryd.prog 96 _ (ReflectliteType.method ReflectliteType.elem) Tryd.func96 (by kernel_rfl) (by kernel_rfl) (by kernel_rfl) (by kernel_rfl)
  have h38 := @run_callFunc_extern Tryd.prog 97 _ (ReflectliteType.relation "Implements" ReflectliteType.implements_) Tryd.func97 (by kernel_rfl) (by kernel_rfl) (by kernel_rfl) (by kernel_rfl)
  have f6 := asValueOf
  have f7 := asType
  have mK := asMethodKind
  have mE := asMethodElem
  have mI := asMethodImplements
  have k1 := asKindP
  have k2 := asKindF
  have e1 := asElem
  have i1 := asImplements
  have eI := eqIN
  have n8 := asIsNil ⟨w.heap.size, 0, none⟩ t ((w.alloc (.cells #[.pointer (some t)] 64)).alloc (.cells #[.pointer (some ⟨1, 64, none⟩), .pointer (some ⟨w.heap.size, 0, none⟩), .int .u64 150] 73)) (by simp)
  have hlt : 0 < w.heap.size := by
    rcases Nat.lt_or_ge 0 w.heap.size with h | h
    · exact h
    · simp [World.cell?, Array.getElem?_eq_none h] at hg
  have hg2 : ((w.alloc (.cells #[.pointer (some t)] 64)).alloc (.cells #[.pointer (some ⟨1, 64, none⟩), .pointer (some ⟨w.heap.size, 0, none⟩), .int .u64 150] 73)).cell? ⟨0, 0, none⟩ = some (.iface 98 (.agg #[.pointer (some ⟨1, 26, none⟩)])) := by
    rw [World.cell?_alloc_lt _ _ ⟨0, 0, none⟩ (by first | (simp; done) | (simp; omega)), World.cell?_alloc_lt _ _ ⟨0, 0, none⟩ hlt]; exact hg
  have HI := Lib.hid hI
  clear hI
  go_enter Tryd.func39, Tryd.ntmps39
  go_wp2_with (go_at_call 47; refine (HI.out _ _ _ _ _).mono ?_; rintro e w' ⟨rfl, hb⟩)
  go_ret
  exact ⟨rfl, ((((Below.refl _ _).alloc (Nat.le_refl _) _).alloc (by simp) _).trans (hb.mono (by simp; omega)))⟩
def ETypeAt (w : World) : Prop := w.cell? ⟨0, 0, none⟩ = some (.iface 98 (.agg #[.pointer (some ⟨1, 26, none⟩)]))
theorem ETypeAt.lt {w : World} (h : ETypeAt w) : 0 < w.heap.size := by
  rcases Nat.lt_or_ge 0 w.heap.size with h1 | h1
  · exact h1
  · simp [ETypeAt, World.cell?, Array.getElem?_eq_none h1] at h
theorem ETypeAt.below {w w1 : World} (h : ETypeAt w) (hb : Below w.heap.size w w1) : ETypeAt w1 := by
  unfold ETypeAt
  rw [hb.cell (p := ⟨0, 0, none⟩) h.lt]
  exact h
theorem ETypeAt.alloc {w : World} (h : ETypeAt w) (o : Obj) : ETypeAt (w.alloc o) := h.below ((Below.refl _ _).alloc (Nat.le_refl _) o)
structure HasNoP (v : Value) (m : Int) : Prop where
  no : HasNo v m
  ras : ∀ tv c0 c1 c2 w, Calls Tryd.prog 47 #[v, tv, .agg #[c0, c1, c2], .iface 98 (.agg #[.pointer (some ⟨1, 61, none⟩)])] w fun e w' => e = .returned (.bool false) ∧ Below w.heap.size w w'
def EVP (v : Value) (m : Int) : Prop := (v = .nilIface ∧ m = 0) ∨ HasNoP v m
theorem hasNoP_no (m : Int) (h1 : 1 ≤ m) (h2 : m ≤ 36) : HasNoP (.iface 45 (.int .i64 m)) m :=
  ⟨hasNo_no m h1 h2, fun tv c0 c1 c2 w => (asI_no m tv c0 c1 c2 w).mono fun e w' ⟨he, hw⟩ => ⟨he, by rw [hw]; exact (Below.refl _ _).alloc (Nat.le_refl _) _⟩⟩
theorem plain_no {v : Value} {m : Int} (hv : HasNoP v m) (n : Int) (w : World) (hg : ETypeAt w) : Calls Tryd.prog 28 #[v, .int .i64 n] w fun e w' => e = .returned (.bool (m == n)) ∧ Below w.heap.size w w' := by
  have hn := Lib.hid hv.no
  have ha := Lib.hid hv.ras
  obtain ⟨t, x, rfl⟩ := hv.no.form
  clear hv
  have e2 := eqIN
  by_cases h : m = n
  · subst h
    go_enter Tryd.func28, Tryd.ntmps28
    go_wp2_with (first | (go_at_call 38; refine (num_no hn.out _).mono ?_; rintro e w1 ⟨rfl, hb1⟩) | (go_at_call 39; refine (as_of ⟨t, x, rfl⟩ ha.out _ _ ((hg.alloc _).below hb1)).mono ?_; rintro e w2 ⟨rfl, hb2⟩))
    go_ret
    exact ⟨ret_bool (by simp), (((Below.refl _ _).alloc (Nat.le_refl _) _).trans (hb1.mono (by simp))).trans (hb2.mono (by have := hb1.size; simp at this; omega))⟩
  · have hb : (m == n) = false := by simpa using h
    clear h
    go_enter Tryd.func28, Tryd.ntmps28
    go_wp2_with (go_at_call 38; refine (num_no hn.out _).mono ?_; rintro e w1 ⟨rfl, hb1⟩)
    go_ret
    exact ⟨ret_bool hb.symm, ((Below.refl _ _).alloc (Nat.le_refl _) _).trans (hb1.mono (by simp))⟩
end Go.Proofs.YtnmbkaccoaeijaaDoor

/- works: what one promise says of one call; hasF; Pick. -/
namespace Go.Proofs.YtnmbkaccoaeijaaDoor
open Go.RowKit Go.Proofs.YtnmbkaccoaeijaaDoorW.PrintWords Go.Proofs.YtnmbkaccoaeijaaDoorW.PrintLast
def txA : ByteArray := ⟨#[97]⟩
def wk1 : DevS := (appS DevS.new txA [1, 2]).2
def wk2 : DevS := (synS wk1 txA).2
theorem wk_facts : (appS DevS.new txA [1, 2]).1 = 0 ∧ (synS wk1 txA).1 = 0 ∧ wk2.ops = 2 ∧ readsS wk2 txA [1, 2] = true := ⟨by kernel_rfl, by kernel_rfl, by kernel_rfl, by kernel_rfl⟩
theorem wk1_fine : Fine wk1 := Fine.new.app txA [1, 2] (by decide)
theorem wk1_ops : wk1.ops = 1 := by kernel_rfl
theorem wk2_fine : Fine wk2 := wk1_fine.syn txA (by rw [wk1_ops]; decide)
set_option maxHeartbeats 4000000 in
set_option maxRecDepth 100000 in
theorem works_calls (w : World) : Calls Tryd.prog 5 #[] w fun e w' => e = .returned (.bool true) ∧ Below w.heap.size w w' := by
  have e1 := eqNN
  have e2 := eqIN
  have a1 : errV (appS DevS.new txA [1, 2]).1 = .nilIface := by rw [wk_facts.1]; rfl
  have a2 : errV (synS wk1 txA).1 = .nilIface := by rw [wk_facts.2.1]; rfl
  have HX := Lib.hid (And.intro a1 (And.intro a2 wk_facts.2.2))
  clear a1 a2
  go_enter Tryd.func5, Tryd.ntmps5
  go_wp2_with (first
    | (go_at_call 4; refine (new_at (w0 := w) (Below.refl _ _)).mono ?_; rintro e w1 ⟨d, rfl, h1⟩; have H1 := Lib.hid h1; clear h1)
    | (go_at_call 6; refine (append_lit txA [1, 2] H1.out Fine.new (by decide)).mono ?_; rintro e w2 ⟨rfl, h2⟩; rw [HX.out.1]; have H2 := Lib.hid h2; clear h2)
    | (go_at_call 7; refine (sync_at txA H2.out wk1_fine (by decide)).mono ?_; rintro e w3 ⟨rfl, h3⟩; rw [show errV (synS (appS DevS.new txA [1, 2]).2 txA).1 = .nilIface from HX.out.2.1]; have H3 := Lib.hid h3; clear h3)
    | (go_at_call 19; refine (ops_at H3.out).mono ?_; rintro e w4 ⟨rfl, h4⟩; rw [show (synS (appS DevS.new txA [1, 2]).2 txA).2.ops = 2 from HX.out.2.2.1]; have H4 := Lib.hid h4; clear h4)
    | (go_at_call 9; refine (reads_row txA (litV w4 [1, 2]) [1, 2] (H4.out.step (lit_bel w4 [1, 2])) wk2_fine (by decide) (by decide) (lit_row w4 [1, 2])).mono ?_; rintro e w5 ⟨rfl, h5⟩; rw [show readsS (synS (appS DevS.new txA [1, 2]).2 txA).2 txA [1, 2] = true from HX.out.2.2.2]; have H5 := Lib.hid h5; clear h5))
  go_ret
  exact ⟨by trivial, H5.out.bel⟩
def pickS (n k : Int) : Int := if wrap64 (n % k) < 0 then n % k + k else n % k
end Go.Proofs.YtnmbkaccoaeijaaDoor

/- A start for the witness: the settled world, some variables' cells laid as the row says. -/
namespace Go.Proofs.YtnmbkaccoaeijaaDoor
def flat1 : DataW Unit → List Value
  | .lit (.int k n) => [.int k n]
  | _ => []
def flat2 : DataW Unit → List Value
  | .agg l => l.flatMap fun
    | .agg m => m.flatMap flat1
    | x => flat1 x
  | x => flat1 x
def handleCell (h t : Nat) : List Value := [.iface h (.agg #[.pointer (some ⟨1, t, none⟩)])]
def layAt (heap : Array Obj) (x : Nat × List Value) : Array Obj := heap.modify x.1 fun
  | .cells _ t frozen => .cells x.2.toArray t frozen
  | o => o
noncomputable def laidWith (l : List (Nat × List Value)) (os : Os) : World :=
  { World.holding Tryd.prog os ⟨#[], #[], []⟩ with heap := l.foldl layAt (World.holding Tryd.prog os ⟨#[], #[], []⟩).heap }
end Go.Proofs.YtnmbkaccoaeijaaDoor
