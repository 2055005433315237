/- Small laws for regions whose calls and allocations may come up in several orders. -/
import Derived.Test.YtgeegimiendcdaaDoorWTab
import Derived.Test.YtgeegimiendcdaaDoorWFour
import Derived.Test.YtgeegimiendcdaaDoorWWords
import Derived.Test.YtgeegimiendcdaaDoorWLast
import Derived.Laws.Rows
import Derived.Laws.CopyOwn
import Derived.Lib.SmallJoins
namespace Go.Proofs.YtgeegimiendcdaaDoor
set_option linter.unusedVariables false
open Go.RowKit Go.Proofs.YtgeegimiendcdaaDoorW.PrintWords Go.Proofs.YtgeegimiendcdaaDoorW.PrintLast
theorem blkLt {W : World} {g : Nat} {o : Obj} (h : W.heap[g]? = some o) : g < W.heap.size := by
  rcases Nat.lt_or_ge g W.heap.size with h1 | h1
  · exact h1
  · rw [Array.getElem?_eq_none h1] at h
    cases h
theorem blkB {W w1 : World} (hb : Below W.heap.size W w1) {g : Nat} {o : Obj} (h : W.heap[g]? = some o) : w1.heap[g]? = some o := (hb.block g (blkLt h)).trans h
theorem belT {w W w1 : World} (h : Below w.heap.size w W) (h1 : Below W.heap.size W w1) : Below w.heap.size w w1 := h.trans (h1.mono h.size)
section
variable {P : Program} {ops : Array Oper} {Q : Exit → Act → World → Prop}
/-- An allocation: the block and the world behind it are whatever; three facts are told. -/
theorem allocs_ {oi : Oper} {N : Option Tmp} {a : Act} {w : World} {z : Array Value} {t : TypeId} {K : Act → World → Prop} (hw : Region.wanted oi (yielded ops a.tmps) = true) (hN : oi.dst = N)
    (hrun : (execOp a.eval oi).run P w = .ok (.value (.pointer (some ⟨w.heap.size, 0, none⟩))) (w.alloc (.cells z t (0, 0))))
    (h : ∀ g w1, g = w.heap.size → w1.heap[g]? = some (.cells z t (0, 0)) → Below w.heap.size w w1 → K (a.put N (.pointer (some ⟨g, 0, none⟩))) w1) :
    if Region.wanted oi (yielded ops a.tmps) = true then Oper.wp P oi a w K Q else K (a.put N undef) w :=
  value_ hw hN hrun (h _ _ rfl (heap_alloc_new w _) (Go.Joins.below_alloc1 w _))
/-- A store of a whole struct, or array, into a block of its own. -/
theorem stores_ {oi : Oper} {a : Act} {w : World} {ty : TypeId} {x y : Operand} {g : Nat} {t : TypeId} {old cs : Array Value} {K : Act → World → Prop} (hw : Region.wanted oi (yielded ops a.tmps) = true) (hN : oi.dst = none) (ho : oi.op = .store ty x y)
    (hx : a.eval x = .pointer (some ⟨g, 0, none⟩)) (hy : a.eval y = .agg cs) (hg : w.heap[g]? = some (.cells old t (0, 0))) (hi : (P.info? ty).map (·.size) = some cs.size) (hs : old.size = cs.size) (h1 : cs.all (·.oneCell') = true)
    (h : ∀ w1, w1.heap[g]? = some (.cells cs t (0, 0)) → (∀ k o, k ≠ g → w.heap[k]? = some o → w1.heap[k]? = some o) → (∀ B w0, Below B w0 w → B ≤ g → Below B w0 w1) → K a w1) :
    if Region.wanted oi (yielded ops a.tmps) = true then Oper.wp P oi a w K Q else K (a.put none undef) w :=
  skip_ hw hN (w1 := w.setRow g cs) (by
    unfold execOp
    simp [ho, hx, hy, Instr.storeAt, Instr.sureAddr, run_storeVar_row w g t ty old cs hg hi hs h1])
    (h _ (setRow_heap w g old cs t _ hg) (fun k o hk hh => (setRow_other w g k cs hk).trans hh) (fun B w0 hb hB => below_setRow hb hB cs))
/-- A whole struct, or array, read by value. -/
theorem load_row {oi : Oper} {a : Act} {W : World} {ty : TypeId} {x : Operand} {g : Nat} {t : TypeId} {cs : Array Value} {fr : Nat × Nat} {d : TypeDesc} (ho : oi.op = .load ty x) (hx : a.eval x = .pointer (some ⟨g, 0, none⟩))
    (hg : W.heap[g]? = some (.cells cs t fr)) (hu : P.underlying ty = some d) (hd : (match d with | .struct _ | .array _ _ => true | _ => false) = true) (hi : (P.info? ty).map (·.size) = some cs.size) :
    (execOp a.eval oi).run P W = .ok (.value (.agg cs)) W := by
  unfold execOp
  simp [ho, hx, Instr.loadAt, Instr.sureAddr, run_loadVar_row W g t ty cs fr d hg hu hd hi]
end
end Go.Proofs.YtgeegimiendcdaaDoor
