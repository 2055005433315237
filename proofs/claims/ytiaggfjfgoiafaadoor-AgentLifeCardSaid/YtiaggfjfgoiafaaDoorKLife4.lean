/- Lemmas on which the law stands, part 4: Step, Obj, Reg, ObjW, Clone, Same, SameO, Lent, Blk, Wc, Srt, Ins, Less, Pod, VOrd, Swp, Sym, SymL, Mrg, SymP, SymM, Stb, Ord. -/
import Derived.Test.YtiaggfjfgoiafaaDoorKLife1
import Derived.Test.YtiaggfjfgoiafaaDoorKLife2
import Derived.Laws.Rows
import Derived.Laws.CopyOwn
import Derived.Lib.SmallJoins
import Derived.Laws.Tables
import Derived.Great.BuildSlice
import Derived.WalkSpells
import Derived.Lib.Hide
import Derived.Deep.MidRow
import Derived.Deep.Upon
import Derived.Lib.Strings
import Derived.Test.YtiaggfjfgoiafaaDoorKLife3
import Derived.ChangeKeysEq
import Derived.Deep.WholeRow
set_option linter.unusedVariables false
set_option linter.unusedSimpArgs false
/- The steps of a drawn region, in few words: what has come up is a number's bits. -/
namespace Go.Proofs.YtiaggfjfgoiafaaDoor
open Go.RowKit Go.Proofs.YtiaggfjfgoiafaaDoorW.PrintWords Go.Proofs.YtiaggfjfgoiafaaDoorW.PrintLast
def bs (n m : Nat) : Array Bool := ((List.range n).map m.testBit).toArray
theorem sA {α : Type} {xs : List α} {i : Nat} {a : α} : xs.toArray.setIfInBounds i a = (xs.set i a).toArray := List.setIfInBounds_toArray _ _ _
theorem sB {α : Type} {x a : α} {xs : List α} : (x :: xs).set 0 a = a :: xs := List.set_cons_zero
theorem sC {α : Type} {x a : α} {xs : List α} {i : Nat} : (x :: xs).set (i + 1) a = x :: xs.set i a := List.set_cons_succ
section
variable {P : Program} {md : Region.Mode} {ops : Array Oper} {ds : List Nat} {Q : Exit → Act → World → Prop} {S : World → Prop} {T : Bool × List (List Nat × List Nat)} {B : List Nat} {oi : Oper} {fuel : Nat} {l : Array Bool} {a : Act} {w : World}
theorem pu (i : Nat) (N : Option Tmp) (l' : Array Bool) (hT : Aside0 (rtab md ops = T)) (hi : ops[i]? = some oi) (hN : oi.dst = N) (hk : anyT T l.toList l'.toList i = true) (hQ : ∀ v c a w, Q (.panic c) (a.put oi.dst v) w → Q (.panic c) a w)
    (h : ∃ v, Yields P ops oi v a ∧ ∃ a', a.put N v = a' ∧ wpAnyLast P md ops Q S ds fuel l' a' w) : wpAnyLast P md ops Q S ds (fuel + 1) l a w := by
  obtain ⟨v, hy, a', ha, h⟩ := h
  exact pure_ l' hi hN (any_of hT.out hk) (hQ v) hy ha h
theorem tk (i : Nat) (N : Option Tmp) (l' : Array Bool) (hT : Aside0 (rtab md ops = T)) (hB : Aside0 (waitsOk T.2 B = true)) (hi : ops[i]? = some oi) (hN : oi.dst = N) (hk : takeW T B ds l.toList l'.toList i = true) (hQ : ∀ v c a w, Q (.panic c) (a.put oi.dst v) w → Q (.panic c) a w) (hS : S w)
    (h : ∃ v, YieldsIf P ops S oi v a ∧ ∃ a', a.put N v = a' ∧ wpAnyLast P md ops Q S ds fuel l' a' w) : wpAnyLast P md ops Q S ds (fuel + 1) l a w := by
  obtain ⟨v, hy, a', ha, h⟩ := h
  exact take_ l' hi hN (take_ofW hT.out hB.out hk) (hQ v) hy hS ha h
theorem on1 (i : Nat) (N : Option Tmp) (l' : Array Bool) (hT : Aside0 (rtab md ops = T)) (hi : ops[i]? = some oi) (hN : oi.dst = N) (hk : (readyT T.2 l.toList == [i] && l.toList.set i true == l'.toList) = true) (hd : i ∉ ds)
    (h : ∀ K : Act → World → Prop, Shut (∀ a' w', S w' → (S w' → wpAnyLast P md ops Q S ds fuel l' a' w') → K a' w') → if Region.wanted oi (yielded ops a.tmps) = true then Oper.wp P oi a w K Q else K (a.put N undef) w) :
    wpAnyLast P md ops Q S ds (fuel + 1) l a w := one_ l' hi hN (one_of hT.out hk) hd h
theorem la1 (i : Nat) (N : Option Tmp) (l' : Array Bool) (hT : Aside0 (rtab md ops = T)) (hi : ops[i]? = some oi) (hN : oi.dst = N) (hk : (readyT T.2 l.toList == [i] && l.toList.set i true == l'.toList) = true) (hd : i ∈ ds)
    (h : ∀ K : Act → World → Prop, Shut (∀ a' w', wpAnyLast P md ops Q S ds fuel l' a' w' → K a' w') → if Region.wanted oi (yielded ops a.tmps) = true then Oper.wp P oi a w K Q else K (a.put N undef) w) :
    wpAnyLast P md ops Q S ds (fuel + 1) l a w := last_ l' hi hN (one_of hT.out hk) hd h
theorem nm (h : ∃ a', a = a' ∧ wpAnyLast P md ops Q S ds fuel l a' w) : wpAnyLast P md ops Q S ds fuel l a w := by
  obtain ⟨a', ha, h⟩ := h
  exact norm_ ha h
end
end Go.Proofs.YtiaggfjfgoiafaaDoor

/- Objects in memory: their cells, read and made. -/
namespace Go.Proofs.YtiaggfjfgoiafaaDoor
open Go.RowKit Go.Proofs.YtiaggfjfgoiafaaDoorW.PrintWords Go.Proofs.YtiaggfjfgoiafaaDoorW.PrintLast
abbrev Lab := QLb.S56
abbrev kL : Kd Lab := QLb.k56
structure Ob where
  kind : Int
  name : ByteArray
  version : Int
  born : Int
  labels : List Lab
  roomC : Int
  roomM : Int
  cordoned : Bool
  draining : Bool
  lost : Bool
  beat : Int
  deploy : ByteArray
  sset : ByteArray
  node : ByteArray
  phase : Int
  ready : Bool
  ending : Bool
  needC : Int
  needM : Int
  image : ByteArray
  rise : Int
  fall : Int
  count : Int
  surge : Int
  slack : Int
  paused : Bool
  hash : Int
  select : List Lab
  least : Int
  holder : ByteArray
  term : Int
  till : Int
def Ob.cells (o : Ob) (v4 v27 : Value) : Array Value := #[.int .i64 o.kind, .string o.name, .int .i64 o.version, .int .i64 o.born, v4, .int .i64 o.roomC, .int .i64 o.roomM, .bool o.cordoned, .bool o.draining, .bool o.lost, .int .i64 o.beat, .string o.deploy, .string o.sset, .string o.node, .int .i64 o.phase, .bool o.ready, .bool o.ending, .int .i64 o.needC, .int .i64 o.needM, .string o.image, .int .i64 o.rise, .int .i64 o.fall, .int .i64 o.count, .int .i64 o.surge, .int .i64 o.slack, .bool o.paused, .int .u64 o.hash, v27, .int .i64 o.least, .string o.holder, .int .i64 o.term, .int .i64 o.till]
def Ob.zero : Ob := ⟨0, ⟨#[]⟩, 0, 0, [], 0, 0, false, false, false, 0, ⟨#[]⟩, ⟨#[]⟩, ⟨#[]⟩, 0, false, false, 0, 0, ⟨#[]⟩, 0, 0, 0, 0, 0, false, 0, [], 0, ⟨#[]⟩, 0, 0⟩
theorem Ob.cells_size (o : Ob) (v4 v27 : Value) : (o.cells v4 v27).size = 32 := rfl
def LabK (w : World) (l : List Lab) (v : Value) : Prop := ∃ A c, v = .slice A l.length c ∧ l.length ≤ c ∧ kL.C w A l.length l
theorem LabK.below {w w1 : World} {l : List Lab} {v : Value} (h : LabK w l v) (hb : Below w.heap.size w w1) : LabK w1 l v := by
  obtain ⟨A, c, rfl, hl, hr⟩ := h
  exact ⟨A, c, rfl, hl, Kd.C_below hr hb⟩
theorem LabK.one {w : World} {l : List Lab} {v : Value} (h : LabK w l v) : v.oneCell' = true := by
  obtain ⟨A, c, rfl, hl, hr⟩ := h
  rfl
theorem LabK.of_R {w : World} {e base : Nat} {ok : Nat → Prop} {l : List Lab} {v : Value} (h : kL.R e w base ok v l) : LabK w l v := by
  obtain ⟨A, c, rfl, hl, hr⟩ := Kd.R_reads h
  exact ⟨A, c, rfl, hl, hr⟩
theorem Ob.cells_one (o : Ob) {v4 v27 : Value} (h4 : v4.oneCell' = true) (h27 : v27.oneCell' = true) : (o.cells v4 v27).all (·.oneCell') = true := by
  unfold Ob.cells
  simp [Value.oneCell'] at h4 h27 ⊢
  exact ⟨h4, h27⟩
def kO : Kd Ob where
  sz := 32
  E := [56]
  K := fun w o cs => ∃ v4 v27, cs = (o.cells v4 v27).toList ∧ LabK w o.labels v4 ∧ LabK w o.select v27
  M := fun w base ok o cs => ∃ v4 v27, cs = (o.cells v4 v27).toList ∧ kL.R 56 w base (fun k => ok k ∧ some k ≠ v27.ownBlock) v4 o.labels ∧ kL.R 56 w base (fun k => ok k ∧ some k ≠ v4.ownBlock) v27 o.select
  K_len := by
    rintro w x cs ⟨v4, v27, rfl, _⟩
    rfl
  K_one := by
    rintro w x cs ⟨v4, v27, rfl, h4, h27⟩ u hu
    exact (Array.all_eq_true_iff_forall_mem.1 (x.cells_one h4.one h27.one)) u (by simpa using hu)
  K_below := by
    rintro w w1 x cs hb ⟨v4, v27, rfl, h4, h27⟩
    exact ⟨v4, v27, rfl, h4.below hb, h27.below hb⟩
  K_of_M := by
    rintro w base ok x cs ⟨v4, v27, rfl, h4, h27⟩
    exact ⟨v4, v27, rfl, LabK.of_R h4, LabK.of_R h27⟩
  M_mono := by
    rintro w base ok ok' x cs hok ⟨v4, v27, rfl, h4, h27⟩
    exact ⟨v4, v27, rfl, Kd.R_mono h4 (fun k hk => ⟨hok k hk.1, hk.2⟩), Kd.R_mono h27 (fun k hk => ⟨hok k hk.1, hk.2⟩)⟩
  M_bound := by
    rintro w base ok x cs ⟨v4, v27, rfl, h4, h27⟩
    exact ⟨v4, v27, rfl, Kd.R_mono (Kd.R_bound h4) (fun k hk => ⟨⟨hk.1.1, hk.2⟩, hk.1.2⟩), Kd.R_mono (Kd.R_bound h27) (fun k hk => ⟨⟨hk.1.1, hk.2⟩, hk.1.2⟩)⟩
  M_move := by
    rintro w w1 base ok x cs hm ⟨v4, v27, rfl, h4, h27⟩
    exact ⟨v4, v27, rfl, Kd.R_move h4 (fun k hk => hm k hk.1), Kd.R_move h27 (fun k hk => hm k hk.1)⟩
  M_lower := by
    rintro w base base' ok x cs hb ⟨v4, v27, rfl, h4, h27⟩
    exact ⟨v4, v27, rfl, Kd.R_lower h4 hb, Kd.R_lower h27 hb⟩
theorem obj_at {w : World} {A : Option Addr} {n : Nat} {l : List Ob} (h : kO.C w A n l) (i : Nat) (o : Ob) (hi : l[i]? = some o) :
    ∃ ad v4 v27, A = some ad ∧ LabK w o.labels v4 ∧ LabK w o.select v27 ∧ ∀ j u, (o.cells v4 v27)[j]? = some u → w.cell? (ad.add (i * 32 + j)) = some u := by
  have hl := (List.getElem?_eq_some_iff.1 hi).1
  obtain ⟨ad, e, hc⟩ := h.2.2 (by have := h.1; omega)
  obtain ⟨c, hs, ⟨v4, v27, rfl, h4, h27⟩, hcell⟩ := hc i o hi
  exact ⟨ad, v4, v27, e, h4, h27, fun j u hu => hcell j u (by simpa using hu)⟩
end Go.Proofs.YtiaggfjfgoiafaaDoor

/- Small laws for regions whose calls and allocations may come up in several orders. -/
namespace Go.Proofs.YtiaggfjfgoiafaaDoor
open Go.RowKit Go.Proofs.YtiaggfjfgoiafaaDoorW.PrintWords Go.Proofs.YtiaggfjfgoiafaaDoorW.PrintLast
theorem blkLt {W : World} {g : Nat} {o : Obj} (h : W.heap[g]? = some o) : g < W.heap.size := by
  rcases Nat.lt_or_ge g W.heap.size with h1 | h1
  · exact h1
  · rw [Array.getElem?_eq_none h1] at h
    cases h
theorem blkB {W w1 : World} (hb : Below W.heap.size W w1) {g : Nat} {o : Obj} (h : W.heap[g]? = some o) : w1.heap[g]? = some o := (hb.block g (blkLt h)).trans h
theorem belT {w W w1 : World} (h : Below w.heap.size w W) (h1 : Below W.heap.size W w1) : Below w.heap.size w w1 := h.trans (h1.mono h.size)
section
variable {P : Program} {ops : Array Oper} {Q : Exit → Act → World → Prop}
theorem goesv_ {oi : Oper} {N : Option Tmp} {a : Act} {w : World} {K : Act → World → Prop} {f : FuncId} {fn : Func} {x : Operand} {as_ : Array Operand} {ts : Array TypeId} (hf : P.funcs[f]? = some fn) (hname : (fn.name == "runtime.NumGoroutine") = false) (hb : fn.body.isSome = true) (args : Array Value)
    (hw : Region.wanted oi (yielded ops a.tmps) = true) (hN : oi.dst = N) (hop : oi.op = .call { callee := .value x, args := as_, argTypes := ts }) (hx : a.eval x = .func (.func f) #[] #[]) (hargs : as_.map a.eval = args)
    (h : Calls P f args w fun e w' => ∃ v, e = .returned v ∧ K (a.put N v) w') : if Region.wanted oi (yielded ops a.tmps) = true then Oper.wp P oi a w K Q else K (a.put N undef) w := by
  refine call_ f args hw hN ?_ h
  have he := enters_ hf hname hb args w
  unfold execOp
  simp [hop, resolve, Deferred.ofValue, invoke, hx, hargs, he]
theorem load_row {oi : Oper} {a : Act} {W : World} {ty : TypeId} {x : Operand} {g : Nat} {t : TypeId} {cs : Array Value} {fr : Nat × Nat} {d : TypeDesc} (ho : oi.op = .load ty x) (hx : a.eval x = .pointer (some ⟨g, 0, none⟩))
    (hg : W.heap[g]? = some (.cells cs t fr)) (hu : P.underlying ty = some d) (hd : (match d with | .struct _ | .array _ _ => true | _ => false) = true) (hi : (P.info? ty).map (·.size) = some cs.size) :
    (execOp a.eval oi).run P W = .ok (.value (.agg cs)) W := by
  unfold execOp
  simp [ho, hx, Instr.loadAt, Instr.sureAddr, run_loadVar_row W g t ty cs fr d hg hu hd hi]
end
end Go.Proofs.YtiaggfjfgoiafaaDoor

/- Whole objects, loaded from anywhere, stored into a block of their own; one cell of such a block stored. -/
namespace Go.Proofs.YtiaggfjfgoiafaaDoor
open Go.RowKit Go.Proofs.YtiaggfjfgoiafaaDoorW.PrintWords Go.Proofs.YtiaggfjfgoiafaaDoorW.PrintLast
section
variable {P : Program}
theorem run_load_any (w : World) (p : Addr) (ty : TypeId) (cs : Array Value) (d : TypeDesc) (hc : ∀ (j : Nat) (u : Value), cs[j]? = some u → w.cell? (p.add j) = some u) (hu : P.underlying ty = some d) (hd : d.isRow = true) (hi : (P.info? ty).map (·.size) = some cs.size) :
    (loadVar ty p).run P w = .ok (.agg cs) w := by
  have hl : (loadCells p cs.toList.length).run P w = .ok cs.toList.toArray w := run_loadCells_list (P := P) w p cs.toList (fun j v hv => hc j v (by simpa using hv))
  rw [Array.length_toList, Array.toArray_toList] at hl
  cases hq : P.info? ty with
  | none => simp [hq] at hi
  | some i =>
    have hs : i.size = cs.size := by simpa [hq] using hi
    have hagg : (isAgg ty).run P w = .ok true w := by
      unfold isAgg
      rw [Sem.run_bind, run_underlying hu w]
      cases d <;> simp_all
    simp [loadVar, Sem.run_bind, hagg, sizeOf, typeInfo, hq, hs, hl]
theorem wpList_load_any {ops : Array Oper} {rest : List Oper} {op : Oper} {a : Act} {w : World} {Q : Exit → Act → World → Prop} (hgd : op.guard = none) (ty : TypeId) (x : Operand) (ho : op.op = .load ty x) (p : Addr) (hx : a.eval x = .pointer (some p)) (cs : Array Value) (d : TypeDesc)
    (hc : ∀ (j : Nat) (u : Value), cs[j]? = some u → w.cell? (p.add j) = some u) (hu : P.underlying ty = some d) (hd : d.isRow = true) (hi : (P.info? ty).map (·.size) = some cs.size) (h : wpList P ops Q rest (a.put op.dst (.agg cs)) w) : wpList P ops Q (op :: rest) a w :=
  wpList_plain hgd fun _ hK => by
    unfold Oper.wp execOp
    simp only [ho, hx, Instr.loadAt, Instr.sureAddr, Sem.run_bind, Sem.run_pure, Result.andThen_ok, run_load_any w p ty cs d hc hu hd hi]
    exact hK _ _ h
theorem load_any_ {oi : Oper} {a : Act} {W : World} {ty : TypeId} {x : Operand} {p : Addr} {cs : Array Value} {d : TypeDesc} (ho : oi.op = .load ty x) (hx : a.eval x = .pointer (some p))
    (hc : ∀ (j : Nat) (u : Value), cs[j]? = some u → W.cell? (p.add j) = some u) (hu : P.underlying ty = some d) (hd : d.isRow = true) (hi : (P.info? ty).map (·.size) = some cs.size) :
    (execOp a.eval oi).run P W = .ok (.value (.agg cs)) W := by
  unfold execOp
  simp [ho, hx, Instr.loadAt, Instr.sureAddr, run_load_any W p ty cs d hc hu hd hi]
theorem wpList_load_blk {ops : Array Oper} {rest : List Oper} {op : Oper} {a : Act} {w : World} {Q : Exit → Act → World → Prop} (hgd : op.guard = none) (ty : TypeId) (x : Operand) (ho : op.op = .load ty x) (g : Nat) (t : TypeId) (hx : a.eval x = .pointer (some ⟨g, 0, none⟩)) (cs : Array Value) (d : TypeDesc)
    (hg : w.heap[g]? = some (.cells cs t (0, 0))) (hu : P.underlying ty = some d) (hd : d.isRow = true) (hi : (P.info? ty).map (·.size) = some cs.size) (h : wpList P ops Q rest (a.put op.dst (.agg cs)) w) : wpList P ops Q (op :: rest) a w :=
  wpList_load_any hgd ty x ho ⟨g, 0, none⟩ hx cs d (fun j u hu => by rw [add_at, Nat.zero_add, cell_of_row w g j cs t _ hg]; exact hu) hu hd hi h
def Stopped (p : Prop) : Prop := p
theorem Stopped.go {p : Prop} (h : p) : Stopped p := h
theorem wpList_want {ops : Array Oper} {rest : List Oper} {op : Oper} {a : Act} {w : World} {Q : Exit → Act → World → Prop} (hw : Region.wanted op (yielded ops a.tmps) = true) (h : ∀ K : Act → World → Prop, (∀ a w, wpList P ops Q rest a w → K a w) → op.wp P a w K Q) : wpList P ops Q (op :: rest) a w :=
  wpList_step fun K hK => by rw [if_pos hw]; exact h K hK
theorem wpList_load_any_w {ops : Array Oper} {rest : List Oper} {op : Oper} {a : Act} {w : World} {Q : Exit → Act → World → Prop} (hgd : Region.wanted op (yielded ops a.tmps) = true) (ty : TypeId) (x : Operand) (ho : op.op = .load ty x) (p : Addr) (hx : a.eval x = .pointer (some p)) (cs : Array Value) (d : TypeDesc)
    (hc : ∀ (j : Nat) (u : Value), cs[j]? = some u → w.cell? (p.add j) = some u) (hu : P.underlying ty = some d) (hd : d.isRow = true) (hi : (P.info? ty).map (·.size) = some cs.size) (h : wpList P ops Q rest (a.put op.dst (.agg cs)) w) : wpList P ops Q (op :: rest) a w :=
  wpList_want hgd fun _ hK => by
    unfold Oper.wp execOp
    simp only [ho, hx, Instr.loadAt, Instr.sureAddr, Sem.run_bind, Sem.run_pure, Result.andThen_ok, run_load_any w p ty cs d hc hu hd hi]
    exact hK _ _ h
theorem wpList_load_blk_w {ops : Array Oper} {rest : List Oper} {op : Oper} {a : Act} {w : World} {Q : Exit → Act → World → Prop} (ty : TypeId) (x : Operand) (ho : op.op = .load ty x) (g : Nat) (t : TypeId) (hgd : Region.wanted op (yielded ops a.tmps) = true) (hx : a.eval x = .pointer (some ⟨g, 0, none⟩)) (cs : Array Value) (d : TypeDesc)
    (hg : w.heap[g]? = some (.cells cs t (0, 0))) (hu : P.underlying ty = some d) (hd : d.isRow = true) (hi : (P.info? ty).map (·.size) = some cs.size) (h : wpList P ops Q rest (a.put op.dst (.agg cs)) w) : wpList P ops Q (op :: rest) a w :=
  wpList_load_any_w hgd ty x ho ⟨g, 0, none⟩ hx cs d (fun j u hu => by rw [add_at, Nat.zero_add, cell_of_row w g j cs t _ hg]; exact hu) hu hd hi h
theorem wpList_load1_w {ops : Array Oper} {rest : List Oper} {op : Oper} {a : Act} {w : World} {Q : Exit → Act → World → Prop} (ty : TypeId) (x : Operand) (ho : op.op = .load ty x) (p : Addr) (hgd : Region.wanted op (yielded ops a.tmps) = true) (hx : a.eval x = .pointer (some p)) (u : Value) (d : TypeDesc)
    (hc : w.cell? p = some u) (hu : P.underlying ty = some d) (hd : d.isRow = false) (h : wpList P ops Q rest (a.put op.dst u) w) : wpList P ops Q (op :: rest) a w :=
  wpList_want hgd fun _ hK => by
    have hagg : (isAgg ty).run P w = .ok false w := by
      unfold isAgg
      rw [Sem.run_bind, run_underlying hu w]
      cases d <;> simp_all [TypeDesc.isRow]
    have hl : (loadVar ty p).run P w = .ok u w := by
      simp [loadVar, Sem.run_bind, hagg, run_load, hc]
    unfold Oper.wp execOp
    simp only [ho, hx, Instr.loadAt, Instr.sureAddr, Sem.run_bind, Sem.run_pure, Result.andThen_ok, hl]
    exact hK _ _ h
theorem wpList_store_blk {ops : Array Oper} {rest : List Oper} {op : Oper} {a : Act} {w : World} {Q : Exit → Act → World → Prop} (hgd : op.guard = none) (ty : TypeId) (x y : Operand) (ho : op.op = .store ty x y) (g : Nat) (t : TypeId) (old cs : Array Value)
    (hx : a.eval x = .pointer (some ⟨g, 0, none⟩)) (hy : a.eval y = .agg cs) (hg : w.heap[g]? = some (.cells old t (0, 0))) (hi : (P.info? ty).map (·.size) = some cs.size) (hs : old.size = cs.size) (h1 : cs.all (·.oneCell') = true)
    (h : ∀ w1 : World, w1.heap[g]? = some (.cells cs t (0, 0)) → (∀ k, k ≠ g → w1.heap[k]? = w.heap[k]?) → (∀ B w0, Below B w0 w → B ≤ g → Below B w0 w1) → w1.heap.size = w.heap.size → wpList P ops Q rest (a.put op.dst undef) w1) : wpList P ops Q (op :: rest) a w :=
  wpList_plain hgd fun _ hK => by
    unfold Oper.wp execOp
    simp only [ho, hx, hy, Instr.storeAt, Instr.sureAddr, Sem.run_bind, Sem.run_pure, Result.andThen_ok, run_storeVar_row w g t ty old cs hg hi hs h1]
    exact hK _ _ (h _ (setRow_heap w g old cs t _ hg) (fun k hk => setRow_other w g k cs hk) (fun B w0 hb hB => below_setRow hb hB cs) (by simp))
theorem wpList_build1 {ops : Array Oper} {rest : List Oper} {op : Oper} {a : Act} {w : World} {Q : Exit → Act → World → Prop} (hgd : op.guard = none) (t e : TypeId) (x : Operand) (ho : op.op = .buildSlice t 1 #[(0, x)]) (cs : Array Value) (hx : a.eval x = .agg cs)
    (z : Value) (n bytes : Nat) (hu : P.underlying t = some (.slice e)) (hinfo : (P.info? e).map (fun i => (i.zero, i.size, i.bytes)) = some (some z, n, bytes)) (hs : cs.size = n) (h0 : 0 < n) (hn : n ≤ 1000) (hz : z.cells.size = n)
    (h : wpList P ops Q rest (a.put op.dst (.slice (some ⟨w.heap.size, 0, none⟩) 1 1)) (w.alloc (.cells cs e))) : wpList P ops Q (op :: rest) a w := by
  obtain ⟨i0, hi, hzz⟩ := Option.map_eq_some_iff.1 hinfo
  simp only [Prod.mk.injEq] at hzz
  obtain ⟨hz0, hz1, hz2⟩ := hzz
  refine wpList_buildSlice hgd t e 1 #[(0, x)] ho cs i0 z hu hi hz0 (by rw [hz1]; omega) (by rw [hz1]; omega) ?_ h
  have hf := Great.fill_whole (s := n) h0 [Value.agg cs] ((Array.range (1 * i0.size)).map (z.cells[· % z.cells.size]!)) (fun v hv => by rw [List.mem_singleton.1 hv]; exact hs) (by simp [hz1])
  rw [hz1] at hf ⊢
  simpa [hx, Value.cells] using hf
theorem wpList_store1 {ops : Array Oper} {rest : List Oper} {op : Oper} {a : Act} {w : World} {Q : Exit → Act → World → Prop} (hgd : op.guard = none) (ty : TypeId) (x y : Operand) (ho : op.op = .store ty x y) (g i : Nat) (t : TypeId) (old : Array Value) (u : Value)
    (hx : a.eval x = .pointer (some ⟨g, i, none⟩)) (hy : a.eval y = u) (hu : u.cells = #[u]) (hg : w.heap[g]? = some (.cells old t (0, 0))) (hi : i < old.size) (h1 : (P.info? ty).map (·.size) = some 1) (ho1 : u.oneCell' = true)
    (h : ∀ w1 : World, w1.heap[g]? = some (.cells (old.setIfInBounds i u) t (0, 0)) → (∀ k, k ≠ g → w1.heap[k]? = w.heap[k]?) → (∀ B w0, Below B w0 w → B ≤ g → Below B w0 w1) → w1.heap.size = w.heap.size → wpList P ops Q rest (a.put op.dst undef) w1) : wpList P ops Q (op :: rest) a w := by
  have := run_storeVar_mid (P := P) w g i ty #[u] (fun j hj => by
    obtain rfl : j = 0 := by simpa using hj
    rw [Nat.add_zero]
    exact ⟨by rw [cell_of_row w g i old t _ hg, Array.getElem?_eq_getElem hi]; rfl, frozen_of_row w g i old t hg⟩) (by rw [h1]; rfl) (by simp [ho1])
  have h3 : (storeVar ty ⟨g, i, none⟩ u).run P w = .ok () (w.setCell ⟨g, i, none⟩ u) := by
    have e : storeVar ty ⟨g, i, none⟩ u = storeVar ty ⟨g, i, none⟩ (.agg #[u]) := by
      unfold storeVar
      rw [hu]
      rfl
    rw [e, this]
    rfl
  exact wpList_plain hgd fun _ hK => by
    unfold Oper.wp execOp
    simp only [ho, hx, hy, Instr.storeAt, Instr.sureAddr, Sem.run_bind, Sem.run_pure, Result.andThen_ok, h3]
    exact hK _ _ (h _ (heap_setCell_same w g i old t u hg) (fun k hk => heap_setCell_other w ⟨g, i, none⟩ k u hk) (fun B w0 hb hB => hb.setCell hB u) (by simp))
end
end Go.Proofs.YtiaggfjfgoiafaaDoor

/- slices.Clone of labels, slices.Clip of objects. -/
namespace Go.Proofs.YtiaggfjfgoiafaaDoor
open Go.RowKit Go.Proofs.YtiaggfjfgoiafaaDoorW.PrintWords Go.Proofs.YtiaggfjfgoiafaaDoorW.PrintLast
end Go.Proofs.YtiaggfjfgoiafaaDoor

/- SameObject, SameObjects: are two objects, two lists of them, the same? -/
namespace Go.Proofs.YtiaggfjfgoiafaaDoor
open Go.RowKit Go.Proofs.YtiaggfjfgoiafaaDoorW.PrintWords Go.Proofs.YtiaggfjfgoiafaaDoorW.PrintLast
theorem cells_at0 (o : Ob) (v4 v27 : Value) (h : 0 < (o.cells v4 v27).size) : (o.cells v4 v27)[0]'h = .int .i64 o.kind := rfl
theorem cells_at1 (o : Ob) (v4 v27 : Value) (h : 1 < (o.cells v4 v27).size) : (o.cells v4 v27)[1]'h = .string o.name := rfl
theorem cells_at2 (o : Ob) (v4 v27 : Value) (h : 2 < (o.cells v4 v27).size) : (o.cells v4 v27)[2]'h = .int .i64 o.version := rfl
theorem cells_at3 (o : Ob) (v4 v27 : Value) (h : 3 < (o.cells v4 v27).size) : (o.cells v4 v27)[3]'h = .int .i64 o.born := rfl
theorem cells_at4 (o : Ob) (v4 v27 : Value) (h : 4 < (o.cells v4 v27).size) : (o.cells v4 v27)[4]'h = v4 := rfl
theorem cells_at5 (o : Ob) (v4 v27 : Value) (h : 5 < (o.cells v4 v27).size) : (o.cells v4 v27)[5]'h = .int .i64 o.roomC := rfl
theorem cells_at6 (o : Ob) (v4 v27 : Value) (h : 6 < (o.cells v4 v27).size) : (o.cells v4 v27)[6]'h = .int .i64 o.roomM := rfl
theorem cells_at7 (o : Ob) (v4 v27 : Value) (h : 7 < (o.cells v4 v27).size) : (o.cells v4 v27)[7]'h = .bool o.cordoned := rfl
theorem cells_at8 (o : Ob) (v4 v27 : Value) (h : 8 < (o.cells v4 v27).size) : (o.cells v4 v27)[8]'h = .bool o.draining := rfl
theorem cells_at9 (o : Ob) (v4 v27 : Value) (h : 9 < (o.cells v4 v27).size) : (o.cells v4 v27)[9]'h = .bool o.lost := rfl
theorem cells_at10 (o : Ob) (v4 v27 : Value) (h : 10 < (o.cells v4 v27).size) : (o.cells v4 v27)[10]'h = .int .i64 o.beat := rfl
theorem cells_at11 (o : Ob) (v4 v27 : Value) (h : 11 < (o.cells v4 v27).size) : (o.cells v4 v27)[11]'h = .string o.deploy := rfl
theorem cells_at12 (o : Ob) (v4 v27 : Value) (h : 12 < (o.cells v4 v27).size) : (o.cells v4 v27)[12]'h = .string o.sset := rfl
theorem cells_at13 (o : Ob) (v4 v27 : Value) (h : 13 < (o.cells v4 v27).size) : (o.cells v4 v27)[13]'h = .string o.node := rfl
theorem cells_at14 (o : Ob) (v4 v27 : Value) (h : 14 < (o.cells v4 v27).size) : (o.cells v4 v27)[14]'h = .int .i64 o.phase := rfl
theorem cells_at15 (o : Ob) (v4 v27 : Value) (h : 15 < (o.cells v4 v27).size) : (o.cells v4 v27)[15]'h = .bool o.ready := rfl
theorem cells_at16 (o : Ob) (v4 v27 : Value) (h : 16 < (o.cells v4 v27).size) : (o.cells v4 v27)[16]'h = .bool o.ending := rfl
theorem cells_at17 (o : Ob) (v4 v27 : Value) (h : 17 < (o.cells v4 v27).size) : (o.cells v4 v27)[17]'h = .int .i64 o.needC := rfl
theorem cells_at18 (o : Ob) (v4 v27 : Value) (h : 18 < (o.cells v4 v27).size) : (o.cells v4 v27)[18]'h = .int .i64 o.needM := rfl
theorem cells_at19 (o : Ob) (v4 v27 : Value) (h : 19 < (o.cells v4 v27).size) : (o.cells v4 v27)[19]'h = .string o.image := rfl
theorem cells_at20 (o : Ob) (v4 v27 : Value) (h : 20 < (o.cells v4 v27).size) : (o.cells v4 v27)[20]'h = .int .i64 o.rise := rfl
theorem cells_at21 (o : Ob) (v4 v27 : Value) (h : 21 < (o.cells v4 v27).size) : (o.cells v4 v27)[21]'h = .int .i64 o.fall := rfl
theorem cells_at22 (o : Ob) (v4 v27 : Value) (h : 22 < (o.cells v4 v27).size) : (o.cells v4 v27)[22]'h = .int .i64 o.count := rfl
theorem cells_at23 (o : Ob) (v4 v27 : Value) (h : 23 < (o.cells v4 v27).size) : (o.cells v4 v27)[23]'h = .int .i64 o.surge := rfl
theorem cells_at24 (o : Ob) (v4 v27 : Value) (h : 24 < (o.cells v4 v27).size) : (o.cells v4 v27)[24]'h = .int .i64 o.slack := rfl
theorem cells_at25 (o : Ob) (v4 v27 : Value) (h : 25 < (o.cells v4 v27).size) : (o.cells v4 v27)[25]'h = .bool o.paused := rfl
theorem cells_at26 (o : Ob) (v4 v27 : Value) (h : 26 < (o.cells v4 v27).size) : (o.cells v4 v27)[26]'h = .int .u64 o.hash := rfl
theorem cells_at27 (o : Ob) (v4 v27 : Value) (h : 27 < (o.cells v4 v27).size) : (o.cells v4 v27)[27]'h = v27 := rfl
theorem cells_at28 (o : Ob) (v4 v27 : Value) (h : 28 < (o.cells v4 v27).size) : (o.cells v4 v27)[28]'h = .int .i64 o.least := rfl
theorem cells_at29 (o : Ob) (v4 v27 : Value) (h : 29 < (o.cells v4 v27).size) : (o.cells v4 v27)[29]'h = .string o.holder := rfl
theorem cells_at30 (o : Ob) (v4 v27 : Value) (h : 30 < (o.cells v4 v27).size) : (o.cells v4 v27)[30]'h = .int .i64 o.term := rfl
theorem cells_at31 (o : Ob) (v4 v27 : Value) (h : 31 < (o.cells v4 v27).size) : (o.cells v4 v27)[31]'h = .int .i64 o.till := rfl
attribute [local go_sem] cells_at0 cells_at1 cells_at2 cells_at3 cells_at4 cells_at5 cells_at6 cells_at7 cells_at8 cells_at9 cells_at10 cells_at11 cells_at12 cells_at13 cells_at14 cells_at15 cells_at16 cells_at17 cells_at18 cells_at19 cells_at20 cells_at21 cells_at22 cells_at23 cells_at24 cells_at25 cells_at26 cells_at27 cells_at28 cells_at29 cells_at30 cells_at31
theorem amt_cells {w : World} {g : Nat} {cs : Array Value} (h : ∀ j u, cs[j]? = some u → w.cell? ⟨g, j, none⟩ = some u) (k : Nat) {a b : Value} (h0 : cs[k]? = some a) (h1 : cs[k + 1]? = some b) : ∀ (j : Nat) (u : Value), (#[a, b] : Array Value)[j]? = some u → w.cell? ((⟨g, k, none⟩ : Addr).add j) = some u := by
  intro j u hu
  match j, hu with
  | 0, hu => obtain rfl : a = u := by simpa using hu
             rw [add_at]; exact h _ _ h0
  | 1, hu => obtain rfl : b = u := by simpa using hu
             rw [add_at]; exact h _ _ h1
  | j + 2, hu => simp at hu
def bareB (o p : Ob) : Bool := decide (o.kind = p.kind ∧ o.name.toList = p.name.toList ∧ o.version = p.version ∧ o.born = p.born ∧ o.roomC = p.roomC ∧ o.roomM = p.roomM ∧ o.cordoned = p.cordoned ∧ o.draining = p.draining ∧ o.lost = p.lost ∧ o.beat = p.beat ∧ o.deploy.toList = p.deploy.toList ∧ o.sset.toList = p.sset.toList ∧ o.node.toList = p.node.toList ∧ o.phase = p.phase ∧ o.ready = p.ready ∧ o.ending = p.ending ∧ o.needC = p.needC ∧ o.needM = p.needM ∧ o.image.toList = p.image.toList ∧ o.rise = p.rise ∧ o.fall = p.fall ∧ o.count = p.count ∧ o.surge = p.surge ∧ o.slack = p.slack ∧ o.paused = p.paused ∧ o.hash = p.hash ∧ o.least = p.least ∧ o.holder.toList = p.holder.toList ∧ o.term = p.term ∧ o.till = p.till)
set_option maxRecDepth 100000 in
set_option maxHeartbeats 4000000 in
theorem bare_calls (o p : Ob) (v4 v27 u4 u27 : Value) (w : World) :
    Calls Tryd.prog 35 #[.agg (o.cells v4 v27), .agg (p.cells u4 u27)] w fun e w' => e = .returned (.bool (bareB o p)) ∧ Below w.heap.size w w' := by
  obtain ⟨cs, hcs⟩ : ∃ cs, cs = o.cells v4 v27 := ⟨_, rfl⟩
  obtain ⟨ds, hds⟩ : ∃ ds, ds = p.cells u4 u27 := ⟨_, rfl⟩
  rw [← hcs, ← hds]
  have Hcs := Lib.hid hcs
  have Hds := Lib.hid hds
  clear hcs hds
  have HM := Lib.hid (Eq.refl 0)
  obtain ⟨rb, hrb⟩ : ∃ rb, rb = bareB o p := ⟨_, rfl⟩
  rw [← hrb]
  have HR := Lib.hid hrb
  clear hrb
  go_enter Tryd.func35, Tryd.ntmps35
  simp only [List.append_eq, List.cons_append, List.nil_append]
  go_wp2_with (first
    | ((with_reducible refine gate_ (.fieldAddr 39 (.tmp 2) 0) rfl ?_); clear HM; (have HW : Hid (Below w.heap.size w ((w.alloc (Obj.cells cs 39)).alloc (Obj.cells ds 39))) := Lib.hid (Go.Joins.below_alloc2 w _ _)); (have B1 : ((w.alloc (Obj.cells cs 39)).alloc (Obj.cells ds 39)).heap[w.heap.size]? = some (.cells cs 39 (0, 0)) := (heap_alloc_old _ _ (by simp)).trans (heap_alloc_new w _)); (have B2 : ((w.alloc (Obj.cells cs 39)).alloc (Obj.cells ds 39)).heap[w.heap.size + 1]? = some (.cells ds 39 (0, 0)) := heap_alloc2_new w _ _); (generalize ((w.alloc (Obj.cells cs 39)).alloc (Obj.cells ds 39)) = W0 at HW B1 B2 ⊢); obtain ⟨ga, hga⟩ : ∃ x, x = w.heap.size := ⟨_, rfl⟩; obtain ⟨gb, hgb⟩ : ∃ x, x = w.heap.size + 1 := ⟨_, rfl⟩; rw [← hgb] at B2 ⊢; rw [← hga] at B1 ⊢; clear hga hgb; rw [Hcs.out] at B1; rw [Hds.out] at B2; have HC1 : Hid (∀ j u, (o.cells v4 v27)[j]? = some u → W0.cell? ⟨ga, j, none⟩ = some u) := Lib.hid (fun j u hu => (cell_of_row _ _ j _ _ _ B1).trans hu); have HC2 : Hid (∀ j u, (p.cells u4 u27)[j]? = some u → W0.cell? ⟨gb, j, none⟩ = some u) := Lib.hid (fun j u hu => (cell_of_row _ _ j _ _ _ B2).trans hu); clear B1 B2)
    | ((with_reducible refine wpList_load_any_w ?lg 36 _ rfl ⟨ga, 5, none⟩ ?lx #[.int .i64 o.roomC, .int .i64 o.roomM] _ ?lc Tryd.underlying36 ?ld ?li ?_); (case lg => rfl); (case lx => rfl); (case lc => exact amt_cells HC1.out 5 rfl rfl); (case ld => rfl); (case li => kernel_rfl))
    | ((with_reducible refine wpList_load_any_w ?lg 36 _ rfl ⟨gb, 5, none⟩ ?lx #[.int .i64 p.roomC, .int .i64 p.roomM] _ ?lc Tryd.underlying36 ?ld ?li ?_); (case lg => rfl); (case lx => rfl); (case lc => exact amt_cells HC2.out 5 rfl rfl); (case ld => rfl); (case li => kernel_rfl))
    | ((with_reducible refine wpList_load_any_w ?lg 36 _ rfl ⟨ga, 17, none⟩ ?lx #[.int .i64 o.needC, .int .i64 o.needM] _ ?lc Tryd.underlying36 ?ld ?li ?_); (case lg => rfl); (case lx => rfl); (case lc => exact amt_cells HC1.out 17 rfl rfl); (case ld => rfl); (case li => kernel_rfl))
    | ((with_reducible refine wpList_load_any_w ?lg 36 _ rfl ⟨gb, 17, none⟩ ?lx #[.int .i64 p.needC, .int .i64 p.needM] _ ?lc Tryd.underlying36 ?ld ?li ?_); (case lg => rfl); (case lx => rfl); (case lc => exact amt_cells HC2.out 17 rfl rfl); (case ld => rfl); (case li => kernel_rfl))
    | ((with_reducible refine gate_ (.load 3 _) rfl ?_); first | refine wpList_load1_w 3 _ rfl _ rfl rfl _ _ (HC1.out _ _ rfl) Tryd.underlying3 rfl ?_ | refine wpList_load1_w 3 _ rfl _ rfl rfl _ _ (HC2.out _ _ rfl) Tryd.underlying3 rfl ?_)
    | ((with_reducible refine gate_ (.load 9 _) rfl ?_); first | refine wpList_load1_w 9 _ rfl _ rfl rfl _ _ (HC1.out _ _ rfl) Tryd.underlying9 rfl ?_ | refine wpList_load1_w 9 _ rfl _ rfl rfl _ _ (HC2.out _ _ rfl) Tryd.underlying9 rfl ?_)
    | ((with_reducible refine gate_ (.load 4 _) rfl ?_); first | refine wpList_load1_w 4 _ rfl _ rfl rfl _ _ (HC1.out _ _ rfl) Tryd.underlying4 rfl ?_ | refine wpList_load1_w 4 _ rfl _ rfl rfl _ _ (HC2.out _ _ rfl) Tryd.underlying4 rfl ?_)
    | ((with_reducible refine gate_ (.load 37 _) rfl ?_); first | refine wpList_load1_w 37 _ rfl _ rfl rfl _ _ (HC1.out _ _ rfl) Tryd.underlying37 rfl ?_ | refine wpList_load1_w 37 _ rfl _ rfl rfl _ _ (HC2.out _ _ rfl) Tryd.underlying37 rfl ?_))
  all_goals go_ret
  all_goals (refine ⟨?_, HW.out⟩; clear HC1 HC2 HW; rw [HR.out]; clear HR Hcs Hds; unfold bareB; first | (simp_all; done) | (simp_all; rw [Bool.eq_iff_iff]; simp))
end Go.Proofs.YtiaggfjfgoiafaaDoor

/- SameObject: are two objects the same, their lists too? -/
namespace Go.Proofs.YtiaggfjfgoiafaaDoor
open Go.RowKit Go.Proofs.YtiaggfjfgoiafaaDoorW.PrintWords Go.Proofs.YtiaggfjfgoiafaaDoorW.PrintLast
theorem tl_inj (s t : ByteArray) : s.toList = t.toList ↔ s = t := by
  rw [Go.Lib.toList_data, Go.Lib.toList_data]
  exact ⟨fun h => ByteArray.ext (Array.toList_inj.mp h), fun h => by rw [h]⟩
instance labDec : DecidableEq Lab := fun x y => decidable_of_iff (x.f0 = y.f0 ∧ x.f1 = y.f1) ⟨fun h => by cases x; cases y; simp_all, fun h => by rw [h]; exact ⟨rfl, rfl⟩⟩
def sameB (o p : Ob) : Bool := bareB o p && (decide (o.labels = p.labels) && decide (o.select = p.select))
theorem sameB_iff (o p : Ob) : sameB o p = true ↔ o = p := by
  constructor
  · intro h
    simp only [sameB, bareB, tl_inj, Bool.and_eq_true, decide_eq_true_eq] at h
    obtain ⟨⟨a1, a2, a3, a4, a5, a6, a7, a8, a9, a10, a11, a12, a13, a14, a15, a16, a17, a18, a19, a20, a21, a22, a23, a24, a25, a26, a27, a28, a29, a30⟩, b1, b2⟩ := h
    cases o
    cases p
    simp only at a1 a2 a3 a4 a5 a6 a7 a8 a9 a10 a11 a12 a13 a14 a15 a16 a17 a18 a19 a20 a21 a22 a23 a24 a25 a26 a27 a28 a29 a30 b1 b2
    subst_vars
    rfl
  · rintro rfl
    simp [sameB, bareB]
theorem sameLabels_l (l m : List Lab) (hl : l.length = m.length) (hb : l.length ≤ 9223372036854775807) : ∀ (d i k : Nat), l.length - i ≤ d → d < k → i ≤ l.length → QLb.flotillaref0_SameLabels.l0 k l m (i : Int) = some (decide (l.drop i = m.drop i)) := by
  intro d
  induction d with
  | zero =>
    intro i k h1 h2 h3
    obtain ⟨k, rfl⟩ : ∃ m, k = m + 1 := ⟨k - 1, by omega⟩
    simp only [QLb.flotillaref0_SameLabels.l0]
    rw [if_neg (by omega), List.drop_eq_nil_of_le (by omega), List.drop_eq_nil_of_le (by omega)]
    simp
  | succ d ih =>
    intro i k h1 h2 h3
    obtain ⟨k, rfl⟩ : ∃ m, k = m + 1 := ⟨k - 1, by omega⟩
    by_cases hi : i < l.length
    · have hm : i < m.length := by omega
      simp only [QLb.flotillaref0_SameLabels.l0]
      rw [if_pos (by omega), if_pos (by omega), if_pos (by omega)]
      have e1 : QLb.rd_T56 l (i : Int) = l[i] := by simp [QLb.rd_T56, List.getD_eq_getElem?_getD, hi]
      have e2 : QLb.rd_T56 m (i : Int) = m[i] := by simp [QLb.rd_T56, List.getD_eq_getElem?_getD, hm]
      rw [e1, e2, List.drop_eq_getElem_cons hi, List.drop_eq_getElem_cons hm]
      have ew : wrap64 ((i : Int) + 1) = ((i + 1 : Nat) : Int) := by unfold wrap64; omega
      rw [ew, ih (i + 1) k (by omega) (by omega) (by omega)]
      by_cases he : l[i] = m[i]
      · rw [if_neg (by simp [he])]
        simp only [List.cons.injEq, he, true_and]
      · rw [if_pos (by
          by_cases h0 : l[i].f0 = m[i].f0
          · have h1 : ¬ l[i].f1 = m[i].f1 := fun h1 => he (by
              cases hx : l[i]; cases hy : m[i]; simp_all)
            simp [tl_inj, h0, h1]
          · simp [tl_inj, h0])]
        simp only [List.cons.injEq, he, false_and, decide_false]
    · simp only [QLb.flotillaref0_SameLabels.l0]
      rw [if_neg (by omega), List.drop_eq_nil_of_le (by omega), List.drop_eq_nil_of_le (by omega)]
      simp
theorem sameLabels_f (l m : List Lab) (hb : l.length ≤ 9223372036854775807) : QLb.flotillaref0_SameLabels.f (l.length + 1) l m = some (decide (l = m)) := by
  unfold QLb.flotillaref0_SameLabels.f
  by_cases h : l.length = m.length
  · rw [if_pos (by omega)]
    have := sameLabels_l l m h hb l.length 0 (l.length + 1) (by omega) (by omega) (by omega)
    simpa using this
  · rw [if_neg (by omega)]
    have : ¬ l = m := fun e => h (by rw [e])
    simp [this]
theorem sameLabels_calls {w : World} {l m : List Lab} {v u : Value} (h : LabK w l v) (g : LabK w m u) : Calls Tryd.prog 36 #[v, u] w fun e w' => e = .returned (.bool (decide (l = m))) ∧ Below w.heap.size w w' := by
  obtain ⟨A, c, rfl, hl, hr⟩ := h
  obtain ⟨B, d, rfl, hm, hs⟩ := g
  exact (QLb.flotillaref0_SameLabels.calls _ A c l B d m _ w hr hl hs hm (sameLabels_f l m (Kd.C_max hr))).mono fun e w' ⟨h1, h2⟩ => ⟨h1, h2.below⟩
set_option maxRecDepth 100000 in
set_option maxHeartbeats 1000000 in
theorem sameObject_calls (o p : Ob) (v4 v27 u4 u27 : Value) (w : World) (l4 : LabK w o.labels v4) (l27 : LabK w o.select v27) (m4 : LabK w p.labels u4) (m27 : LabK w p.select u27) :
    Calls Tryd.prog 16 #[.agg (o.cells v4 v27), .agg (p.cells u4 u27)] w fun e w' => e = .returned (.bool (sameB o p)) ∧ Below w.heap.size w w' := by
  obtain ⟨cs, hcs⟩ : ∃ cs, cs = o.cells v4 v27 := ⟨_, rfl⟩
  obtain ⟨ds, hds⟩ : ∃ ds, ds = p.cells u4 u27 := ⟨_, rfl⟩
  have QB := Lib.hid (fun W => bare_calls o p v4 v27 u4 u27 W)
  rw [← hcs, ← hds] at QB ⊢
  obtain ⟨b1, hb1⟩ : ∃ b, b = bareB o p := ⟨_, rfl⟩
  obtain ⟨b2, hb2⟩ : ∃ b, b = decide (o.labels = p.labels) := ⟨_, rfl⟩
  obtain ⟨b3, hb3⟩ : ∃ b, b = decide (o.select = p.select) := ⟨_, rfl⟩
  have QL4 := Lib.hid (fun (W : World) (hW : Below w.heap.size w W) => sameLabels_calls (l4.below hW) (m4.below hW))
  have QL27 := Lib.hid (fun (W : World) (hW : Below w.heap.size w W) => sameLabels_calls (l27.below hW) (m27.below hW))
  have es : sameB o p = (b1 && (b2 && b3)) := by rw [hb1, hb2, hb3]; rfl
  rw [← hb1] at QB
  rw [← hb2] at QL4
  rw [← hb3] at QL27
  rw [es]
  have Hcs := Lib.hid hcs
  have Hds := Lib.hid hds
  have hi1 : Hid ((Tryd.prog.info? 39).map (·.size) = some cs.size) := Lib.hid (by rw [hcs, Ob.cells_size]; kernel_rfl)
  have hi2 : Hid ((Tryd.prog.info? 39).map (·.size) = some ds.size) := Lib.hid (by rw [hds, Ob.cells_size]; kernel_rfl)
  clear hcs hds hb1 hb2 hb3 es l4 l27 m4 m27
  have HM := Lib.hid (Eq.refl 0)
  go_enter Tryd.func16, Tryd.ntmps16
  go_wp2_with (first
    | ((with_reducible refine gate_ (.load 39 (.tmp 2)) rfl ?_); clear HM; (have HW : Below w.heap.size w ((w.alloc (Obj.cells cs 39)).alloc (Obj.cells ds 39)) := (Go.Joins.below_alloc2 w _ _)); (have B1 : ((w.alloc (Obj.cells cs 39)).alloc (Obj.cells ds 39)).heap[w.heap.size]? = some (.cells cs 39 (0, 0)) := (heap_alloc_old _ _ (by simp)).trans (heap_alloc_new w _)); (have B2 : ((w.alloc (Obj.cells cs 39)).alloc (Obj.cells ds 39)).heap[w.heap.size + 1]? = some (.cells ds 39 (0, 0)) := heap_alloc2_new w _ _); (generalize ((w.alloc (Obj.cells cs 39)).alloc (Obj.cells ds 39)) = W0 at HW B1 B2 ⊢); obtain ⟨ga, hga⟩ : ∃ x, x = w.heap.size := ⟨_, rfl⟩; obtain ⟨gb, hgb⟩ : ∃ x, x = w.heap.size + 1 := ⟨_, rfl⟩; rw [← hgb] at B2 ⊢; rw [← hga] at B1 ⊢; clear hga hgb)
    | ((with_reducible refine wpList_load_blk_w 39 (.tmp 2) rfl ga 39 ?l0 ?l1 cs _ ?l2 Tryd.underlying39 ?l3 ?l4 ?_); (case l0 => rfl); (case l1 => rfl); (case l2 => exact B1); (case l3 => rfl); (case l4 => exact hi1.out))
    | ((with_reducible refine wpList_load_blk_w 39 (.tmp 3) rfl gb 39 ?l0 ?l1 ds _ ?l2 Tryd.underlying39 ?l3 ?l4 ?_); (case l0 => rfl); (case l1 => rfl); (case l2 => exact B2); (case l3 => rfl); (case l4 => exact hi2.out))
    | ((with_reducible refine gate_ (.load 34 _) rfl ?_); first | refine wpList_load1_w 34 _ rfl ⟨ga, 4, none⟩ rfl rfl v4 _ (((cell_of_row _ _ 4 _ _ _ B1).trans (by rw [Hcs.out]; rfl))) Tryd.underlying34 rfl ?_ | refine wpList_load1_w 34 _ rfl ⟨ga, 27, none⟩ rfl rfl v27 _ (((cell_of_row _ _ 27 _ _ _ B1).trans (by rw [Hcs.out]; rfl))) Tryd.underlying34 rfl ?_ | refine wpList_load1_w 34 _ rfl ⟨gb, 4, none⟩ rfl rfl u4 _ (((cell_of_row _ _ 4 _ _ _ B2).trans (by rw [Hds.out]; rfl))) Tryd.underlying34 rfl ?_ | refine wpList_load1_w 34 _ rfl ⟨gb, 27, none⟩ rfl rfl u27 _ (((cell_of_row _ _ 27 _ _ _ B2).trans (by rw [Hds.out]; rfl))) Tryd.underlying34 rfl ?_)
    | (go_at_call 35; (with_reducible refine (QB.out _).mono ?_); rintro e w1 ⟨rfl, hb⟩; replace B1 := blkB hb B1; replace B2 := blkB hb B2; replace HW := belT HW hb; clear hb)
    | (go_at_call 36; (with_reducible first | refine (QL4.out _ HW).mono ?_ | refine (QL27.out _ HW).mono ?_); rintro e w1 ⟨rfl, hb⟩; replace B1 := blkB hb B1; replace B2 := blkB hb B2; replace HW := belT HW hb; clear hb))
  all_goals go_ret
  all_goals (refine ⟨?_, HW⟩; simp_all)
end Go.Proofs.YtiaggfjfgoiafaaDoor

/- Labels that are lent: a list of its own with 16 marks behind it; looked at again. -/
namespace Go.Proofs.YtiaggfjfgoiafaaDoor
open Go.RowKit Go.Proofs.YtiaggfjfgoiafaaDoorW.PrintWords Go.Proofs.YtiaggfjfgoiafaaDoorW.PrintLast
def markL (j : Int) : Lab := ⟨strOfNums ([35, (90 : Int) % 256, (90 : Int) / 256 % 256, j % 256, j / 256 % 256] : List Int), (⟨#[]⟩ : ByteArray)⟩
def marksN (n : Nat) : List Lab := (List.range n).map fun (j : Nat) => markL (j : Int)
abbrev marksL : List Lab := marksN 16
theorem marksN_length (n : Nat) : (marksN n).length = n := by simp [marksN]
theorem marksN_succ (n : Nat) : marksN (n + 1) = marksN n ++ [markL (n : Int)] := by simp [marksN, List.range_succ]
theorem marksN_at (n j : Nat) (h : j < n) : (marksN n)[j]? = some (markL (j : Int)) := by simp [marksN, h]
theorem mark_f (j : Int) : QLb.flotillakit_markLabels.f 90 j = some ((markL j).f0, (markL j).f1) := rfl
theorem full1 (l : List Lab) (hl : l.length ≤ 4398046510976) : ∀ (d j k : Nat), 16 - j ≤ d → d < k → j ≤ 16 → QLb.flotillakit_FullLabels.l1 k (l ++ marksN j) (j : Int) = some (l ++ marksL) := by
  intro d
  induction d with
  | zero =>
    intro j k h1 h2 h3
    obtain ⟨k, rfl⟩ : ∃ m, k = m + 1 := ⟨k - 1, by omega⟩
    obtain rfl : j = 16 := by omega
    simp only [QLb.flotillakit_FullLabels.l1]
    rw [if_neg (by omega)]
  | succ d ih =>
    intro j k h1 h2 h3
    obtain ⟨k, rfl⟩ : ∃ m, k = m + 1 := ⟨k - 1, by omega⟩
    by_cases hj : j < 16
    · simp only [QLb.flotillakit_FullLabels.l1]
      rw [if_pos (by omega), mark_f]
      simp only [Option.bind_some]
      rw [if_pos (by rw [List.length_append, marksN_length]; omega), List.append_assoc, ← marksN_succ, show wrap64 ((j : Int) + 1) = ((j + 1 : Nat) : Int) by unfold wrap64; omega]
      exact ih (j + 1) k (by omega) (by omega) (by omega)
    · obtain rfl : j = 16 := by omega
      simp only [QLb.flotillakit_FullLabels.l1]
      rw [if_neg (by omega)]
theorem full0 (l : List Lab) (hl : l.length ≤ 4398046510976) : ∀ (d i k : Nat), l.length - i ≤ d → d + 17 < k → i ≤ l.length → QLb.flotillakit_FullLabels.l0 k l (l.take i) (i : Int) = some (l ++ marksL) := by
  intro d
  induction d with
  | zero =>
    intro i k h1 h2 h3
    obtain ⟨k, rfl⟩ : ∃ m, k = m + 1 := ⟨k - 1, by omega⟩
    simp only [QLb.flotillakit_FullLabels.l0]
    rw [if_neg (by omega), List.take_of_length_le (by omega)]
    have := full1 l hl 16 0 k (by omega) (by omega) (by omega)
    simpa [marksN] using this
  | succ d ih =>
    intro i k h1 h2 h3
    obtain ⟨k, rfl⟩ : ∃ m, k = m + 1 := ⟨k - 1, by omega⟩
    by_cases hi : i < l.length
    · simp only [QLb.flotillakit_FullLabels.l0]
      rw [if_pos (by omega), if_pos (by omega), if_pos (by rw [List.length_take]; omega), show wrap64 ((i : Int) + 1) = ((i + 1 : Nat) : Int) by unfold wrap64; omega]
      have e1 : QLb.rd_T56 l (i : Int) = l[i] := by simp [QLb.rd_T56, List.getD_eq_getElem?_getD, hi]
      have e2 : l.take i ++ [(⟨(QLb.rd_T56 l (i : Int)).f0, (QLb.rd_T56 l (i : Int)).f1⟩ : Lab)] = l.take (i + 1) := by
        rw [e1, List.take_succ_eq_append_getElem hi]
      rw [e2]
      exact ih (i + 1) k (by omega) (by omega) (by omega)
    · simp only [QLb.flotillakit_FullLabels.l0]
      rw [if_neg (by omega), List.take_of_length_le (by omega)]
      have := full1 l hl 16 0 k (by omega) (by omega) (by omega)
      simpa [marksN] using this
theorem full_f (l : List Lab) (hl : l.length ≤ 4398046510976) : QLb.flotillakit_FullLabels.f (l.length + 18) l = some (l ++ marksL) := by
  have := full0 l hl l.length 0 (l.length + 18) (by omega) (by omega) (by omega)
  simpa [QLb.flotillakit_FullLabels.f] using this
def LentK (w : World) (l : List Lab) (v : Value) : Prop := ∃ A c, v = .slice (some A) l.length c ∧ l.length + 16 ≤ c ∧ kL.C w (some A) (l.length + 16) (l ++ marksL)
theorem LentK.below {w w1 : World} {l : List Lab} {v : Value} (h : LentK w l v) (hb : Below w.heap.size w w1) : LentK w1 l v := by
  obtain ⟨A, c, rfl, hl, hr⟩ := h
  exact ⟨A, c, rfl, hl, Kd.C_below hr hb⟩
theorem LentK.lab {w : World} {l : List Lab} {v : Value} (h : LentK w l v) : LabK w l v := by
  obtain ⟨A, c, rfl, hl, hr⟩ := h
  have hlen : (l ++ marksL).length = l.length + 16 := by rw [List.length_append, marksN_length]
  rw [← hlen] at hr
  have := Kd.C_take hr (m := l.length) (by omega)
  rw [List.take_left] at this
  exact ⟨some A, c, rfl, by omega, this⟩
def LentR (w : World) (base : Nat) (ok : Nat → Prop) (l : List Lab) (v : Value) : Prop := ∃ A c, v = .slice (some A) l.length c ∧ l.length + 16 ≤ c ∧ kL.R 56 w base ok (.slice (some A) (l.length + 16) c) (l ++ marksL)
theorem LentR.lent {w : World} {base : Nat} {ok : Nat → Prop} {l : List Lab} {v : Value} (h : LentR w base ok l v) : LentK w l v := by
  obtain ⟨A, c, rfl, hl, hr⟩ := h
  have hlen : (l ++ marksL).length = l.length + 16 := by rw [List.length_append, marksN_length]
  have := (Kd.R_reads' hr).2.2
  rw [hlen] at this
  exact ⟨A, c, rfl, hl, this⟩
theorem LentR.mono {w : World} {base : Nat} {ok ok' : Nat → Prop} {l : List Lab} {v : Value} (h : LentR w base ok l v) (hok : ∀ k, ok k → ok' k) : LentR w base ok' l v := by
  obtain ⟨A, c, rfl, hl, hr⟩ := h
  exact ⟨A, c, rfl, hl, Kd.R_mono hr hok⟩
theorem LentR.move {w w1 : World} {base : Nat} {ok : Nat → Prop} {l : List Lab} {v : Value} (h : LentR w base ok l v) (hm : ∀ k, ok k → w1.heap[k]? = w.heap[k]?) : LentR w1 base ok l v := by
  obtain ⟨A, c, rfl, hl, hr⟩ := h
  exact ⟨A, c, rfl, hl, Kd.R_move hr hm⟩
theorem LentR.lower {w : World} {base base' : Nat} {ok : Nat → Prop} {l : List Lab} {v : Value} (h : LentR w base ok l v) (hb : base' ≤ base) : LentR w base' ok l v := by
  obtain ⟨A, c, rfl, hl, hr⟩ := h
  exact ⟨A, c, rfl, hl, Kd.R_lower hr hb⟩
theorem LentR.bound {w : World} {base : Nat} {ok : Nat → Prop} {l : List Lab} {v : Value} (h : LentR w base ok l v) : LentR w base (fun k => ok k ∧ base ≤ k ∧ k < w.heap.size ∧ ∃ q, q ∈ 56 :: kL.E ∧ ∃ cells, w.heap[k]? = some (.cells cells q (0, 0))) l v := by
  obtain ⟨A, c, rfl, hl, hr⟩ := h
  exact ⟨A, c, rfl, hl, Kd.R_bound hr⟩
theorem LentR.own {w : World} {base : Nat} {ok : Nat → Prop} {l : List Lab} {v : Value} (h : LentR w base ok l v) : ∃ g, v.ownBlock = some g ∧ base ≤ g ∧ g < w.heap.size := by
  obtain ⟨A, c, rfl, hl, hr⟩ := h
  refine ⟨A.block, rfl, Kd.R_base hr A.block rfl, Kd.R_lt hr A.block rfl⟩
theorem LentR.tight {w : World} {base : Nat} {ok : Nat → Prop} {l : List Lab} {v : Value} (h : LentR w base ok l v) : LentR w base (fun k => some k = v.ownBlock) l v := by
  obtain ⟨A, c, rfl, hl, hr⟩ := h
  exact ⟨A, c, rfl, hl, Kd.R_tight rfl hr⟩
theorem LentR.cells {w : World} {base : Nat} {ok : Nat → Prop} {l : List Lab} {v : Value} (h : LentR w base ok l v) : v.cells = #[v] ∧ v.oneCell' = true := by
  obtain ⟨A, c, rfl, hl, hr⟩ := h
  exact ⟨rfl, rfl⟩
theorem lentLabels_calls {w : World} {l : List Lab} {v : Value} (h : LabK w l v) (hl : l.length ≤ 4398046510976) :
    Calls Tryd.prog 50 #[v] w fun e w' => ∃ v', e = .returned v' ∧ LentR w' w.heap.size (fun _ => True) l v' ∧ Below w.heap.size w w' := by
  obtain ⟨A, c, rfl, hc, hr⟩ := h
  have hlen : (l ++ marksL).length = l.length + 16 := by rw [List.length_append, marksN_length]
  have CF : Calls Tryd.prog 65 #[.slice A l.length c] w fun e w' => ∃ b c', e = .returned (.slice (some b) (l.length + 16) c') ∧ l.length + 16 ≤ c' ∧ Hid (kL.R 56 w' w.heap.size (fun _ => True) (.slice (some b) (l.length + 16) c') (l ++ marksL)) ∧ Below w.heap.size w w' :=
    (QLb.flotillakit_FullLabels.calls _ A c l _ w hr hc (full_f l hl)).mono fun e w' ⟨v0, he, hR, hb⟩ => by
      obtain ⟨A', c', hv, hc', hC⟩ := Kd.R_reads hR
      obtain ⟨ad, rfl, _⟩ := hC.2.2 (by rw [hlen]; omega)
      subst hv
      rw [hlen] at he hc' hR
      exact ⟨ad, c', he, hc', Lib.hid hR, hb⟩
  replace CF := Lib.hid CF
  have hn0 : (0 : Int) ≤ (l.length : Int) := by omega
  clear hr hlen
  go_enter Tryd.func50, Tryd.ntmps50
  go_wp2_with (go_at_call 65; refine CF.out.mono ?_; rintro e w1 ⟨b, c', rfl, hc', hR, hb⟩; have hc2 : (l.length : Int) ≤ (c' : Int) := by omega)
  go_ret
  exact ⟨_, rfl, ⟨b, c', rfl, hc', hR.out⟩, hb⟩
theorem eqLab (d : Nat) (w : World) (x0 x1 y0 y1 : ByteArray) :
    (Op.equalIn (d + 2) 56 (.agg #[.string x0, .string x1]) (.agg #[.string y0, .string y1])).run Tryd.prog w = .ok (x0.toList == y0.toList && x1.toList == y1.toList) w := QLb.eqA56 d w x0 y0 x1 y1
end Go.Proofs.YtiaggfjfgoiafaaDoor

/- A block that holds rows of a few cells each (a slice of structs): read and written row by row; what else there is stays. -/
namespace Go.Proofs.YtiaggfjfgoiafaaDoor
open Go.RowKit Go.Proofs.YtiaggfjfgoiafaaDoorW.PrintWords Go.Proofs.YtiaggfjfgoiafaaDoorW.PrintLast
structure But (g : Nat) (w w' : World) : Prop where
  os : w'.os = w.os
  tape : w'.tape = w.tape
  output : w'.output = w.output
  size : w.heap.size ≤ w'.heap.size
  block : ∀ k, k < w.heap.size → k ≠ g → w'.heap[k]? = w.heap[k]?
  shape : ∀ cur t fr, w.heap[g]? = some (.cells cur t fr) → ∃ cur', w'.heap[g]? = some (.cells cur' t fr) ∧ cur'.size = cur.size
theorem But.refl (g : Nat) (w : World) : But g w w := ⟨rfl, rfl, rfl, Nat.le_refl _, fun _ _ _ => rfl, fun cur _ _ h => ⟨cur, h, rfl⟩⟩
theorem But.of_below {g : Nat} {w w' : World} (h : Below w.heap.size w w') : But g w w' := ⟨h.os, h.tape, h.output, h.size, fun k hk _ => h.block k hk, fun cur _ _ hc => ⟨cur, (h.block g (blkLt hc)).trans hc, rfl⟩⟩
theorem But.trans {g : Nat} {a b c : World} (h : But g a b) (k : But g b c) : But g a c :=
  ⟨k.os.trans h.os, k.tape.trans h.tape, k.output.trans h.output, Nat.le_trans h.size k.size, fun i hi hg => (k.block i (Nat.lt_of_lt_of_le hi h.size) hg).trans (h.block i hi hg), fun cur t fr hc => by
    obtain ⟨c1, h1, s1⟩ := h.shape cur t fr hc
    obtain ⟨c2, h2, s2⟩ := k.shape c1 t fr h1
    exact ⟨c2, h2, s2.trans s1⟩⟩
theorem But.below {g B : Nat} {a b c : World} (h : Below B a b) (k : But g b c) (hB : B ≤ g) (hs : B ≤ b.heap.size) : Below B a c :=
  ⟨k.os.trans h.os, k.tape.trans h.tape, k.output.trans h.output, Nat.le_trans h.size k.size, fun i hi => (k.block i (by omega) (by omega)).trans (h.block i hi)⟩
theorem tape_setCells (b : Nat) : ∀ (vs : List Value) (o : Nat) (w : World), (w.setCells b o vs).tape = w.tape
  | [], _, _ => rfl
  | v :: r, o, w => by
    show ((w.setCell ⟨b, o, none⟩ v).setCells b (o + 1) r).tape = w.tape
    rw [tape_setCells b r]
    rfl
theorem size_setCells (b : Nat) : ∀ (vs : List Value) (o : Nat) (w : World), (w.setCells b o vs).heap.size = w.heap.size
  | [], _, _ => rfl
  | v :: r, o, w => by
    show ((w.setCell ⟨b, o, none⟩ v).setCells b (o + 1) r).heap.size = w.heap.size
    rw [size_setCells b r]
    simp
theorem shape_setCells (g : Nat) : ∀ (vs : List Value) (o : Nat) (w : World) cur t fr, w.heap[g]? = some (.cells cur t fr) → ∃ cur', (w.setCells g o vs).heap[g]? = some (.cells cur' t fr) ∧ cur'.size = cur.size
  | [], _, _, cur, _, _, h => ⟨cur, h, rfl⟩
  | v :: r, o, w, cur, t, fr, h => by
    obtain ⟨c, h1, h2⟩ := shape_setCells g r (o + 1) (w.setCell ⟨g, o, none⟩ v) (cur.setIfInBounds o v) t fr (by simp [World.setCell, Array.getElem?_modify, h])
    exact ⟨c, h1, by rw [h2]; simp⟩
theorem But.set_ (g o : Nat) (vs : List Value) (w : World) : But g w (w.setCells g o vs) :=
  ⟨World.os_setCells w g o vs, tape_setCells g vs o w, World.output_setCells w g o vs, Nat.le_of_eq (size_setCells g vs o w).symm, fun k hk hg => World.heap_setCells_other w g o vs hk hg, shape_setCells g vs o w⟩
structure RowsAt (W : World) (g m : Nat) (L : List (Array Value)) : Prop where
  one : ∀ x ∈ L, x.size = m ∧ x.all (·.oneCell') = true
  row : ∀ j x, L[j]? = some x → W.rangeAt g (j * m) x.toList
  there : ∀ j, j < L.length → W.there g (j * m) m
theorem cell_below {W w1 : World} (h : Below W.heap.size W w1) {a : Addr} {v : Value} (hc : W.cell? a = some v) : w1.cell? a = some v := (h.cell (World.block_lt_of_cell? W _ hc)).trans hc
theorem RowsAt.below {W w1 : World} {g m : Nat} {L : List (Array Value)} (h : RowsAt W g m L) (hb : Below W.heap.size W w1) : RowsAt w1 g m L :=
  ⟨h.one, fun j x hj i v hv => cell_below hb (h.row j x hj i v hv), fun j hj i hi => by
    obtain ⟨h1, h2⟩ := h.there j hj i hi
    obtain ⟨v, hv⟩ := Option.isSome_iff_exists.1 h1
    exact ⟨by rw [cell_below hb hv]; rfl, (hb.frozen (World.block_lt_of_cell? W _ hv)).trans h2⟩⟩
theorem RowsAt.store {W : World} {g m : Nat} {L : List (Array Value)} (h : RowsAt W g m L) {j : Nat} (hj : j < L.length) {x : Array Value} (hx : x.size = m) (h1 : x.all (·.oneCell') = true) : RowsAt (W.setCells g (j * m) x.toList) g m (L.set j x) := by
  refine ⟨fun y hy => ?_, fun i y hi => ?_, fun i hi => World.there_setCells (h.there i (by simpa using hi)) _ _ _⟩
  · rcases List.mem_or_eq_of_mem_set hy with hy | rfl
    · exact h.one y hy
    · exact ⟨hx, h1⟩
  · by_cases e : i = j
    · subst e
      rw [List.getElem?_set_self hj] at hi
      obtain rfl := Option.some.inj hi
      exact World.rangeAt_setCells_same _ _ _ _ (by rw [Array.length_toList, hx]; exact h.there i hj)
    · rw [List.getElem?_set_ne (Ne.symm e)] at hi
      refine World.rangeAt_setCells_apart (h.row i y hi) _ _ _ (.inr ?_)
      have hy := (h.one y (List.mem_of_getElem? hi)).1
      rw [Array.length_toList, Array.length_toList, hx, hy]
      rcases Nat.lt_or_ge i j with g1 | g1
      · left
        have : (i + 1) * m ≤ j * m := Nat.mul_le_mul_right m g1
        rw [Nat.add_mul, Nat.one_mul] at this
        exact this
      · right
        have : (j + 1) * m ≤ i * m := Nat.mul_le_mul_right m (by omega)
        rw [Nat.add_mul, Nat.one_mul] at this
        exact this
section
variable {P : Program} {ops : Array Oper} {Q : Exit → Act → World → Prop}
theorem load_mid {oi : Oper} {a : Act} {W : World} {ty : TypeId} {x : Operand} {g m o j : Nat} {L : List (Array Value)} {cs : Array Value} {d : TypeDesc} (ho : oi.op = .load ty x) (hx : a.eval x = .pointer (some ⟨g, o, none⟩)) (hoj : o = j * m)
    (hR : RowsAt W g m L) (hj : L[j]? = some cs) (hu : P.underlying ty = some d) (hd : d.isRow = true) (hi : (P.info? ty).map (·.size) = some m) :
    (execOp a.eval oi).run P W = .ok (.value (.agg cs)) W := by
  subst hoj
  have hs := (hR.one cs (List.mem_of_getElem? hj)).1
  have := run_loadVar_mid (P := P) W g (j * m) ty cs.toList d (hR.row j cs hj) hu hd (by rw [hi, Array.length_toList, hs])
  rw [Array.toArray_toList] at this
  unfold execOp
  simp [ho, hx, Instr.loadAt, Instr.sureAddr, this]
theorem stores_mid {oi : Oper} {a : Act} {w : World} {ty : TypeId} {x y : Operand} {g m o j : Nat} {L : List (Array Value)} {cs : Array Value} {K : Act → World → Prop} (hw : Region.wanted oi (yielded ops a.tmps) = true) (hN : oi.dst = none) (ho : oi.op = .store ty x y)
    (hx : a.eval x = .pointer (some ⟨g, o, none⟩)) (hoj : o = j * m) (hy : a.eval y = .agg cs) (hR : RowsAt w g m L) (hj : j < L.length) (hs : cs.size = m) (h1 : cs.all (·.oneCell') = true) (hi : (P.info? ty).map (·.size) = some m)
    (h : ∀ w1, RowsAt w1 g m (L.set j cs) → But g w w1 → K a w1) :
    if Region.wanted oi (yielded ops a.tmps) = true then Oper.wp P oi a w K Q else K (a.put none undef) w := by
  subst hoj
  refine skip_ hw hN (w1 := w.setCells g (j * m) cs.toList) ?_ (h _ (hR.store hj hs h1) (But.set_ g _ _ w))
  have := run_storeVar_mid (P := P) w g (j * m) ty cs (by rw [hs]; exact hR.there j hj) (by rw [hi, hs]) h1
  unfold execOp
  simp [ho, hx, hy, Instr.storeAt, Instr.sureAddr, this]
end
end Go.Proofs.YtiaggfjfgoiafaaDoor

/- words.Compare and flotillaref01.Compare: what both answer, as one plain function cmpW; it is an order of all texts. -/
namespace Go.Proofs.YtiaggfjfgoiafaaDoor.Wc
open Go.RowKit Go.Proofs.YtiaggfjfgoiafaaDoor Go.Proofs.YtiaggfjfgoiafaaDoor.QWc Go.Proofs.YtiaggfjfgoiafaaDoorW.PrintWords Go.Proofs.YtiaggfjfgoiafaaDoorW.PrintLast
abbrev L (s : ByteArray) : List UInt8 := s.data.toList
theorem L_len (s : ByteArray) : s.size = (L s).length := Go.Lib.size_eq s
theorem L_ext {a b : ByteArray} (h : L a = L b) : a = b := by
  cases a with | mk x => cases b with | mk y => exact congrArg _ (Array.toList_inj.1 h)
theorem L_extract (s : ByteArray) (i j : Nat) : L (s.extract i j) = ((L s).drop i).take (j - i) := Go.Lib.extract_data s i j
theorem L_tail (s : ByteArray) (i : Nat) : L (s.extract i s.size) = (L s).drop i := by
  rw [L_extract, List.take_of_length_le]
  rw [List.length_drop, ← L_len]
  exact Nat.le_refl _
theorem tail_size (s : ByteArray) (i : Nat) : (s.extract i s.size).size = s.size - i := by rw [L_len, L_tail, List.length_drop, ← L_len]
theorem head_size (s : ByteArray) (i : Nat) (h : i ≤ s.size) : (s.extract 0 i).size = i := by
  rw [L_len, L_extract, List.length_take, List.drop_zero, ← L_len]
  omega
theorem bt_L (s : ByteArray) (i : Nat) : bt s (i : Int) = (((L s)[i]?.getD 0).toNat : Int) := by
  unfold bt
  rw [Int.toNat_natCast]
  split
  next h =>
    rw [List.getElem?_eq_getElem (by rw [← L_len]; exact h)]
    cases s with | mk d => rfl
  next h =>
    rw [List.getElem?_eq_none (by rw [← L_len]; omega)]
    rfl
theorem bt_tail (s : ByteArray) (i : Nat) : bt (s.extract i s.size) 0 = bt s (i : Int) := by
  rw [show (0 : Int) = ((0 : Nat) : Int) from rfl, bt_L, bt_L, L_tail, List.getElem?_drop, Nat.add_zero]
theorem bt_head (s : ByteArray) (i : Nat) (h : 0 < i) (hi : i ≤ s.size) : bt (s.extract 0 i) 0 = bt s 0 := by
  rw [show (0 : Int) = ((0 : Nat) : Int) from rfl, bt_L, bt_L, L_extract, List.drop_zero, List.getElem?_take]
  rw [if_pos (by omega)]
theorem toList_nil (s : ByteArray) : s.toList = ([] : List UInt8) ↔ s.size = 0 := by
  rw [Go.Lib.toList_data, L_len]
  exact List.length_eq_zero_iff.symm
def dig (x : Int) : Bool := decide (48 ≤ x) && decide (x ≤ 57)
theorem dig1 (x : Int) : words_digit.f x = some (dig x) := by
  unfold words_digit.f dig
  split <;> simp_all <;> omega
theorem dig2 (x : Int) : flotillaref01_digit.f x = some (dig x) := by
  unfold flotillaref01_digit.f dig
  split <;> simp_all <;> omega
theorem wrap_bt (s : ByteArray) (i : Int) : wrap32 (bt s i) = bt s i := by
  have := bt_range s i
  unfold wrap32
  omega
theorem wrap64_bt (s : ByteArray) (i : Int) : wrap64 (bt s i) = bt s i := by
  have := bt_range s i
  unfold wrap64
  omega
theorem step_ (i : Nat) (h : i ≤ 140737488351232) : wrap64 ((i : Int) + 1) = ((i + 1 : Nat) : Int) := by unfold wrap64; omega
def rowE (a : ByteArray) : Nat → Nat → Nat
  | 0, i => i
  | d + 1, i => if dig (bt a (i : Int)) = dig (bt a 0) then rowE a d (i + 1) else i
theorem rowE_le (a : ByteArray) (d i : Nat) : i ≤ rowE a d i ∧ rowE a d i ≤ i + d := by
  induction d generalizing i with
  | zero => simp [rowE]
  | succ d ih =>
    unfold rowE
    split
    · have := ih (i + 1)
      omega
    · omega
theorem row1 (a : ByteArray) (hm : a.size ≤ 140737488351232) (d : Nat) : ∀ (i k : Nat), i + d = a.size → d < k →
    words_row.l0 k a (dig (bt a 0)) (i : Int) = some (a.extract 0 (rowE a d i), a.extract (rowE a d i) a.size, dig (bt a 0)) := by
  induction d with
  | zero =>
    intro i k hi hk
    obtain ⟨k, rfl⟩ : ∃ m, k = m + 1 := ⟨k - 1, by omega⟩
    simp only [words_row.l0, rowE]
    rw [if_neg (by omega)]
    have e1 : a.extract 0 i = a := L_ext (by rw [L_extract, List.drop_zero, List.take_of_length_le (by rw [← L_len]; omega)])
    have e2 : a.extract i a.size = ⟨#[]⟩ := L_ext (by rw [L_tail, List.drop_eq_nil_of_le (by rw [← L_len]; omega)])
    rw [e1, e2]
  | succ d ih =>
    intro i k hi hk
    obtain ⟨k, rfl⟩ : ∃ m, k = m + 1 := ⟨k - 1, by omega⟩
    simp only [words_row.l0, rowE]
    rw [if_pos (by omega), if_pos (by omega), wrap_bt, dig1, Option.bind_some]
    by_cases h : dig (bt a (i : Int)) = dig (bt a 0)
    · rw [if_neg (by simp [h]), if_pos h, step_ i (by omega)]
      exact ih (i + 1) k (by omega) (by omega)
    · rw [if_pos (by simpa using h), if_neg h, if_pos (by omega), Int.toNat_natCast]
theorem row2 (a : ByteArray) (hm : a.size ≤ 140737488351232) (h0 : 0 < a.size) (d : Nat) : ∀ (i k : Nat), i + d = a.size → d < k →
    flotillaref01_row.l0 k a (i : Int) = some (a.extract 0 (rowE a d i), a.extract (rowE a d i) a.size) := by
  induction d with
  | zero =>
    intro i k hi hk
    obtain ⟨k, rfl⟩ : ∃ m, k = m + 1 := ⟨k - 1, by omega⟩
    simp only [flotillaref01_row.l0, rowE]
    rw [if_neg (by omega), if_pos (by omega), if_pos (by omega), Int.toNat_natCast]
  | succ d ih =>
    intro i k hi hk
    obtain ⟨k, rfl⟩ : ∃ m, k = m + 1 := ⟨k - 1, by omega⟩
    simp only [flotillaref01_row.l0, rowE]
    rw [if_pos (by omega), if_pos (by omega), dig2, Option.bind_some, if_pos (by omega), dig2, Option.bind_some]
    by_cases h : dig (bt a (i : Int)) = dig (bt a 0)
    · rw [if_pos (by simp [h]), if_pos h, step_ i (by omega)]
      exact ih (i + 1) k (by omega) (by omega)
    · rw [if_neg (by simpa using h), if_neg h, if_pos (by omega), Int.toNat_natCast]
def rE (a : ByteArray) : Nat := rowE a (a.size - 1) 1
theorem rE_le (a : ByteArray) (h : 0 < a.size) : 1 ≤ rE a ∧ rE a ≤ a.size := by
  have := rowE_le a (a.size - 1) 1
  unfold rE
  omega
theorem row1' (a : ByteArray) (hm : a.size ≤ 140737488351232) (h0 : 0 < a.size) (k : Nat) (hk : a.size < k) : words_row.f k a = some (a.extract 0 (rE a), a.extract (rE a) a.size, dig (bt a 0)) := by
  unfold words_row.f
  rw [if_pos (by omega), wrap_bt, dig1, Option.bind_some]
  exact row1 a hm (a.size - 1) 1 k (by omega) (by omega)
theorem row2' (a : ByteArray) (hm : a.size ≤ 140737488351232) (h0 : 0 < a.size) (k : Nat) (hk : a.size < k) : flotillaref01_row.f k a = some (a.extract 0 (rE a), a.extract (rE a) a.size) := by
  unfold flotillaref01_row.f
  exact row2 a hm h0 (a.size - 1) 1 k (by omega) (by omega)
def lessI (a b : Int) : Int := if a < b then -1 else if a > b then 1 else 0
theorem lessI_lt {a b : Int} (h : a < b) : lessI a b = -1 := if_pos h
theorem lessI_gt {a b : Int} (h : b < a) : lessI a b = 1 := by
  unfold lessI
  rw [if_neg (by omega), if_pos h]
theorem lessI_eq {a b : Int} (h : a = b) : lessI a b = 0 := by
  unfold lessI
  rw [if_neg (by omega), if_neg (by omega)]
theorem less1 (a b : Int) : cmp_Compare_int.f a b = some (lessI a b) := by
  unfold cmp_Compare_int.f cmp_isNaN_int.f lessI
  simp
  split <;> (try split) <;> rfl
theorem less2 (a b : Int) : flotillaref01_less.f a b = some (lessI a b) := by
  unfold flotillaref01_less.f lessI
  split <;> (try split) <;> rfl
theorem str1 (a b : ByteArray) : cmp_Compare_string.f a b = some (cmpL (L a) (L b)) := rfl
theorem str2 (a b : ByteArray) (hm : a.size ≤ 140737488351232) (d : Nat) : ∀ (i k : Nat), i + d = a.size → i ≤ b.size → 2 * d + 2 < k →
    flotillaref01_bytes.l0 k a b (i : Int) = some (cmpL ((L a).drop i) ((L b).drop i)) := by
  induction d with
  | zero =>
    intro i k hi hb hk
    obtain ⟨k, rfl⟩ : ∃ m, k = m + 2 := ⟨k - 2, by omega⟩
    simp only [flotillaref01_bytes.l0]
    rw [if_neg (by omega)]
    simp only [flotillaref01_bytes.j1]
    rw [if_neg (by simp), less2, Option.bind_some, List.drop_eq_nil_of_le (by rw [← L_len]; omega)]
    congr 1
    rcases Nat.lt_or_ge i b.size with h | h
    · rw [List.drop_eq_getElem_cons (by rw [← L_len]; exact h)]
      rw [lessI_lt (by omega)]
      rfl
    · rw [List.drop_eq_nil_of_le (by rw [← L_len]; omega)]
      rw [lessI_eq (by omega)]
      rfl
  | succ d ih =>
    intro i k hi hb hk
    obtain ⟨k, rfl⟩ : ∃ m, k = m + 2 := ⟨k - 2, by omega⟩
    simp only [flotillaref01_bytes.l0]
    rw [if_pos (by omega)]
    simp only [flotillaref01_bytes.j1]
    have hal : i < (L a).length := by rw [← L_len]; omega
    rcases Nat.lt_or_ge i b.size with h | h
    · have hbl : i < (L b).length := by rw [← L_len]; omega
      rw [if_pos (by simp; omega), if_pos (by omega), if_pos (by omega), if_pos (by omega), less2, Option.bind_some, wrap64_bt, wrap64_bt, List.drop_eq_getElem_cons hal, List.drop_eq_getElem_cons hbl]
      simp only [cmpL]
      rw [bt_L, bt_L, List.getElem?_eq_getElem hal, List.getElem?_eq_getElem hbl, Option.getD_some, Option.getD_some]
      generalize hz : lessI (((L a)[i].toNat : Nat) : Int) (((L b)[i].toNat : Nat) : Int) = z
      by_cases c1 : (L a)[i] < (L b)[i]
      · have c1' : (((L a)[i].toNat : Nat) : Int) < ((L b)[i].toNat : Nat) := by have := UInt8.lt_iff_toNat_lt.1 c1; omega
        rw [if_pos c1]
        obtain rfl : (-1 : Int) = z := (lessI_lt c1').symm.trans hz
        rfl
      · by_cases c2 : (L b)[i] < (L a)[i]
        · have c2' : (((L b)[i].toNat : Nat) : Int) < ((L a)[i].toNat : Nat) := by have := UInt8.lt_iff_toNat_lt.1 c2; omega
          rw [if_neg c1, if_pos c2]
          obtain rfl : (1 : Int) = z := (lessI_gt c2').symm.trans hz
          rfl
        · have c1' := UInt8.not_lt.1 c1
          have c2' := UInt8.not_lt.1 c2
          have : (L a)[i] = (L b)[i] := UInt8.le_antisymm c2' c1'
          obtain rfl : (0 : Int) = z := (lessI_eq (by rw [this])).symm.trans hz
          rw [if_neg c1, if_neg c2, if_pos rfl, step_ i (by omega)]
          exact ih (i + 1) k (by omega) (by omega) (by omega)
    · rw [if_neg (by simp; omega), less2, Option.bind_some, List.drop_eq_getElem_cons hal, show (L b).drop i = [] from List.drop_eq_nil_of_le (by rw [← L_len]; omega), lessI_gt (by omega)]
      rfl
theorem str2' (a b : ByteArray) (hm : a.size ≤ 140737488351232) (k : Nat) (hk : 2 * a.size + 2 < k) : flotillaref01_bytes.f k a b = some (cmpL (L a) (L b)) := str2 a b hm a.size 0 k (by omega) (by omega) hk
def zE (a : ByteArray) : Nat → Nat → Nat
  | 0, i => i
  | d + 1, i => if bt a (i : Int) = 48 then zE a d (i + 1) else i
theorem tail_tail (a : ByteArray) (i : Nat) : (a.extract i a.size).extract 1 (a.extract i a.size).size = a.extract (i + 1) a.size := L_ext (by rw [L_tail, L_tail, L_tail, List.drop_drop])
theorem trim1 (a : ByteArray) (d : Nat) : ∀ (i k : Nat), i + d = a.size → d < k → QTlb.strings_trimLeftByte.l0 k (a.extract i a.size) 48 = some (a.extract (zE a d i) a.size) := by
  induction d with
  | zero =>
    intro i k hi hk
    obtain ⟨k, rfl⟩ : ∃ m, k = m + 1 := ⟨k - 1, by omega⟩
    simp only [QTlb.strings_trimLeftByte.l0, zE]
    rw [if_neg (by rw [tail_size]; omega)]
  | succ d ih =>
    intro i k hi hk
    obtain ⟨k, rfl⟩ : ∃ m, k = m + 1 := ⟨k - 1, by omega⟩
    simp only [QTlb.strings_trimLeftByte.l0, zE]
    rw [if_pos (by rw [tail_size]; omega), if_pos (by rw [tail_size]; omega), bt_tail]
    by_cases h : bt a (i : Int) = 48
    · rw [if_pos h, if_pos h, if_pos (by rw [tail_size]; omega), tail_tail]
      exact ih (i + 1) k (by omega) (by omega)
    · rw [if_neg h, if_neg h]
theorem trim2 (a : ByteArray) (hm : a.size ≤ 140737488351232) (d : Nat) : ∀ (i k : Nat), i + d = a.size → d < k → flotillaref01_bare.l0 k a (i : Int) = some (a.extract (zE a d i) a.size) := by
  induction d with
  | zero =>
    intro i k hi hk
    obtain ⟨k, rfl⟩ : ∃ m, k = m + 1 := ⟨k - 1, by omega⟩
    simp only [flotillaref01_bare.l0, zE]
    rw [if_neg (by omega), if_pos (by omega), if_pos (by omega), Int.toNat_natCast]
  | succ d ih =>
    intro i k hi hk
    obtain ⟨k, rfl⟩ : ∃ m, k = m + 1 := ⟨k - 1, by omega⟩
    simp only [flotillaref01_bare.l0, zE]
    rw [if_pos (by omega), if_pos (by omega)]
    by_cases h : bt a (i : Int) = 48
    · rw [if_pos h, if_pos h, step_ i (by omega)]
      exact ih (i + 1) k (by omega) (by omega)
    · rw [if_neg h, if_neg h, if_pos (by omega), Int.toNat_natCast]
def bareB (a : ByteArray) : ByteArray := a.extract (zE a a.size 0) a.size
theorem bareB_size (a : ByteArray) : (bareB a).size ≤ a.size := by rw [bareB, tail_size]; omega
theorem whole (a : ByteArray) : a.extract 0 a.size = a := L_ext (by rw [L_tail, List.drop_zero])
theorem bare1 (a : ByteArray) : strings_TrimLeft.f a ⟨#[48]⟩ = some (bareB a) := by
  unfold strings_TrimLeft.f trimF
  by_cases h : a.toList = ([] : List UInt8)
  · rw [if_pos h]
    have h' := (toList_nil a).1 h
    congr 1
    rw [bareB, h']
    exact (L_ext (by rw [L_extract, Nat.zero_sub, List.take_zero]; exact (List.length_eq_zero_iff.1 (by rw [← L_len]; exact h')).symm ▸ rfl)).symm
  · rw [if_neg h, if_pos (by decide)]
    have := trim1 a a.size 0 (a.size + 1) (by omega) (by omega)
    rw [whole] at this
    exact this
theorem bare2 (a : ByteArray) (hm : a.size ≤ 140737488351232) (k : Nat) (hk : a.size < k) : flotillaref01_bare.f k a = some (bareB a) := trim2 a hm a.size 0 k (by omega) hk
theorem orF (x y z : Int) (k : Nat) (hk : 4 ≤ k) : cmp_Or_int.f k [x, y, z] = some (if x = 0 then (if y = 0 then z else y) else x) := by
  obtain ⟨k, rfl⟩ : ∃ m, k = m + 4 := ⟨k - 4, by omega⟩
  unfold cmp_Or_int.f
  by_cases h1 : x = 0
  · by_cases h2 : y = 0
    · by_cases h3 : z = 0 <;> simp [cmp_Or_int.l0, rd, wrap64, h1, h2, h3]
    · simp [cmp_Or_int.l0, rd, wrap64, h1, h2]
  · simp [cmp_Or_int.l0, rd, wrap64, h1]
def rowsP (a b : ByteArray) : Int :=
  if dig (bt a 0) = dig (bt b 0) then
    if dig (bt a 0) = true then
      if lessI (bareB a).size (bareB b).size = 0 then (if cmpL (L (bareB a)) (L (bareB b)) = 0 then lessI a.size b.size else cmpL (L (bareB a)) (L (bareB b))) else lessI (bareB a).size (bareB b).size
    else cmpL (L a) (L b)
  else if dig (bt a 0) = true then -1 else 1
theorem rows1 (a b : ByteArray) (k : Nat) (hk : 10 ≤ k) : words_rows.f k a b (dig (bt a 0)) (dig (bt b 0)) = some (rowsP a b) := by
  obtain ⟨k, rfl⟩ : ∃ m, k = m + 6 := ⟨k - 6, by omega⟩
  unfold words_rows.f rowsP
  cases hA : dig (bt a 0) <;> cases hB : dig (bt b 0) <;> simp [words_rows.j0, words_rows.j1, str1, bare1, less1, orF]
theorem rows2 (a b : ByteArray) (ha : 0 < a.size) (hb : 0 < b.size) (hm : a.size ≤ 140737488351232) (hn : b.size ≤ 140737488351232) (k : Nat) (hk : 2 * a.size + b.size + 10 ≤ k) : flotillaref01_rows.f k a b = some (rowsP a b) := by
  unfold flotillaref01_rows.f rowsP
  have hs := bareB_size a
  rw [if_pos (by omega), dig2, Option.bind_some, if_pos (by omega), dig2, Option.bind_some, bare2 a hm k (by omega), bare2 b hn k (by omega), str2' a b hm k (by omega)]
  cases hA : dig (bt a 0) <;> cases hB : dig (bt b 0) <;> simp [dig2, less2, hA, str2' (bareB a) (bareB b) (by omega) k (by omega)]
  split <;> (try split) <;> simp_all
def cmpB : Nat → ByteArray → ByteArray → Int
  | 0, a, b => lessI a.size b.size
  | n + 1, a, b => if a.size = 0 ∨ b.size = 0 then lessI a.size b.size else
      if rowsP (a.extract 0 (rE a)) (b.extract 0 (rE b)) = 0 then cmpB n (a.extract (rE a) a.size) (b.extract (rE b) b.size) else rowsP (a.extract 0 (rE a)) (b.extract 0 (rE b))
theorem cmpB_end (n : Nat) (a b : ByteArray) (h : a.size = 0 ∨ b.size = 0) : cmpB n a b = lessI a.size b.size := by
  cases n with
  | zero => rfl
  | succ n => rw [cmpB, if_pos h]
def cmpW (a b : ByteArray) : Int := cmpB (a.size + b.size) a b
theorem compare_ (n : Nat) : ∀ (a b : ByteArray) (k : Nat), a.size + b.size ≤ n → a.size ≤ 140737488351232 → b.size ≤ 140737488351232 → 5 * (a.size + b.size) + 50 ≤ k →
    words_Compare.l0 k a b = some (cmpB n a b) ∧ flotillaref01_Compare.l0 k a b = some (cmpB n a b) := by
  induction n with
  | zero =>
    intro a b k hn h1 h2 hk
    obtain ⟨k, rfl⟩ : ∃ m, k = m + 2 := ⟨k - 2, by omega⟩
    have e1 := (toList_nil a).2 (by omega)
    refine ⟨?_, ?_⟩
    · simp only [words_Compare.l0]
      rw [if_pos e1]
      simp only [words_Compare.j1]
      rw [if_neg (by simp), less1, Option.bind_some]
      rfl
    · simp only [flotillaref01_Compare.l0]
      rw [if_neg (by omega)]
      simp only [flotillaref01_Compare.j1]
      rw [if_neg (by simp), less2, Option.bind_some]
      rfl
  | succ n ih =>
    intro a b k hn h1 h2 hk
    obtain ⟨k, rfl⟩ : ∃ m, k = m + 2 := ⟨k - 2, by omega⟩
    by_cases hA : a.size = 0
    · have e1 := (toList_nil a).2 hA
      rw [cmpB_end _ _ _ (.inl hA)]
      refine ⟨?_, ?_⟩
      · simp only [words_Compare.l0]
        rw [if_pos e1]
        simp only [words_Compare.j1]
        rw [if_neg (by simp), less1, Option.bind_some]
      · simp only [flotillaref01_Compare.l0]
        rw [if_neg (by omega)]
        simp only [flotillaref01_Compare.j1]
        rw [if_neg (by simp), less2, Option.bind_some]
    have e1 : ¬ a.toList = [] := fun h => hA ((toList_nil a).1 h)
    by_cases hB : b.size = 0
    · have e2 := (toList_nil b).2 hB
      rw [cmpB_end _ _ _ (.inr hB)]
      refine ⟨?_, ?_⟩
      · simp only [words_Compare.l0]
        rw [if_neg e1]
        simp only [words_Compare.j1]
        rw [if_neg (by simp [e2]), less1, Option.bind_some]
      · simp only [flotillaref01_Compare.l0]
        rw [if_pos (by omega)]
        simp only [flotillaref01_Compare.j1]
        rw [if_neg (by simp [hB]), less2, Option.bind_some]
    have e2 : ¬ b.toList = [] := fun h => hB ((toList_nil b).1 h)
    obtain ⟨ra, ra'⟩ := rE_le a (by omega)
    obtain ⟨rb, rb'⟩ := rE_le b (by omega)
    have s1 := head_size a (rE a) ra'
    have s2 := head_size b (rE b) rb'
    have t1 := tail_size a (rE a)
    have t2 := tail_size b (rE b)
    have d1 := bt_head a (rE a) (by omega) ra'
    have d2 := bt_head b (rE b) (by omega) rb'
    have q1 := rows1 (a.extract 0 (rE a)) (b.extract 0 (rE b)) k (by omega)
    rw [d1, d2] at q1
    have q2 := rows2 (a.extract 0 (rE a)) (b.extract 0 (rE b)) (by omega) (by omega) (by omega) (by omega) k (by omega)
    rw [cmpB, if_neg (by omega)]
    by_cases h : rowsP (a.extract 0 (rE a)) (b.extract 0 (rE b)) = 0
    · obtain ⟨i1, i2⟩ := ih (a.extract (rE a) a.size) (b.extract (rE b) b.size) k (by omega) (by omega) (by omega) (by omega)
      rw [if_pos h]
      refine ⟨?_, ?_⟩
      · simp only [words_Compare.l0]
        rw [if_neg e1]
        simp only [words_Compare.j1]
        rw [if_pos (by simpa using e2), row1' a h1 (by omega) k (by omega), Option.bind_some, row1' b h2 (by omega) k (by omega), Option.bind_some, q1, Option.bind_some, if_pos h]
        exact i1
      · simp only [flotillaref01_Compare.l0]
        rw [if_pos (by omega)]
        simp only [flotillaref01_Compare.j1]
        rw [if_pos (by simp; omega), row2' a h1 (by omega) k (by omega), Option.bind_some, row2' b h2 (by omega) k (by omega), Option.bind_some, q2, Option.bind_some]
        simp only [h, if_true]
        exact i2
    · rw [if_neg h]
      refine ⟨?_, ?_⟩
      · simp only [words_Compare.l0]
        rw [if_neg e1]
        simp only [words_Compare.j1]
        rw [if_pos (by simpa using e2), row1' a h1 (by omega) k (by omega), Option.bind_some, row1' b h2 (by omega) k (by omega), Option.bind_some, q1, Option.bind_some, if_neg h]
      · simp only [flotillaref01_Compare.l0]
        rw [if_pos (by omega)]
        simp only [flotillaref01_Compare.j1]
        rw [if_pos (by simp; omega), row2' a h1 (by omega) k (by omega), Option.bind_some, row2' b h2 (by omega) k (by omega), Option.bind_some, q2, Option.bind_some]
        simp [h]
def cmpO (a b : ByteArray) : Option Int := if a.size ≤ 140737488351232 ∧ b.size ≤ 140737488351232 then some (cmpW a b) else none
theorem words_calls (a b : ByteArray) (r : Int) (w : World) (h : cmpO a b = some r) : Calls Tryd.prog 31 #[.string a, .string b] w fun e w' => e = .returned (.int .i64 r) ∧ Below w.heap.size w w' := by
  unfold cmpO at h
  split at h
  next hs =>
    obtain rfl := Option.some.inj h
    exact words_Compare.calls (5 * (a.size + b.size) + 50) a b _ w (compare_ _ a b _ (Nat.le_refl _) hs.1 hs.2 (Nat.le_refl _)).1
  next => cases h
theorem ref_calls (a b : ByteArray) (r : Int) (w : World) (h : cmpO a b = some r) : Calls Tryd.prog 39 #[.string a, .string b] w fun e w' => e = .returned (.int .i64 r) ∧ Below w.heap.size w w' := by
  unfold cmpO at h
  split at h
  next hs =>
    obtain rfl := Option.some.inj h
    exact (flotillaref01_Compare.calls (5 * (a.size + b.size) + 50) a b _ w (compare_ _ a b _ (Nat.le_refl _) hs.1 hs.2 (Nat.le_refl _)).2).mono fun e w' h' => ⟨h'.1, by have := h'.2; first | exact this | (obtain ⟨m, rfl⟩ := this; exact pw_below_drewN (Below.refl _ _) m)⟩
  next => cases h
structure IsCmp {α : Type} (c : α → α → Int) : Prop where
  anti : ∀ x y, c y x = - c x y
  trans : ∀ x y z, c x y ≤ 0 → c y z ≤ 0 → c x z ≤ 0
section
variable {α β : Type} {c d : α → α → Int}
theorem IsCmp.refl (h : IsCmp c) (x : α) : c x x = 0 := by have := h.anti x x; omega
theorem IsCmp.level (h : IsCmp c) {x y : α} (e : c x y = 0) (z : α) : (c x z ≤ 0 ↔ c y z ≤ 0) ∧ (c z x ≤ 0 ↔ c z y ≤ 0) := by
  have e' : c y x = 0 := by rw [h.anti x y]; omega
  exact ⟨⟨fun g => h.trans _ _ _ (by omega) g, fun g => h.trans _ _ _ (by omega) g⟩, ⟨fun g => h.trans _ _ _ g (by omega), fun g => h.trans _ _ _ g (by omega)⟩⟩
theorem IsCmp.level_neg (h : IsCmp c) {x y : α} (e : c x y = 0) (z : α) : (c x z < 0 ↔ c y z < 0) ∧ (0 < c x z ↔ 0 < c y z) := by
  have l := h.level e z
  have a1 := h.anti x z
  have a2 := h.anti y z
  constructor
  · constructor <;> intro g <;> (have := l.2; omega)
  · constructor <;> intro g <;> (have := l.1; omega)
theorem IsCmp.lt_trans (h : IsCmp c) {x y z : α} (h1 : c x y < 0) (h2 : c y z ≤ 0) : c x z < 0 := by
  have h3 := h.trans x y z (by omega) h2
  rcases Int.lt_or_eq_of_le h3 with g | g
  · exact g
  · have := h.level g y
    have a1 := h.anti z y
    have a2 := h.anti x y
    omega
theorem IsCmp.then_ (h : IsCmp c) (g : IsCmp d) : IsCmp fun x y => if c x y = 0 then d x y else c x y where
  anti x y := by
    have := h.anti x y
    have := g.anti x y
    show (if c y x = 0 then d y x else c y x) = -(if c x y = 0 then d x y else c x y)
    split <;> split <;> omega
  trans x y z h1 h2 := by
    replace h1 : (if c x y = 0 then d x y else c x y) ≤ 0 := h1
    replace h2 : (if c y z = 0 then d y z else c y z) ≤ 0 := h2
    show (if c x z = 0 then d x z else c x z) ≤ 0
    by_cases e1 : c x y = 0
    · rw [if_pos e1] at h1
      have l := h.level_neg e1 z
      by_cases e2 : c y z = 0
      · rw [if_pos e2] at h2
        have : c x z = 0 := by omega
        rw [if_pos this]
        exact g.trans _ _ _ h1 h2
      · rw [if_neg e2] at h2
        rw [if_neg (by omega)]
        omega
    · rw [if_neg e1] at h1
      have h2' : c y z ≤ 0 := by split at h2 <;> omega
      have := h.lt_trans (show c x y < 0 by omega) h2'
      rw [if_neg (by omega)]
      omega
theorem IsCmp.on (h : IsCmp c) (f : β → α) : IsCmp fun x y => c (f x) (f y) := ⟨fun x y => h.anti _ _, fun x y z => h.trans _ _ _⟩
theorem lessI_cmp : IsCmp lessI where
  anti x y := by unfold lessI; split <;> (try split) <;> (try split) <;> (try split) <;> omega
  trans x y z := by unfold lessI; split <;> (try split) <;> (try split) <;> (try split) <;> (try split) <;> (try split) <;> omega
def lexL (c : α → α → Int) : List α → List α → Int
  | [], [] => 0
  | [], _ :: _ => -1
  | _ :: _, [] => 1
  | a :: x, b :: y => if c a b = 0 then lexL c x y else c a b
theorem lexL_cmp (h : IsCmp c) : IsCmp (lexL c) where
  anti x := by
    induction x with
    | nil => intro y; cases y <;> simp [lexL]
    | cons a x ih =>
      intro y
      cases y with
      | nil => simp [lexL]
      | cons b y =>
        have := h.anti a b
        have := ih y
        simp only [lexL]
        split <;> split <;> omega
  trans x := by
    induction x with
    | nil => intro y z h1 h2; cases z <;> simp [lexL]
    | cons a x ih =>
      intro y z h1 h2
      cases y with
      | nil => simp [lexL] at h1
      | cons b y =>
        cases z with
        | nil => simp [lexL] at h2
        | cons e z =>
          simp only [lexL] at h1 h2 ⊢
          by_cases e1 : c a b = 0
          · rw [if_pos e1] at h1
            have l := h.level_neg e1 e
            by_cases e2 : c b e = 0
            · rw [if_pos e2] at h2
              rw [if_pos (by omega)]
              exact ih _ _ h1 h2
            · rw [if_neg e2] at h2
              rw [if_neg (by omega)]
              omega
          · rw [if_neg e1] at h1
            have h2' : c b e ≤ 0 := by split at h2 <;> omega
            have := h.lt_trans (show c a b < 0 by omega) h2'
            rw [if_neg (by omega)]
            omega
end
def byteC (a b : UInt8) : Int := lessI (a.toNat : Int) (b.toNat : Int)
theorem byteC_cmp : IsCmp byteC := lessI_cmp.on fun a : UInt8 => (a.toNat : Int)
theorem cmpL_lex (x y : List UInt8) : cmpL x y = lexL byteC x y := by
  induction x generalizing y with
  | nil => cases y <;> rfl
  | cons a x ih =>
    cases y with
    | nil => rfl
    | cons b y =>
      simp only [cmpL, lexL, ih, byteC, lessI, UInt8.lt_iff_toNat_lt]
      split <;> (try split) <;> (try split) <;> (try split) <;> (try split) <;> first | rfl | omega
theorem cmpL_cmp : IsCmp cmpL := by
  have : cmpL = lexL byteC := by funext x y; exact cmpL_lex x y
  rw [this]
  exact lexL_cmp byteC_cmp
def bI (b : Bool) : Int := if b = true then 1 else 0
theorem rowsP_lex (a b : ByteArray) : rowsP a b = if lessI (bI !(dig (bt a 0))) (bI !(dig (bt b 0))) = 0 then
    (if lessI (if dig (bt a 0) = true then (bareB a).size else 0) (if dig (bt b 0) = true then (bareB b).size else 0) = 0 then
      (if cmpL (if dig (bt a 0) = true then L (bareB a) else L a) (if dig (bt b 0) = true then L (bareB b) else L b) = 0 then lessI (if dig (bt a 0) = true then a.size else 0) (if dig (bt b 0) = true then b.size else 0)
        else cmpL (if dig (bt a 0) = true then L (bareB a) else L a) (if dig (bt b 0) = true then L (bareB b) else L b))
      else lessI (if dig (bt a 0) = true then (bareB a).size else 0) (if dig (bt b 0) = true then (bareB b).size else 0))
    else lessI (bI !(dig (bt a 0))) (bI !(dig (bt b 0))) := by
  unfold rowsP
  cases dig (bt a 0) <;> cases dig (bt b 0) <;> simp [bI, lessI]
theorem rowsP_cmp : IsCmp rowsP := by
  have h := (lessI_cmp.on fun a : ByteArray => bI !(dig (bt a 0))).then_ ((lessI_cmp.on fun a : ByteArray => (if dig (bt a 0) = true then ((bareB a).size : Int) else 0)).then_ ((cmpL_cmp.on fun a : ByteArray => if dig (bt a 0) = true then L (bareB a) else L a).then_ (lessI_cmp.on fun a : ByteArray => (if dig (bt a 0) = true then (a.size : Int) else 0))))
  refine ⟨fun x y => ?_, fun x y z => ?_⟩
  · rw [rowsP_lex, rowsP_lex]
    exact h.anti x y
  · rw [rowsP_lex, rowsP_lex, rowsP_lex]
    exact h.trans x y z
def toks : Nat → ByteArray → List ByteArray
  | 0, _ => []
  | n + 1, a => if a.size = 0 then [] else a.extract 0 (rE a) :: toks n (a.extract (rE a) a.size)
theorem toks_more (n : Nat) : ∀ (m : Nat) (a : ByteArray), a.size ≤ n → n ≤ m → toks m a = toks n a := by
  induction n with
  | zero =>
    intro m a h1 h2
    cases m with
    | zero => rfl
    | succ m => simp only [toks]; rw [if_pos (by omega)]
  | succ n ih =>
    intro m a h1 h2
    obtain ⟨m, rfl⟩ : ∃ q, m = q + 1 := ⟨m - 1, by omega⟩
    rw [toks, toks]
    by_cases h : a.size = 0
    · rw [if_pos h, if_pos h]
    · have := rE_le a (by omega)
      have := tail_size a (rE a)
      rw [if_neg h, if_neg h, ih m _ (by omega) (by omega)]
theorem cmpB_toks (n : Nat) : ∀ (a b : ByteArray), a.size ≤ n → b.size ≤ n → cmpB n a b = lexL rowsP (toks n a) (toks n b) := by
  induction n with
  | zero =>
    intro a b h1 h2
    rw [cmpB, lessI_eq (by omega)]
    rfl
  | succ n ih =>
    intro a b h1 h2
    rw [toks, toks]
    by_cases hA : a.size = 0
    · rw [cmpB_end _ _ _ (.inl hA), if_pos hA]
      by_cases hB : b.size = 0
      · rw [if_pos hB, lessI_eq (by omega)]
        rfl
      · rw [if_neg hB, lessI_lt (by omega)]
        rfl
    · by_cases hB : b.size = 0
      · rw [cmpB_end _ _ _ (.inr hB), if_neg hA, if_pos hB, lessI_gt (by omega)]
        rfl
      · have := rE_le a (by omega)
        have := tail_size a (rE a)
        have := rE_le b (by omega)
        have := tail_size b (rE b)
        rw [cmpB, if_neg (by omega), if_neg hA, if_neg hB, lexL, ih _ _ (by omega) (by omega)]
theorem cmpW_at (a b : ByteArray) (n : Nat) (h1 : a.size ≤ n) (h2 : b.size ≤ n) : cmpW a b = lexL rowsP (toks n a) (toks n b) := by
  unfold cmpW
  rw [cmpB_toks _ a b (by omega) (by omega)]
  have h3 := toks_more a.size (a.size + b.size) a (Nat.le_refl _) (by omega)
  have h4 := toks_more b.size (a.size + b.size) b (Nat.le_refl _) (by omega)
  rw [h3, h4, ← toks_more a.size n a (Nat.le_refl _) h1, ← toks_more b.size n b (Nat.le_refl _) h2]
theorem cmpW_cmp : IsCmp cmpW where
  anti x y := by
    rw [cmpW_at x y (x.size + y.size) (by omega) (by omega), cmpW_at y x (x.size + y.size) (by omega) (by omega)]
    exact (lexL_cmp rowsP_cmp).anti _ _
  trans x y z := by
    rw [cmpW_at x y (x.size + y.size + z.size) (by omega) (by omega), cmpW_at y z (x.size + y.size + z.size) (by omega) (by omega), cmpW_at x z (x.size + y.size + z.size) (by omega) (by omega)]
    exact (lexL_cmp rowsP_cmp).trans _ _ _
end Go.Proofs.YtiaggfjfgoiafaaDoor.Wc

/- Stable sorting, plainly: insertion, merging, and how a merge splits. -/
namespace Go.Proofs.YtiaggfjfgoiafaaDoor.Srt
open Go.Proofs.YtiaggfjfgoiafaaDoor.Wc
variable {α : Type} {c : α → α → Int}
def ins (c : α → α → Int) (x : α) : List α → List α
  | [] => [x]
  | y :: l => if c x y < 0 then x :: y :: l else y :: ins c x l
def isort (c : α → α → Int) (l : List α) : List α := l.foldl (fun acc x => ins c x acc) []
def merge (c : α → α → Int) : List α → List α → List α
  | [], q => q
  | p, [] => p
  | p :: P, q :: Q => if c q p < 0 then q :: merge c (p :: P) Q else p :: merge c P (q :: Q)
termination_by P Q => P.length + Q.length
theorem merge_nil_left (q : List α) : merge c [] q = q := by unfold merge; rfl
theorem merge_nil_right (p : List α) : merge c p [] = p := by cases p <;> (unfold merge; rfl)
theorem merge_cons (p q : α) (P Q : List α) : merge c (p :: P) (q :: Q) = if c q p < 0 then q :: merge c (p :: P) Q else p :: merge c P (q :: Q) := by rw [merge]
theorem merge_ins (h : IsCmp c) (x : α) (n : Nat) : ∀ P Q : List α, P.length + Q.length ≤ n → merge c P (ins c x Q) = ins c x (merge c P Q) := by
  induction n with
  | zero =>
    intro P Q hn
    cases P with
    | nil => rw [merge_nil_left, merge_nil_left]
    | cons p P => simp at hn
  | succ n ih =>
    intro P Q hn
    cases P with
    | nil => rw [merge_nil_left, merge_nil_left]
    | cons p P =>
      cases Q with
      | nil =>
        rw [merge_nil_right]
        have := ih P [] (by simp at hn ⊢; omega)
        simp only [ins] at this ⊢
        rw [merge_nil_right] at this
        rw [merge_cons, merge_nil_right]
        split
        · rfl
        · rw [this]
      | cons q Q =>
        simp only [ins]
        have a1 := h.anti x q
        have a2 := h.anti p q
        have a3 := h.anti x p
        by_cases hxq : c x q < 0
        · rw [if_pos hxq, merge_cons]
          by_cases hxp : c x p < 0
          · rw [if_pos hxp, merge_cons]
            split
            · simp only [ins, if_pos hxq]
            · simp only [ins, if_pos hxp]
          · rw [if_neg hxp]
            have hqp : ¬ c q p < 0 := fun g => by
              have := h.lt_trans hxq (by omega : c q p ≤ 0)
              omega
            rw [merge_cons, if_neg hqp]
            simp only [ins, if_neg hxp]
            have := ih P (q :: Q) (by simp at hn ⊢; omega)
            simp only [ins, if_pos hxq] at this
            rw [this]
        · rw [if_neg hxq, merge_cons, merge_cons]
          by_cases hqp : c q p < 0
          · rw [if_pos hqp, if_pos hqp]
            simp only [ins, if_neg hxq]
            rw [ih (p :: P) Q (by simp at hn ⊢; omega)]
          · rw [if_neg hqp, if_neg hqp]
            have hxp : ¬ c x p < 0 := fun g => by
              have := h.lt_trans g (by omega : c p q ≤ 0)
              omega
            simp only [ins, if_neg hxp]
            have := ih P (q :: Q) (by simp at hn ⊢; omega)
            simp only [ins, if_neg hxq] at this
            rw [this]
theorem isort_snoc (l : List α) (x : α) : isort c (l ++ [x]) = ins c x (isort c l) := by simp [isort]
theorem isort_app (h : IsCmp c) (A B : List α) : isort c (A ++ B) = merge c (isort c A) (isort c B) := by
  have key : ∀ n (B : List α), B.length = n → isort c (A ++ B) = merge c (isort c A) (isort c B) := by
    intro n
    induction n with
    | zero =>
      intro B hB
      obtain rfl := List.length_eq_zero_iff.1 hB
      rw [List.append_nil, show isort c ([] : List α) = [] from rfl, merge_nil_right]
    | succ n ih =>
      intro B hB
      obtain ⟨B', x, rfl⟩ : ∃ B' x, B = B' ++ [x] := by
        rcases List.eq_nil_or_concat B with rfl | ⟨B', x, rfl⟩
        · simp at hB
        · exact ⟨B', x, by simp⟩
      rw [← List.append_assoc, isort_snoc, isort_snoc, ih B' (by simp at hB; omega), merge_ins h x _ _ _ (Nat.le_refl _)]
  exact key B.length B rfl
theorem merge_split (n : Nat) : ∀ A1 B1 A2 B2 : List α, A1.length + B1.length ≤ n → (∀ a ∈ A1, ∀ b ∈ B2, ¬ c b a < 0) → (∀ a ∈ A2, ∀ b ∈ B1, c b a < 0) → merge c (A1 ++ A2) (B1 ++ B2) = merge c A1 B1 ++ merge c A2 B2 := by
  induction n with
  | zero =>
    intro A1 B1 A2 B2 hn _ _
    obtain rfl : A1 = [] := List.length_eq_zero_iff.1 (by omega)
    obtain rfl : B1 = [] := List.length_eq_zero_iff.1 (by omega)
    rw [merge_nil_left]
    rfl
  | succ n ih =>
    intro A1 B1 A2 B2 hn h1 h2
    cases A1 with
    | nil =>
      cases B1 with
      | nil => rw [merge_nil_left]; rfl
      | cons b B1 =>
        rw [merge_nil_left]
        cases A2 with
        | nil => simp [merge_nil_left]
        | cons a A2 =>
          have := ih [] B1 (a :: A2) B2 (by simp at hn ⊢; omega) (fun _ ha => absurd ha List.not_mem_nil) (fun a' ha' b' hb' => h2 a' ha' b' (List.mem_cons_of_mem _ hb'))
          simp only [List.nil_append, List.cons_append] at this ⊢
          rw [merge_cons, if_pos (h2 a List.mem_cons_self b List.mem_cons_self), this, merge_nil_left]
    | cons a A1 =>
      cases B1 with
      | nil =>
        rw [merge_nil_right]
        cases B2 with
        | nil => simp [merge_nil_right]
        | cons b B2 =>
          have := ih A1 [] A2 (b :: B2) (by simp at hn ⊢; omega) (fun a' ha' => h1 a' (List.mem_cons_of_mem _ ha')) (fun _ _ _ hb => absurd hb List.not_mem_nil)
          simp only [List.nil_append, List.cons_append] at this ⊢
          rw [merge_cons, if_neg (h1 a List.mem_cons_self b List.mem_cons_self), this, merge_nil_right]
      | cons b B1 =>
        simp only [List.cons_append]
        rw [merge_cons, merge_cons]
        by_cases hb : c b a < 0
        · rw [if_pos hb, if_pos hb]
          have := ih (a :: A1) B1 A2 B2 (by simp at hn ⊢; omega) h1 (fun a' ha' b' hb' => h2 a' ha' b' (List.mem_cons_of_mem _ hb'))
          rw [List.cons_append] at this
          rw [this, List.cons_append]
        · rw [if_neg hb, if_neg hb]
          have := ih A1 (b :: B1) A2 B2 (by simp at hn ⊢; omega) (fun a' ha' => h1 a' (List.mem_cons_of_mem _ ha')) h2
          rw [List.cons_append] at this
          rw [this, List.cons_append]
def Sorted (c : α → α → Int) (l : List α) : Prop := l.Pairwise fun x y => c x y ≤ 0
theorem mem_ins (x y : α) (l : List α) : y ∈ ins c x l ↔ y = x ∨ y ∈ l := by
  induction l with
  | nil => simp [ins]
  | cons z l ih =>
    simp only [ins]
    split
    · simp
    · simp only [List.mem_cons, ih]
      exact ⟨fun h => by rcases h with h | h | h <;> simp [h], fun h => by rcases h with h | h | h <;> simp [h]⟩
theorem ins_sorted (h : IsCmp c) (x : α) (l : List α) (hl : Sorted c l) : Sorted c (ins c x l) := by
  induction l with
  | nil => simp [ins, Sorted]
  | cons y l ih =>
    have hl' := List.pairwise_cons.1 hl
    simp only [ins]
    split
    next hx =>
      refine List.pairwise_cons.2 ⟨fun z hz => ?_, hl⟩
      rcases List.mem_cons.1 hz with rfl | hz
      · omega
      · exact h.trans _ _ _ (by omega) (hl'.1 z hz)
    next hx =>
      refine List.pairwise_cons.2 ⟨fun z hz => ?_, ih hl'.2⟩
      rcases (mem_ins x z l).1 hz with rfl | hz
      · have := h.anti z y
        omega
      · exact hl'.1 z hz
theorem isort_sorted (h : IsCmp c) (l : List α) : Sorted c (isort c l) := by
  have key : ∀ (l acc : List α), Sorted c acc → Sorted c (l.foldl (fun acc x => ins c x acc) acc) := by
    intro l
    induction l with
    | nil => intro acc ha; exact ha
    | cons x l ih => intro acc ha; exact ih _ (ins_sorted h x acc ha)
  exact key l [] List.Pairwise.nil
theorem ins_length (x : α) (l : List α) : (ins c x l).length = l.length + 1 := by
  induction l with
  | nil => rfl
  | cons y l ih => simp only [ins]; split <;> simp [ih]
theorem isort_length (l : List α) : (isort c l).length = l.length := by
  have key : ∀ (l acc : List α), (l.foldl (fun acc x => ins c x acc) acc).length = acc.length + l.length := by
    intro l
    induction l with
    | nil => intro acc; simp
    | cons x l ih => intro acc; rw [List.foldl_cons, ih, ins_length]; simp; omega
  have := key l []
  simp only [List.length_nil, Nat.zero_add] at this
  exact this
theorem mem_isort (x : α) (l : List α) : x ∈ isort c l ↔ x ∈ l := by
  have key : ∀ (l acc : List α), x ∈ l.foldl (fun acc x => ins c x acc) acc ↔ x ∈ acc ∨ x ∈ l := by
    intro l
    induction l with
    | nil => intro acc; simp
    | cons y l ih =>
      intro acc
      rw [List.foldl_cons, ih, mem_ins]
      simp only [List.mem_cons]
      exact ⟨fun h => by rcases h with (h | h) | h <;> simp [h], fun h => by rcases h with h | h | h <;> simp [h]⟩
  simpa [isort] using key l []
theorem ins_at (x : α) (A B : List α) (h1 : ∀ a ∈ A, ¬ c x a < 0) (h2 : ∀ b ∈ B, c x b < 0) : ins c x (A ++ B) = A ++ x :: B := by
  induction A with
  | nil =>
    cases B with
    | nil => rfl
    | cons b B => simp only [List.nil_append, ins]; rw [if_pos (h2 b List.mem_cons_self)]
  | cons a A ih =>
    simp only [List.cons_append, ins]
    rw [if_neg (h1 a List.mem_cons_self), ih (fun a' ha' => h1 a' (List.mem_cons_of_mem _ ha'))]
theorem merge_length (A B : List α) (n : Nat) (hn : A.length + B.length ≤ n) : (merge c A B).length = A.length + B.length := by
  induction n generalizing A B with
  | zero =>
    obtain rfl : A = [] := List.length_eq_zero_iff.1 (by omega)
    rw [merge_nil_left]
    simp
  | succ n ih =>
    cases A with
    | nil => rw [merge_nil_left]; simp
    | cons a A =>
      cases B with
      | nil => rw [merge_nil_right]; simp
      | cons b B =>
        rw [merge_cons]
        split
        · rw [List.length_cons, ih (a :: A) B (by simp at hn ⊢; omega)]; simp; omega
        · rw [List.length_cons, ih A (b :: B) (by simp at hn ⊢; omega)]; simp; omega
end Go.Proofs.YtiaggfjfgoiafaaDoor.Srt

/- slices' insertion sort over a block of objects, for whatever comparison. -/
namespace Go.Proofs.YtiaggfjfgoiafaaDoor
open Go.RowKit Go.Proofs.YtiaggfjfgoiafaaDoorW.PrintWords Go.Proofs.YtiaggfjfgoiafaaDoorW.PrintLast
def rg56_4_T : Bool × List (List Nat × List Nat) := (true, [([], []), ([], []), ([0, 1], [0, 1]), ([2], [2]), ([3], [3]), ([3], [3]), ([3], [3]), ([5, 6, 3], [3, 5, 6]), ([7, 3], [3, 7]), ([3], [3]), ([3], [3]), ([10, 3], [3, 10]), ([9, 11, 3], [3, 9, 11]), ([12, 3], [3, 12]), ([4, 8, 13, 3, 3], [3, 4, 8, 13]), ([14, 3], [3, 14]), ([3, 15], [3, 15])])
def rg56_4_B : List Nat := [0, 0, 3, 7, 15, 15, 15, 111, 239, 15, 15, 1039, 3599, 7695, 16383, 32767, 65535]
theorem rg56_4_tab : rtab .any (opsOf Tryd.f56 4) = rg56_4_T := by kernel_rfl
theorem rg56_4_bits : waitsOk rg56_4_T.2 rg56_4_B = true := by kernel_rfl
def rg56_6_T : Bool × List (List Nat × List Nat) := (true, [([], []), ([], []), ([], []), ([], []), ([3], [3]), ([], []), ([], []), ([6], [6]), ([5, 7], [5, 7]), ([8], [8]), ([], []), ([], []), ([10, 11], [10, 11]), ([12], [12]), ([0, 1, 0, 1, 5, 6, 7, 8, 9, 13], [0, 1]), ([14, 9, 0, 1, 5, 6, 7, 8, 9, 13], [9, 14]), ([2, 4, 0, 1, 2, 3, 4, 5, 6, 7, 8, 9, 10, 11, 12, 13, 14, 15], [2, 4]), ([16, 13, 15, 0, 1, 2, 3, 4, 5, 6, 7, 8, 9, 10, 11, 12, 13, 14, 15], [13, 16])])
def rg56_6_B : List Nat := [0, 0, 0, 0, 8, 0, 0, 64, 224, 480, 0, 0, 3072, 7168, 16355, 32739, 65535, 131071]
theorem rg56_6_tab : rtab .any (opsOf Tryd.f56 6) = rg56_6_T := by kernel_rfl
theorem rg56_6_bits : waitsOk rg56_6_T.2 rg56_6_B = true := by kernel_rfl
structure CmpAt (f : FuncId) (D : Array Value → Prop) (c : Array Value → Array Value → Int) : Prop where
  fn : ∃ fn, Tryd.prog.funcs[f]? = some fn ∧ (fn.name == "runtime.NumGoroutine") = false ∧ fn.body.isSome = true
  calls : ∀ x y, D x → D y → ∀ W, Calls Tryd.prog f #[.agg x, .agg y] W fun e w' => e = .returned (.int .i64 (c x y)) ∧ Below W.heap.size W w'
theorem at_mid {α : Type} (A B : List α) (y x : α) : (A ++ y :: x :: B)[A.length]? = some y ∧ (A ++ y :: x :: B)[A.length + 1]? = some x ∧ ((A ++ y :: x :: B).set (A.length + 1) y).set A.length x = A ++ x :: y :: B := by
  refine ⟨by simp, by simp [List.getElem?_append_right], ?_⟩
  induction A with
  | nil => rfl
  | cons z A ih => simp [ih]
theorem seg_snoc {α : Type} (L : List α) (a i : Nat) (h1 : a ≤ i) (h2 : i < L.length) : (L.drop a).take (i + 1 - a) = (L.drop a).take (i - a) ++ [L[i]] := by
  rw [show i + 1 - a = (i - a) + 1 by omega, List.take_add_one]
  congr 1
  rw [List.getElem?_drop, show a + (i - a) = i by omega, List.getElem?_eq_getElem h2]
  rfl
theorem ins_step (c : Array Value → Array Value → Int) (L : List (Array Value)) (a i : Nat) (h1 : a ≤ i) (h2 : i < L.length) (S1 S2 : List (Array Value)) (hS : Srt.isort c ((L.drop a).take (i - a)) = S1 ++ S2) (g1 : ∀ s ∈ S1, ¬ c L[i] s < 0) (g2 : ∀ s ∈ S2, c L[i] s < 0) :
    L.take a ++ S1 ++ L[i] :: (S2 ++ L.drop (i + 1)) = L.take a ++ Srt.isort c ((L.drop a).take (i + 1 - a)) ++ L.drop (i + 1) := by
  rw [seg_snoc L a i h1 h2, Srt.isort_snoc, hS, Srt.ins_at _ _ _ g1 g2]
  simp
set_option maxHeartbeats 16000000 in
set_option maxRecDepth 100000 in
theorem insSort_calls (f : FuncId) (D : Array Value → Prop) (c : Array Value → Array Value → Int) (hcmp : CmpAt f D c) (hc : Wc.IsCmp c) (L : List (Array Value)) (hD : ∀ x ∈ L, D x) (g cap a b : Nat) (hab : a ≤ b) (hb : b ≤ L.length) (hcap : L.length ≤ cap) (hn : L.length ≤ 1099511627776) (w : World) (hR : RowsAt w g 32 L) :
    Calls Tryd.prog 56 #[.slice (some ⟨g, 0, none⟩) L.length cap, .int .i64 a, .int .i64 b, .func (.func f) #[] #[]] w fun e w' =>
      (∃ v, e = .returned v) ∧ RowsAt w' g 32 (L.take a ++ Srt.isort c ((L.drop a).take (b - a)) ++ L.drop b) ∧ But g w w' := by
  have HC := Lib.hid hcmp
  have HD := Lib.hid hD
  have HR := Lib.hid hR
  obtain ⟨fn, hf1, hf2, hf3⟩ := hcmp.fn
  have HF := Lib.hid (And.intro hf1 (And.intro hf2 hf3))
  clear hcmp hD hR hf1 hf2 hf3
  have hnn : (L.length : Int) ≤ 1099511627776 := by omega
  go_enter Tryd.func56, Tryd.ntmps56
  go_wp2
  go_loopw [8] (fun v wr => ∃ i : Nat, a < i ∧ (i ≤ b ∨ i = a + 1) ∧ v = .int .i64 i ∧ Hid (RowsAt wr g 32 (L.take a ++ Srt.isort c ((L.drop a).take (i - a)) ++ L.drop i) ∧ But g w wr)) (fun v _ => b + 1 - (intOf v).toNat)
  case atStart =>
    refine ⟨a + 1, by omega, .inr rfl, by go_num, Lib.hid ⟨?_, But.refl _ _⟩⟩
    have e : L.take a ++ Srt.isort c ((L.drop a).take (a + 1 - a)) ++ L.drop (a + 1) = L := by
      rcases Nat.lt_or_ge a L.length with h | h
      · rw [seg_snoc L a a (Nat.le_refl _) h, Nat.sub_self, List.take_zero, List.nil_append]
        show L.take a ++ [L[a]] ++ L.drop (a + 1) = L
        rw [List.append_assoc, List.singleton_append, ← List.drop_eq_getElem_cons h, List.take_append_drop]
      · rw [List.drop_eq_nil_of_le h, List.take_nil, List.drop_eq_nil_of_le (by omega), List.take_of_length_le h]
        show L ++ [] ++ [] = L
        simp
    rw [e]
    exact HR.out
  case round =>
    obtain ⟨i, h1, h2, rfl, hI⟩ := hrel
    by_cases hlt : i < b
    · obtain ⟨S, hS⟩ : ∃ S, S = Srt.isort c ((L.drop a).take (i - a)) := ⟨_, rfl⟩
      have hSl : S.length = i - a := by rw [hS, Srt.isort_length]; simp; omega
      have hSs : Srt.Sorted c S := by rw [hS]; exact Srt.isort_sorted hc _
      have hSD : ∀ s ∈ S, D s := fun s hs => by
        rw [hS, Srt.mem_isort] at hs
        exact HD.out s (List.mem_of_mem_drop (List.mem_of_mem_take hs))
      have hil : i < L.length := by omega
      have HS := Lib.hid (And.intro hS (And.intro hSl (And.intro hSs (And.intro hSD hil))))
      clear hSl hSs hSD
      go_wp2
      go_loopw [9] (fun v wq => ∃ (S1 S2 : List (Array Value)) (z : Int), v = .int .i64 z ∧ Hid (z = (a : Int) + S1.length ∧ S = S1 ++ S2 ∧ (∀ s ∈ S2, c L[i] s < 0) ∧ RowsAt wq g 32 (L.take a ++ S1 ++ L[i] :: (S2 ++ L.drop (i + 1))) ∧ But g w wq)) (fun v _ => (intOf v).toNat)
      case atStart =>
        refine ⟨S, [], i, rfl, Lib.hid ⟨by have := HS.out.2.1; omega, (List.append_nil S).symm, fun _ h => absurd h List.not_mem_nil, ?_, hI.out.2⟩⟩
        have := hI.out.1
        rw [← HS.out.1, List.drop_eq_getElem_cons hil] at this
        exact this
      case round =>
        obtain ⟨S1, S2, z, rfl, hI2⟩ := hrel
        by_cases hgt : (a : Int) < z
        · obtain ⟨T, y, rfl⟩ : ∃ T y, S1 = T ++ [y] := by
            have := hI2.out.1
            rcases List.eq_nil_or_concat S1 with rfl | ⟨T, y, rfl⟩
            · simp at this; omega
            · exact ⟨T, y, by simp⟩
          have hz : z = (a : Int) + T.length + 1 := by have := hI2.out.1; simp at this; omega
          have hlen : a + T.length + 1 < L.length := by have := congrArg List.length hI2.out.2.1; have := HS.out.2.1; simp at *; omega
          obtain ⟨z1, hz1⟩ : ∃ z1 : Int, z1 = (a : Int) + T.length := ⟨_, rfl⟩
          have e1 : wrap64 (z - 1) = z1 := by unfold wrap64; omega
          have d1 : decide ((a : Int) < z) = true := decide_eq_true hgt
          have d2 : (0 ≤ z) = True := eq_true (by omega)
          have d3 : (z < (L.length : Int)) = True := eq_true (by omega)
          have d4 : (0 ≤ z1) = True := eq_true (by omega)
          have d5 : (z1 < (L.length : Int)) = True := eq_true (by omega)
          obtain ⟨R, hRr⟩ : ∃ R, R = S2 ++ L.drop (i + 1) := ⟨_, rfl⟩
          obtain ⟨x, hx⟩ : ∃ x, x = L[i] := ⟨_, rfl⟩
          obtain ⟨A, hA⟩ : ∃ A, A = L.take a ++ T := ⟨_, rfl⟩
          have hAl : A.length = a + T.length := by rw [hA, List.length_append, List.length_take]; omega
          obtain ⟨J0, J1, J2⟩ := at_mid A R y x
          rw [show A.length = z1.toNat by omega] at J0 J2
          rw [show A.length + 1 = z.toNat by omega] at J1
          rw [show z1.toNat + 1 = z.toNat by omega] at J2
          have hR2 := hI2.out.2.2.2.1
          rw [show L.take a ++ (T ++ [y]) ++ L[i] :: (S2 ++ L.drop (i + 1)) = A ++ y :: x :: R by rw [hA, hx, hRr]; simp] at hR2
          have hBt := hI2.out.2.2.2.2
          have dx : D x := by rw [hx]; exact HD.out _ (List.getElem_mem hil)
          have dy : D y := HS.out.2.2.2.1 y (by rw [hI2.out.2.1]; simp)
          have jz : z.toNat < (A ++ y :: x :: R).length := (List.getElem?_eq_some_iff.1 J1).1
          have jz1 : z1.toNat < (A ++ y :: x :: R).length := (List.getElem?_eq_some_iff.1 J0).1
          have ox := hR2.one x (by simp)
          have oy := hR2.one y (by simp)
          obtain ⟨cv, hcv⟩ : ∃ cv, cv = c x y := ⟨_, rfl⟩
          have HQ := HC.out.calls x y dx dy
          rw [← hcv] at HQ
          replace HQ := Lib.hid HQ
          have HZ := Lib.hid (And.intro hz (And.intro hz1 (And.intro hlen (And.intro hRr (And.intro hx (And.intro hA hcv))))))
          replace J0 := Lib.hid J0
          replace J1 := Lib.hid J1
          replace J2 := Lib.hid J2
          replace jz := Lib.hid jz
          replace jz1 := Lib.hid jz1
          replace ox := Lib.hid ox
          replace oy := Lib.hid oy
          replace hR2 := hR2.below (below_drew (Below.refl _ _))
          replace hBt := hBt.trans (But.of_below (below_drew (Below.refl _ _)))
          clear hz hz1 hlen hgt hRr hx hA hAl dx dy hcv
          go_upto_region 4 with (fail)
          refine start_ (n := 17) (S := fun w' => RowsAt w' g 32 (A ++ y :: x :: R)) (ds := []) (bs 17 0) (by kernel_rfl) rfl (by kernel_rfl) hR2 (fun hHeld => ?_)
          refine with_tabW rg56_4_tab rg56_4_bits (fun HT_ HW_ => ?_)
          refine pu 0 (some 18) (bs 17 1) HT_ rfl rfl (by kernel_rfl) (fun _ _ _ _ h => h) ⟨_, .inl ⟨by rfl, fun _ => by go_simp; with_reducible rfl⟩, _, by simp only [Act.put, sA, sB, sC, i64_w, i32_w]; rfl, ?_⟩
          refine pu 1 (some 19) (bs 17 3) HT_ rfl rfl (by kernel_rfl) (fun _ _ _ _ h => h) ⟨_, .inl ⟨by rfl, fun _ => by go_simp; with_reducible rfl⟩, _, by simp only [Act.put, sA, sB, sC, i64_w, i32_w]; rfl, ?_⟩
          refine pu 2 (some 20) (bs 17 7) HT_ rfl rfl (by kernel_rfl) (fun _ _ _ _ h => h) ⟨_, .inl ⟨by rfl, fun _ => by go_simp; with_reducible rfl⟩, _, by simp only [Act.put, sA, sB, sC, i64_w, i32_w]; rfl, ?_⟩
          refine pu 3 (some 21) (bs 17 15) HT_ rfl rfl (by kernel_rfl) (fun _ _ _ _ h => h) ⟨_, .inl ⟨by rfl, fun _ => by go_simp; with_reducible rfl⟩, _, by simp only [Act.put, sA, sB, sC, i64_w, i32_w]; rfl, ?_⟩
          refine pu 4 (some 22) (bs 17 31) HT_ rfl rfl (by kernel_rfl) (fun _ _ _ _ h => h) ⟨_, .inl ⟨by rfl, fun _ => by go_simp; with_reducible rfl⟩, _, by simp only [Act.put, sA, sB, sC, i64_w, i32_w]; rfl, ?_⟩
          refine pu 5 (some 23) (bs 17 63) HT_ rfl rfl (by kernel_rfl) (fun _ _ _ _ h => h) ⟨_, .inl ⟨by rfl, fun _ => by go_simp; with_reducible rfl⟩, _, by simp only [Act.put, sA, sB, sC, i64_w, i32_w]; rfl, ?_⟩
          refine pu 6 (some 24) (bs 17 127) HT_ rfl rfl (by kernel_rfl) (fun _ _ _ _ h => h) ⟨_, .inl ⟨by rfl, fun _ => by go_simp; with_reducible rfl⟩, _, by simp only [Act.put, sA, sB, sC, i64_w, i32_w]; rfl, ?_⟩
          refine pu 7 (some 25) (bs 17 255) HT_ rfl rfl (by kernel_rfl) (fun _ _ _ _ h => h) ⟨_, .inl ⟨by rfl, fun _ => by go_simp; with_reducible rfl⟩, _, by simp only [Act.put, sA, sB, sC, i64_w, i32_w]; rfl, ?_⟩
          refine pu 9 (some 27) (bs 17 767) HT_ rfl rfl (by kernel_rfl) (fun _ _ _ _ h => h) ⟨_, .inl ⟨by rfl, fun _ => by go_simp; with_reducible rfl⟩, _, by simp only [Act.put, sA, sB, sC, i64_w, i32_w]; rfl, ?_⟩
          refine pu 10 (some 28) (bs 17 1791) HT_ rfl rfl (by kernel_rfl) (fun _ _ _ _ h => h) ⟨_, .inl ⟨by rfl, fun _ => by go_simp; with_reducible rfl⟩, _, by simp only [Act.put, sA, sB, sC, i64_w, i32_w]; rfl, ?_⟩
          refine pu 11 (some 29) (bs 17 3839) HT_ rfl rfl (by kernel_rfl) (fun _ _ _ _ h => h) ⟨_, .inl ⟨by rfl, fun _ => by go_simp; with_reducible rfl⟩, _, by simp only [Act.put, sA, sB, sC, i64_w, i32_w]; rfl, ?_⟩
          refine pu 12 (some 30) (bs 17 7935) HT_ rfl rfl (by kernel_rfl) (fun _ _ _ _ h => h) ⟨_, .inl ⟨by rfl, fun _ => by go_simp; with_reducible rfl⟩, _, by simp only [Act.put, sA, sB, sC, i64_w, i32_w]; rfl, ?_⟩
          refine tk 8 (some 26) (bs 17 8191) HT_ HW_ rfl rfl (by kernel_rfl) (fun _ _ _ _ h => h) hHeld ⟨_, .inl ⟨by rfl, by rintro w' s0; refine load_mid (x := .tmp 25) (j := z.toNat) ?_ ?_ rfl s0 J1.out Tryd.underlying39 rfl (by kernel_rfl) <;> rfl⟩, _, by simp only [Act.put, sA, sB, sC, i64_w, i32_w]; rfl, ?_⟩
          refine tk 13 (some 31) (bs 17 16383) HT_ HW_ rfl rfl (by kernel_rfl) (fun _ _ _ _ h => h) hHeld ⟨_, .inl ⟨by rfl, by rintro w' s0; refine load_mid (x := .tmp 30) (j := z1.toNat) ?_ ?_ rfl s0 J0.out Tryd.underlying39 rfl (by kernel_rfl) <;> rfl⟩, _, by simp only [Act.put, sA, sB, sC, i64_w, i32_w]; rfl, ?_⟩
          refine on1 14 (some 32) (bs 17 32767) HT_ rfl rfl (by kernel_rfl) (by decide) (fun K hK => ?_)
          refine goesv_ (f := f) (x := .tmp 22) HF.out.1 HF.out.2.1 HF.out.2.2 #[.agg x, .agg y] (by rfl) rfl rfl rfl (by (try simp only [List.map_toArray, List.map_cons, List.map_nil]); first | done | rfl) ?_
          refine (HQ.out _).mono ?_
          rintro e w1 ⟨rfl, hb1⟩
          replace hR2 := hR2.below hb1
          replace hBt := hBt.trans (But.of_below hb1)
          clear hb1
          refine ⟨_, rfl, ?_⟩
          refine hK.out _ _ hR2 (fun hHeld => ?_)
          clear hK K
          refine nm ⟨_, show Act.put _ (some 32) _ = _ by simp only [Act.put, sA, sB, sC, i64_w, i32_w]; rfl, ?_⟩
          refine pu 15 (some 33) (bs 17 65535) HT_ rfl rfl (by kernel_rfl) (fun _ _ _ _ h => h) ⟨_, .inl ⟨by rfl, fun _ => by go_simp; with_reducible rfl⟩, _, by simp only [Act.put, sA, sB, sC, i64_w, i32_w]; rfl, ?_⟩
          refine pu 16 (some 34) (bs 17 131071) HT_ rfl rfl (by kernel_rfl) (fun _ _ _ _ h => h) ⟨_, .inl ⟨by rfl, fun _ => by go_simp; with_reducible rfl⟩, _, by simp only [Act.put, sA, sB, sC, i64_w, i32_w]; rfl, ?_⟩
          refine done_ (done_of HT_.out (by kernel_rfl)) ?_
          by_cases hneg : cv < 0
          · have d6 : decide (cv < 0) = true := decide_eq_true hneg
            replace hR2 := hR2.below (below_drew (Below.refl _ _))
            replace hBt := hBt.trans (But.of_below (below_drew (Below.refl _ _)))
            go_upto_region 6 with (fail)
            refine start_ (n := 18) (S := fun w' => RowsAt w' g 32 (A ++ y :: x :: R)) (ds := [15, 17]) (bs 18 0) (by kernel_rfl) rfl (by kernel_rfl) hR2 (fun hHeld => ?_)
            refine with_tabW rg56_6_tab rg56_6_bits (fun HT_ HW_ => ?_)
            refine pu 0 (some 37) (bs 18 1) HT_ rfl rfl (by kernel_rfl) (fun _ _ _ _ h => h) ⟨_, .inl ⟨by rfl, fun _ => by go_simp; with_reducible rfl⟩, _, by simp only [Act.put, sA, sB, sC, i64_w, i32_w]; rfl, ?_⟩
            refine pu 1 (some 38) (bs 18 3) HT_ rfl rfl (by kernel_rfl) (fun _ _ _ _ h => h) ⟨_, .inl ⟨by rfl, fun _ => by go_simp; with_reducible rfl⟩, _, by simp only [Act.put, sA, sB, sC, i64_w, i32_w]; rfl, ?_⟩
            refine pu 2 (some 39) (bs 18 7) HT_ rfl rfl (by kernel_rfl) (fun _ _ _ _ h => h) ⟨_, .inl ⟨by rfl, fun _ => by go_simp; with_reducible rfl⟩, _, by simp only [Act.put, sA, sB, sC, i64_w, i32_w]; rfl, ?_⟩
            refine pu 3 (some 40) (bs 18 15) HT_ rfl rfl (by kernel_rfl) (fun _ _ _ _ h => h) ⟨_, .inl ⟨by rfl, fun _ => by go_simp; with_reducible rfl⟩, _, by simp only [Act.put, sA, sB, sC, i64_w, i32_w]; rfl, ?_⟩
            refine pu 4 (some 41) (bs 18 31) HT_ rfl rfl (by kernel_rfl) (fun _ _ _ _ h => h) ⟨_, .inl ⟨by rfl, fun _ => by go_simp; with_reducible rfl⟩, _, by simp only [Act.put, sA, sB, sC, i64_w, i32_w]; rfl, ?_⟩
            refine pu 5 (some 42) (bs 18 63) HT_ rfl rfl (by kernel_rfl) (fun _ _ _ _ h => h) ⟨_, .inl ⟨by rfl, fun _ => by go_simp; with_reducible rfl⟩, _, by simp only [Act.put, sA, sB, sC, i64_w, i32_w]; rfl, ?_⟩
            refine pu 6 (some 43) (bs 18 127) HT_ rfl rfl (by kernel_rfl) (fun _ _ _ _ h => h) ⟨_, .inl ⟨by rfl, fun _ => by go_simp; with_reducible rfl⟩, _, by simp only [Act.put, sA, sB, sC, i64_w, i32_w]; rfl, ?_⟩
            refine pu 7 (some 44) (bs 18 255) HT_ rfl rfl (by kernel_rfl) (fun _ _ _ _ h => h) ⟨_, .inl ⟨by rfl, fun _ => by go_simp; with_reducible rfl⟩, _, by simp only [Act.put, sA, sB, sC, i64_w, i32_w]; rfl, ?_⟩
            refine pu 8 (some 45) (bs 18 511) HT_ rfl rfl (by kernel_rfl) (fun _ _ _ _ h => h) ⟨_, .inl ⟨by rfl, fun _ => by go_simp; with_reducible rfl⟩, _, by simp only [Act.put, sA, sB, sC, i64_w, i32_w]; rfl, ?_⟩
            refine pu 10 (some 47) (bs 18 1535) HT_ rfl rfl (by kernel_rfl) (fun _ _ _ _ h => h) ⟨_, .inl ⟨by rfl, fun _ => by go_simp; with_reducible rfl⟩, _, by simp only [Act.put, sA, sB, sC, i64_w, i32_w]; rfl, ?_⟩
            refine pu 11 (some 48) (bs 18 3583) HT_ rfl rfl (by kernel_rfl) (fun _ _ _ _ h => h) ⟨_, .inl ⟨by rfl, fun _ => by go_simp; with_reducible rfl⟩, _, by simp only [Act.put, sA, sB, sC, i64_w, i32_w]; rfl, ?_⟩
            refine pu 12 (some 49) (bs 18 7679) HT_ rfl rfl (by kernel_rfl) (fun _ _ _ _ h => h) ⟨_, .inl ⟨by rfl, fun _ => by go_simp; with_reducible rfl⟩, _, by simp only [Act.put, sA, sB, sC, i64_w, i32_w]; rfl, ?_⟩
            refine tk 9 (some 46) (bs 18 8191) HT_ HW_ rfl rfl (by kernel_rfl) (fun _ _ _ _ h => h) hHeld ⟨_, .inl ⟨by rfl, by rintro w' s0; refine load_mid (x := .tmp 45) (j := z1.toNat) ?_ ?_ rfl s0 J0.out Tryd.underlying39 rfl (by kernel_rfl) <;> rfl⟩, _, by simp only [Act.put, sA, sB, sC, i64_w, i32_w]; rfl, ?_⟩
            refine tk 13 (some 50) (bs 18 16383) HT_ HW_ rfl rfl (by kernel_rfl) (fun _ _ _ _ h => h) hHeld ⟨_, .inl ⟨by rfl, by rintro w' s0; refine load_mid (x := .tmp 49) (j := z.toNat) ?_ ?_ rfl s0 J1.out Tryd.underlying39 rfl (by kernel_rfl) <;> rfl⟩, _, by simp only [Act.put, sA, sB, sC, i64_w, i32_w]; rfl, ?_⟩
            refine pu 14 (some 51) (bs 18 32767) HT_ rfl rfl (by kernel_rfl) (fun _ _ _ _ h => h) ⟨_, .inl ⟨by rfl, fun _ => by go_simp; with_reducible rfl⟩, _, by simp only [Act.put, sA, sB, sC, i64_w, i32_w]; rfl, ?_⟩
            refine la1 15 (none) (bs 18 65535) HT_ rfl rfl (by kernel_rfl) (by decide) (fun K hK => ?_)
            refine stores_mid (j := z.toNat) (x := .tmp 51) (y := .tmp 46) (by rfl) rfl rfl rfl rfl rfl hR2 jz.out oy.out.1 oy.out.2 (by kernel_rfl) ?_
            intro w5 hR5 hB5
            refine hK.out _ _ ?_
            clear hK K
            refine pu 16 (some 52) (bs 18 131071) HT_ rfl rfl (by kernel_rfl) (fun _ _ _ _ h => h) ⟨_, .inl ⟨by rfl, fun _ => by go_simp; with_reducible rfl⟩, _, by simp only [Act.put, sA, sB, sC, i64_w, i32_w]; rfl, ?_⟩
            refine la1 17 (none) (bs 18 262143) HT_ rfl rfl (by kernel_rfl) (by decide) (fun K hK => ?_)
            refine stores_mid (j := z1.toNat) (x := .tmp 52) (y := .tmp 50) (by rfl) rfl rfl rfl rfl rfl hR5 (by rw [List.length_set]; exact jz1.out) ox.out.1 ox.out.2 (by kernel_rfl) ?_
            intro w6 hR6 hB6
            refine hK.out _ _ ?_
            clear hK K
            refine done_ (done_of HT_.out (by kernel_rfl)) ?_
            rw [J2.out] at hR6
            replace hBt := (hBt.trans hB5).trans hB6
            go_wp2
            go_roundw
            case rel =>
              refine ⟨T, y :: S2, z1, by first | rfl | (simp; done) | (simp [*]; done), Lib.hid ⟨HZ.out.2.1, by rw [hI2.out.2.1]; simp, fun s hs => ?_, ?_, hBt⟩⟩
              · rcases List.mem_cons.1 hs with rfl | hs
                · rw [← HZ.out.2.2.2.2.1, ← HZ.out.2.2.2.2.2.2]; exact hneg
                · exact hI2.out.2.2.1 s hs
              · have e := HZ.out.2.2.2.2
                rw [e.2.1, e.1, HZ.out.2.2.2.1] at hR6
                simpa using hR6
            case measure => have := HZ.out.1; have := HZ.out.2.1; simp [intOf]; omega
          · have d6 : decide (cv < 0) = false := decide_eq_false hneg
            go_wp2
            go_roundw
            case rel =>
              refine ⟨i + 1, by omega, .inl (by omega), by go_num, Lib.hid ⟨?_, hBt⟩⟩
              have e := HZ.out.2.2.2.2
              rw [e.2.1, e.1, HZ.out.2.2.2.1] at hR2
              rw [← ins_step c L a i (by omega) hil (T ++ [y]) S2 (HS.out.1.symm.trans hI2.out.2.1) (fun s hs => ?_) hI2.out.2.2.1]
              · simpa using hR2
              · have hsrt := HS.out.2.2.1
                rw [hI2.out.2.1] at hsrt
                have hyx : ¬ c L[i] y < 0 := by rw [← e.1, ← e.2.2]; exact hneg
                rcases List.mem_append.1 hs with hs | hs
                · have h3 : c s y ≤ 0 := by
                    have h4 := (List.pairwise_append.1 (List.pairwise_append.1 hsrt).1).2.2
                    exact h4 s hs y (List.mem_singleton.2 rfl)
                  intro h5
                  exact hyx (hc.lt_trans h5 h3)
                · obtain rfl := List.mem_singleton.1 hs
                  exact hyx
            case measure => simp [intOf]; omega
        · have hS1 : S1 = [] := by
            have := hI2.out.1
            exact List.length_eq_zero_iff.1 (by omega)
          subst hS1
          have d1 : decide ((a : Int) < z) = false := decide_eq_false hgt
          have hR2 := hI2.out.2.2.2.1
          have hBt := hI2.out.2.2.2.2
          replace hR2 := hR2.below (below_drew (Below.refl _ _))
          replace hBt := hBt.trans (But.of_below (below_drew (Below.refl _ _)))
          go_upto_region 4 with (fail)
          refine start_ (n := 17) (S := fun w' => True) (ds := []) (bs 17 0) (by kernel_rfl) rfl (by kernel_rfl) trivial (fun hHeld => ?_)
          refine with_tabW rg56_4_tab rg56_4_bits (fun HT_ HW_ => ?_)
          refine pu 0 (some 18) (bs 17 1) HT_ rfl rfl (by kernel_rfl) (fun _ _ _ _ h => h) ⟨_, .inl ⟨by rfl, fun _ => by go_simp; with_reducible rfl⟩, _, by simp only [Act.put, sA, sB, sC, i64_w, i32_w]; rfl, ?_⟩
          refine pu 1 (some 19) (bs 17 3) HT_ rfl rfl (by kernel_rfl) (fun _ _ _ _ h => h) ⟨_, .inl ⟨by rfl, fun _ => by go_simp; with_reducible rfl⟩, _, by simp only [Act.put, sA, sB, sC, i64_w, i32_w]; rfl, ?_⟩
          refine pu 2 (some 20) (bs 17 7) HT_ rfl rfl (by kernel_rfl) (fun _ _ _ _ h => h) ⟨_, .inl ⟨by rfl, fun _ => by go_simp; with_reducible rfl⟩, _, by simp only [Act.put, sA, sB, sC, i64_w, i32_w]; rfl, ?_⟩
          refine pu 3 (some 21) (bs 17 15) HT_ rfl rfl (by kernel_rfl) (fun _ _ _ _ h => h) ⟨_, .inl ⟨by rfl, fun _ => by go_simp; with_reducible rfl⟩, _, by simp only [Act.put, sA, sB, sC, i64_w, i32_w]; rfl, ?_⟩
          refine pu 4 (some 22) (bs 17 31) HT_ rfl rfl (by kernel_rfl) (fun _ _ _ _ h => h) ⟨_, .inr ⟨by rfl, rfl⟩, _, by simp only [Act.put, sA, sB, sC, i64_w, i32_w]; rfl, ?_⟩
          refine pu 5 (some 23) (bs 17 63) HT_ rfl rfl (by kernel_rfl) (fun _ _ _ _ h => h) ⟨_, .inr ⟨by rfl, rfl⟩, _, by simp only [Act.put, sA, sB, sC, i64_w, i32_w]; rfl, ?_⟩
          refine pu 6 (some 24) (bs 17 127) HT_ rfl rfl (by kernel_rfl) (fun _ _ _ _ h => h) ⟨_, .inr ⟨by rfl, rfl⟩, _, by simp only [Act.put, sA, sB, sC, i64_w, i32_w]; rfl, ?_⟩
          refine pu 7 (some 25) (bs 17 255) HT_ rfl rfl (by kernel_rfl) (fun _ _ _ _ h => h) ⟨_, .inr ⟨by rfl, rfl⟩, _, by simp only [Act.put, sA, sB, sC, i64_w, i32_w]; rfl, ?_⟩
          refine pu 8 (some 26) (bs 17 511) HT_ rfl rfl (by kernel_rfl) (fun _ _ _ _ h => h) ⟨_, .inr ⟨by rfl, rfl⟩, _, by simp only [Act.put, sA, sB, sC, i64_w, i32_w]; rfl, ?_⟩
          refine pu 9 (some 27) (bs 17 1023) HT_ rfl rfl (by kernel_rfl) (fun _ _ _ _ h => h) ⟨_, .inr ⟨by rfl, rfl⟩, _, by simp only [Act.put, sA, sB, sC, i64_w, i32_w]; rfl, ?_⟩
          refine pu 10 (some 28) (bs 17 2047) HT_ rfl rfl (by kernel_rfl) (fun _ _ _ _ h => h) ⟨_, .inr ⟨by rfl, rfl⟩, _, by simp only [Act.put, sA, sB, sC, i64_w, i32_w]; rfl, ?_⟩
          refine pu 11 (some 29) (bs 17 4095) HT_ rfl rfl (by kernel_rfl) (fun _ _ _ _ h => h) ⟨_, .inr ⟨by rfl, rfl⟩, _, by simp only [Act.put, sA, sB, sC, i64_w, i32_w]; rfl, ?_⟩
          refine pu 12 (some 30) (bs 17 8191) HT_ rfl rfl (by kernel_rfl) (fun _ _ _ _ h => h) ⟨_, .inr ⟨by rfl, rfl⟩, _, by simp only [Act.put, sA, sB, sC, i64_w, i32_w]; rfl, ?_⟩
          refine pu 13 (some 31) (bs 17 16383) HT_ rfl rfl (by kernel_rfl) (fun _ _ _ _ h => h) ⟨_, .inr ⟨by rfl, rfl⟩, _, by simp only [Act.put, sA, sB, sC, i64_w, i32_w]; rfl, ?_⟩
          refine pu 14 (some 32) (bs 17 32767) HT_ rfl rfl (by kernel_rfl) (fun _ _ _ _ h => h) ⟨_, .inr ⟨by rfl, rfl⟩, _, by simp only [Act.put, sA, sB, sC, i64_w, i32_w]; rfl, ?_⟩
          refine pu 15 (some 33) (bs 17 65535) HT_ rfl rfl (by kernel_rfl) (fun _ _ _ _ h => h) ⟨_, .inr ⟨by rfl, rfl⟩, _, by simp only [Act.put, sA, sB, sC, i64_w, i32_w]; rfl, ?_⟩
          refine pu 16 (some 34) (bs 17 131071) HT_ rfl rfl (by kernel_rfl) (fun _ _ _ _ h => h) ⟨_, .inl ⟨by rfl, fun _ => by go_simp; with_reducible rfl⟩, _, by simp only [Act.put, sA, sB, sC, i64_w, i32_w]; rfl, ?_⟩
          refine done_ (done_of HT_.out (by kernel_rfl)) ?_
          go_wp2
          go_roundw
          case rel =>
            refine ⟨i + 1, by omega, .inl (by omega), by go_num, Lib.hid ⟨?_, hBt⟩⟩
            rw [← ins_step c L a i (by omega) hil [] S2 (HS.out.1.symm.trans hI2.out.2.1) (fun s hs => absurd hs List.not_mem_nil) hI2.out.2.2.1]
            exact hR2
          case measure => simp [intOf]; omega
    · go_wp2
      have hend : L.take a ++ Srt.isort c ((L.drop a).take (i - a)) ++ L.drop i = L.take a ++ Srt.isort c ((L.drop a).take (b - a)) ++ L.drop b := by
        rcases h2 with h2 | h2
        · rw [show i = b by omega]
        · subst h2
          rcases Nat.lt_or_ge a b with h3 | h3
          · rw [show a + 1 = b by omega]
          · obtain rfl : a = b := by omega
            rw [Nat.sub_self, List.take_zero, show a + 1 - a = 1 by omega]
            show _ = L.take a ++ [] ++ L.drop a
            rw [List.append_nil, List.take_append_drop]
            rcases Nat.lt_or_ge a L.length with h | h
            · rw [show (L.drop a).take 1 = [L[a]] by rw [List.drop_eq_getElem_cons h]; rfl]
              show L.take a ++ [L[a]] ++ L.drop (a + 1) = L
              rw [List.append_assoc, List.singleton_append, ← List.drop_eq_getElem_cons h, List.take_append_drop]
            · rw [List.drop_eq_nil_of_le h, List.take_nil, List.drop_eq_nil_of_le (by omega), List.take_of_length_le h]
              show L ++ [] ++ [] = L
              simp
      rw [← hend]
      exact ⟨rfl, .tuple #[], by simp [results, Tryd.results56], ⟨_, rfl⟩, hI.out.1, hI.out.2⟩
end Go.Proofs.YtiaggfjfgoiafaaDoor

/- rank.Less: the order in which pods end, over objects that are read by the parts that it looks at. -/
namespace Go.Proofs.YtiaggfjfgoiafaaDoor
open Go.RowKit Go.Proofs.YtiaggfjfgoiafaaDoorW.PrintWords Go.Proofs.YtiaggfjfgoiafaaDoorW.PrintLast
structure Pod (cs : Array Value) (name : ByteArray) (born : Int) (node : ByteArray) (phase : Int) (ready : Bool) : Prop where
  size : cs.size = 32
  c1 : cs[1]? = some (.string name)
  c3 : cs[3]? = some (.int .i64 born)
  c13 : cs[13]? = some (.string node)
  c14 : cs[14]? = some (.int .i64 phase)
  c15 : cs[15]? = some (.bool ready)
theorem Pod.lit {cs : Array Value} {n : ByteArray} {b : Int} {o : ByteArray} {p : Int} {r : Bool} (h : Pod cs n b o p r) : ∃ v0 v2 v4 v5 v6 v7 v8 v9 v10 v11 v12 v16 v17 v18 v19 v20 v21 v22 v23 v24 v25 v26 v27 v28 v29 v30 v31 : Value, cs = #[v0, .string n, v2, .int .i64 b, v4, v5, v6, v7, v8, v9, v10, v11, v12, .string o, .int .i64 p, .bool r, v16, v17, v18, v19, v20, v21, v22, v23, v24, v25, v26, v27, v28, v29, v30, v31] := by
  obtain ⟨hs, h1, h3, h13, h14, h15⟩ := h
  refine ⟨cs[0], cs[2], cs[4], cs[5], cs[6], cs[7], cs[8], cs[9], cs[10], cs[11], cs[12], cs[16], cs[17], cs[18], cs[19], cs[20], cs[21], cs[22], cs[23], cs[24], cs[25], cs[26], cs[27], cs[28], cs[29], cs[30], cs[31], ?_⟩
  have e1 : cs[1] = .string n := (Array.getElem?_eq_some_iff.1 h1).2
  have e3 : cs[3] = .int .i64 b := (Array.getElem?_eq_some_iff.1 h3).2
  have e13 : cs[13] = .string o := (Array.getElem?_eq_some_iff.1 h13).2
  have e14 : cs[14] = .int .i64 p := (Array.getElem?_eq_some_iff.1 h14).2
  have e15 : cs[15] = .bool r := (Array.getElem?_eq_some_iff.1 h15).2
  rw [← e1, ← e3, ← e13, ← e14, ← e15]
  obtain ⟨l⟩ := cs
  match l, hs with
  | [x0, x1, x2, x3, x4, x5, x6, x7, x8, x9, x10, x11, x12, x13, x14, x15, x16, x17, x18, x19, x20, x21, x22, x23, x24, x25, x26, x27, x28, x29, x30, x31], _ => rfl
def one (b : Bool) : Int := if b = true then 1 else 0
def ordV (born : Int) (node : ByteArray) (phase : Int) (ready : Bool) : Array Value := #[.int .i64 (one !node.toList.isEmpty), .int .i64 (one (phase == 1)), .int .i64 (one ready), .int .i64 (wrap64 (-1 - born))]
def rg63_1_T : Bool × List (List Nat × List Nat) := (true, [([], []), ([0], [0]), ([1], [1]), ([2], [2]), ([], []), ([4], [4]), ([5], [5]), ([6, 3], [6]), ([], []), ([8], [8]), ([9, 7], [9]), ([], []), ([11], [11]), ([12], [12]), ([3, 7, 10, 13], [3, 7, 10, 13]), ([14, 10, 0, 1, 2, 3, 4, 5, 6, 7, 8, 9, 10, 11, 12, 13, 14], [14])])
def rg63_1_B : List Nat := [0, 1, 3, 7, 0, 16, 48, 127, 0, 256, 1023, 0, 2048, 6144, 16383, 32767]
def rg48_1_T : Bool × List (List Nat × List Nat) := (true, [([], []), ([0], [0]), ([], []), ([2, 1], [2]), ([], []), ([], []), ([4, 1, 3, 0, 1, 3, 4, 5], [1, 4]), ([5, 3, 6, 0, 1, 2, 3, 4, 5, 6], [3, 5])])
def rg48_1_B : List Nat := [0, 1, 0, 7, 0, 0, 63, 127]
def rg48_4_T : Bool × List (List Nat × List Nat) := (true, [([], []), ([], []), ([0, 1], [0, 1]), ([2], [2]), ([3, 2, 0, 1, 2, 3], [3])])
def rg48_4_B : List Nat := [0, 0, 3, 7, 15]
def ord4 (x0 x1 x2 x3 y0 y1 y2 y3 : Int) : Int := Wc.lexL Wc.lessI [x0, x1, x2, x3] [y0, y1, y2, y3]
def lessF (n1 n2 : ByteArray) (b1 b2 : Int) (o1 o2 : ByteArray) (p1 p2 : Int) (r1 r2 : Bool) : Bool :=
  if ((one !o1.toList.isEmpty) == (one !o2.toList.isEmpty) && (one (p1 == 1) == one (p2 == 1) && (one r1 == one r2 && (wrap64 (-1 - b1) == wrap64 (-1 - b2) && true)))) = true then decide (0 < Wc.cmpW n1 n2)
  else decide (ord4 (one !o1.toList.isEmpty) (one (p1 == 1)) (one r1) (wrap64 (-1 - b1)) (one !o2.toList.isEmpty) (one (p2 == 1)) (one r2) (wrap64 (-1 - b2)) < 0)
end Go.Proofs.YtiaggfjfgoiafaaDoor

/- The order in which pods end, plainly: lessF is 'below' of one order of all pods. -/
namespace Go.Proofs.YtiaggfjfgoiafaaDoor
open Go.RowKit Go.Proofs.YtiaggfjfgoiafaaDoorW.PrintWords
structure PK where
  name : ByteArray
  born : Int
  node : ByteArray
  phase : Int
  ready : Bool
def PK.key (x : PK) : List Int := [one !x.node.toList.isEmpty, one (x.phase == 1), one x.ready, wrap64 (-1 - x.born)]
def podC (x y : PK) : Int := if Wc.lexL Wc.lessI x.key y.key = 0 then Wc.cmpW y.name x.name else Wc.lexL Wc.lessI x.key y.key
def PK.less (x y : PK) : Bool := lessF x.name y.name x.born y.born x.node y.node x.phase y.phase x.ready y.ready
end Go.Proofs.YtiaggfjfgoiafaaDoor

/- The comparison that rank.Victims hands to the sort: one order of all objects. -/
namespace Go.Proofs.YtiaggfjfgoiafaaDoor
open Go.RowKit Go.Proofs.YtiaggfjfgoiafaaDoorW.PrintWords Go.Proofs.YtiaggfjfgoiafaaDoorW.PrintLast
def Ob.pk (o : Ob) : PK := ⟨o.name, o.born, o.node, o.phase, o.ready⟩
def strAt (x : Array Value) (i : Nat) : ByteArray := match x[i]? with | some (.string s) => s | _ => ByteArray.empty
def intAt (x : Array Value) (i : Nat) : Int := match x[i]? with | some (.int _ n) => n | _ => 0
def boolAt (x : Array Value) (i : Nat) : Bool := match x[i]? with | some (.bool b) => b | _ => false
def pkOf (x : Array Value) : PK := ⟨strAt x 1, intAt x 3, strAt x 13, intAt x 14, boolAt x 15⟩
def cV (p q : PK) : Int := one (q.less p) - one (p.less q)
def cVa (x y : Array Value) : Int := cV (pkOf x) (pkOf y)
def IsObj (x : Array Value) : Prop := ∃ (o : Ob) (v4 v27 : Value), x = o.cells v4 v27 ∧ o.name.size ≤ 140737488351232
def rg46_1_T : Bool × List (List Nat × List Nat) := (true, [([], []), ([], []), ([0, 1], [0, 1]), ([2, 2], [2]), ([], []), ([], []), ([4, 5, 3], [4, 5]), ([6, 6], [6]), ([3, 7], [3, 7]), ([8, 7, 0, 1, 2, 3, 4, 5, 6, 7, 8], [8])])
def rg46_1_B : List Nat := [0, 0, 3, 7, 0, 0, 63, 127, 255, 511]
end Go.Proofs.YtiaggfjfgoiafaaDoor

/- slices' swapRange and rotate over a block of objects. -/
namespace Go.Proofs.YtiaggfjfgoiafaaDoor
open Go.RowKit Go.Proofs.YtiaggfjfgoiafaaDoorW.PrintWords Go.Proofs.YtiaggfjfgoiafaaDoorW.PrintLast
def rg77_3_T : Bool × List (List Nat × List Nat) := (true, [([], []), ([], []), ([], []), ([1, 2], [1, 2]), ([], []), ([], []), ([], []), ([5, 6], [5, 6]), ([], []), ([], []), ([], []), ([9, 10], [9, 10]), ([8, 11], [8, 11]), ([12], [12]), ([], []), ([], []), ([], []), ([15, 16], [15, 16]), ([14, 17], [14, 17]), ([18], [18]), ([0, 3, 0, 1, 2, 3, 8, 9, 10, 11, 12, 13, 19], [0, 3]), ([20, 13, 0, 1, 2, 3, 8, 9, 10, 11, 12, 13, 19], [13, 20]), ([4, 7, 0, 1, 2, 3, 4, 5, 6, 7, 8, 9, 10, 11, 12, 13, 14, 15, 16, 17, 18, 19, 20, 21], [4, 7]), ([22, 19, 21, 0, 1, 2, 3, 4, 5, 6, 7, 8, 9, 10, 11, 12, 13, 14, 15, 16, 17, 18, 19, 20, 21], [19, 22])])
def rg77_3_B : List Nat := [0, 0, 0, 6, 0, 0, 0, 96, 0, 0, 0, 1536, 3840, 7936, 0, 0, 0, 98304, 245760, 507904, 1048335, 2096911, 4194303, 8388607]
theorem rg77_3_tab : rtab .any (opsOf Tryd.f77 3) = rg77_3_T := by kernel_rfl
theorem rg77_3_bits : waitsOk rg77_3_T.2 rg77_3_B = true := by kernel_rfl
theorem at_two {α : Type} (A B C : List α) (u v : α) : (A ++ u :: (B ++ v :: C))[A.length]? = some u ∧ (A ++ u :: (B ++ v :: C))[A.length + 1 + B.length]? = some v ∧ ((A ++ u :: (B ++ v :: C)).set A.length v).set (A.length + 1 + B.length) u = A ++ v :: (B ++ u :: C) := by
  refine ⟨by simp, ?_, ?_⟩
  · rw [List.getElem?_append_right (by omega), show A.length + 1 + B.length - A.length = B.length + 1 by omega]
    simp
  · induction A with
    | nil =>
      show (v :: (B ++ v :: C)).set (0 + 1 + B.length) u = v :: (B ++ u :: C)
      rw [show 0 + 1 + B.length = B.length + 1 by omega, List.set_cons_succ]
      congr 1
      induction B with
      | nil => rfl
      | cons b B ih => simp [ih]
    | cons z A ih =>
      rw [List.length_cons, show A.length + 1 + 1 + B.length = (A.length + 1 + B.length) + 1 by omega]
      simp only [List.cons_append, List.set_cons_succ, ih]
set_option maxHeartbeats 16000000 in
set_option maxRecDepth 100000 in
theorem swap_calls (X U Y V Z : List (Array Value)) (hUV : V.length = U.length) (g cap : Nat) (len : Nat) (hlen : len = (X ++ U ++ Y ++ V ++ Z).length) (hcap : len ≤ cap) (hn : len ≤ 1099511627776) (a b n : Int) (ha : a = X.length) (hb : b = (X.length + U.length + Y.length : Nat)) (hnu : n = U.length) (cv : Value) (w : World)
    (hR : RowsAt w g 32 (X ++ U ++ Y ++ V ++ Z)) :
    Calls Tryd.prog 77 #[.slice (some ⟨g, 0, none⟩) len cap, .int .i64 a, .int .i64 b, .int .i64 n, cv] w fun e w' =>
      (∃ v, e = .returned v) ∧ RowsAt w' g 32 (X ++ V ++ Y ++ U ++ Z) ∧ But g w w' := by
  have HR := Lib.hid hR
  have HA := Lib.hid (And.intro ha (And.intro hb (And.intro hnu (And.intro hUV hlen))))
  clear hR ha hb hnu hUV hlen
  have hnn : (len : Int) ≤ 1099511627776 := by omega
  go_enter Tryd.func77, Tryd.ntmps77
  go_wp2
  go_loopw [10] (fun v wr => ∃ (U1 U2 V1 V2 : List (Array Value)) (z : Int), v = .int .i64 z ∧ Hid (z = U1.length ∧ U = U1 ++ U2 ∧ V = V1 ++ V2 ∧ V1.length = U1.length ∧ RowsAt wr g 32 (X ++ V1 ++ U2 ++ Y ++ U1 ++ V2 ++ Z) ∧ But g w wr)) (fun v _ => (n - intOf v).toNat)
  case atStart => exact ⟨[], U, [], V, 0, rfl, Lib.hid ⟨rfl, rfl, rfl, rfl, by have := HR.out; simpa using this, But.refl _ _⟩⟩
  case round =>
    obtain ⟨U1, U2, V1, V2, z, rfl, hI⟩ := hrel
    by_cases hlt : z < n
    · have hl := HA.out
      have h0 := hI.out.1
      have hUl := congrArg List.length hI.out.2.1
      have hVl := congrArg List.length hI.out.2.2.1
      rw [List.length_append] at hUl hVl
      have h4 := hI.out.2.2.2.1
      obtain ⟨u, U3, rfl⟩ : ∃ u U3, U2 = u :: U3 := by
        cases U2 with
        | nil => simp at hUl; omega
        | cons u U3 => exact ⟨u, U3, rfl⟩
      obtain ⟨v, V3, rfl⟩ : ∃ v V3, V2 = v :: V3 := by
        cases V2 with
        | nil => simp at hVl hUl; omega
        | cons v V3 => exact ⟨v, V3, rfl⟩
      obtain ⟨A, hA⟩ : ∃ A, A = X ++ V1 := ⟨_, rfl⟩
      obtain ⟨B, hB⟩ : ∃ B, B = U3 ++ Y ++ U1 := ⟨_, rfl⟩
      obtain ⟨C, hC⟩ : ∃ C, C = V3 ++ Z := ⟨_, rfl⟩
      have hAl : A.length = X.length + V1.length := by rw [hA, List.length_append]
      have hBl : B.length = U3.length + Y.length + U1.length := by rw [hB, List.length_append, List.length_append]
      have hle : len = X.length + U.length + Y.length + V.length + Z.length := by rw [hl.2.2.2.2]; simp; omega
      simp only [List.length_cons] at hUl hVl
      obtain ⟨p, hp⟩ : ∃ p : Int, p = a + z := ⟨_, rfl⟩
      obtain ⟨q, hq⟩ : ∃ q : Int, q = b + z := ⟨_, rfl⟩
      have e1 : wrap64 (a + z) = p := by unfold wrap64; omega
      have e2 : wrap64 (b + z) = q := by unfold wrap64; omega
      have d2 : (0 ≤ p) = True := eq_true (by omega)
      have d3 : (p < (len : Int)) = True := eq_true (by omega)
      have d4 : (0 ≤ q) = True := eq_true (by omega)
      have d5 : (q < (len : Int)) = True := eq_true (by omega)
      obtain ⟨J0, J1, J2⟩ := at_two A B C u v
      rw [show A.length + 1 + B.length = q.toNat by omega, show A.length = p.toNat by omega] at *
      have hR2 := hI.out.2.2.2.2.1
      rw [show X ++ V1 ++ u :: U3 ++ Y ++ U1 ++ v :: V3 ++ Z = A ++ u :: (B ++ v :: C) by rw [hA, hB, hC]; simp] at hR2
      have hBt := hI.out.2.2.2.2.2
      have jp : p.toNat < (A ++ u :: (B ++ v :: C)).length := (List.getElem?_eq_some_iff.1 J0).1
      have jq : q.toNat < (A ++ u :: (B ++ v :: C)).length := (List.getElem?_eq_some_iff.1 J1).1
      have ou := hR2.one u (by simp)
      have ov := hR2.one v (by simp)
      have e3 : wrap64 (z + 1) = z + 1 := by unfold wrap64; omega
      have d1 : decide (z < n) = true := decide_eq_true hlt
      have HZ := Lib.hid (And.intro hA (And.intro hB (And.intro hC hlt)))
      replace J0 := Lib.hid J0
      replace J1 := Lib.hid J1
      replace J2 := Lib.hid J2
      replace jp := Lib.hid jp
      replace jq := Lib.hid jq
      replace ou := Lib.hid ou
      replace ov := Lib.hid ov
      replace hR2 := hR2.below (below_drew (Below.refl _ _))
      replace hBt := hBt.trans (But.of_below (below_drew (Below.refl _ _)))
      clear hA hB hC hAl hBl hle hUl hVl h4 h0 hl hp hq hlt
      go_upto_region 3 with (fail)
      refine start_ (n := 24) (S := fun w' => RowsAt w' g 32 (A ++ u :: (B ++ v :: C))) (ds := [21, 23]) (bs 24 0) (by kernel_rfl) rfl (by kernel_rfl) hR2 (fun hHeld => ?_)
      refine with_tabW rg77_3_tab rg77_3_bits (fun HT_ HW_ => ?_)
      refine pu 0 (some 16) (bs 24 1) HT_ rfl rfl (by kernel_rfl) (fun _ _ _ _ h => h) ⟨_, .inl ⟨by rfl, fun _ => by go_simp; with_reducible rfl⟩, _, by simp only [Act.put, sA, sB, sC, i64_w, i32_w]; rfl, ?_⟩
      refine pu 1 (some 17) (bs 24 3) HT_ rfl rfl (by kernel_rfl) (fun _ _ _ _ h => h) ⟨_, .inl ⟨by rfl, fun _ => by go_simp; with_reducible rfl⟩, _, by simp only [Act.put, sA, sB, sC, i64_w, i32_w]; rfl, ?_⟩
      refine pu 2 (some 18) (bs 24 7) HT_ rfl rfl (by kernel_rfl) (fun _ _ _ _ h => h) ⟨_, .inl ⟨by rfl, fun _ => by go_simp; with_reducible rfl⟩, _, by simp only [Act.put, sA, sB, sC, i64_w, i32_w]; rfl, ?_⟩
      refine pu 3 (some 19) (bs 24 15) HT_ rfl rfl (by kernel_rfl) (fun _ _ _ _ h => h) ⟨_, .inl ⟨by rfl, fun _ => by go_simp; with_reducible rfl⟩, _, by simp only [Act.put, sA, sB, sC, i64_w, i32_w]; rfl, ?_⟩
      refine pu 4 (some 20) (bs 24 31) HT_ rfl rfl (by kernel_rfl) (fun _ _ _ _ h => h) ⟨_, .inl ⟨by rfl, fun _ => by go_simp; with_reducible rfl⟩, _, by simp only [Act.put, sA, sB, sC, i64_w, i32_w]; rfl, ?_⟩
      refine pu 5 (some 21) (bs 24 63) HT_ rfl rfl (by kernel_rfl) (fun _ _ _ _ h => h) ⟨_, .inl ⟨by rfl, fun _ => by go_simp; with_reducible rfl⟩, _, by simp only [Act.put, sA, sB, sC, i64_w, i32_w]; rfl, ?_⟩
      refine pu 6 (some 22) (bs 24 127) HT_ rfl rfl (by kernel_rfl) (fun _ _ _ _ h => h) ⟨_, .inl ⟨by rfl, fun _ => by go_simp; with_reducible rfl⟩, _, by simp only [Act.put, sA, sB, sC, i64_w, i32_w]; rfl, ?_⟩
      refine pu 7 (some 23) (bs 24 255) HT_ rfl rfl (by kernel_rfl) (fun _ _ _ _ h => h) ⟨_, .inl ⟨by rfl, fun _ => by go_simp; with_reducible rfl⟩, _, by simp only [Act.put, sA, sB, sC, i64_w, i32_w]; rfl, ?_⟩
      refine pu 8 (some 24) (bs 24 511) HT_ rfl rfl (by kernel_rfl) (fun _ _ _ _ h => h) ⟨_, .inl ⟨by rfl, fun _ => by go_simp; with_reducible rfl⟩, _, by simp only [Act.put, sA, sB, sC, i64_w, i32_w]; rfl, ?_⟩
      refine pu 9 (some 25) (bs 24 1023) HT_ rfl rfl (by kernel_rfl) (fun _ _ _ _ h => h) ⟨_, .inl ⟨by rfl, fun _ => by go_simp; with_reducible rfl⟩, _, by simp only [Act.put, sA, sB, sC, i64_w, i32_w]; rfl, ?_⟩
      refine pu 10 (some 26) (bs 24 2047) HT_ rfl rfl (by kernel_rfl) (fun _ _ _ _ h => h) ⟨_, .inl ⟨by rfl, fun _ => by go_simp; with_reducible rfl⟩, _, by simp only [Act.put, sA, sB, sC, i64_w, i32_w]; rfl, ?_⟩
      refine pu 11 (some 27) (bs 24 4095) HT_ rfl rfl (by kernel_rfl) (fun _ _ _ _ h => h) ⟨_, .inl ⟨by rfl, fun _ => by go_simp; with_reducible rfl⟩, _, by simp only [Act.put, sA, sB, sC, i64_w, i32_w]; rfl, ?_⟩
      refine pu 12 (some 28) (bs 24 8191) HT_ rfl rfl (by kernel_rfl) (fun _ _ _ _ h => h) ⟨_, .inl ⟨by rfl, fun _ => by go_simp; with_reducible rfl⟩, _, by simp only [Act.put, sA, sB, sC, i64_w, i32_w]; rfl, ?_⟩
      refine pu 14 (some 30) (bs 24 24575) HT_ rfl rfl (by kernel_rfl) (fun _ _ _ _ h => h) ⟨_, .inl ⟨by rfl, fun _ => by go_simp; with_reducible rfl⟩, _, by simp only [Act.put, sA, sB, sC, i64_w, i32_w]; rfl, ?_⟩
      refine pu 15 (some 31) (bs 24 57343) HT_ rfl rfl (by kernel_rfl) (fun _ _ _ _ h => h) ⟨_, .inl ⟨by rfl, fun _ => by go_simp; with_reducible rfl⟩, _, by simp only [Act.put, sA, sB, sC, i64_w, i32_w]; rfl, ?_⟩
      refine pu 16 (some 32) (bs 24 122879) HT_ rfl rfl (by kernel_rfl) (fun _ _ _ _ h => h) ⟨_, .inl ⟨by rfl, fun _ => by go_simp; with_reducible rfl⟩, _, by simp only [Act.put, sA, sB, sC, i64_w, i32_w]; rfl, ?_⟩
      refine pu 17 (some 33) (bs 24 253951) HT_ rfl rfl (by kernel_rfl) (fun _ _ _ _ h => h) ⟨_, .inl ⟨by rfl, fun _ => by go_simp; with_reducible rfl⟩, _, by simp only [Act.put, sA, sB, sC, i64_w, i32_w]; rfl, ?_⟩
      refine pu 18 (some 34) (bs 24 516095) HT_ rfl rfl (by kernel_rfl) (fun _ _ _ _ h => h) ⟨_, .inl ⟨by rfl, fun _ => by go_simp; with_reducible rfl⟩, _, by simp only [Act.put, sA, sB, sC, i64_w, i32_w]; rfl, ?_⟩
      refine tk 13 (some 29) (bs 24 524287) HT_ HW_ rfl rfl (by kernel_rfl) (fun _ _ _ _ h => h) hHeld ⟨_, .inl ⟨by rfl, by rintro w' s0; refine load_mid (x := .tmp 28) (j := q.toNat) ?_ ?_ rfl s0 J1.out Tryd.underlying39 rfl (by kernel_rfl) <;> rfl⟩, _, by simp only [Act.put, sA, sB, sC, i64_w, i32_w]; rfl, ?_⟩
      refine tk 19 (some 35) (bs 24 1048575) HT_ HW_ rfl rfl (by kernel_rfl) (fun _ _ _ _ h => h) hHeld ⟨_, .inl ⟨by rfl, by rintro w' s0; refine load_mid (x := .tmp 34) (j := p.toNat) ?_ ?_ rfl s0 J0.out Tryd.underlying39 rfl (by kernel_rfl) <;> rfl⟩, _, by simp only [Act.put, sA, sB, sC, i64_w, i32_w]; rfl, ?_⟩
      refine pu 20 (some 36) (bs 24 2097151) HT_ rfl rfl (by kernel_rfl) (fun _ _ _ _ h => h) ⟨_, .inl ⟨by rfl, fun _ => by go_simp; with_reducible rfl⟩, _, by simp only [Act.put, sA, sB, sC, i64_w, i32_w]; rfl, ?_⟩
      refine la1 21 (none) (bs 24 4194303) HT_ rfl rfl (by kernel_rfl) (by decide) (fun K hK => ?_)
      refine stores_mid (j := p.toNat) (x := .tmp 36) (y := .tmp 29) (by rfl) rfl rfl rfl rfl rfl hR2 jp.out ov.out.1 ov.out.2 (by kernel_rfl) ?_
      intro w5 hR5 hB5
      refine hK.out _ _ ?_
      clear hK K
      refine pu 22 (some 37) (bs 24 8388607) HT_ rfl rfl (by kernel_rfl) (fun _ _ _ _ h => h) ⟨_, .inl ⟨by rfl, fun _ => by go_simp; with_reducible rfl⟩, _, by simp only [Act.put, sA, sB, sC, i64_w, i32_w]; rfl, ?_⟩
      refine la1 23 (none) (bs 24 16777215) HT_ rfl rfl (by kernel_rfl) (by decide) (fun K hK => ?_)
      refine stores_mid (j := q.toNat) (x := .tmp 37) (y := .tmp 35) (by rfl) rfl rfl rfl rfl rfl hR5 (by rw [List.length_set]; exact jq.out) ou.out.1 ou.out.2 (by kernel_rfl) ?_
      intro w6 hR6 hB6
      refine hK.out _ _ ?_
      clear hK K
      refine done_ (done_of HT_.out (by kernel_rfl)) ?_
      rw [J2.out] at hR6
      replace hBt := (hBt.trans hB5).trans hB6
      go_wp2
      go_roundw
      case rel =>
        refine ⟨U1 ++ [u], U3, V1 ++ [v], V3, z + 1, by first | rfl | (simp; done) | (simp [*]; done), Lib.hid ⟨?_, by rw [hI.out.2.1]; simp, by rw [hI.out.2.2.1]; simp, ?_, ?_, hBt⟩⟩
        · have := hI.out.1
          simp
          omega
        · have := hI.out.2.2.2.1
          simp
          omega
        · rw [HZ.out.1, HZ.out.2.1, HZ.out.2.2.1] at hR6
          simpa using hR6
      case measure => have := HZ.out.2.2.2; simp [intOf]; omega
    · have d1 : decide (z < n) = false := decide_eq_false hlt
      go_wp2
      have hl := HA.out
      have h0 := hI.out.1
      have hUl := congrArg List.length hI.out.2.1
      have hVl := congrArg List.length hI.out.2.2.1
      rw [List.length_append] at hUl hVl
      have h4 := hI.out.2.2.2.1
      obtain rfl : U2 = [] := List.length_eq_zero_iff.1 (by omega)
      obtain rfl : V2 = [] := List.length_eq_zero_iff.1 (by omega)
      have hR2 := hI.out.2.2.2.2.1
      have hu := hI.out.2.1
      have hv := hI.out.2.2.1
      simp only [List.append_nil] at hu hv hR2
      rw [← hu, ← hv] at hR2
      exact ⟨rfl, .tuple #[], by simp [results, Tryd.results77], ⟨_, rfl⟩, by simpa using hR2, hI.out.2.2.2.2.2⟩
set_option maxHeartbeats 16000000 in
set_option maxRecDepth 100000 in
theorem rotate_calls (X U V Z : List (Array Value)) (hU : 0 < U.length) (hV : 0 < V.length) (g cap : Nat) (len : Nat) (hlen : len = (X ++ U ++ V ++ Z).length) (hcap : len ≤ cap) (hn : len ≤ 1099511627776) (a m b : Int) (ha : a = X.length) (hm : m = (X.length + U.length : Nat)) (hb : b = (X.length + U.length + V.length : Nat)) (cv : Value) (w : World)
    (hR : RowsAt w g 32 (X ++ U ++ V ++ Z)) :
    Calls Tryd.prog 70 #[.slice (some ⟨g, 0, none⟩) len cap, .int .i64 a, .int .i64 m, .int .i64 b, cv] w fun e w' =>
      (∃ v, e = .returned v) ∧ RowsAt w' g 32 (X ++ V ++ U ++ Z) ∧ But g w w' := by
  have HR := Lib.hid hR
  have hle : len = X.length + U.length + V.length + Z.length := by rw [hlen]; simp; omega
  have e1 : wrap64 (m - a) = U.length := by unfold wrap64; omega
  have e2 : wrap64 (b - m) = V.length := by unfold wrap64; omega
  have HA := Lib.hid (And.intro ha (And.intro hm (And.intro hb (And.intro hle (And.intro hU hV)))))
  have HE := Lib.hid (And.intro e1 e2)
  clear hR ha hm hb hlen hle hU hV e1 e2
  go_enter Tryd.func70, Tryd.ntmps70
  go_wp2
  go_loopw [10, 11] (fun v10 v11 wr => ∃ (P S T Q : List (Array Value)) (zi zj : Int), v10 = .int .i64 zi ∧ v11 = .int .i64 zj ∧ Hid (zi = S.length ∧ zj = T.length ∧ 0 < zi ∧ 0 < zj ∧ m = P.length + S.length ∧ len = (P ++ S ++ T ++ Q).length ∧ P ++ T ++ S ++ Q = X ++ V ++ U ++ Z ∧ RowsAt wr g 32 (P ++ S ++ T ++ Q) ∧ But g w wr)) (fun v10 v11 _ => (intOf v10 + intOf v11).toNat)
  case atStart => exact ⟨X, U, V, Z, _, _, rfl, rfl, Lib.hid ⟨HE.out.1, HE.out.2, by have := HA.out; have := HE.out; omega, by have := HA.out; have := HE.out; omega, by have := HA.out; omega, by have := HA.out; simp; omega, rfl, HR.out, But.refl _ _⟩⟩
  case round =>
    obtain ⟨P, S, T, Q, zi, zj, rfl, rfl, hI⟩ := hrel
    obtain ⟨i1, i2, i3, i4, i5, i6, i7, i8, i9⟩ := hI.out
    have i6' : len = P.length + S.length + T.length + Q.length := by rw [i6]; simp; omega
    have f1 : wrap64 (m - zi) = P.length := by unfold wrap64; omega
    by_cases heq : zi = zj
    · have d1 : (zi == zj) = true := beq_iff_eq.mpr heq
      have d1' : (zi != zj) = false := bne_eq_false_iff_eq.mpr heq
      have QS := swap_calls P S [] T Q (by omega) g cap len (by rw [i6]; simp) hcap hn (P.length) m zi rfl (by simp; omega) i1 cv
      have HQ := Lib.hid (fun W hW => QS W hW)
      have HS := Lib.hid (And.intro i7 (And.intro i8 i9))
      clear QS i1 i2 i3 i4 i5 i6 i6' i7 i8 i9 heq
      go_wp2_with (go_at_call 77; (with_reducible refine (HQ.out _ (by have := HS.out.2.1; simpa using this)).mono ?_); rintro e w7 ⟨⟨v7, rfl⟩, hR7, hB7⟩)
      have e := HS.out.1
      exact ⟨rfl, .tuple #[], by simp [results, Tryd.results70], ⟨_, rfl⟩, by rw [← e]; simpa using hR7, HS.out.2.2.trans hB7⟩
    · have d1 : (zi == zj) = false := beq_eq_false_iff_ne.mpr heq
      have d1' : (zi != zj) = true := bne_iff_ne.mpr heq
      by_cases hgt : zi > zj
      · have d2 : decide (zj < zi) = true := decide_eq_true hgt
        obtain ⟨S1, S2, rfl, hS1⟩ : ∃ S1 S2, S = S1 ++ S2 ∧ S1.length = T.length := ⟨S.take T.length, S.drop T.length, (List.take_append_drop _ _).symm, by rw [List.length_take]; omega⟩
        rw [List.length_append] at i1 i5 i6'
        have QS := swap_calls P S1 S2 T Q (by omega) g cap len (by rw [i6]; simp) hcap hn (P.length) m zj rfl (by omega) (by omega) cv
        have f2 : wrap64 (zi - zj) = zi - zj := by unfold wrap64; omega
        have HQ := Lib.hid (fun W hW => QS W hW)
        have HS := Lib.hid (And.intro hS1 (And.intro i1 (And.intro i2 (And.intro i3 (And.intro i4 (And.intro i5 (And.intro i6 (And.intro i7 (And.intro i8 (And.intro i9 hgt))))))))))
        clear QS i1 i2 i3 i4 i5 i6 i6' i7 i8 i9 heq hgt hS1
        go_wp2_with (go_at_call 77; (with_reducible refine (HQ.out _ (by have := HS.out.2.2.2.2.2.2.2.2.1; simpa using this)).mono ?_); rintro e w7 ⟨⟨v7, rfl⟩, hR7, hB7⟩)
        obtain ⟨g1, g2, g3, g4, g5, g6, g7, g8, g9, g10, g11⟩ := HS.out
        go_roundw
        case rel => exact ⟨P ++ T, S2, S1, Q, zi - zj, zj, by first | rfl | rw [f2], rfl, Lib.hid ⟨by omega, by omega, by omega, by omega, by rw [List.length_append]; omega, by rw [g7]; simp; omega, by rw [← g8]; simp, by simpa using hR7, g10.trans hB7⟩⟩
        case measure => simp [intOf]; omega
      · have d2 : decide (zj < zi) = false := decide_eq_false hgt
        obtain ⟨T1, T2, rfl, hT2⟩ : ∃ T1 T2, T = T1 ++ T2 ∧ T2.length = S.length := ⟨T.take (T.length - S.length), T.drop (T.length - S.length), (List.take_append_drop _ _).symm, by rw [List.length_drop]; omega⟩
        rw [List.length_append] at i2 i6'
        obtain ⟨x, hx⟩ : ∃ x : Int, x = m + zj - zi := ⟨_, rfl⟩
        have f2 : wrap64 (m + zj) = m + zj := by unfold wrap64; omega
        have f3 : wrap64 (m + zj - zi) = x := by unfold wrap64; omega
        have f4 : wrap64 (zj - zi) = zj - zi := by unfold wrap64; omega
        have QS := swap_calls P S T1 T2 Q (by omega) g cap len (by rw [i6]; simp) hcap hn (P.length) x zi rfl (by omega) (by omega) cv
        have HQ := Lib.hid (fun W hW => QS W hW)
        have HS := Lib.hid (And.intro hT2 (And.intro i1 (And.intro i2 (And.intro i3 (And.intro i4 (And.intro i5 (And.intro i6 (And.intro i7 (And.intro i8 (And.intro i9 (And.intro hgt heq)))))))))))
        clear QS i1 i2 i3 i4 i5 i6 i6' i7 i8 i9 heq hgt hT2 hx
        go_wp2_with (go_at_call 77; (with_reducible refine (HQ.out _ (by have := HS.out.2.2.2.2.2.2.2.2.1; simpa using this)).mono ?_); rintro e w7 ⟨⟨v7, rfl⟩, hR7, hB7⟩)
        obtain ⟨g1, g2, g3, g4, g5, g6, g7, g8, g9, g10, g11, g12⟩ := HS.out
        go_roundw
        case rel => exact ⟨P, T2, T1, S ++ Q, zi, zj - zi, rfl, by first | rfl | rw [f4], Lib.hid ⟨by omega, by omega, by omega, by omega, by omega, by rw [g7]; simp; omega, by rw [← g8]; simp, by simpa using hR7, g10.trans hB7⟩⟩
        case measure => simp [intOf]; omega
end Go.Proofs.YtiaggfjfgoiafaaDoor

/- slices' symMerge over a block of objects: a stable merge. -/
namespace Go.Proofs.YtiaggfjfgoiafaaDoor
open Go.RowKit Go.Proofs.YtiaggfjfgoiafaaDoorW.PrintWords Go.Proofs.YtiaggfjfgoiafaaDoorW.PrintLast
def rg57_5_T : Bool × List (List Nat × List Nat) := (true, [([], []), ([], []), ([], []), ([1, 2], [1, 2]), ([3], [3]), ([], []), ([], []), ([5, 6], [5, 6]), ([7], [7]), ([0, 4, 8], [0, 4, 8]), ([9], [9])])
def rg57_5_B : List Nat := [0, 0, 0, 6, 14, 0, 0, 96, 224, 511, 1023]
theorem rg57_5_tab : rtab .any (opsOf Tryd.f57 5) = rg57_5_T := by kernel_rfl
theorem rg57_5_bits : waitsOk rg57_5_T.2 rg57_5_B = true := by kernel_rfl
def rg57_11_T : Bool × List (List Nat × List Nat) := (true, [([], []), ([], []), ([], []), ([], []), ([3], [3]), ([], []), ([], []), ([6], [6]), ([5, 7], [5, 7]), ([8], [8]), ([], []), ([], []), ([10, 11], [10, 11]), ([12], [12]), ([0, 1, 0, 1, 5, 6, 7, 8, 9, 13], [0, 1]), ([14, 9, 0, 1, 5, 6, 7, 8, 9, 13], [9, 14]), ([2, 4, 0, 1, 2, 3, 4, 5, 6, 7, 8, 9, 10, 11, 12, 13, 14, 15], [2, 4]), ([16, 13, 15, 0, 1, 2, 3, 4, 5, 6, 7, 8, 9, 10, 11, 12, 13, 14, 15], [13, 16])])
def rg57_11_B : List Nat := [0, 0, 0, 0, 8, 0, 0, 64, 224, 480, 0, 0, 3072, 7168, 16355, 32739, 65535, 131071]
theorem rg57_11_tab : rtab .any (opsOf Tryd.f57 11) = rg57_11_T := by kernel_rfl
theorem rg57_11_bits : waitsOk rg57_11_T.2 rg57_11_B = true := by kernel_rfl
theorem half_ (s : Int) (h0 : 0 ≤ s) (h1 : s ≤ 4611686018427387904) : wrap64 (IntKind.u64.wrap (wrap64 s) / 2) = s / 2 := by
  have e : wrap64 s = s := by unfold wrap64; omega
  rw [e]
  have e2 : IntKind.u64.wrap s = s := by simp [IntKind.wrap, IntKind.signed, IntKind.bits]; omega
  rw [e2]
  unfold wrap64
  omega
theorem merge_one (c : Array Value → Array Value → Int) (x : Array Value) (B1 B2 : List (Array Value)) (h1 : ∀ s ∈ B1, c s x < 0) (h2 : ∀ s ∈ B2, ¬ c s x < 0) : Srt.merge c [x] (B1 ++ B2) = B1 ++ x :: B2 := by
  have e1 := Srt.merge_split (c := c) _ [] B1 [x] B2 (Nat.le_refl _) (fun _ h => absurd h List.not_mem_nil) (fun a' ha b hb => by rw [List.mem_singleton.1 ha]; exact h1 b hb)
  have e2 := Srt.merge_split (c := c) _ [x] [] [] B2 (Nat.le_refl _) (fun a' ha b hb => by rw [List.mem_singleton.1 ha]; exact h2 b hb) (fun _ h => absurd h List.not_mem_nil)
  rw [Srt.merge_nil_left] at e1
  rw [Srt.merge_nil_right, Srt.merge_nil_left] at e2
  simp only [List.nil_append, List.append_nil] at e1 e2
  rw [e1, e2]
  rfl
set_option maxHeartbeats 16000000 in
set_option maxRecDepth 100000 in
theorem sym_one (f : FuncId) (D : Array Value → Prop) (c : Array Value → Array Value → Int) (hcmp : CmpAt f D c) (hc : Wc.IsCmp c) (X B Z : List (Array Value)) (x : Array Value) (hB : 0 < B.length) (hs : Srt.Sorted c B) (hDx : D x) (hDB : ∀ y ∈ B, D y)
    (g cap len : Nat) (hlen : len = (X ++ [x] ++ B ++ Z).length) (hcap : len ≤ cap) (hn : len ≤ 1099511627776) (a m b : Int) (ha : a = X.length) (hm : m = (X.length + 1 : Nat)) (hb : b = (X.length + 1 + B.length : Nat)) (w : World) (hR : RowsAt w g 32 (X ++ [x] ++ B ++ Z)) :
    Calls Tryd.prog 57 #[.slice (some ⟨g, 0, none⟩) len cap, .int .i64 a, .int .i64 m, .int .i64 b, .func (.func f) #[] #[]] w fun e w' =>
      (∃ v, e = .returned v) ∧ RowsAt w' g 32 (X ++ Srt.merge c [x] B ++ Z) ∧ But g w w' := by
  have HC := Lib.hid hcmp
  have HR := Lib.hid hR
  obtain ⟨fn, hf1, hf2, hf3⟩ := hcmp.fn
  have HF := Lib.hid (And.intro hf1 (And.intro hf2 hf3))
  have hle : len = X.length + 1 + B.length + Z.length := by rw [hlen]; simp; omega
  have e1 : (wrap64 (m - a) == 1) = true := beq_iff_eq.mpr (by unfold wrap64; omega)
  have HA := Lib.hid (And.intro ha (And.intro hm (And.intro hb (And.intro hle (And.intro hs (And.intro hDx (And.intro hDB hB)))))))
  clear hcmp hR hf1 hf2 hf3 ha hm hb hle hs hDx hDB hlen hB
  go_enter Tryd.func57, Tryd.ntmps57
  go_wp2
  go_loopw [10, 11] (fun v10 v11 wr => ∃ (B1 Bm B2 : List (Array Value)) (zi zj : Int), v10 = .int .i64 zi ∧ v11 = .int .i64 zj ∧ Hid (zi = m + B1.length ∧ zj = m + B1.length + Bm.length ∧ B = B1 ++ Bm ++ B2 ∧ (∀ s ∈ B1, c s x < 0) ∧ (∀ s ∈ B2, ¬ c s x < 0) ∧ RowsAt wr g 32 (X ++ [x] ++ B ++ Z) ∧ But g w wr)) (fun v10 v11 _ => (intOf v11 - intOf v10).toNat)
  case atStart => exact ⟨[], B, [], m, b, rfl, rfl, Lib.hid ⟨by simp, by have := HA.out; simp; omega, by simp, fun _ h => absurd h List.not_mem_nil, fun _ h => absurd h List.not_mem_nil, HR.out, But.refl _ _⟩⟩
  case round =>
    obtain ⟨B1, Bm, B2, zi, zj, rfl, rfl, hI⟩ := hrel
    by_cases hlt : zi < zj
    · have d1 : decide (zi < zj) = true := decide_eq_true hlt
      obtain ⟨i1, i2, i3, i4, i5, i6, i7⟩ := hI.out
      obtain ⟨k1, k2, k3, k4, k5, k6, k7, k8⟩ := HA.out
      have hBl := congrArg List.length i3
      rw [List.length_append, List.length_append] at hBl
      obtain ⟨zh, hzh⟩ : ∃ zh : Int, zh = (zi + zj) / 2 := ⟨_, rfl⟩
      have eh : wrap64 (IntKind.u64.wrap (wrap64 (zi + zj)) / 2) = zh := by rw [half_ _ (by omega) (by omega), hzh]
      obtain ⟨P, y, Q, rfl, hP⟩ : ∃ P y Q, Bm = P ++ y :: Q ∧ (P.length : Int) = zh - zi := by
        have hlt2 : (zh - zi).toNat < Bm.length := by omega
        refine ⟨Bm.take (zh - zi).toNat, Bm[(zh - zi).toNat], Bm.drop ((zh - zi).toNat + 1), ?_, by rw [List.length_take]; omega⟩
        rw [← List.drop_eq_getElem_cons hlt2, List.take_append_drop]
      simp only [List.length_append, List.length_cons] at i2 hBl
      have J0 : (X ++ [x] ++ B ++ Z)[zh.toNat]? = some y := by
        rw [i3, show X ++ [x] ++ (B1 ++ (P ++ y :: Q) ++ B2) ++ Z = (X ++ [x] ++ B1 ++ P) ++ y :: (Q ++ B2 ++ Z) by simp]
        rw [show zh.toNat = (X ++ [x] ++ B1 ++ P).length by simp; omega]
        simp
      have J1 : (X ++ [x] ++ B ++ Z)[a.toNat]? = some x := by
        rw [show X ++ [x] ++ B ++ Z = X ++ x :: (B ++ Z) by simp, show a.toNat = X.length by omega]
        simp
      have dy : D y := k7 y (by rw [i3]; simp)
      obtain ⟨cv, hcv⟩ : ∃ cv, cv = c y x := ⟨_, rfl⟩
      have HQ := HC.out.calls y x dy k6
      rw [← hcv] at HQ
      replace HQ := Lib.hid HQ
      have d2 : (0 ≤ zh) = True := eq_true (by omega)
      have d3 : (zh < (len : Int)) = True := eq_true (by omega)
      have d4 : (0 ≤ a) = True := eq_true (by omega)
      have d5 : (a < (len : Int)) = True := eq_true (by omega)
      have eq1 : wrap64 (zh + 1) = zh + 1 := by unfold wrap64; omega
      have hm1 : zh + 1 ≤ zj ∧ zi ≤ zh := by omega
      have hR2 := i6.below (below_drew (Below.refl _ _))
      have hBt := i7.trans (But.of_below (below_drew (Below.refl _ _)))
      have HZ := Lib.hid (And.intro hzh (And.intro hP (And.intro hcv (And.intro i1 (And.intro i2 (And.intro i3 (And.intro i4 (And.intro i5 (And.intro hm1 (And.intro eq1 hlt))))))))))
      replace J0 := Lib.hid J0
      replace J1 := Lib.hid J1
      have K5 := Lib.hid k5
      clear i1 i2 i3 i4 i5 i6 i7 k1 k2 k3 k4 k5 k6 k7 k8 hBl hzh hP dy hcv eq1 hm1 hlt
      go_upto_region 5 with (fail)
      refine start_ (n := 11) (S := fun w' => RowsAt w' g 32 (X ++ [x] ++ B ++ Z)) (ds := []) (bs 11 0) (by kernel_rfl) rfl (by kernel_rfl) hR2 (fun hHeld => ?_)
      refine with_tabW rg57_5_tab rg57_5_bits (fun HT_ HW_ => ?_)
      refine pu 0 (some 40) (bs 11 1) HT_ rfl rfl (by kernel_rfl) (fun _ _ _ _ h => h) ⟨_, .inl ⟨by rfl, fun _ => by go_simp; with_reducible rfl⟩, _, by simp only [Act.put, sA, sB, sC, i64_w, i32_w]; rfl, ?_⟩
      refine pu 1 (some 41) (bs 11 3) HT_ rfl rfl (by kernel_rfl) (fun _ _ _ _ h => h) ⟨_, .inl ⟨by rfl, fun _ => by go_simp; with_reducible rfl⟩, _, by simp only [Act.put, sA, sB, sC, i64_w, i32_w]; rfl, ?_⟩
      refine pu 2 (some 42) (bs 11 7) HT_ rfl rfl (by kernel_rfl) (fun _ _ _ _ h => h) ⟨_, .inl ⟨by rfl, fun _ => by go_simp; with_reducible rfl⟩, _, by simp only [Act.put, sA, sB, sC, i64_w, i32_w]; rfl, ?_⟩
      refine pu 3 (some 43) (bs 11 15) HT_ rfl rfl (by kernel_rfl) (fun _ _ _ _ h => h) ⟨_, .inl ⟨by rfl, fun _ => by go_simp; with_reducible rfl⟩, _, by simp only [Act.put, sA, sB, sC, i64_w, i32_w]; rfl, ?_⟩
      refine pu 5 (some 45) (bs 11 47) HT_ rfl rfl (by kernel_rfl) (fun _ _ _ _ h => h) ⟨_, .inl ⟨by rfl, fun _ => by go_simp; with_reducible rfl⟩, _, by simp only [Act.put, sA, sB, sC, i64_w, i32_w]; rfl, ?_⟩
      refine pu 6 (some 46) (bs 11 111) HT_ rfl rfl (by kernel_rfl) (fun _ _ _ _ h => h) ⟨_, .inl ⟨by rfl, fun _ => by go_simp; with_reducible rfl⟩, _, by simp only [Act.put, sA, sB, sC, i64_w, i32_w]; rfl, ?_⟩
      refine pu 7 (some 47) (bs 11 239) HT_ rfl rfl (by kernel_rfl) (fun _ _ _ _ h => h) ⟨_, .inl ⟨by rfl, fun _ => by go_simp; with_reducible rfl⟩, _, by simp only [Act.put, sA, sB, sC, i64_w, i32_w]; rfl, ?_⟩
      refine tk 4 (some 44) (bs 11 255) HT_ HW_ rfl rfl (by kernel_rfl) (fun _ _ _ _ h => h) hHeld ⟨_, .inl ⟨by rfl, by rintro w' s0; refine load_mid (x := .tmp 43) (j := zh.toNat) ?_ ?_ rfl s0 J0.out Tryd.underlying39 rfl (by kernel_rfl) <;> rfl⟩, _, by simp only [Act.put, sA, sB, sC, i64_w, i32_w]; rfl, ?_⟩
      refine tk 8 (some 48) (bs 11 511) HT_ HW_ rfl rfl (by kernel_rfl) (fun _ _ _ _ h => h) hHeld ⟨_, .inl ⟨by rfl, by rintro w' s0; refine load_mid (x := .tmp 47) (j := a.toNat) ?_ ?_ rfl s0 J1.out Tryd.underlying39 rfl (by kernel_rfl) <;> rfl⟩, _, by simp only [Act.put, sA, sB, sC, i64_w, i32_w]; rfl, ?_⟩
      refine on1 9 (some 49) (bs 11 1023) HT_ rfl rfl (by kernel_rfl) (by decide) (fun K hK => ?_)
      refine goesv_ (f := f) (x := .tmp 40) HF.out.1 HF.out.2.1 HF.out.2.2 #[.agg y, .agg x] (by rfl) rfl rfl rfl (by (try simp only [List.map_toArray, List.map_cons, List.map_nil]); first | done | rfl) ?_
      refine (HQ.out _).mono ?_
      rintro e w1 ⟨rfl, hb1⟩
      replace hR2 := hR2.below hb1
      replace hBt := hBt.trans (But.of_below hb1)
      clear hb1
      refine ⟨_, rfl, ?_⟩
      refine hK.out _ _ hR2 (fun hHeld => ?_)
      clear hK K
      refine nm ⟨_, show Act.put _ (some 49) _ = _ by simp only [Act.put, sA, sB, sC, i64_w, i32_w]; rfl, ?_⟩
      refine pu 10 (some 50) (bs 11 2047) HT_ rfl rfl (by kernel_rfl) (fun _ _ _ _ h => h) ⟨_, .inl ⟨by rfl, fun _ => by go_simp; with_reducible rfl⟩, _, by simp only [Act.put, sA, sB, sC, i64_w, i32_w]; rfl, ?_⟩
      refine done_ (done_of HT_.out (by kernel_rfl)) ?_
      by_cases hneg : cv < 0
      · have d6 : decide (cv < 0) = true := decide_eq_true hneg
        go_wp2
        obtain ⟨j1, j2, j3, j4, j5, j6, j7, j8, j9, j10, j11⟩ := HZ.out
        go_roundw
        case rel =>
          refine ⟨B1 ++ P ++ [y], Q, B2, zh + 1, zj, by first | rfl | rw [j10], rfl, Lib.hid ⟨by simp; omega, by simp; omega, by rw [j6]; simp, fun s hs => ?_, j8, hR2, hBt⟩⟩
          have hs5 := K5.out
          rw [j6] at hs5
          have hyx : c y x < 0 := by rw [← j3]; exact hneg
          rcases List.mem_append.1 hs with hs | hs
          · rcases List.mem_append.1 hs with hs | hs
            · exact j7 s hs
            · have h3 : c s y ≤ 0 := (List.pairwise_append.1 (List.pairwise_append.1 (List.pairwise_append.1 hs5).1).2.1).2.2 s hs y List.mem_cons_self
              have h4 := hc.anti y x
              have h5 := hc.anti s x
              by_cases h6 : c s x < 0
              · exact h6
              · have := hc.trans x s y (by omega) h3
                omega
          · rw [List.mem_singleton.1 hs]
            exact hyx
        case measure => simp [intOf]; omega
      · have d6 : decide (cv < 0) = false := decide_eq_false hneg
        go_wp2
        obtain ⟨j1, j2, j3, j4, j5, j6, j7, j8, j9, j10, j11⟩ := HZ.out
        go_roundw
        case rel =>
          refine ⟨B1, P, y :: Q ++ B2, zi, zh, rfl, by first | rfl | rw [eh], Lib.hid ⟨j4, by omega, by rw [j6]; simp, j7, fun s hs => ?_, hR2, hBt⟩⟩
          have hs5 := K5.out
          rw [j6] at hs5
          have hyx : ¬ c y x < 0 := by rw [← j3]; exact hneg
          rcases List.mem_append.1 hs with hs | hs
          · rcases List.mem_cons.1 hs with rfl | hs
            · exact hyx
            · have h3 : c y s ≤ 0 := (List.pairwise_cons.1 (List.pairwise_append.1 (List.pairwise_append.1 (List.pairwise_append.1 hs5).1).2.1).2.1).1 s hs
              intro h6
              have h4 := hc.anti y x
              have h9 := hc.trans x y s (by omega) h3
              have h7 := hc.anti s x
              omega
          · exact j8 s hs
        case measure => simp [intOf]; omega
    · have d1 : decide (zi < zj) = false := decide_eq_false hlt
      obtain ⟨i1, i2, i3, i4, i5, i6, i7⟩ := hI.out
      obtain ⟨k1, k2, k3, k4, k5, k6, k7, k8⟩ := HA.out
      obtain rfl : Bm = [] := List.length_eq_zero_iff.1 (by omega)
      rw [List.append_nil] at i3
      have hBl := congrArg List.length i3
      rw [List.length_append] at hBl
      obtain ⟨ze, hze⟩ : ∃ ze : Int, ze = zi - 1 := ⟨_, rfl⟩
      have ee : wrap64 (zi - 1) = ze := by unfold wrap64; omega
      have hR3 := i6
      rw [i3, show X ++ [x] ++ (B1 ++ B2) ++ Z = X ++ [] ++ x :: (B1 ++ B2 ++ Z) by simp] at hR3
      have HZ := Lib.hid (And.intro hze (And.intro i1 (And.intro i3 (And.intro i4 (And.intro i5 (And.intro hBl (And.intro hR3 i7)))))))
      clear i1 i2 i3 i4 i5 i6 i7 k1 k2 k3 k4 k5 k6 k7 k8 hBl hze hlt hR3
      go_wp2
      go_loopw [13] (fun v13 wq => ∃ (P Q : List (Array Value)) (z : Int), v13 = .int .i64 z ∧ Hid (z = a + P.length ∧ B1 = P ++ Q ∧ RowsAt wq g 32 (X ++ P ++ x :: (Q ++ B2 ++ Z)) ∧ But g w wq)) (fun v13 _ => (ze - intOf v13).toNat)
      case atStart => exact ⟨[], B1, a, rfl, Lib.hid ⟨by simp, rfl, HZ.out.2.2.2.2.2.2.1, HZ.out.2.2.2.2.2.2.2⟩⟩
      case round =>
        obtain ⟨P, Q, z, rfl, hJ⟩ := hrel
        obtain ⟨j1, j2, j3, j4⟩ := hJ.out
        obtain ⟨l1, l2, l3, l4, l5, l6, l7, l8⟩ := HZ.out
        obtain ⟨k1, k2, k3, k4, k5, k6, k7, k8⟩ := HA.out
        have hPl := congrArg List.length j2
        rw [List.length_append] at hPl
        by_cases hlt : z < ze
        · have d1 : decide (z < ze) = true := decide_eq_true hlt
          obtain ⟨q, Q', rfl⟩ : ∃ q Q', Q = q :: Q' := by
            cases Q with
            | nil => simp at hPl; omega
            | cons q Q' => exact ⟨q, Q', rfl⟩
          simp only [List.length_cons] at hPl
          obtain ⟨A, hA⟩ : ∃ A, A = X ++ P := ⟨_, rfl⟩
          obtain ⟨R, hRr⟩ : ∃ R, R = Q' ++ B2 ++ Z := ⟨_, rfl⟩
          have hAl : A.length = X.length + P.length := by rw [hA, List.length_append]
          obtain ⟨z1, hz1⟩ : ∃ z1 : Int, z1 = z + 1 := ⟨_, rfl⟩
          have e3 : wrap64 (z + 1) = z1 := by unfold wrap64; omega
          have d2 : (0 ≤ z) = True := eq_true (by omega)
          have d3 : (z < (len : Int)) = True := eq_true (by omega)
          have d4 : (0 ≤ z1) = True := eq_true (by omega)
          have d5 : (z1 < (len : Int)) = True := eq_true (by omega)
          obtain ⟨J0, J1, J2⟩ := at_two A [] R x q
          simp only [List.nil_append, List.length_nil, Nat.add_zero] at J0 J1 J2
          rw [show A.length + 1 = z1.toNat by omega] at J1 J2
          rw [show A.length = z.toNat by omega] at J0 J2
          have hR2 := j3
          rw [show X ++ P ++ x :: (q :: Q' ++ B2 ++ Z) = A ++ x :: q :: R by rw [hA, hRr]; simp] at hR2
          have jz : z.toNat < (A ++ x :: q :: R).length := (List.getElem?_eq_some_iff.1 J0).1
          have jz1 : z1.toNat < (A ++ x :: q :: R).length := (List.getElem?_eq_some_iff.1 J1).1
          have ox := hR2.one x (by simp)
          have oq := hR2.one q (by simp)
          replace hR2 := hR2.below (below_drew (Below.refl _ _))
          have hBt := j4.trans (But.of_below (below_drew (Below.refl _ _)))
          have HY := Lib.hid (And.intro j1 (And.intro j2 (And.intro hA (And.intro hRr (And.intro hz1 hlt)))))
          replace J0 := Lib.hid J0
          replace J1 := Lib.hid J1
          replace J2 := Lib.hid J2
          replace jz := Lib.hid jz
          replace jz1 := Lib.hid jz1
          replace ox := Lib.hid ox
          replace oq := Lib.hid oq
          clear j1 j2 j3 j4 l1 l2 l3 l4 l5 l6 l7 l8 k1 k2 k3 k4 k5 k6 k7 k8 hPl hlt hA hRr hAl hz1
          go_upto_region 11 with (fail)
          refine start_ (n := 18) (S := fun w' => RowsAt w' g 32 (A ++ x :: q :: R)) (ds := [15, 17]) (bs 18 0) (by kernel_rfl) rfl (by kernel_rfl) hR2 (fun hHeld => ?_)
          refine with_tabW rg57_11_tab rg57_11_bits (fun HT_ HW_ => ?_)
          refine pu 0 (some 61) (bs 18 1) HT_ rfl rfl (by kernel_rfl) (fun _ _ _ _ h => h) ⟨_, .inl ⟨by rfl, fun _ => by go_simp; with_reducible rfl⟩, _, by simp only [Act.put, sA, sB, sC, i64_w, i32_w]; rfl, ?_⟩
          refine pu 1 (some 62) (bs 18 3) HT_ rfl rfl (by kernel_rfl) (fun _ _ _ _ h => h) ⟨_, .inl ⟨by rfl, fun _ => by go_simp; with_reducible rfl⟩, _, by simp only [Act.put, sA, sB, sC, i64_w, i32_w]; rfl, ?_⟩
          refine pu 2 (some 63) (bs 18 7) HT_ rfl rfl (by kernel_rfl) (fun _ _ _ _ h => h) ⟨_, .inl ⟨by rfl, fun _ => by go_simp; with_reducible rfl⟩, _, by simp only [Act.put, sA, sB, sC, i64_w, i32_w]; rfl, ?_⟩
          refine pu 3 (some 64) (bs 18 15) HT_ rfl rfl (by kernel_rfl) (fun _ _ _ _ h => h) ⟨_, .inl ⟨by rfl, fun _ => by go_simp; with_reducible rfl⟩, _, by simp only [Act.put, sA, sB, sC, i64_w, i32_w]; rfl, ?_⟩
          refine pu 4 (some 65) (bs 18 31) HT_ rfl rfl (by kernel_rfl) (fun _ _ _ _ h => h) ⟨_, .inl ⟨by rfl, fun _ => by go_simp; with_reducible rfl⟩, _, by simp only [Act.put, sA, sB, sC, i64_w, i32_w]; rfl, ?_⟩
          refine pu 5 (some 66) (bs 18 63) HT_ rfl rfl (by kernel_rfl) (fun _ _ _ _ h => h) ⟨_, .inl ⟨by rfl, fun _ => by go_simp; with_reducible rfl⟩, _, by simp only [Act.put, sA, sB, sC, i64_w, i32_w]; rfl, ?_⟩
          refine pu 6 (some 67) (bs 18 127) HT_ rfl rfl (by kernel_rfl) (fun _ _ _ _ h => h) ⟨_, .inl ⟨by rfl, fun _ => by go_simp; with_reducible rfl⟩, _, by simp only [Act.put, sA, sB, sC, i64_w, i32_w]; rfl, ?_⟩
          refine pu 7 (some 68) (bs 18 255) HT_ rfl rfl (by kernel_rfl) (fun _ _ _ _ h => h) ⟨_, .inl ⟨by rfl, fun _ => by go_simp; with_reducible rfl⟩, _, by simp only [Act.put, sA, sB, sC, i64_w, i32_w]; rfl, ?_⟩
          refine pu 8 (some 69) (bs 18 511) HT_ rfl rfl (by kernel_rfl) (fun _ _ _ _ h => h) ⟨_, .inl ⟨by rfl, fun _ => by go_simp; with_reducible rfl⟩, _, by simp only [Act.put, sA, sB, sC, i64_w, i32_w]; rfl, ?_⟩
          refine pu 10 (some 71) (bs 18 1535) HT_ rfl rfl (by kernel_rfl) (fun _ _ _ _ h => h) ⟨_, .inl ⟨by rfl, fun _ => by go_simp; with_reducible rfl⟩, _, by simp only [Act.put, sA, sB, sC, i64_w, i32_w]; rfl, ?_⟩
          refine pu 11 (some 72) (bs 18 3583) HT_ rfl rfl (by kernel_rfl) (fun _ _ _ _ h => h) ⟨_, .inl ⟨by rfl, fun _ => by go_simp; with_reducible rfl⟩, _, by simp only [Act.put, sA, sB, sC, i64_w, i32_w]; rfl, ?_⟩
          refine pu 12 (some 73) (bs 18 7679) HT_ rfl rfl (by kernel_rfl) (fun _ _ _ _ h => h) ⟨_, .inl ⟨by rfl, fun _ => by go_simp; with_reducible rfl⟩, _, by simp only [Act.put, sA, sB, sC, i64_w, i32_w]; rfl, ?_⟩
          refine tk 9 (some 70) (bs 18 8191) HT_ HW_ rfl rfl (by kernel_rfl) (fun _ _ _ _ h => h) hHeld ⟨_, .inl ⟨by rfl, by rintro w' s0; refine load_mid (x := .tmp 69) (j := z1.toNat) ?_ ?_ rfl s0 J1.out Tryd.underlying39 rfl (by kernel_rfl) <;> rfl⟩, _, by simp only [Act.put, sA, sB, sC, i64_w, i32_w]; rfl, ?_⟩
          refine tk 13 (some 74) (bs 18 16383) HT_ HW_ rfl rfl (by kernel_rfl) (fun _ _ _ _ h => h) hHeld ⟨_, .inl ⟨by rfl, by rintro w' s0; refine load_mid (x := .tmp 73) (j := z.toNat) ?_ ?_ rfl s0 J0.out Tryd.underlying39 rfl (by kernel_rfl) <;> rfl⟩, _, by simp only [Act.put, sA, sB, sC, i64_w, i32_w]; rfl, ?_⟩
          refine pu 14 (some 75) (bs 18 32767) HT_ rfl rfl (by kernel_rfl) (fun _ _ _ _ h => h) ⟨_, .inl ⟨by rfl, fun _ => by go_simp; with_reducible rfl⟩, _, by simp only [Act.put, sA, sB, sC, i64_w, i32_w]; rfl, ?_⟩
          refine la1 15 (none) (bs 18 65535) HT_ rfl rfl (by kernel_rfl) (by decide) (fun K hK => ?_)
          refine stores_mid (j := z.toNat) (x := .tmp 75) (y := .tmp 70) (by rfl) rfl rfl rfl rfl rfl hR2 jz.out oq.out.1 oq.out.2 (by kernel_rfl) ?_
          intro w5 hR5 hB5
          refine hK.out _ _ ?_
          clear hK K
          refine pu 16 (some 76) (bs 18 131071) HT_ rfl rfl (by kernel_rfl) (fun _ _ _ _ h => h) ⟨_, .inl ⟨by rfl, fun _ => by go_simp; with_reducible rfl⟩, _, by simp only [Act.put, sA, sB, sC, i64_w, i32_w]; rfl, ?_⟩
          refine la1 17 (none) (bs 18 262143) HT_ rfl rfl (by kernel_rfl) (by decide) (fun K hK => ?_)
          refine stores_mid (j := z1.toNat) (x := .tmp 76) (y := .tmp 74) (by rfl) rfl rfl rfl rfl rfl hR5 (by rw [List.length_set]; exact jz1.out) ox.out.1 ox.out.2 (by kernel_rfl) ?_
          intro w6 hR6 hB6
          refine hK.out _ _ ?_
          clear hK K
          refine done_ (done_of HT_.out (by kernel_rfl)) ?_
          rw [J2.out] at hR6
          replace hBt := (hBt.trans hB5).trans hB6
          go_wp2
          obtain ⟨m1, m2, m3, m4, m5, m6⟩ := HY.out
          go_roundw
          case rel => exact ⟨P ++ [q], Q', z1, by first | rfl | rw [e3], Lib.hid ⟨by simp; omega, by rw [m2]; simp, by rw [m3, m4] at hR6; simpa using hR6, hBt⟩⟩
          case measure => simp [intOf]; omega
        · have d1 : decide (z < ze) = false := decide_eq_false hlt
          obtain rfl : Q = [] := List.length_eq_zero_iff.1 (by omega)
          rw [List.append_nil] at j2
          have hfin : X ++ Srt.merge c [x] B ++ Z = X ++ P ++ x :: ([] ++ B2 ++ Z) := by
            rw [l3, merge_one c x B1 B2 l4 (fun s hs => by have := l5 s hs; omega), j2]
            simp
          have HY := Lib.hid (And.intro hfin (And.intro j3 j4))
          clear j1 j2 j3 j4 l1 l2 l3 l4 l5 l6 l7 l8 k1 k2 k3 k4 k5 k6 k7 k8 hPl hlt hfin
          go_wp2
          refine ⟨rfl, .tuple #[], by simp [results, Tryd.results57], ⟨_, rfl⟩, ?_, HY.out.2.2⟩
          rw [HY.out.1]
          exact HY.out.2.1
end Go.Proofs.YtiaggfjfgoiafaaDoor

/- slices' symMerge over a block of objects: one element behind a sorted row. -/
namespace Go.Proofs.YtiaggfjfgoiafaaDoor
open Go.RowKit Go.Proofs.YtiaggfjfgoiafaaDoorW.PrintWords Go.Proofs.YtiaggfjfgoiafaaDoorW.PrintLast
def rg57_17_T : Bool × List (List Nat × List Nat) := (true, [([], []), ([], []), ([], []), ([1, 2], [1, 2]), ([3], [3]), ([], []), ([], []), ([5, 6], [5, 6]), ([7], [7]), ([0, 4, 8], [0, 4, 8]), ([9], [9]), ([10], [10])])
def rg57_17_B : List Nat := [0, 0, 0, 6, 14, 0, 0, 96, 224, 511, 1023, 2047]
theorem rg57_17_tab : rtab .any (opsOf Tryd.f57 17) = rg57_17_T := by kernel_rfl
theorem rg57_17_bits : waitsOk rg57_17_T.2 rg57_17_B = true := by kernel_rfl
def rg57_23_T : Bool × List (List Nat × List Nat) := (true, [([], []), ([], []), ([], []), ([], []), ([3], [3]), ([], []), ([], []), ([6], [6]), ([5, 7], [5, 7]), ([8], [8]), ([], []), ([], []), ([10, 11], [10, 11]), ([12], [12]), ([0, 1, 0, 1, 5, 6, 7, 8, 9, 13], [0, 1]), ([14, 9, 0, 1, 5, 6, 7, 8, 9, 13], [9, 14]), ([2, 4, 0, 1, 2, 3, 4, 5, 6, 7, 8, 9, 10, 11, 12, 13, 14, 15], [2, 4]), ([16, 13, 15, 0, 1, 2, 3, 4, 5, 6, 7, 8, 9, 10, 11, 12, 13, 14, 15], [13, 16])])
def rg57_23_B : List Nat := [0, 0, 0, 0, 8, 0, 0, 64, 224, 480, 0, 0, 3072, 7168, 16355, 32739, 65535, 131071]
theorem rg57_23_tab : rtab .any (opsOf Tryd.f57 23) = rg57_23_T := by kernel_rfl
theorem rg57_23_bits : waitsOk rg57_23_T.2 rg57_23_B = true := by kernel_rfl
theorem merge_last (c : Array Value → Array Value → Int) (x : Array Value) (A1 A2 : List (Array Value)) (h1 : ∀ s ∈ A1, ¬ c x s < 0) (h2 : ∀ s ∈ A2, c x s < 0) : Srt.merge c (A1 ++ A2) [x] = A1 ++ x :: A2 := by
  have e1 := Srt.merge_split (c := c) _ A1 [] A2 [x] (Nat.le_refl _) (fun a' ha b hb => by rw [List.mem_singleton.1 hb]; exact h1 a' ha) (fun _ _ _ h => absurd h List.not_mem_nil)
  have e2 := Srt.merge_split (c := c) _ [] [x] A2 [] (Nat.le_refl _) (fun _ h => absurd h List.not_mem_nil) (fun a' ha b hb => by rw [List.mem_singleton.1 hb]; exact h2 a' ha)
  rw [Srt.merge_nil_right] at e1
  rw [Srt.merge_nil_left, Srt.merge_nil_right] at e2
  simp only [List.nil_append, List.append_nil] at e1 e2
  rw [e1, e2]
  rfl
set_option maxHeartbeats 16000000 in
set_option maxRecDepth 100000 in
theorem sym_last (f : FuncId) (D : Array Value → Prop) (c : Array Value → Array Value → Int) (hcmp : CmpAt f D c) (hc : Wc.IsCmp c) (X B Z : List (Array Value)) (x : Array Value) (hB : 2 ≤ B.length) (hs : Srt.Sorted c B) (hDx : D x) (hDB : ∀ y ∈ B, D y)
    (g cap len : Nat) (hlen : len = (X ++ B ++ [x] ++ Z).length) (hcap : len ≤ cap) (hn : len ≤ 1099511627776) (a m b : Int) (ha : a = X.length) (hm : m = (X.length + B.length : Nat)) (hb : b = (X.length + B.length + 1 : Nat)) (w : World) (hR : RowsAt w g 32 (X ++ B ++ [x] ++ Z)) :
    Calls Tryd.prog 57 #[.slice (some ⟨g, 0, none⟩) len cap, .int .i64 a, .int .i64 m, .int .i64 b, .func (.func f) #[] #[]] w fun e w' =>
      (∃ v, e = .returned v) ∧ RowsAt w' g 32 (X ++ Srt.merge c B [x] ++ Z) ∧ But g w w' := by
  have HC := Lib.hid hcmp
  have HR := Lib.hid hR
  obtain ⟨fn, hf1, hf2, hf3⟩ := hcmp.fn
  have HF := Lib.hid (And.intro hf1 (And.intro hf2 hf3))
  have hle : len = X.length + B.length + 1 + Z.length := by rw [hlen]; simp; omega
  have e1 : (wrap64 (m - a) == 1) = false := beq_eq_false_iff_ne.mpr (by unfold wrap64; omega)
  have e2 : (wrap64 (b - m) == 1) = true := beq_iff_eq.mpr (by unfold wrap64; omega)
  have HA := Lib.hid (And.intro ha (And.intro hm (And.intro hb (And.intro hle (And.intro hs (And.intro hDx (And.intro hDB hB)))))))
  clear hcmp hR hf1 hf2 hf3 ha hm hb hle hs hDx hDB hlen hB
  go_enter Tryd.func57, Tryd.ntmps57
  go_wp2
  go_loopw [14, 15] (fun v10 v11 wr => ∃ (B1 Bm B2 : List (Array Value)) (zi zj : Int), v10 = .int .i64 zi ∧ v11 = .int .i64 zj ∧ Hid (zi = a + B1.length ∧ zj = a + B1.length + Bm.length ∧ B = B1 ++ Bm ++ B2 ∧ (∀ s ∈ B1, 0 ≤ c x s) ∧ (∀ s ∈ B2, c x s < 0) ∧ RowsAt wr g 32 (X ++ B ++ [x] ++ Z) ∧ But g w wr)) (fun v10 v11 _ => (intOf v11 - intOf v10).toNat)
  case atStart => exact ⟨[], B, [], a, m, rfl, rfl, Lib.hid ⟨by simp, by have := HA.out; simp; omega, by simp, fun _ h => absurd h List.not_mem_nil, fun _ h => absurd h List.not_mem_nil, HR.out, But.refl _ _⟩⟩
  case round =>
    obtain ⟨B1, Bm, B2, zi, zj, rfl, rfl, hI⟩ := hrel
    by_cases hlt : zi < zj
    · have d1 : decide (zi < zj) = true := decide_eq_true hlt
      obtain ⟨i1, i2, i3, i4, i5, i6, i7⟩ := hI.out
      obtain ⟨k1, k2, k3, k4, k5, k6, k7, k8⟩ := HA.out
      have hBl := congrArg List.length i3
      rw [List.length_append, List.length_append] at hBl
      obtain ⟨zh, hzh⟩ : ∃ zh : Int, zh = (zi + zj) / 2 := ⟨_, rfl⟩
      have eh : wrap64 (IntKind.u64.wrap (wrap64 (zi + zj)) / 2) = zh := by rw [half_ _ (by omega) (by omega), hzh]
      obtain ⟨P, y, Q, rfl, hP⟩ : ∃ P y Q, Bm = P ++ y :: Q ∧ (P.length : Int) = zh - zi := by
        have hlt2 : (zh - zi).toNat < Bm.length := by omega
        refine ⟨Bm.take (zh - zi).toNat, Bm[(zh - zi).toNat], Bm.drop ((zh - zi).toNat + 1), ?_, by rw [List.length_take]; omega⟩
        rw [← List.drop_eq_getElem_cons hlt2, List.take_append_drop]
      simp only [List.length_append, List.length_cons] at i2 hBl
      have J0 : (X ++ B ++ [x] ++ Z)[zh.toNat]? = some y := by
        rw [i3, show X ++ (B1 ++ (P ++ y :: Q) ++ B2) ++ [x] ++ Z = (X ++ B1 ++ P) ++ y :: (Q ++ B2 ++ [x] ++ Z) by simp]
        rw [show zh.toNat = (X ++ B1 ++ P).length by simp; omega]
        simp
      have J1 : (X ++ B ++ [x] ++ Z)[m.toNat]? = some x := by
        rw [show X ++ B ++ [x] ++ Z = (X ++ B) ++ x :: Z by simp, show m.toNat = (X ++ B).length by simp; omega]
        simp
      have dy : D y := k7 y (by rw [i3]; simp)
      obtain ⟨cv, hcv⟩ : ∃ cv, cv = c x y := ⟨_, rfl⟩
      have HQ := HC.out.calls x y k6 dy
      rw [← hcv] at HQ
      replace HQ := Lib.hid HQ
      have d2 : (0 ≤ zh) = True := eq_true (by omega)
      have d3 : (zh < (len : Int)) = True := eq_true (by omega)
      have d4 : (0 ≤ m) = True := eq_true (by omega)
      have d5 : (m < (len : Int)) = True := eq_true (by omega)
      have eq1 : wrap64 (zh + 1) = zh + 1 := by unfold wrap64; omega
      have hm1 : zh + 1 ≤ zj ∧ zi ≤ zh := by omega
      have hR2 := i6.below (below_drew (Below.refl _ _))
      have hBt := i7.trans (But.of_below (below_drew (Below.refl _ _)))
      have HZ := Lib.hid (And.intro hzh (And.intro hP (And.intro hcv (And.intro i1 (And.intro i2 (And.intro i3 (And.intro i4 (And.intro i5 (And.intro hm1 (And.intro eq1 hlt))))))))))
      replace J0 := Lib.hid J0
      replace J1 := Lib.hid J1
      have K5 := Lib.hid k5
      clear i1 i2 i3 i4 i5 i6 i7 k1 k2 k3 k4 k5 k6 k7 k8 hBl hzh hP dy hcv eq1 hm1 hlt
      go_upto_region 17 with (fail)
      refine start_ (n := 12) (S := fun w' => RowsAt w' g 32 (X ++ B ++ [x] ++ Z)) (ds := []) (bs 12 0) (by kernel_rfl) rfl (by kernel_rfl) hR2 (fun hHeld => ?_)
      refine with_tabW rg57_17_tab rg57_17_bits (fun HT_ HW_ => ?_)
      refine pu 0 (some 92) (bs 12 1) HT_ rfl rfl (by kernel_rfl) (fun _ _ _ _ h => h) ⟨_, .inl ⟨by rfl, fun _ => by go_simp; with_reducible rfl⟩, _, by simp only [Act.put, sA, sB, sC, i64_w, i32_w]; rfl, ?_⟩
      refine pu 1 (some 93) (bs 12 3) HT_ rfl rfl (by kernel_rfl) (fun _ _ _ _ h => h) ⟨_, .inl ⟨by rfl, fun _ => by go_simp; with_reducible rfl⟩, _, by simp only [Act.put, sA, sB, sC, i64_w, i32_w]; rfl, ?_⟩
      refine pu 2 (some 94) (bs 12 7) HT_ rfl rfl (by kernel_rfl) (fun _ _ _ _ h => h) ⟨_, .inl ⟨by rfl, fun _ => by go_simp; with_reducible rfl⟩, _, by simp only [Act.put, sA, sB, sC, i64_w, i32_w]; rfl, ?_⟩
      refine pu 3 (some 95) (bs 12 15) HT_ rfl rfl (by kernel_rfl) (fun _ _ _ _ h => h) ⟨_, .inl ⟨by rfl, fun _ => by go_simp; with_reducible rfl⟩, _, by simp only [Act.put, sA, sB, sC, i64_w, i32_w]; rfl, ?_⟩
      refine pu 5 (some 97) (bs 12 47) HT_ rfl rfl (by kernel_rfl) (fun _ _ _ _ h => h) ⟨_, .inl ⟨by rfl, fun _ => by go_simp; with_reducible rfl⟩, _, by simp only [Act.put, sA, sB, sC, i64_w, i32_w]; rfl, ?_⟩
      refine pu 6 (some 98) (bs 12 111) HT_ rfl rfl (by kernel_rfl) (fun _ _ _ _ h => h) ⟨_, .inl ⟨by rfl, fun _ => by go_simp; with_reducible rfl⟩, _, by simp only [Act.put, sA, sB, sC, i64_w, i32_w]; rfl, ?_⟩
      refine pu 7 (some 99) (bs 12 239) HT_ rfl rfl (by kernel_rfl) (fun _ _ _ _ h => h) ⟨_, .inl ⟨by rfl, fun _ => by go_simp; with_reducible rfl⟩, _, by simp only [Act.put, sA, sB, sC, i64_w, i32_w]; rfl, ?_⟩
      refine tk 4 (some 96) (bs 12 255) HT_ HW_ rfl rfl (by kernel_rfl) (fun _ _ _ _ h => h) hHeld ⟨_, .inl ⟨by rfl, by rintro w' s0; refine load_mid (x := .tmp 95) (j := m.toNat) ?_ ?_ rfl s0 J1.out Tryd.underlying39 rfl (by kernel_rfl) <;> rfl⟩, _, by simp only [Act.put, sA, sB, sC, i64_w, i32_w]; rfl, ?_⟩
      refine tk 8 (some 100) (bs 12 511) HT_ HW_ rfl rfl (by kernel_rfl) (fun _ _ _ _ h => h) hHeld ⟨_, .inl ⟨by rfl, by rintro w' s0; refine load_mid (x := .tmp 99) (j := zh.toNat) ?_ ?_ rfl s0 J0.out Tryd.underlying39 rfl (by kernel_rfl) <;> rfl⟩, _, by simp only [Act.put, sA, sB, sC, i64_w, i32_w]; rfl, ?_⟩
      refine on1 9 (some 101) (bs 12 1023) HT_ rfl rfl (by kernel_rfl) (by decide) (fun K hK => ?_)
      refine goesv_ (f := f) (x := .tmp 92) HF.out.1 HF.out.2.1 HF.out.2.2 #[.agg x, .agg y] (by rfl) rfl rfl rfl (by (try simp only [List.map_toArray, List.map_cons, List.map_nil]); first | done | rfl) ?_
      refine (HQ.out _).mono ?_
      rintro e w1 ⟨rfl, hb1⟩
      replace hR2 := hR2.below hb1
      replace hBt := hBt.trans (But.of_below hb1)
      clear hb1
      refine ⟨_, rfl, ?_⟩
      refine hK.out _ _ hR2 (fun hHeld => ?_)
      clear hK K
      refine nm ⟨_, show Act.put _ (some 101) _ = _ by simp only [Act.put, sA, sB, sC, i64_w, i32_w]; rfl, ?_⟩
      refine pu 10 (some 102) (bs 12 2047) HT_ rfl rfl (by kernel_rfl) (fun _ _ _ _ h => h) ⟨_, .inl ⟨by rfl, fun _ => by go_simp; with_reducible rfl⟩, _, by simp only [Act.put, sA, sB, sC, i64_w, i32_w]; rfl, ?_⟩
      refine pu 11 (some 103) (bs 12 4095) HT_ rfl rfl (by kernel_rfl) (fun _ _ _ _ h => h) ⟨_, .inl ⟨by rfl, fun _ => by go_simp; with_reducible rfl⟩, _, by simp only [Act.put, sA, sB, sC, i64_w, i32_w]; rfl, ?_⟩
      refine done_ (done_of HT_.out (by kernel_rfl)) ?_
      generalize hnb : (!decide (cv < 0)) = nb
      cases nb
      · have hneg : cv < 0 := by
          by_cases h9 : cv < 0
          · exact h9
          · rw [decide_eq_false h9] at hnb; cases hnb
        clear hnb
        go_wp2
        obtain ⟨j1, j2, j3, j4, j5, j6, j7, j8, j9, j10, j11⟩ := HZ.out
        go_roundw
        case rel =>
          refine ⟨B1, P, y :: Q ++ B2, zi, zh, rfl, by first | rfl | rw [eh], Lib.hid ⟨j4, by omega, by rw [j6]; simp, j7, fun s hs => ?_, hR2, hBt⟩⟩
          have hs5 := K5.out
          rw [j6] at hs5
          have hyx : c x y < 0 := by rw [← j3]; exact hneg
          rcases List.mem_append.1 hs with hs | hs
          · rcases List.mem_cons.1 hs with rfl | hs
            · exact hyx
            · have h3 : c y s ≤ 0 := (List.pairwise_cons.1 (List.pairwise_append.1 (List.pairwise_append.1 (List.pairwise_append.1 hs5).1).2.1).2.1).1 s hs
              exact hc.lt_trans hyx h3
          · exact j8 s hs
        case measure => simp [intOf]; omega
      · have hneg : ¬ cv < 0 := fun h9 => by rw [decide_eq_true h9] at hnb; cases hnb
        clear hnb
        go_wp2
        obtain ⟨j1, j2, j3, j4, j5, j6, j7, j8, j9, j10, j11⟩ := HZ.out
        go_roundw
        case rel =>
          refine ⟨B1 ++ P ++ [y], Q, B2, zh + 1, zj, by first | rfl | rw [j10], rfl, Lib.hid ⟨by simp; omega, by simp; omega, by rw [j6]; simp, fun s hs => ?_, j8, hR2, hBt⟩⟩
          have hs5 := K5.out
          rw [j6] at hs5
          have hyx : ¬ c x y < 0 := by rw [← j3]; exact hneg
          rcases List.mem_append.1 hs with hs | hs
          · rcases List.mem_append.1 hs with hs | hs
            · exact j7 s hs
            · have h3 : c s y ≤ 0 := (List.pairwise_append.1 (List.pairwise_append.1 (List.pairwise_append.1 hs5).1).2.1).2.2 s hs y List.mem_cons_self
              by_cases h6 : c x s < 0
              · have := hc.lt_trans h6 h3
                omega
              · omega
          · rw [List.mem_singleton.1 hs]
            omega
        case measure => simp [intOf]; omega
    · have d1 : decide (zi < zj) = false := decide_eq_false hlt
      obtain ⟨i1, i2, i3, i4, i5, i6, i7⟩ := hI.out
      obtain ⟨k1, k2, k3, k4, k5, k6, k7, k8⟩ := HA.out
      obtain rfl : Bm = [] := List.length_eq_zero_iff.1 (by omega)
      rw [List.append_nil] at i3
      have hBl := congrArg List.length i3
      rw [List.length_append] at hBl
      have hR3 := i6
      rw [i3, show X ++ (B1 ++ B2) ++ [x] ++ Z = X ++ B1 ++ B2 ++ x :: ([] ++ Z) by simp] at hR3
      have HZ := Lib.hid (And.intro i1 (And.intro i3 (And.intro i4 (And.intro i5 (And.intro hBl (And.intro hR3 i7))))))
      clear i1 i2 i3 i4 i5 i6 i7 k1 k2 k3 k4 k5 k6 k7 k8 hBl hlt hR3
      go_wp2
      go_loopw [17] (fun v13 wq => ∃ (P Q : List (Array Value)) (z : Int), v13 = .int .i64 z ∧ Hid (z = zi + P.length ∧ B2 = P ++ Q ∧ RowsAt wq g 32 (X ++ B1 ++ P ++ x :: (Q ++ Z)) ∧ But g w wq)) (fun v13 _ => (intOf v13).toNat)
      case atStart => exact ⟨B2, [], m, rfl, Lib.hid ⟨by have := HA.out; have := HZ.out; omega, by simp, HZ.out.2.2.2.2.2.1, HZ.out.2.2.2.2.2.2⟩⟩
      case round =>
        obtain ⟨P, Q, z, rfl, hJ⟩ := hrel
        obtain ⟨j1, j2, j3, j4⟩ := hJ.out
        obtain ⟨l2, l3, l4, l5, l6, l7, l8⟩ := HZ.out
        obtain ⟨k1, k2, k3, k4, k5, k6, k7, k8⟩ := HA.out
        have hPl := congrArg List.length j2
        rw [List.length_append] at hPl
        by_cases hlt : zi < z
        · have d1 : decide (zi < z) = true := decide_eq_true hlt
          obtain ⟨T, q, rfl⟩ : ∃ T q, P = T ++ [q] := by
            rcases List.eq_nil_or_concat P with rfl | ⟨T, y, rfl⟩
            · simp at j1; omega
            · exact ⟨T, y, by simp⟩
          simp only [List.length_append, List.length_cons, List.length_nil] at hPl j1
          obtain ⟨A, hA⟩ : ∃ A, A = X ++ B1 ++ T := ⟨_, rfl⟩
          obtain ⟨R, hRr⟩ : ∃ R, R = Q ++ Z := ⟨_, rfl⟩
          have hAl : A.length = X.length + B1.length + T.length := by rw [hA, List.length_append, List.length_append]
          obtain ⟨z1, hz1⟩ : ∃ z1 : Int, z1 = z - 1 := ⟨_, rfl⟩
          have e3 : wrap64 (z - 1) = z1 := by unfold wrap64; omega
          have d2 : (0 ≤ z) = True := eq_true (by omega)
          have d3 : (z < (len : Int)) = True := eq_true (by omega)
          have d4 : (0 ≤ z1) = True := eq_true (by omega)
          have d5 : (z1 < (len : Int)) = True := eq_true (by omega)
          obtain ⟨J0, J1, J2⟩ := at_mid A R q x
          rw [show A.length + 1 = z.toNat by omega] at J1 J2
          rw [show A.length = z1.toNat by omega] at J0 J2
          have hR2 := j3
          rw [show X ++ B1 ++ (T ++ [q]) ++ x :: (Q ++ Z) = A ++ q :: x :: R by rw [hA, hRr]; simp] at hR2
          have jz : z.toNat < (A ++ q :: x :: R).length := (List.getElem?_eq_some_iff.1 J1).1
          have jz1 : z1.toNat < (A ++ q :: x :: R).length := (List.getElem?_eq_some_iff.1 J0).1
          have ox := hR2.one x (by simp)
          have oq := hR2.one q (by simp)
          replace hR2 := hR2.below (below_drew (Below.refl _ _))
          have hBt := j4.trans (But.of_below (below_drew (Below.refl _ _)))
          have HY := Lib.hid (And.intro j1 (And.intro j2 (And.intro hA (And.intro hRr (And.intro hz1 hlt)))))
          have hpos : 0 ≤ zi := by omega
          replace hpos := Lib.hid hpos
          replace J0 := Lib.hid J0
          replace J1 := Lib.hid J1
          replace J2 := Lib.hid J2
          replace jz := Lib.hid jz
          replace jz1 := Lib.hid jz1
          replace ox := Lib.hid ox
          replace oq := Lib.hid oq
          clear j1 j2 j3 j4 l2 l3 l4 l5 l6 l7 l8 k1 k2 k3 k4 k5 k6 k7 k8 hPl hlt hA hRr hAl hz1
          go_upto_region 23 with (fail)
          refine start_ (n := 18) (S := fun w' => RowsAt w' g 32 (A ++ q :: x :: R)) (ds := [15, 17]) (bs 18 0) (by kernel_rfl) rfl (by kernel_rfl) hR2 (fun hHeld => ?_)
          refine with_tabW rg57_23_tab rg57_23_bits (fun HT_ HW_ => ?_)
          refine pu 0 (some 113) (bs 18 1) HT_ rfl rfl (by kernel_rfl) (fun _ _ _ _ h => h) ⟨_, .inl ⟨by rfl, fun _ => by go_simp; with_reducible rfl⟩, _, by simp only [Act.put, sA, sB, sC, i64_w, i32_w]; rfl, ?_⟩
          refine pu 1 (some 114) (bs 18 3) HT_ rfl rfl (by kernel_rfl) (fun _ _ _ _ h => h) ⟨_, .inl ⟨by rfl, fun _ => by go_simp; with_reducible rfl⟩, _, by simp only [Act.put, sA, sB, sC, i64_w, i32_w]; rfl, ?_⟩
          refine pu 2 (some 115) (bs 18 7) HT_ rfl rfl (by kernel_rfl) (fun _ _ _ _ h => h) ⟨_, .inl ⟨by rfl, fun _ => by go_simp; with_reducible rfl⟩, _, by simp only [Act.put, sA, sB, sC, i64_w, i32_w]; rfl, ?_⟩
          refine pu 3 (some 116) (bs 18 15) HT_ rfl rfl (by kernel_rfl) (fun _ _ _ _ h => h) ⟨_, .inl ⟨by rfl, fun _ => by go_simp; with_reducible rfl⟩, _, by simp only [Act.put, sA, sB, sC, i64_w, i32_w]; rfl, ?_⟩
          refine pu 4 (some 117) (bs 18 31) HT_ rfl rfl (by kernel_rfl) (fun _ _ _ _ h => h) ⟨_, .inl ⟨by rfl, fun _ => by go_simp; with_reducible rfl⟩, _, by simp only [Act.put, sA, sB, sC, i64_w, i32_w]; rfl, ?_⟩
          refine pu 5 (some 118) (bs 18 63) HT_ rfl rfl (by kernel_rfl) (fun _ _ _ _ h => h) ⟨_, .inl ⟨by rfl, fun _ => by go_simp; with_reducible rfl⟩, _, by simp only [Act.put, sA, sB, sC, i64_w, i32_w]; rfl, ?_⟩
          refine pu 6 (some 119) (bs 18 127) HT_ rfl rfl (by kernel_rfl) (fun _ _ _ _ h => h) ⟨_, .inl ⟨by rfl, fun _ => by go_simp; with_reducible rfl⟩, _, by simp only [Act.put, sA, sB, sC, i64_w, i32_w]; rfl, ?_⟩
          refine pu 7 (some 120) (bs 18 255) HT_ rfl rfl (by kernel_rfl) (fun _ _ _ _ h => h) ⟨_, .inl ⟨by rfl, fun _ => by go_simp; with_reducible rfl⟩, _, by simp only [Act.put, sA, sB, sC, i64_w, i32_w]; rfl, ?_⟩
          refine pu 8 (some 121) (bs 18 511) HT_ rfl rfl (by kernel_rfl) (fun _ _ _ _ h => h) ⟨_, .inl ⟨by rfl, fun _ => by go_simp; with_reducible rfl⟩, _, by simp only [Act.put, sA, sB, sC, i64_w, i32_w]; rfl, ?_⟩
          refine pu 10 (some 123) (bs 18 1535) HT_ rfl rfl (by kernel_rfl) (fun _ _ _ _ h => h) ⟨_, .inl ⟨by rfl, fun _ => by go_simp; with_reducible rfl⟩, _, by simp only [Act.put, sA, sB, sC, i64_w, i32_w]; rfl, ?_⟩
          refine pu 11 (some 124) (bs 18 3583) HT_ rfl rfl (by kernel_rfl) (fun _ _ _ _ h => h) ⟨_, .inl ⟨by rfl, fun _ => by go_simp; with_reducible rfl⟩, _, by simp only [Act.put, sA, sB, sC, i64_w, i32_w]; rfl, ?_⟩
          refine pu 12 (some 125) (bs 18 7679) HT_ rfl rfl (by kernel_rfl) (fun _ _ _ _ h => h) ⟨_, .inl ⟨by rfl, fun _ => by go_simp; with_reducible rfl⟩, _, by simp only [Act.put, sA, sB, sC, i64_w, i32_w]; rfl, ?_⟩
          refine tk 9 (some 122) (bs 18 8191) HT_ HW_ rfl rfl (by kernel_rfl) (fun _ _ _ _ h => h) hHeld ⟨_, .inl ⟨by rfl, by rintro w' s0; refine load_mid (x := .tmp 121) (j := z1.toNat) ?_ ?_ rfl s0 J0.out Tryd.underlying39 rfl (by kernel_rfl) <;> rfl⟩, _, by simp only [Act.put, sA, sB, sC, i64_w, i32_w]; rfl, ?_⟩
          refine tk 13 (some 126) (bs 18 16383) HT_ HW_ rfl rfl (by kernel_rfl) (fun _ _ _ _ h => h) hHeld ⟨_, .inl ⟨by rfl, by rintro w' s0; refine load_mid (x := .tmp 125) (j := z.toNat) ?_ ?_ rfl s0 J1.out Tryd.underlying39 rfl (by kernel_rfl) <;> rfl⟩, _, by simp only [Act.put, sA, sB, sC, i64_w, i32_w]; rfl, ?_⟩
          refine pu 14 (some 127) (bs 18 32767) HT_ rfl rfl (by kernel_rfl) (fun _ _ _ _ h => h) ⟨_, .inl ⟨by rfl, fun _ => by go_simp; with_reducible rfl⟩, _, by simp only [Act.put, sA, sB, sC, i64_w, i32_w]; rfl, ?_⟩
          refine la1 15 (none) (bs 18 65535) HT_ rfl rfl (by kernel_rfl) (by decide) (fun K hK => ?_)
          refine stores_mid (j := z.toNat) (x := .tmp 127) (y := .tmp 122) (by rfl) rfl rfl rfl rfl rfl hR2 jz.out oq.out.1 oq.out.2 (by kernel_rfl) ?_
          intro w5 hR5 hB5
          refine hK.out _ _ ?_
          clear hK K
          refine pu 16 (some 128) (bs 18 131071) HT_ rfl rfl (by kernel_rfl) (fun _ _ _ _ h => h) ⟨_, .inl ⟨by rfl, fun _ => by go_simp; with_reducible rfl⟩, _, by simp only [Act.put, sA, sB, sC, i64_w, i32_w]; rfl, ?_⟩
          refine la1 17 (none) (bs 18 262143) HT_ rfl rfl (by kernel_rfl) (by decide) (fun K hK => ?_)
          refine stores_mid (j := z1.toNat) (x := .tmp 128) (y := .tmp 126) (by rfl) rfl rfl rfl rfl rfl hR5 (by rw [List.length_set]; exact jz1.out) ox.out.1 ox.out.2 (by kernel_rfl) ?_
          intro w6 hR6 hB6
          refine hK.out _ _ ?_
          clear hK K
          refine done_ (done_of HT_.out (by kernel_rfl)) ?_
          rw [J2.out] at hR6
          replace hBt := (hBt.trans hB5).trans hB6
          go_wp2
          obtain ⟨m1, m2, m3, m4, m5, m6⟩ := HY.out
          have hp := hpos.out
          go_roundw
          case rel => exact ⟨T, q :: Q, z1, by first | rfl | rw [e3], Lib.hid ⟨by omega, by rw [m2]; simp, by rw [m3, m4] at hR6; simpa using hR6, hBt⟩⟩
          case measure => simp [intOf]; omega
        · have d1 : decide (zi < z) = false := decide_eq_false hlt
          obtain rfl : P = [] := List.length_eq_zero_iff.1 (by omega)
          rw [List.nil_append] at j2
          have hfin : X ++ Srt.merge c B [x] ++ Z = X ++ B1 ++ [] ++ x :: (Q ++ Z) := by
            rw [l3, merge_last c x B1 B2 (fun s hs => by have := l4 s hs; omega) l5, j2]
            simp
          have HY := Lib.hid (And.intro hfin (And.intro j3 j4))
          clear j1 j2 j3 j4 l2 l3 l4 l5 l6 l7 l8 k1 k2 k3 k4 k5 k6 k7 k8 hPl hlt hfin
          go_wp2
          refine ⟨rfl, .tuple #[], by simp [results, Tryd.results57], ⟨_, rfl⟩, ?_, HY.out.2.2⟩
          rw [HY.out.1]
          exact HY.out.2.1
end Go.Proofs.YtiaggfjfgoiafaaDoor

/- A merge, cut where the search of symMerge ends. -/
namespace Go.Proofs.YtiaggfjfgoiafaaDoor.Srt
open Go.Proofs.YtiaggfjfgoiafaaDoor.Wc
variable {α : Type} {c : α → α → Int}
theorem le_lt (h : IsCmp c) {x y z : α} (h1 : c x y ≤ 0) (h2 : c y z < 0) : c x z < 0 := by
  have h3 := h.trans x y z h1 (by omega)
  by_cases h4 : c x z < 0
  · exact h4
  · have a1 := h.anti x z
    have h5 := h.trans z x y (by omega) h1
    have a2 := h.anti y z
    omega
theorem sorted_le (h : IsCmp c) {l : List α} (hs : Sorted c l) {i j : Nat} {x y : α} (hij : i ≤ j) (hx : l[i]? = some x) (hy : l[j]? = some y) : c x y ≤ 0 := by
  obtain ⟨hi, rfl⟩ := List.getElem?_eq_some_iff.1 hx
  obtain ⟨hj, rfl⟩ := List.getElem?_eq_some_iff.1 hy
  rcases Nat.lt_or_eq_of_le hij with g | g
  · exact List.pairwise_iff_getElem.1 hs i j hi hj g
  · subst g
    rw [h.refl]
    exact Int.le_refl _
theorem mem_take_at {l : List α} {n : Nat} {x : α} (h : x ∈ l.take n) : ∃ i, i < n ∧ l[i]? = some x := by
  obtain ⟨i, hi⟩ := List.getElem?_of_mem h
  rw [List.getElem?_take] at hi
  split at hi
  · exact ⟨i, by assumption, hi⟩
  · cases hi
theorem mem_drop_at {l : List α} {n : Nat} {x : α} (h : x ∈ l.drop n) : ∃ i, n ≤ i ∧ l[i]? = some x := by
  obtain ⟨i, hi⟩ := List.getElem?_of_mem h
  rw [List.getElem?_drop] at hi
  exact ⟨n + i, by omega, hi⟩
theorem merge_cut (h : IsCmp c) (A B : List α) (hA : Sorted c A) (hB : Sorted c B) (s t : Nat) (hs : s ≤ A.length) (ht : t ≤ B.length)
    (hl : ∀ x y, 0 < s → A[s - 1]? = some x → B[t]? = some y → ¬ c y x < 0) (hr : ∀ x y, 0 < t → A[s]? = some x → B[t - 1]? = some y → c y x < 0) :
    merge c A B = merge c (A.take s) (B.take t) ++ merge c (A.drop s) (B.drop t) := by
  have := merge_split (c := c) _ (A.take s) (B.take t) (A.drop s) (B.drop t) (Nat.le_refl _) (fun a ha b hb hn => ?_) (fun a ha b hb => ?_)
  · rw [List.take_append_drop, List.take_append_drop] at this
    exact this
  · obtain ⟨i, hi, ea⟩ := mem_take_at ha
    obtain ⟨j, hj, eb⟩ := mem_drop_at hb
    have hjl := (List.getElem?_eq_some_iff.1 eb).1
    have e1 : A[s - 1]? = some A[s - 1] := List.getElem?_eq_getElem (by omega)
    have e2 : B[t]? = some B[t] := List.getElem?_eq_getElem (by omega)
    refine hl _ _ (by omega) e1 e2 ?_
    exact h.lt_trans (le_lt h (sorted_le h hB hj e2 eb) hn) (sorted_le h hA (by omega) ea e1)
  · obtain ⟨i, hi, ea⟩ := mem_drop_at ha
    obtain ⟨j, hj, eb⟩ := mem_take_at hb
    have hil := (List.getElem?_eq_some_iff.1 ea).1
    have hjl := (List.getElem?_eq_some_iff.1 eb).1
    have e1 : A[s]? = some A[s] := List.getElem?_eq_getElem (by omega)
    have e2 : B[t - 1]? = some B[t - 1] := List.getElem?_eq_getElem (by omega)
    have h1 := hr _ _ (by omega) e1 e2
    exact h.lt_trans (le_lt h (sorted_le h hB (by omega) eb e2) h1) (sorted_le h hA hi e1 ea)
theorem sorted_take {l : List α} (hs : Sorted c l) (n : Nat) : Sorted c (l.take n) := List.Pairwise.sublist (List.take_sublist n l) hs
theorem sorted_drop {l : List α} (hs : Sorted c l) (n : Nat) : Sorted c (l.drop n) := List.Pairwise.sublist (List.drop_sublist n l) hs
theorem test_up (h : IsCmp c) (A B : List α) (hA : Sorted c A) (hB : Sorted c B) (mu i j : Nat) (hij : i ≤ j) (hj : j < mu) {x y x' y' : α} (e1 : A[i]? = some x) (e2 : B[mu - 1 - i]? = some y) (e3 : A[j]? = some x') (e4 : B[mu - 1 - j]? = some y') (ht : c y x < 0) : c y' x' < 0 :=
  h.lt_trans (le_lt h (sorted_le h hB (by omega) e4 e2) ht) (sorted_le h hA hij e1 e3)
end Go.Proofs.YtiaggfjfgoiafaaDoor.Srt

/- slices' symMerge over a block of objects: a stable merge of two sorted rows. -/
namespace Go.Proofs.YtiaggfjfgoiafaaDoor
open Go.RowKit Go.Proofs.YtiaggfjfgoiafaaDoorW.PrintWords Go.Proofs.YtiaggfjfgoiafaaDoorW.PrintLast
def SymOk (f : FuncId) (D : Array Value → Prop) (c : Array Value → Array Value → Int) (g cap : Nat) (N : Nat) : Prop :=
  ∀ (X A B Z : List (Array Value)), A.length + B.length ≤ N → 0 < A.length → 0 < B.length → Srt.Sorted c A → Srt.Sorted c B → (∀ y ∈ A, D y) → (∀ y ∈ B, D y) →
    ∀ (len : Nat), len = (X ++ A ++ B ++ Z).length → len ≤ cap → len ≤ 1099511627776 → ∀ (a m b : Int), a = X.length → m = (X.length + A.length : Nat) → b = (X.length + A.length + B.length : Nat) → ∀ w, RowsAt w g 32 (X ++ A ++ B ++ Z) →
      Calls Tryd.prog 57 #[.slice (some ⟨g, 0, none⟩) len cap, .int .i64 a, .int .i64 m, .int .i64 b, .func (.func f) #[] #[]] w fun e w' =>
        (∃ v, e = .returned v) ∧ RowsAt w' g 32 (X ++ Srt.merge c A B ++ Z) ∧ But g w w'
set_option maxHeartbeats 4000000 in
theorem sym_parts (f : FuncId) (D : Array Value → Prop) (c : Array Value → Array Value → Int) (g cap N : Nat) (ih : SymOk f D c g cap N) (X A B Z : List (Array Value)) (hN : A.length + B.length ≤ N + 1) (h0A : 2 ≤ A.length) (h0B : 2 ≤ B.length)
    (hA : Srt.Sorted c A) (hB : Srt.Sorted c B) (hDA : ∀ y ∈ A, D y) (hDB : ∀ y ∈ B, D y) (s t : Nat) (hs : s ≤ A.length) (ht : t ≤ B.length) (hst : s + t = (A.length + B.length) / 2) (len : Nat) (hlen : len = (X ++ A ++ B ++ Z).length) (hcap : len ≤ cap) (hn : len ≤ 1099511627776)
    (a m b z ze zm : Int) (ha : a = X.length) (hm : m = (X.length + A.length : Nat)) (hb : b = (X.length + A.length + B.length : Nat)) (hz : z = a + s) (hze : ze = m + t) (hzm : zm = a + s + t) :
    ∃ R1 R2 R3 : List (Array Value), R3 = X ++ (Srt.merge c (A.take s) (B.take t) ++ Srt.merge c (A.drop s) (B.drop t)) ++ Z ∧
      ((s < A.length → 0 < t → ∀ W, RowsAt W g 32 (X ++ A ++ B ++ Z) → Calls Tryd.prog 70 #[.slice (some ⟨g, 0, none⟩) len cap, .int .i64 z, .int .i64 m, .int .i64 ze, .func (.func f) #[] #[]] W fun e w' => (∃ v, e = .returned v) ∧ RowsAt w' g 32 (R1) ∧ But g W w') ∧ (¬ (s < A.length ∧ 0 < t) → R1 = X ++ A ++ B ++ Z)) ∧
      ((0 < s → 0 < t → ∀ W, RowsAt W g 32 (R1) → Calls Tryd.prog 57 #[.slice (some ⟨g, 0, none⟩) len cap, .int .i64 a, .int .i64 z, .int .i64 zm, .func (.func f) #[] #[]] W fun e w' => (∃ v, e = .returned v) ∧ RowsAt w' g 32 (R2) ∧ But g W w') ∧ (¬ (0 < s ∧ 0 < t) → R2 = R1)) ∧
      ((s < A.length → t < B.length → ∀ W, RowsAt W g 32 (R2) → Calls Tryd.prog 57 #[.slice (some ⟨g, 0, none⟩) len cap, .int .i64 zm, .int .i64 ze, .int .i64 b, .func (.func f) #[] #[]] W fun e w' => (∃ v, e = .returned v) ∧ RowsAt w' g 32 (R3) ∧ But g W w') ∧ (¬ (s < A.length ∧ t < B.length) → R3 = R2)) := by
  have lA : (A.take s).length = s := by rw [List.length_take]; omega
  have lB : (B.take t).length = t := by rw [List.length_take]; omega
  have kA : (A.drop s).length = A.length - s := List.length_drop ..
  have kB : (B.drop t).length = B.length - t := List.length_drop ..
  have hl0 : len = X.length + A.length + B.length + Z.length := by rw [hlen]; simp; omega
  have hmm : ∀ P Q : List (Array Value), (Srt.merge c P Q).length = P.length + Q.length := fun P Q => Srt.merge_length P Q _ (Nat.le_refl _)
  have eA : A.take s ++ A.drop s = A := List.take_append_drop ..
  have eB : B.take t ++ B.drop t = B := List.take_append_drop ..
  refine ⟨X ++ A.take s ++ B.take t ++ (A.drop s ++ B.drop t ++ Z), X ++ Srt.merge c (A.take s) (B.take t) ++ (A.drop s ++ B.drop t ++ Z), _, rfl, ⟨fun h1 h2 W hW => ?_, fun h => ?_⟩, ⟨fun h1 h2 W hW => ?_, fun h => ?_⟩, ⟨fun h1 h2 W hW => ?_, fun h => ?_⟩⟩
  · have e0 : X ++ A ++ B ++ Z = (X ++ A.take s) ++ A.drop s ++ B.take t ++ (B.drop t ++ Z) := by
      conv => lhs; rw [← eA, ← eB]
      simp only [List.append_assoc]
    rw [e0] at hW
    refine (rotate_calls (X ++ A.take s) (A.drop s) (B.take t) (B.drop t ++ Z) (by omega) (by omega) g cap len (by rw [hlen, e0]) hcap hn z m ze (by rw [List.length_append]; omega) (by rw [List.length_append]; omega) (by rw [List.length_append]; omega) _ W hW).mono ?_
    rintro e w' ⟨hv, hR, hb⟩
    exact ⟨hv, by simpa only [List.append_assoc] using hR, hb⟩
  · rcases Nat.eq_zero_or_pos t with h0 | h0
    · subst h0
      simp only [List.take_zero, List.drop_zero, List.append_nil, List.append_assoc]
      rw [← List.append_assoc (A.take s), eA]
    · have h3 : s = A.length := by omega
      subst h3
      simp only [List.take_length, List.drop_length, List.nil_append, List.append_assoc]
      rw [← List.append_assoc (B.take t), eB]
  · exact ih X (A.take s) (B.take t) _ (by omega) (by omega) (by omega) (Srt.sorted_take hA s) (Srt.sorted_take hB t) (fun y hy => hDA y (List.mem_of_mem_take hy)) (fun y hy => hDB y (List.mem_of_mem_take hy)) len (by rw [hl0]; simp; omega) hcap hn a z zm ha (by omega) (by omega) W hW
  · rcases Nat.eq_zero_or_pos s with h0 | h0
    · subst h0; simp [Srt.merge_nil_left]
    · have h3 : t = 0 := by omega
      subst h3; simp [Srt.merge_nil_right]
  · have e0 : X ++ Srt.merge c (A.take s) (B.take t) ++ (A.drop s ++ B.drop t ++ Z) = (X ++ Srt.merge c (A.take s) (B.take t)) ++ A.drop s ++ B.drop t ++ Z := by simp only [List.append_assoc]
    rw [e0] at hW
    refine (ih (X ++ Srt.merge c (A.take s) (B.take t)) (A.drop s) (B.drop t) Z (by omega) (by omega) (by omega) (Srt.sorted_drop hA s) (Srt.sorted_drop hB t) (fun y hy => hDA y (List.mem_of_mem_drop hy)) (fun y hy => hDB y (List.mem_of_mem_drop hy)) len (by rw [hl0]; simp [hmm]; omega) hcap hn zm ze b (by rw [List.length_append, hmm]; omega) (by rw [List.length_append, hmm]; omega) (by rw [List.length_append, hmm]; omega) W hW).mono ?_
    rintro e w' ⟨hv, hR, hb⟩
    exact ⟨hv, by simpa only [List.append_assoc] using hR, hb⟩
  · rcases Nat.lt_or_ge s A.length with h0 | h0
    · have h3 : t = B.length := by omega
      subst h3; simp [Srt.merge_nil_right]
    · have h3 : s = A.length := by omega
      subst h3; simp [Srt.merge_nil_left]
end Go.Proofs.YtiaggfjfgoiafaaDoor

/- slices' symMerge over a block of objects: a stable merge of two sorted rows. -/
namespace Go.Proofs.YtiaggfjfgoiafaaDoor
open Go.RowKit Go.Proofs.YtiaggfjfgoiafaaDoorW.PrintWords Go.Proofs.YtiaggfjfgoiafaaDoorW.PrintLast
def rg57_35_T : Bool × List (List Nat × List Nat) := (true, [([], []), ([], []), ([], []), ([], []), ([2, 3], [2, 3]), ([1, 4], [1, 4]), ([5], [5]), ([], []), ([], []), ([7, 8], [7, 8]), ([9], [9]), ([0, 6, 10], [0, 6, 10]), ([11], [11]), ([12], [12])])
def rg57_35_B : List Nat := [0, 0, 0, 0, 12, 30, 62, 0, 0, 384, 896, 2047, 4095, 8191]
theorem rg57_35_tab : rtab .any (opsOf Tryd.f57 35) = rg57_35_T := by kernel_rfl
theorem rg57_35_bits : waitsOk rg57_35_T.2 rg57_35_B = true := by kernel_rfl
set_option maxHeartbeats 32000000 in
set_option maxRecDepth 100000 in
theorem sym_main (f : FuncId) (D : Array Value → Prop) (c : Array Value → Array Value → Int) (hcmp : CmpAt f D c) (hc : Wc.IsCmp c) (g cap N : Nat) (ih : SymOk f D c g cap N) (X A B Z : List (Array Value)) (hN : A.length + B.length ≤ N + 1) (h0A : 2 ≤ A.length) (h0B : 2 ≤ B.length)
    (hA : Srt.Sorted c A) (hB : Srt.Sorted c B) (hDA : ∀ y ∈ A, D y) (hDB : ∀ y ∈ B, D y) (len : Nat) (hlen : len = (X ++ A ++ B ++ Z).length) (hcap : len ≤ cap) (hn : len ≤ 1099511627776) (a m b : Int) (ha : a = X.length) (hm : m = (X.length + A.length : Nat)) (hb : b = (X.length + A.length + B.length : Nat)) (w : World)
    (hR : RowsAt w g 32 (X ++ A ++ B ++ Z)) :
    Calls Tryd.prog 57 #[.slice (some ⟨g, 0, none⟩) len cap, .int .i64 a, .int .i64 m, .int .i64 b, .func (.func f) #[] #[]] w fun e w' =>
      (∃ v, e = .returned v) ∧ RowsAt w' g 32 (X ++ Srt.merge c A B ++ Z) ∧ But g w w' := by
  obtain ⟨fn, hf1, hf2, hf3⟩ := hcmp.fn
  have hle : len = X.length + A.length + B.length + Z.length := by rw [hlen]; simp; omega
  obtain ⟨mu, hmu⟩ : ∃ mu : Nat, mu = (A.length + B.length) / 2 := ⟨_, rfl⟩
  obtain ⟨zm, hzm⟩ : ∃ zm : Int, zm = a + mu := ⟨_, rfl⟩
  obtain ⟨zn, hzn⟩ : ∃ zn : Int, zn = zm + m := ⟨_, rfl⟩
  obtain ⟨zp, hzp⟩ : ∃ zp : Int, zp = zn - 1 := ⟨_, rfl⟩
  have e1 : (wrap64 (m - a) == 1) = false := beq_eq_false_iff_ne.mpr (by unfold wrap64; omega)
  have e2 : (wrap64 (b - m) == 1) = false := beq_eq_false_iff_ne.mpr (by unfold wrap64; omega)
  have em : wrap64 (IntKind.u64.wrap (wrap64 (a + b)) / 2) = zm := by rw [half_ _ (by omega) (by omega)]; omega
  have en : wrap64 (zm + m) = zn := by unfold wrap64; omega
  have ep : wrap64 (zn - 1) = zp := by unfold wrap64; omega
  -- where the search begins, where it ends at most
  obtain ⟨st0, r0, hcase⟩ : ∃ st0 r0 : Int, (decide (zm < m) = true ∧ zm < m ∧ wrap64 (zn - b) = st0 ∧ st0 = zn - b ∧ r0 = zm) ∨ (decide (zm < m) = false ∧ ¬ zm < m ∧ st0 = a ∧ r0 = m) := by
    by_cases h : zm < m
    · exact ⟨zn - b, zm, .inl ⟨decide_eq_true h, h, by unfold wrap64; omega, rfl, rfl⟩⟩
    · exact ⟨a, m, .inr ⟨decide_eq_false h, h, rfl, rfl⟩⟩
  have hs0 : a ≤ st0 ∧ st0 ≤ r0 ∧ r0 ≤ m ∧ r0 ≤ zm ∧ zm - st0 ≤ B.length ∧ (st0 = a ∨ zm - st0 = B.length) ∧ (r0 = m ∨ r0 = zm) := by omega
  have HH := Lib.hid (And.intro hcmp (And.intro ih (And.intro hN (And.intro h0A (And.intro h0B (And.intro hA (And.intro hB (And.intro hDA hDB))))))))
  have HE := Lib.hid (And.intro ha (And.intro hm (And.intro hb (And.intro hle (And.intro hmu (And.intro hzm (And.intro hzn (And.intro hzp hs0))))))))
  have HR := Lib.hid hR
  have HF := Lib.hid (And.intro hf1 (And.intro hf2 hf3))
  clear hcmp ih hN h0A h0B hA hB hDA hDB ha hm hb hle hmu hzm hzn hzp hs0 hR hf1 hf2 hf3 hlen
  have HS : Hid ((decide (zm < m) = true ∧ zm < m ∧ wrap64 (zn - b) = st0 ∧ st0 = zn - b ∧ r0 = zm) ∨ (decide (zm < m) = false ∧ ¬ zm < m ∧ st0 = a ∧ r0 = m)) := Lib.hid hcase
  rcases hcase with ⟨d1, d0, es, q1, q2⟩ | ⟨d1, d0, q1, q2⟩
  · clear d0
    replace q1 := Lib.hid q1
    replace q2 := Lib.hid q2
    go_enter Tryd.func57, Tryd.ntmps57
    go_wp2
    clear e1 e2 em en ep d1
    go_loopw [20, 21] (fun v20 v21 wr => ∃ (z r : Int), v20 = .int .i64 z ∧ v21 = .int .i64 r ∧ Hid (st0 ≤ z ∧ z ≤ r ∧ r ≤ r0 ∧ (∀ (i : Nat) (x y : Array Value), st0 ≤ a + i → a + i < z → A[i]? = some x → B[mu - 1 - i]? = some y → 0 ≤ c y x) ∧ (∀ (i : Nat) (x y : Array Value), r ≤ a + i → a + i < r0 → A[i]? = some x → B[mu - 1 - i]? = some y → c y x < 0) ∧ RowsAt wr g 32 (X ++ A ++ B ++ Z) ∧ But g w wr)) (fun v20 v21 _ => (intOf v21 - intOf v20).toNat)
    case atStart =>
      refine ⟨st0, r0, by first | rfl | exact congrArg _ q1.out.symm, by first | rfl | exact congrArg _ q2.out.symm, Lib.hid ⟨Int.le_refl _, HE.out.2.2.2.2.2.2.2.2.2.1, Int.le_refl _, fun i x y h1 h2 => absurd h2 (by omega), fun i x y h1 h2 => absurd h2 (by omega), HR.out, But.refl _ _⟩⟩
    case round =>
      obtain ⟨z, r, rfl, rfl, hI⟩ := hrel
      by_cases hlt : z < r
      · have d1 : decide (z < r) = true := decide_eq_true hlt
        obtain ⟨i1, i2, i3, i4, i5, i6, i7⟩ := hI.out
        obtain ⟨k1, k2, k3, k4, k5, k6, k7, k8, k9, k10, k11, k12, k13, k14, k15⟩ := HE.out
        obtain ⟨u1, u2, u3, u4, u5, u6, u7, u8, u9⟩ := HH.out
        obtain ⟨zk, hzk⟩ : ∃ zk : Int, zk = (z + r) / 2 := ⟨_, rfl⟩
        have eh : wrap64 (IntKind.u64.wrap (wrap64 (z + r)) / 2) = zk := by rw [half_ _ (by omega) (by omega), hzk]
        obtain ⟨zq, hzq⟩ : ∃ zq : Int, zq = zp - zk := ⟨_, rfl⟩
        have eqq : wrap64 (zp - zk) = zq := by unfold wrap64; omega
        obtain ⟨ki, hki⟩ : ∃ ki : Nat, zk = a + ki := ⟨(zk - a).toNat, by omega⟩
        have hkA : ki < A.length := by omega
        have hkm : ki < mu := by omega
        have hkB : mu - 1 - ki < B.length := by omega
        obtain ⟨x, hx⟩ : ∃ x, A[ki]? = some x := ⟨_, List.getElem?_eq_getElem hkA⟩
        obtain ⟨y, hy⟩ : ∃ y, B[mu - 1 - ki]? = some y := ⟨_, List.getElem?_eq_getElem hkB⟩
        have J0 : (X ++ A ++ B ++ Z)[zk.toNat]? = some x := by
          rw [List.append_assoc, List.append_assoc, List.getElem?_append_right (by omega), List.getElem?_append_left (by omega), show zk.toNat - X.length = ki by omega, hx]
        have J1 : (X ++ A ++ B ++ Z)[zq.toNat]? = some y := by
          rw [List.append_assoc, List.getElem?_append_right (by rw [List.length_append]; omega), List.getElem?_append_left (by rw [List.length_append]; omega), List.length_append, show zq.toNat - (X.length + A.length) = mu - 1 - ki by omega, hy]
        have dx : D x := u8 x (List.mem_of_getElem? hx)
        have dy : D y := u9 y (List.mem_of_getElem? hy)
        obtain ⟨cv, hcv⟩ : ∃ cv, cv = c y x := ⟨_, rfl⟩
        have HQ := u1.calls y x dy dx
        rw [← hcv] at HQ
        replace HQ := Lib.hid HQ
        have d2 : (0 ≤ zk) = True := eq_true (by omega)
        have d3 : (zk < (len : Int)) = True := eq_true (by omega)
        have d4 : (0 ≤ zq) = True := eq_true (by omega)
        have d5 : (zq < (len : Int)) = True := eq_true (by omega)
        have eq1 : wrap64 (zk + 1) = zk + 1 := by unfold wrap64; omega
        have hm1 : zk + 1 ≤ r ∧ z ≤ zk := by omega
        have hR2 := i6.below (below_drew (Below.refl _ _))
        have hBt := i7.trans (But.of_below (below_drew (Below.refl _ _)))
        have HZ := Lib.hid (And.intro hki (And.intro hx (And.intro hy (And.intro hcv (And.intro hkm (And.intro hm1 (And.intro eq1 hlt)))))))
        replace J0 := Lib.hid J0
        replace J1 := Lib.hid J1
        clear i1 i2 i3 i4 i5 i6 i7 k1 k2 k3 k4 k5 k6 k7 k8 k9 k10 k11 k12 k13 k14 k15 u1 u2 u3 u4 u5 u6 u7 u8 u9 hzk hzq hki hkA hkm hkB hx hy dx dy hcv eq1 hm1 hlt
        go_upto_region 35 with (fail)
        refine start_ (n := 14) (S := fun w' => RowsAt w' g 32 (X ++ A ++ B ++ Z)) (ds := []) (bs 14 0) (by kernel_rfl) rfl (by kernel_rfl) hR2 (fun hHeld => ?_)
        refine with_tabW rg57_35_tab rg57_35_bits (fun HT_ HW_ => ?_)
        refine pu 0 (some 158) (bs 14 1) HT_ rfl rfl (by kernel_rfl) (fun _ _ _ _ h => h) ⟨_, .inl ⟨by rfl, fun _ => by go_simp; with_reducible rfl⟩, _, by simp only [Act.put, sA, sB, sC, i64_w, i32_w]; rfl, ?_⟩
        refine pu 1 (some 159) (bs 14 3) HT_ rfl rfl (by kernel_rfl) (fun _ _ _ _ h => h) ⟨_, .inl ⟨by rfl, fun _ => by go_simp; with_reducible rfl⟩, _, by simp only [Act.put, sA, sB, sC, i64_w, i32_w]; rfl, ?_⟩
        refine pu 2 (some 160) (bs 14 7) HT_ rfl rfl (by kernel_rfl) (fun _ _ _ _ h => h) ⟨_, .inl ⟨by rfl, fun _ => by go_simp; with_reducible rfl⟩, _, by simp only [Act.put, sA, sB, sC, i64_w, i32_w]; rfl, ?_⟩
        refine pu 3 (some 161) (bs 14 15) HT_ rfl rfl (by kernel_rfl) (fun _ _ _ _ h => h) ⟨_, .inl ⟨by rfl, fun _ => by go_simp; with_reducible rfl⟩, _, by simp only [Act.put, sA, sB, sC, i64_w, i32_w]; rfl, ?_⟩
        refine pu 4 (some 162) (bs 14 31) HT_ rfl rfl (by kernel_rfl) (fun _ _ _ _ h => h) ⟨_, .inl ⟨by rfl, fun _ => by go_simp; with_reducible rfl⟩, _, by simp only [Act.put, sA, sB, sC, i64_w, i32_w]; rfl, ?_⟩
        refine pu 5 (some 163) (bs 14 63) HT_ rfl rfl (by kernel_rfl) (fun _ _ _ _ h => h) ⟨_, .inl ⟨by rfl, fun _ => by go_simp; with_reducible rfl⟩, _, by simp only [Act.put, sA, sB, sC, i64_w, i32_w]; rfl, ?_⟩
        refine pu 7 (some 165) (bs 14 191) HT_ rfl rfl (by kernel_rfl) (fun _ _ _ _ h => h) ⟨_, .inl ⟨by rfl, fun _ => by go_simp; with_reducible rfl⟩, _, by simp only [Act.put, sA, sB, sC, i64_w, i32_w]; rfl, ?_⟩
        refine pu 8 (some 166) (bs 14 447) HT_ rfl rfl (by kernel_rfl) (fun _ _ _ _ h => h) ⟨_, .inl ⟨by rfl, fun _ => by go_simp; with_reducible rfl⟩, _, by simp only [Act.put, sA, sB, sC, i64_w, i32_w]; rfl, ?_⟩
        refine pu 9 (some 167) (bs 14 959) HT_ rfl rfl (by kernel_rfl) (fun _ _ _ _ h => h) ⟨_, .inl ⟨by rfl, fun _ => by go_simp; with_reducible rfl⟩, _, by simp only [Act.put, sA, sB, sC, i64_w, i32_w]; rfl, ?_⟩
        refine tk 6 (some 164) (bs 14 1023) HT_ HW_ rfl rfl (by kernel_rfl) (fun _ _ _ _ h => h) hHeld ⟨_, .inl ⟨by rfl, by rintro w' s0; refine load_mid (x := .tmp 163) (j := zq.toNat) ?_ ?_ rfl s0 J1.out Tryd.underlying39 rfl (by kernel_rfl) <;> rfl⟩, _, by simp only [Act.put, sA, sB, sC, i64_w, i32_w]; rfl, ?_⟩
        refine tk 10 (some 168) (bs 14 2047) HT_ HW_ rfl rfl (by kernel_rfl) (fun _ _ _ _ h => h) hHeld ⟨_, .inl ⟨by rfl, by rintro w' s0; refine load_mid (x := .tmp 167) (j := zk.toNat) ?_ ?_ rfl s0 J0.out Tryd.underlying39 rfl (by kernel_rfl) <;> rfl⟩, _, by simp only [Act.put, sA, sB, sC, i64_w, i32_w]; rfl, ?_⟩
        refine on1 11 (some 169) (bs 14 4095) HT_ rfl rfl (by kernel_rfl) (by decide) (fun K hK => ?_)
        refine goesv_ (f := f) (x := .tmp 158) HF.out.1 HF.out.2.1 HF.out.2.2 #[.agg y, .agg x] (by rfl) rfl rfl rfl (by (try simp only [List.map_toArray, List.map_cons, List.map_nil]); first | done | rfl) ?_
        refine (HQ.out _).mono ?_
        rintro e w1 ⟨rfl, hb1⟩
        replace hR2 := hR2.below hb1
        replace hBt := hBt.trans (But.of_below hb1)
        clear hb1
        refine ⟨_, rfl, ?_⟩
        refine hK.out _ _ hR2 (fun hHeld => ?_)
        clear hK K
        refine nm ⟨_, show Act.put _ (some 169) _ = _ by simp only [Act.put, sA, sB, sC, i64_w, i32_w]; rfl, ?_⟩
        refine pu 12 (some 170) (bs 14 8191) HT_ rfl rfl (by kernel_rfl) (fun _ _ _ _ h => h) ⟨_, .inl ⟨by rfl, fun _ => by go_simp; with_reducible rfl⟩, _, by simp only [Act.put, sA, sB, sC, i64_w, i32_w]; rfl, ?_⟩
        refine pu 13 (some 171) (bs 14 16383) HT_ rfl rfl (by kernel_rfl) (fun _ _ _ _ h => h) ⟨_, .inl ⟨by rfl, fun _ => by go_simp; with_reducible rfl⟩, _, by simp only [Act.put, sA, sB, sC, i64_w, i32_w]; rfl, ?_⟩
        refine done_ (done_of HT_.out (by kernel_rfl)) ?_
        generalize hnb : (!decide (cv < 0)) = nb
        cases nb
        · have hneg : cv < 0 := by
            by_cases h9 : cv < 0
            · exact h9
            · rw [decide_eq_false h9] at hnb; cases hnb
          clear hnb
          go_wp2
          go_roundw
          case rel =>
            obtain ⟨i1, i2, i3, i4, i5, i6, i7⟩ := hI.out
            obtain ⟨j1, j2, j3, j4, j5, j6, j7, j8⟩ := HZ.out
            obtain ⟨u1, u2, u3, u4, u5, u6, u7, u8, u9⟩ := HH.out
            refine ⟨z, zk, rfl, by first | rfl | rw [eh], Lib.hid ⟨i1, by omega, by omega, i4, fun i x' y' h1 h2 h3 h4 => ?_, hR2, hBt⟩⟩
            by_cases h5 : r ≤ a + i
            · exact i5 i x' y' h5 h2 h3 h4
            · have k10 := HE.out.2.2.2.2.2.2.2.2
              have hik := HE.out.2.2.2.2.2
              exact Srt.test_up hc A B u6 u7 mu ki i (by omega) (by omega) j2 j3 h3 h4 (by rw [← j4]; exact hneg)
          case measure => have := HZ.out.2.2.2.2.2; simp [intOf]; omega
        · have hneg : ¬ cv < 0 := fun h9 => by rw [decide_eq_true h9] at hnb; cases hnb
          clear hnb
          go_wp2
          go_roundw
          case rel =>
            obtain ⟨i1, i2, i3, i4, i5, i6, i7⟩ := hI.out
            obtain ⟨j1, j2, j3, j4, j5, j6, j7, j8⟩ := HZ.out
            obtain ⟨u1, u2, u3, u4, u5, u6, u7, u8, u9⟩ := HH.out
            refine ⟨zk + 1, r, by first | rfl | rw [j7], rfl, Lib.hid ⟨by omega, by omega, i3, fun i x' y' h1 h2 h3 h4 => ?_, i5, hR2, hBt⟩⟩
            by_cases h5 : c y' x' < 0
            · have := Srt.test_up hc A B u6 u7 mu i ki (by omega) j5 h3 h4 j2 j3 h5
              rw [← j4] at this
              omega
            · omega
          case measure => have := HZ.out.2.2.2.2.2; simp [intOf]; omega
      · have hzr : z = r := by have := hI.out.2.1; omega
        have d1 : decide (z < r) = false := decide_eq_false hlt
        clear hlt
        obtain ⟨i1, i2, i3, i4, i5, i6, i7⟩ := hI.out
        obtain ⟨k1, k2, k3, k4, k5, k6, k7, k8, k9, k10, k11, k12, k13, k14, k15⟩ := HE.out
        obtain ⟨u1, u2, u3, u4, u5, u6, u7, u8, u9⟩ := HH.out
        obtain ⟨ze, hze⟩ : ∃ ze : Int, ze = zn - z := ⟨_, rfl⟩
        have eze : wrap64 (zn - z) = ze := by unfold wrap64; omega
        obtain ⟨s, hs⟩ : ∃ s : Nat, z = a + s := ⟨(z - a).toNat, by omega⟩
        obtain ⟨t, ht⟩ : ∃ t : Nat, mu = s + t := ⟨mu - s, by omega⟩
        have hsA : s ≤ A.length := by omega
        have htB : t ≤ B.length := by omega
        have hcut := Srt.merge_cut hc A B u6 u7 s t hsA htB (fun x y h1 h2 h3 => by
            have h4 := (List.getElem?_eq_some_iff.1 h3).1
            have := i4 (s - 1) x y (by omega) (by omega) h2 (by rw [show mu - 1 - (s - 1) = t by omega]; exact h3)
            omega) (fun x y h1 h2 h3 => by
            have h4 := (List.getElem?_eq_some_iff.1 h2).1
            exact i5 s x y (by omega) (by omega) h2 (by rw [show mu - 1 - s = t - 1 by omega]; exact h3))
        have b1 : decide (z < m) = decide (s < A.length) := by by_cases h : s < A.length <;> simp [h] <;> omega
        have b2 : decide (m < ze) = decide (0 < t) := by by_cases h : 0 < t <;> simp [h] <;> omega
        have b3 : decide (a < z) = decide (0 < s) := by by_cases h : 0 < s <;> simp [h] <;> omega
        have b4 : decide (z < zm) = decide (0 < t) := by by_cases h : 0 < t <;> simp [h] <;> omega
        have b5 : decide (zm < ze) = decide (s < A.length) := by by_cases h : s < A.length <;> simp [h] <;> omega
        have b6 : decide (ze < b) = decide (t < B.length) := by by_cases h : t < B.length <;> simp [h] <;> omega
        obtain ⟨R1, R2, R3, hR3, ⟨p1, p2⟩, ⟨p3, p4⟩, ⟨p5, p6⟩⟩ := sym_parts f D c g cap N u2 X A B Z u3 u4 u5 u6 u7 u8 u9 s t hsA htB (by omega) len (by rw [List.length_append, List.length_append, List.length_append]; omega) hcap hn a m b z ze zm (by omega) (by omega) (by omega) hs (by omega) (by omega)
        rw [← hcut] at hR3
        have HP := Lib.hid (And.intro p1 (And.intro p2 (And.intro p3 (And.intro p4 (And.intro p5 p6)))))
        have hR2 := Lib.hid (And.intro i6 i7)
        clear p1 p2 p3 p4 p5 p6 i1 i2 i3 i4 i5 i6 i7 k1 k2 k3 k4 k5 k6 k7 k8 k9 k10 k11 k12 k13 k14 k15 u1 u2 u3 u4 u5 u6 u7 u8 u9 hze hs ht hsA htB hcut hzr
        generalize hp : decide (s < A.length) = p at b1 b5
        generalize hq : decide (0 < t) = q at b2 b4
        generalize hu : decide (0 < s) = u at b3
        generalize hv : decide (t < B.length) = v at b6
        cases p <;> cases q <;> cases u <;> cases v
        case true.true.true.true =>
          go_wp2_with (first
            | (go_at_call 70; (with_reducible refine (HP.out.1 (of_decide_eq_true hp) (of_decide_eq_true hq) _ hR2.out.1).mono ?_); rintro e w7 ⟨⟨v7, rfl⟩, hR7, hB7⟩)
            | (go_at_call 57; (with_reducible refine (HP.out.2.2.1 (of_decide_eq_true hu) (of_decide_eq_true hq) _ hR7).mono ?_); rintro e w8 ⟨⟨v8, rfl⟩, hR8, hB8⟩)
            | (go_at_call 57; (with_reducible refine (HP.out.2.2.2.2.1 (of_decide_eq_true hp) (of_decide_eq_true hv) _ hR8).mono ?_); rintro e w9 ⟨⟨v9, rfl⟩, hR9, hB9⟩))
          exact ⟨rfl, .tuple #[], by simp [results, Tryd.results57], ⟨_, rfl⟩, by rw [← hR3]; exact hR9, (((hR2.out.2.trans hB7).trans hB8).trans hB9)⟩
        case true.true.true.false =>
          have q3 := Lib.hid (HP.out.2.2.2.2.2 (fun h => of_decide_eq_false hv h.2))
          go_wp2_with (first
            | (go_at_call 70; (with_reducible refine (HP.out.1 (of_decide_eq_true hp) (of_decide_eq_true hq) _ hR2.out.1).mono ?_); rintro e w7 ⟨⟨v7, rfl⟩, hR7, hB7⟩)
            | (go_at_call 57; (with_reducible refine (HP.out.2.2.1 (of_decide_eq_true hu) (of_decide_eq_true hq) _ hR7).mono ?_); rintro e w8 ⟨⟨v8, rfl⟩, hR8, hB8⟩))
          exact ⟨rfl, .tuple #[], by simp [results, Tryd.results57], ⟨_, rfl⟩, by rw [← hR3]; exact (q3.out ▸ hR8), ((hR2.out.2.trans hB7).trans hB8)⟩
        case true.true.false.true =>
          have q2 := Lib.hid (HP.out.2.2.2.1 (fun h => of_decide_eq_false hu h.1))
          go_wp2_with (first
            | (go_at_call 70; (with_reducible refine (HP.out.1 (of_decide_eq_true hp) (of_decide_eq_true hq) _ hR2.out.1).mono ?_); rintro e w7 ⟨⟨v7, rfl⟩, hR7, hB7⟩)
            | (go_at_call 57; (with_reducible refine (HP.out.2.2.2.2.1 (of_decide_eq_true hp) (of_decide_eq_true hv) _ (q2.out ▸ hR7)).mono ?_); rintro e w9 ⟨⟨v9, rfl⟩, hR9, hB9⟩))
          exact ⟨rfl, .tuple #[], by simp [results, Tryd.results57], ⟨_, rfl⟩, by rw [← hR3]; exact hR9, ((hR2.out.2.trans hB7).trans hB9)⟩
        case true.true.false.false =>
          have q2 := Lib.hid (HP.out.2.2.2.1 (fun h => of_decide_eq_false hu h.1))
          have q3 := Lib.hid (HP.out.2.2.2.2.2 (fun h => of_decide_eq_false hv h.2))
          go_wp2_with (first
            | (go_at_call 70; (with_reducible refine (HP.out.1 (of_decide_eq_true hp) (of_decide_eq_true hq) _ hR2.out.1).mono ?_); rintro e w7 ⟨⟨v7, rfl⟩, hR7, hB7⟩))
          exact ⟨rfl, .tuple #[], by simp [results, Tryd.results57], ⟨_, rfl⟩, by rw [← hR3]; exact (q3.out ▸ (q2.out ▸ hR7)), (hR2.out.2.trans hB7)⟩
        case true.false.true.true =>
          have q1 := Lib.hid (HP.out.2.1 (fun h => of_decide_eq_false hq h.2))
          have q2 := Lib.hid (HP.out.2.2.2.1 (fun h => of_decide_eq_false hq h.2))
          go_wp2_with (first
            | (go_at_call 57; (with_reducible refine (HP.out.2.2.2.2.1 (of_decide_eq_true hp) (of_decide_eq_true hv) _ (q2.out ▸ (q1.out ▸ hR2.out.1))).mono ?_); rintro e w9 ⟨⟨v9, rfl⟩, hR9, hB9⟩))
          exact ⟨rfl, .tuple #[], by simp [results, Tryd.results57], ⟨_, rfl⟩, by rw [← hR3]; exact hR9, (hR2.out.2.trans hB9)⟩
        case true.false.true.false =>
          have q1 := Lib.hid (HP.out.2.1 (fun h => of_decide_eq_false hq h.2))
          have q2 := Lib.hid (HP.out.2.2.2.1 (fun h => of_decide_eq_false hq h.2))
          have q3 := Lib.hid (HP.out.2.2.2.2.2 (fun h => of_decide_eq_false hv h.2))
          go_wp2
          exact ⟨rfl, .tuple #[], by simp [results, Tryd.results57], ⟨_, rfl⟩, by rw [← hR3]; exact (q3.out ▸ (q2.out ▸ (q1.out ▸ hR2.out.1))), hR2.out.2⟩
        case true.false.false.true =>
          have q1 := Lib.hid (HP.out.2.1 (fun h => of_decide_eq_false hq h.2))
          have q2 := Lib.hid (HP.out.2.2.2.1 (fun h => of_decide_eq_false hu h.1))
          go_wp2_with (first
            | (go_at_call 57; (with_reducible refine (HP.out.2.2.2.2.1 (of_decide_eq_true hp) (of_decide_eq_true hv) _ (q2.out ▸ (q1.out ▸ hR2.out.1))).mono ?_); rintro e w9 ⟨⟨v9, rfl⟩, hR9, hB9⟩))
          exact ⟨rfl, .tuple #[], by simp [results, Tryd.results57], ⟨_, rfl⟩, by rw [← hR3]; exact hR9, (hR2.out.2.trans hB9)⟩
        case true.false.false.false =>
          have q1 := Lib.hid (HP.out.2.1 (fun h => of_decide_eq_false hq h.2))
          have q2 := Lib.hid (HP.out.2.2.2.1 (fun h => of_decide_eq_false hu h.1))
          have q3 := Lib.hid (HP.out.2.2.2.2.2 (fun h => of_decide_eq_false hv h.2))
          go_wp2
          exact ⟨rfl, .tuple #[], by simp [results, Tryd.results57], ⟨_, rfl⟩, by rw [← hR3]; exact (q3.out ▸ (q2.out ▸ (q1.out ▸ hR2.out.1))), hR2.out.2⟩
        case false.true.true.true =>
          have q1 := Lib.hid (HP.out.2.1 (fun h => of_decide_eq_false hp h.1))
          have q3 := Lib.hid (HP.out.2.2.2.2.2 (fun h => of_decide_eq_false hp h.1))
          go_wp2_with (first
            | (go_at_call 57; (with_reducible refine (HP.out.2.2.1 (of_decide_eq_true hu) (of_decide_eq_true hq) _ (q1.out ▸ hR2.out.1)).mono ?_); rintro e w8 ⟨⟨v8, rfl⟩, hR8, hB8⟩))
          exact ⟨rfl, .tuple #[], by simp [results, Tryd.results57], ⟨_, rfl⟩, by rw [← hR3]; exact (q3.out ▸ hR8), (hR2.out.2.trans hB8)⟩
        case false.true.true.false =>
          have q1 := Lib.hid (HP.out.2.1 (fun h => of_decide_eq_false hp h.1))
          have q3 := Lib.hid (HP.out.2.2.2.2.2 (fun h => of_decide_eq_false hp h.1))
          go_wp2_with (first
            | (go_at_call 57; (with_reducible refine (HP.out.2.2.1 (of_decide_eq_true hu) (of_decide_eq_true hq) _ (q1.out ▸ hR2.out.1)).mono ?_); rintro e w8 ⟨⟨v8, rfl⟩, hR8, hB8⟩))
          exact ⟨rfl, .tuple #[], by simp [results, Tryd.results57], ⟨_, rfl⟩, by rw [← hR3]; exact (q3.out ▸ hR8), (hR2.out.2.trans hB8)⟩
        case false.true.false.true =>
          have q1 := Lib.hid (HP.out.2.1 (fun h => of_decide_eq_false hp h.1))
          have q2 := Lib.hid (HP.out.2.2.2.1 (fun h => of_decide_eq_false hu h.1))
          have q3 := Lib.hid (HP.out.2.2.2.2.2 (fun h => of_decide_eq_false hp h.1))
          go_wp2
          exact ⟨rfl, .tuple #[], by simp [results, Tryd.results57], ⟨_, rfl⟩, by rw [← hR3]; exact (q3.out ▸ (q2.out ▸ (q1.out ▸ hR2.out.1))), hR2.out.2⟩
        case false.true.false.false =>
          have q1 := Lib.hid (HP.out.2.1 (fun h => of_decide_eq_false hp h.1))
          have q2 := Lib.hid (HP.out.2.2.2.1 (fun h => of_decide_eq_false hu h.1))
          have q3 := Lib.hid (HP.out.2.2.2.2.2 (fun h => of_decide_eq_false hp h.1))
          go_wp2
          exact ⟨rfl, .tuple #[], by simp [results, Tryd.results57], ⟨_, rfl⟩, by rw [← hR3]; exact (q3.out ▸ (q2.out ▸ (q1.out ▸ hR2.out.1))), hR2.out.2⟩
        case false.false.true.true =>
          have q1 := Lib.hid (HP.out.2.1 (fun h => of_decide_eq_false hp h.1))
          have q2 := Lib.hid (HP.out.2.2.2.1 (fun h => of_decide_eq_false hq h.2))
          have q3 := Lib.hid (HP.out.2.2.2.2.2 (fun h => of_decide_eq_false hp h.1))
          go_wp2
          exact ⟨rfl, .tuple #[], by simp [results, Tryd.results57], ⟨_, rfl⟩, by rw [← hR3]; exact (q3.out ▸ (q2.out ▸ (q1.out ▸ hR2.out.1))), hR2.out.2⟩
        case false.false.true.false =>
          have q1 := Lib.hid (HP.out.2.1 (fun h => of_decide_eq_false hp h.1))
          have q2 := Lib.hid (HP.out.2.2.2.1 (fun h => of_decide_eq_false hq h.2))
          have q3 := Lib.hid (HP.out.2.2.2.2.2 (fun h => of_decide_eq_false hp h.1))
          go_wp2
          exact ⟨rfl, .tuple #[], by simp [results, Tryd.results57], ⟨_, rfl⟩, by rw [← hR3]; exact (q3.out ▸ (q2.out ▸ (q1.out ▸ hR2.out.1))), hR2.out.2⟩
        case false.false.false.true =>
          have q1 := Lib.hid (HP.out.2.1 (fun h => of_decide_eq_false hp h.1))
          have q2 := Lib.hid (HP.out.2.2.2.1 (fun h => of_decide_eq_false hu h.1))
          have q3 := Lib.hid (HP.out.2.2.2.2.2 (fun h => of_decide_eq_false hp h.1))
          go_wp2
          exact ⟨rfl, .tuple #[], by simp [results, Tryd.results57], ⟨_, rfl⟩, by rw [← hR3]; exact (q3.out ▸ (q2.out ▸ (q1.out ▸ hR2.out.1))), hR2.out.2⟩
        case false.false.false.false =>
          have q1 := Lib.hid (HP.out.2.1 (fun h => of_decide_eq_false hp h.1))
          have q2 := Lib.hid (HP.out.2.2.2.1 (fun h => of_decide_eq_false hu h.1))
          have q3 := Lib.hid (HP.out.2.2.2.2.2 (fun h => of_decide_eq_false hp h.1))
          go_wp2
          exact ⟨rfl, .tuple #[], by simp [results, Tryd.results57], ⟨_, rfl⟩, by rw [← hR3]; exact (q3.out ▸ (q2.out ▸ (q1.out ▸ hR2.out.1))), hR2.out.2⟩
  · clear d0
    replace q1 := Lib.hid q1
    replace q2 := Lib.hid q2
    go_enter Tryd.func57, Tryd.ntmps57
    go_wp2
    clear e1 e2 em en ep d1
    go_loopw [20, 21] (fun v20 v21 wr => ∃ (z r : Int), v20 = .int .i64 z ∧ v21 = .int .i64 r ∧ Hid (st0 ≤ z ∧ z ≤ r ∧ r ≤ r0 ∧ (∀ (i : Nat) (x y : Array Value), st0 ≤ a + i → a + i < z → A[i]? = some x → B[mu - 1 - i]? = some y → 0 ≤ c y x) ∧ (∀ (i : Nat) (x y : Array Value), r ≤ a + i → a + i < r0 → A[i]? = some x → B[mu - 1 - i]? = some y → c y x < 0) ∧ RowsAt wr g 32 (X ++ A ++ B ++ Z) ∧ But g w wr)) (fun v20 v21 _ => (intOf v21 - intOf v20).toNat)
    case atStart =>
      refine ⟨st0, r0, by first | rfl | exact congrArg _ q1.out.symm, by first | rfl | exact congrArg _ q2.out.symm, Lib.hid ⟨Int.le_refl _, HE.out.2.2.2.2.2.2.2.2.2.1, Int.le_refl _, fun i x y h1 h2 => absurd h2 (by omega), fun i x y h1 h2 => absurd h2 (by omega), HR.out, But.refl _ _⟩⟩
    case round =>
      obtain ⟨z, r, rfl, rfl, hI⟩ := hrel
      by_cases hlt : z < r
      · have d1 : decide (z < r) = true := decide_eq_true hlt
        obtain ⟨i1, i2, i3, i4, i5, i6, i7⟩ := hI.out
        obtain ⟨k1, k2, k3, k4, k5, k6, k7, k8, k9, k10, k11, k12, k13, k14, k15⟩ := HE.out
        obtain ⟨u1, u2, u3, u4, u5, u6, u7, u8, u9⟩ := HH.out
        obtain ⟨zk, hzk⟩ : ∃ zk : Int, zk = (z + r) / 2 := ⟨_, rfl⟩
        have eh : wrap64 (IntKind.u64.wrap (wrap64 (z + r)) / 2) = zk := by rw [half_ _ (by omega) (by omega), hzk]
        obtain ⟨zq, hzq⟩ : ∃ zq : Int, zq = zp - zk := ⟨_, rfl⟩
        have eqq : wrap64 (zp - zk) = zq := by unfold wrap64; omega
        obtain ⟨ki, hki⟩ : ∃ ki : Nat, zk = a + ki := ⟨(zk - a).toNat, by omega⟩
        have hkA : ki < A.length := by omega
        have hkm : ki < mu := by omega
        have hkB : mu - 1 - ki < B.length := by omega
        obtain ⟨x, hx⟩ : ∃ x, A[ki]? = some x := ⟨_, List.getElem?_eq_getElem hkA⟩
        obtain ⟨y, hy⟩ : ∃ y, B[mu - 1 - ki]? = some y := ⟨_, List.getElem?_eq_getElem hkB⟩
        have J0 : (X ++ A ++ B ++ Z)[zk.toNat]? = some x := by
          rw [List.append_assoc, List.append_assoc, List.getElem?_append_right (by omega), List.getElem?_append_left (by omega), show zk.toNat - X.length = ki by omega, hx]
        have J1 : (X ++ A ++ B ++ Z)[zq.toNat]? = some y := by
          rw [List.append_assoc, List.getElem?_append_right (by rw [List.length_append]; omega), List.getElem?_append_left (by rw [List.length_append]; omega), List.length_append, show zq.toNat - (X.length + A.length) = mu - 1 - ki by omega, hy]
        have dx : D x := u8 x (List.mem_of_getElem? hx)
        have dy : D y := u9 y (List.mem_of_getElem? hy)
        obtain ⟨cv, hcv⟩ : ∃ cv, cv = c y x := ⟨_, rfl⟩
        have HQ := u1.calls y x dy dx
        rw [← hcv] at HQ
        replace HQ := Lib.hid HQ
        have d2 : (0 ≤ zk) = True := eq_true (by omega)
        have d3 : (zk < (len : Int)) = True := eq_true (by omega)
        have d4 : (0 ≤ zq) = True := eq_true (by omega)
        have d5 : (zq < (len : Int)) = True := eq_true (by omega)
        have eq1 : wrap64 (zk + 1) = zk + 1 := by unfold wrap64; omega
        have hm1 : zk + 1 ≤ r ∧ z ≤ zk := by omega
        have hR2 := i6.below (below_drew (Below.refl _ _))
        have hBt := i7.trans (But.of_below (below_drew (Below.refl _ _)))
        have HZ := Lib.hid (And.intro hki (And.intro hx (And.intro hy (And.intro hcv (And.intro hkm (And.intro hm1 (And.intro eq1 hlt)))))))
        replace J0 := Lib.hid J0
        replace J1 := Lib.hid J1
        clear i1 i2 i3 i4 i5 i6 i7 k1 k2 k3 k4 k5 k6 k7 k8 k9 k10 k11 k12 k13 k14 k15 u1 u2 u3 u4 u5 u6 u7 u8 u9 hzk hzq hki hkA hkm hkB hx hy dx dy hcv eq1 hm1 hlt
        go_upto_region 35 with (fail)
        refine start_ (n := 14) (S := fun w' => RowsAt w' g 32 (X ++ A ++ B ++ Z)) (ds := []) (bs 14 0) (by kernel_rfl) rfl (by kernel_rfl) hR2 (fun hHeld => ?_)
        refine with_tabW rg57_35_tab rg57_35_bits (fun HT_ HW_ => ?_)
        refine pu 0 (some 158) (bs 14 1) HT_ rfl rfl (by kernel_rfl) (fun _ _ _ _ h => h) ⟨_, .inl ⟨by rfl, fun _ => by go_simp; with_reducible rfl⟩, _, by simp only [Act.put, sA, sB, sC, i64_w, i32_w]; rfl, ?_⟩
        refine pu 1 (some 159) (bs 14 3) HT_ rfl rfl (by kernel_rfl) (fun _ _ _ _ h => h) ⟨_, .inl ⟨by rfl, fun _ => by go_simp; with_reducible rfl⟩, _, by simp only [Act.put, sA, sB, sC, i64_w, i32_w]; rfl, ?_⟩
        refine pu 2 (some 160) (bs 14 7) HT_ rfl rfl (by kernel_rfl) (fun _ _ _ _ h => h) ⟨_, .inl ⟨by rfl, fun _ => by go_simp; with_reducible rfl⟩, _, by simp only [Act.put, sA, sB, sC, i64_w, i32_w]; rfl, ?_⟩
        refine pu 3 (some 161) (bs 14 15) HT_ rfl rfl (by kernel_rfl) (fun _ _ _ _ h => h) ⟨_, .inl ⟨by rfl, fun _ => by go_simp; with_reducible rfl⟩, _, by simp only [Act.put, sA, sB, sC, i64_w, i32_w]; rfl, ?_⟩
        refine pu 4 (some 162) (bs 14 31) HT_ rfl rfl (by kernel_rfl) (fun _ _ _ _ h => h) ⟨_, .inl ⟨by rfl, fun _ => by go_simp; with_reducible rfl⟩, _, by simp only [Act.put, sA, sB, sC, i64_w, i32_w]; rfl, ?_⟩
        refine pu 5 (some 163) (bs 14 63) HT_ rfl rfl (by kernel_rfl) (fun _ _ _ _ h => h) ⟨_, .inl ⟨by rfl, fun _ => by go_simp; with_reducible rfl⟩, _, by simp only [Act.put, sA, sB, sC, i64_w, i32_w]; rfl, ?_⟩
        refine pu 7 (some 165) (bs 14 191) HT_ rfl rfl (by kernel_rfl) (fun _ _ _ _ h => h) ⟨_, .inl ⟨by rfl, fun _ => by go_simp; with_reducible rfl⟩, _, by simp only [Act.put, sA, sB, sC, i64_w, i32_w]; rfl, ?_⟩
        refine pu 8 (some 166) (bs 14 447) HT_ rfl rfl (by kernel_rfl) (fun _ _ _ _ h => h) ⟨_, .inl ⟨by rfl, fun _ => by go_simp; with_reducible rfl⟩, _, by simp only [Act.put, sA, sB, sC, i64_w, i32_w]; rfl, ?_⟩
        refine pu 9 (some 167) (bs 14 959) HT_ rfl rfl (by kernel_rfl) (fun _ _ _ _ h => h) ⟨_, .inl ⟨by rfl, fun _ => by go_simp; with_reducible rfl⟩, _, by simp only [Act.put, sA, sB, sC, i64_w, i32_w]; rfl, ?_⟩
        refine tk 6 (some 164) (bs 14 1023) HT_ HW_ rfl rfl (by kernel_rfl) (fun _ _ _ _ h => h) hHeld ⟨_, .inl ⟨by rfl, by rintro w' s0; refine load_mid (x := .tmp 163) (j := zq.toNat) ?_ ?_ rfl s0 J1.out Tryd.underlying39 rfl (by kernel_rfl) <;> rfl⟩, _, by simp only [Act.put, sA, sB, sC, i64_w, i32_w]; rfl, ?_⟩
        refine tk 10 (some 168) (bs 14 2047) HT_ HW_ rfl rfl (by kernel_rfl) (fun _ _ _ _ h => h) hHeld ⟨_, .inl ⟨by rfl, by rintro w' s0; refine load_mid (x := .tmp 167) (j := zk.toNat) ?_ ?_ rfl s0 J0.out Tryd.underlying39 rfl (by kernel_rfl) <;> rfl⟩, _, by simp only [Act.put, sA, sB, sC, i64_w, i32_w]; rfl, ?_⟩
        refine on1 11 (some 169) (bs 14 4095) HT_ rfl rfl (by kernel_rfl) (by decide) (fun K hK => ?_)
        refine goesv_ (f := f) (x := .tmp 158) HF.out.1 HF.out.2.1 HF.out.2.2 #[.agg y, .agg x] (by rfl) rfl rfl rfl (by (try simp only [List.map_toArray, List.map_cons, List.map_nil]); first | done | rfl) ?_
        refine (HQ.out _).mono ?_
        rintro e w1 ⟨rfl, hb1⟩
        replace hR2 := hR2.below hb1
        replace hBt := hBt.trans (But.of_below hb1)
        clear hb1
        refine ⟨_, rfl, ?_⟩
        refine hK.out _ _ hR2 (fun hHeld => ?_)
        clear hK K
        refine nm ⟨_, show Act.put _ (some 169) _ = _ by simp only [Act.put, sA, sB, sC, i64_w, i32_w]; rfl, ?_⟩
        refine pu 12 (some 170) (bs 14 8191) HT_ rfl rfl (by kernel_rfl) (fun _ _ _ _ h => h) ⟨_, .inl ⟨by rfl, fun _ => by go_simp; with_reducible rfl⟩, _, by simp only [Act.put, sA, sB, sC, i64_w, i32_w]; rfl, ?_⟩
        refine pu 13 (some 171) (bs 14 16383) HT_ rfl rfl (by kernel_rfl) (fun _ _ _ _ h => h) ⟨_, .inl ⟨by rfl, fun _ => by go_simp; with_reducible rfl⟩, _, by simp only [Act.put, sA, sB, sC, i64_w, i32_w]; rfl, ?_⟩
        refine done_ (done_of HT_.out (by kernel_rfl)) ?_
        generalize hnb : (!decide (cv < 0)) = nb
        cases nb
        · have hneg : cv < 0 := by
            by_cases h9 : cv < 0
            · exact h9
            · rw [decide_eq_false h9] at hnb; cases hnb
          clear hnb
          go_wp2
          go_roundw
          case rel =>
            obtain ⟨i1, i2, i3, i4, i5, i6, i7⟩ := hI.out
            obtain ⟨j1, j2, j3, j4, j5, j6, j7, j8⟩ := HZ.out
            obtain ⟨u1, u2, u3, u4, u5, u6, u7, u8, u9⟩ := HH.out
            refine ⟨z, zk, rfl, by first | rfl | rw [eh], Lib.hid ⟨i1, by omega, by omega, i4, fun i x' y' h1 h2 h3 h4 => ?_, hR2, hBt⟩⟩
            by_cases h5 : r ≤ a + i
            · exact i5 i x' y' h5 h2 h3 h4
            · have k10 := HE.out.2.2.2.2.2.2.2.2
              have hik := HE.out.2.2.2.2.2
              exact Srt.test_up hc A B u6 u7 mu ki i (by omega) (by omega) j2 j3 h3 h4 (by rw [← j4]; exact hneg)
          case measure => have := HZ.out.2.2.2.2.2; simp [intOf]; omega
        · have hneg : ¬ cv < 0 := fun h9 => by rw [decide_eq_true h9] at hnb; cases hnb
          clear hnb
          go_wp2
          go_roundw
          case rel =>
            obtain ⟨i1, i2, i3, i4, i5, i6, i7⟩ := hI.out
            obtain ⟨j1, j2, j3, j4, j5, j6, j7, j8⟩ := HZ.out
            obtain ⟨u1, u2, u3, u4, u5, u6, u7, u8, u9⟩ := HH.out
            refine ⟨zk + 1, r, by first | rfl | rw [j7], rfl, Lib.hid ⟨by omega, by omega, i3, fun i x' y' h1 h2 h3 h4 => ?_, i5, hR2, hBt⟩⟩
            by_cases h5 : c y' x' < 0
            · have := Srt.test_up hc A B u6 u7 mu i ki (by omega) j5 h3 h4 j2 j3 h5
              rw [← j4] at this
              omega
            · omega
          case measure => have := HZ.out.2.2.2.2.2; simp [intOf]; omega
      · have hzr : z = r := by have := hI.out.2.1; omega
        have d1 : decide (z < r) = false := decide_eq_false hlt
        clear hlt
        obtain ⟨i1, i2, i3, i4, i5, i6, i7⟩ := hI.out
        obtain ⟨k1, k2, k3, k4, k5, k6, k7, k8, k9, k10, k11, k12, k13, k14, k15⟩ := HE.out
        obtain ⟨u1, u2, u3, u4, u5, u6, u7, u8, u9⟩ := HH.out
        obtain ⟨ze, hze⟩ : ∃ ze : Int, ze = zn - z := ⟨_, rfl⟩
        have eze : wrap64 (zn - z) = ze := by unfold wrap64; omega
        obtain ⟨s, hs⟩ : ∃ s : Nat, z = a + s := ⟨(z - a).toNat, by omega⟩
        obtain ⟨t, ht⟩ : ∃ t : Nat, mu = s + t := ⟨mu - s, by omega⟩
        have hsA : s ≤ A.length := by omega
        have htB : t ≤ B.length := by omega
        have hcut := Srt.merge_cut hc A B u6 u7 s t hsA htB (fun x y h1 h2 h3 => by
            have h4 := (List.getElem?_eq_some_iff.1 h3).1
            have := i4 (s - 1) x y (by omega) (by omega) h2 (by rw [show mu - 1 - (s - 1) = t by omega]; exact h3)
            omega) (fun x y h1 h2 h3 => by
            have h4 := (List.getElem?_eq_some_iff.1 h2).1
            exact i5 s x y (by omega) (by omega) h2 (by rw [show mu - 1 - s = t - 1 by omega]; exact h3))
        have b1 : decide (z < m) = decide (s < A.length) := by by_cases h : s < A.length <;> simp [h] <;> omega
        have b2 : decide (m < ze) = decide (0 < t) := by by_cases h : 0 < t <;> simp [h] <;> omega
        have b3 : decide (a < z) = decide (0 < s) := by by_cases h : 0 < s <;> simp [h] <;> omega
        have b4 : decide (z < zm) = decide (0 < t) := by by_cases h : 0 < t <;> simp [h] <;> omega
        have b5 : decide (zm < ze) = decide (s < A.length) := by by_cases h : s < A.length <;> simp [h] <;> omega
        have b6 : decide (ze < b) = decide (t < B.length) := by by_cases h : t < B.length <;> simp [h] <;> omega
        obtain ⟨R1, R2, R3, hR3, ⟨p1, p2⟩, ⟨p3, p4⟩, ⟨p5, p6⟩⟩ := sym_parts f D c g cap N u2 X A B Z u3 u4 u5 u6 u7 u8 u9 s t hsA htB (by omega) len (by rw [List.length_append, List.length_append, List.length_append]; omega) hcap hn a m b z ze zm (by omega) (by omega) (by omega) hs (by omega) (by omega)
        rw [← hcut] at hR3
        have HP := Lib.hid (And.intro p1 (And.intro p2 (And.intro p3 (And.intro p4 (And.intro p5 p6)))))
        have hR2 := Lib.hid (And.intro i6 i7)
        clear p1 p2 p3 p4 p5 p6 i1 i2 i3 i4 i5 i6 i7 k1 k2 k3 k4 k5 k6 k7 k8 k9 k10 k11 k12 k13 k14 k15 u1 u2 u3 u4 u5 u6 u7 u8 u9 hze hs ht hsA htB hcut hzr
        generalize hp : decide (s < A.length) = p at b1 b5
        generalize hq : decide (0 < t) = q at b2 b4
        generalize hu : decide (0 < s) = u at b3
        generalize hv : decide (t < B.length) = v at b6
        cases p <;> cases q <;> cases u <;> cases v
        case true.true.true.true =>
          go_wp2_with (first
            | (go_at_call 70; (with_reducible refine (HP.out.1 (of_decide_eq_true hp) (of_decide_eq_true hq) _ hR2.out.1).mono ?_); rintro e w7 ⟨⟨v7, rfl⟩, hR7, hB7⟩)
            | (go_at_call 57; (with_reducible refine (HP.out.2.2.1 (of_decide_eq_true hu) (of_decide_eq_true hq) _ hR7).mono ?_); rintro e w8 ⟨⟨v8, rfl⟩, hR8, hB8⟩)
            | (go_at_call 57; (with_reducible refine (HP.out.2.2.2.2.1 (of_decide_eq_true hp) (of_decide_eq_true hv) _ hR8).mono ?_); rintro e w9 ⟨⟨v9, rfl⟩, hR9, hB9⟩))
          exact ⟨rfl, .tuple #[], by simp [results, Tryd.results57], ⟨_, rfl⟩, by rw [← hR3]; exact hR9, (((hR2.out.2.trans hB7).trans hB8).trans hB9)⟩
        case true.true.true.false =>
          have q3 := Lib.hid (HP.out.2.2.2.2.2 (fun h => of_decide_eq_false hv h.2))
          go_wp2_with (first
            | (go_at_call 70; (with_reducible refine (HP.out.1 (of_decide_eq_true hp) (of_decide_eq_true hq) _ hR2.out.1).mono ?_); rintro e w7 ⟨⟨v7, rfl⟩, hR7, hB7⟩)
            | (go_at_call 57; (with_reducible refine (HP.out.2.2.1 (of_decide_eq_true hu) (of_decide_eq_true hq) _ hR7).mono ?_); rintro e w8 ⟨⟨v8, rfl⟩, hR8, hB8⟩))
          exact ⟨rfl, .tuple #[], by simp [results, Tryd.results57], ⟨_, rfl⟩, by rw [← hR3]; exact (q3.out ▸ hR8), ((hR2.out.2.trans hB7).trans hB8)⟩
        case true.true.false.true =>
          have q2 := Lib.hid (HP.out.2.2.2.1 (fun h => of_decide_eq_false hu h.1))
          go_wp2_with (first
            | (go_at_call 70; (with_reducible refine (HP.out.1 (of_decide_eq_true hp) (of_decide_eq_true hq) _ hR2.out.1).mono ?_); rintro e w7 ⟨⟨v7, rfl⟩, hR7, hB7⟩)
            | (go_at_call 57; (with_reducible refine (HP.out.2.2.2.2.1 (of_decide_eq_true hp) (of_decide_eq_true hv) _ (q2.out ▸ hR7)).mono ?_); rintro e w9 ⟨⟨v9, rfl⟩, hR9, hB9⟩))
          exact ⟨rfl, .tuple #[], by simp [results, Tryd.results57], ⟨_, rfl⟩, by rw [← hR3]; exact hR9, ((hR2.out.2.trans hB7).trans hB9)⟩
        case true.true.false.false =>
          have q2 := Lib.hid (HP.out.2.2.2.1 (fun h => of_decide_eq_false hu h.1))
          have q3 := Lib.hid (HP.out.2.2.2.2.2 (fun h => of_decide_eq_false hv h.2))
          go_wp2_with (first
            | (go_at_call 70; (with_reducible refine (HP.out.1 (of_decide_eq_true hp) (of_decide_eq_true hq) _ hR2.out.1).mono ?_); rintro e w7 ⟨⟨v7, rfl⟩, hR7, hB7⟩))
          exact ⟨rfl, .tuple #[], by simp [results, Tryd.results57], ⟨_, rfl⟩, by rw [← hR3]; exact (q3.out ▸ (q2.out ▸ hR7)), (hR2.out.2.trans hB7)⟩
        case true.false.true.true =>
          have q1 := Lib.hid (HP.out.2.1 (fun h => of_decide_eq_false hq h.2))
          have q2 := Lib.hid (HP.out.2.2.2.1 (fun h => of_decide_eq_false hq h.2))
          go_wp2_with (first
            | (go_at_call 57; (with_reducible refine (HP.out.2.2.2.2.1 (of_decide_eq_true hp) (of_decide_eq_true hv) _ (q2.out ▸ (q1.out ▸ hR2.out.1))).mono ?_); rintro e w9 ⟨⟨v9, rfl⟩, hR9, hB9⟩))
          exact ⟨rfl, .tuple #[], by simp [results, Tryd.results57], ⟨_, rfl⟩, by rw [← hR3]; exact hR9, (hR2.out.2.trans hB9)⟩
        case true.false.true.false =>
          have q1 := Lib.hid (HP.out.2.1 (fun h => of_decide_eq_false hq h.2))
          have q2 := Lib.hid (HP.out.2.2.2.1 (fun h => of_decide_eq_false hq h.2))
          have q3 := Lib.hid (HP.out.2.2.2.2.2 (fun h => of_decide_eq_false hv h.2))
          go_wp2
          exact ⟨rfl, .tuple #[], by simp [results, Tryd.results57], ⟨_, rfl⟩, by rw [← hR3]; exact (q3.out ▸ (q2.out ▸ (q1.out ▸ hR2.out.1))), hR2.out.2⟩
        case true.false.false.true =>
          have q1 := Lib.hid (HP.out.2.1 (fun h => of_decide_eq_false hq h.2))
          have q2 := Lib.hid (HP.out.2.2.2.1 (fun h => of_decide_eq_false hu h.1))
          go_wp2_with (first
            | (go_at_call 57; (with_reducible refine (HP.out.2.2.2.2.1 (of_decide_eq_true hp) (of_decide_eq_true hv) _ (q2.out ▸ (q1.out ▸ hR2.out.1))).mono ?_); rintro e w9 ⟨⟨v9, rfl⟩, hR9, hB9⟩))
          exact ⟨rfl, .tuple #[], by simp [results, Tryd.results57], ⟨_, rfl⟩, by rw [← hR3]; exact hR9, (hR2.out.2.trans hB9)⟩
        case true.false.false.false =>
          have q1 := Lib.hid (HP.out.2.1 (fun h => of_decide_eq_false hq h.2))
          have q2 := Lib.hid (HP.out.2.2.2.1 (fun h => of_decide_eq_false hu h.1))
          have q3 := Lib.hid (HP.out.2.2.2.2.2 (fun h => of_decide_eq_false hv h.2))
          go_wp2
          exact ⟨rfl, .tuple #[], by simp [results, Tryd.results57], ⟨_, rfl⟩, by rw [← hR3]; exact (q3.out ▸ (q2.out ▸ (q1.out ▸ hR2.out.1))), hR2.out.2⟩
        case false.true.true.true =>
          have q1 := Lib.hid (HP.out.2.1 (fun h => of_decide_eq_false hp h.1))
          have q3 := Lib.hid (HP.out.2.2.2.2.2 (fun h => of_decide_eq_false hp h.1))
          go_wp2_with (first
            | (go_at_call 57; (with_reducible refine (HP.out.2.2.1 (of_decide_eq_true hu) (of_decide_eq_true hq) _ (q1.out ▸ hR2.out.1)).mono ?_); rintro e w8 ⟨⟨v8, rfl⟩, hR8, hB8⟩))
          exact ⟨rfl, .tuple #[], by simp [results, Tryd.results57], ⟨_, rfl⟩, by rw [← hR3]; exact (q3.out ▸ hR8), (hR2.out.2.trans hB8)⟩
        case false.true.true.false =>
          have q1 := Lib.hid (HP.out.2.1 (fun h => of_decide_eq_false hp h.1))
          have q3 := Lib.hid (HP.out.2.2.2.2.2 (fun h => of_decide_eq_false hp h.1))
          go_wp2_with (first
            | (go_at_call 57; (with_reducible refine (HP.out.2.2.1 (of_decide_eq_true hu) (of_decide_eq_true hq) _ (q1.out ▸ hR2.out.1)).mono ?_); rintro e w8 ⟨⟨v8, rfl⟩, hR8, hB8⟩))
          exact ⟨rfl, .tuple #[], by simp [results, Tryd.results57], ⟨_, rfl⟩, by rw [← hR3]; exact (q3.out ▸ hR8), (hR2.out.2.trans hB8)⟩
        case false.true.false.true =>
          have q1 := Lib.hid (HP.out.2.1 (fun h => of_decide_eq_false hp h.1))
          have q2 := Lib.hid (HP.out.2.2.2.1 (fun h => of_decide_eq_false hu h.1))
          have q3 := Lib.hid (HP.out.2.2.2.2.2 (fun h => of_decide_eq_false hp h.1))
          go_wp2
          exact ⟨rfl, .tuple #[], by simp [results, Tryd.results57], ⟨_, rfl⟩, by rw [← hR3]; exact (q3.out ▸ (q2.out ▸ (q1.out ▸ hR2.out.1))), hR2.out.2⟩
        case false.true.false.false =>
          have q1 := Lib.hid (HP.out.2.1 (fun h => of_decide_eq_false hp h.1))
          have q2 := Lib.hid (HP.out.2.2.2.1 (fun h => of_decide_eq_false hu h.1))
          have q3 := Lib.hid (HP.out.2.2.2.2.2 (fun h => of_decide_eq_false hp h.1))
          go_wp2
          exact ⟨rfl, .tuple #[], by simp [results, Tryd.results57], ⟨_, rfl⟩, by rw [← hR3]; exact (q3.out ▸ (q2.out ▸ (q1.out ▸ hR2.out.1))), hR2.out.2⟩
        case false.false.true.true =>
          have q1 := Lib.hid (HP.out.2.1 (fun h => of_decide_eq_false hp h.1))
          have q2 := Lib.hid (HP.out.2.2.2.1 (fun h => of_decide_eq_false hq h.2))
          have q3 := Lib.hid (HP.out.2.2.2.2.2 (fun h => of_decide_eq_false hp h.1))
          go_wp2
          exact ⟨rfl, .tuple #[], by simp [results, Tryd.results57], ⟨_, rfl⟩, by rw [← hR3]; exact (q3.out ▸ (q2.out ▸ (q1.out ▸ hR2.out.1))), hR2.out.2⟩
        case false.false.true.false =>
          have q1 := Lib.hid (HP.out.2.1 (fun h => of_decide_eq_false hp h.1))
          have q2 := Lib.hid (HP.out.2.2.2.1 (fun h => of_decide_eq_false hq h.2))
          have q3 := Lib.hid (HP.out.2.2.2.2.2 (fun h => of_decide_eq_false hp h.1))
          go_wp2
          exact ⟨rfl, .tuple #[], by simp [results, Tryd.results57], ⟨_, rfl⟩, by rw [← hR3]; exact (q3.out ▸ (q2.out ▸ (q1.out ▸ hR2.out.1))), hR2.out.2⟩
        case false.false.false.true =>
          have q1 := Lib.hid (HP.out.2.1 (fun h => of_decide_eq_false hp h.1))
          have q2 := Lib.hid (HP.out.2.2.2.1 (fun h => of_decide_eq_false hu h.1))
          have q3 := Lib.hid (HP.out.2.2.2.2.2 (fun h => of_decide_eq_false hp h.1))
          go_wp2
          exact ⟨rfl, .tuple #[], by simp [results, Tryd.results57], ⟨_, rfl⟩, by rw [← hR3]; exact (q3.out ▸ (q2.out ▸ (q1.out ▸ hR2.out.1))), hR2.out.2⟩
        case false.false.false.false =>
          have q1 := Lib.hid (HP.out.2.1 (fun h => of_decide_eq_false hp h.1))
          have q2 := Lib.hid (HP.out.2.2.2.1 (fun h => of_decide_eq_false hu h.1))
          have q3 := Lib.hid (HP.out.2.2.2.2.2 (fun h => of_decide_eq_false hp h.1))
          go_wp2
          exact ⟨rfl, .tuple #[], by simp [results, Tryd.results57], ⟨_, rfl⟩, by rw [← hR3]; exact (q3.out ▸ (q2.out ▸ (q1.out ▸ hR2.out.1))), hR2.out.2⟩
theorem sym_calls (f : FuncId) (D : Array Value → Prop) (c : Array Value → Array Value → Int) (hcmp : CmpAt f D c) (hc : Wc.IsCmp c) (g cap N : Nat) : SymOk f D c g cap N := by
  induction N with
  | zero => intro X A B Z h1 h2; omega
  | succ N ih =>
    intro X A B Z h1 h2 h3 hA hB hDA hDB len hlen hcap hn a m b ha hm hb w hR
    rcases Nat.lt_or_ge A.length 2 with hl | hl
    · obtain ⟨x, rfl⟩ : ∃ x, A = [x] := List.length_eq_one_iff.1 (by omega)
      exact sym_one f D c hcmp hc X B Z x h3 hB (hDA x (by simp)) hDB g cap len hlen hcap hn a m b ha (by simpa using hm) (by simpa using hb) w hR
    · rcases Nat.lt_or_ge B.length 2 with hk | hk
      · obtain ⟨y, rfl⟩ : ∃ y, B = [y] := List.length_eq_one_iff.1 (by omega)
        exact sym_last f D c hcmp hc X A Z y hl hA (hDB y (by simp)) hDA g cap len hlen hcap hn a m b ha hm (by simpa using hb) w hR
      · exact sym_main f D c hcmp hc g cap N ih X A B Z h1 hl hk hA hB hDA hDB len hlen hcap hn a m b ha hm hb w hR
end Go.Proofs.YtiaggfjfgoiafaaDoor

/- Stable sorting by blocks, plainly: what each block holds on the way. -/
namespace Go.Proofs.YtiaggfjfgoiafaaDoor.Srt
open Go.Proofs.YtiaggfjfgoiafaaDoor.Wc
variable {α : Type} {c : α → α → Int}
def seg (L : List α) (a n : Nat) : List α := (L.drop a).take n
theorem seg_length (L : List α) (a n : Nat) : (seg L a n).length = min n (L.length - a) := by simp [seg]
theorem seg_cut (L : List α) (a n m : Nat) : seg L a (n + m) = seg L a n ++ seg L (a + n) m := by
  unfold seg
  rw [List.take_add, List.drop_drop]
theorem seg_split (L : List α) (a n : Nat) : L.take a ++ seg L a n ++ L.drop (a + n) = L := by
  unfold seg
  rw [List.append_assoc, ← List.drop_drop, List.take_append_drop, List.take_append_drop]
theorem seg_nil (L : List α) (a n : Nat) (h : L.length ≤ a) : seg L a n = [] := by
  unfold seg
  rw [List.drop_eq_nil_of_le h, List.take_nil]
theorem seg_all (L : List α) (a n : Nat) (h : L.length ≤ a + n) : seg L a n = L.drop a := by
  unfold seg
  rw [List.take_of_length_le (by rw [List.length_drop]; omega)]
section
variable (R Y : List α) (a w : Nat) (h : a + w ≤ R.length) (hY : Y.length = w)
include h hY
theorem rep_len : (R.take a ++ Y ++ R.drop (a + w)).length = R.length := by simp; omega
theorem rep_left (b n : Nat) (hb : b + n ≤ a) : seg (R.take a ++ Y ++ R.drop (a + w)) b n = seg R b n := by
  unfold seg
  rw [List.append_assoc, List.drop_append_of_le_length (by rw [List.length_take]; omega), List.take_append_of_le_length (by rw [List.length_drop, List.length_take]; omega), List.drop_take, List.take_take, show min n (a - b) = n by omega]
theorem rep_drop : (R.take a ++ Y ++ R.drop (a + w)).drop (a + w) = R.drop (a + w) := by
  rw [List.drop_append, List.drop_of_length_le (by rw [List.length_append, List.length_take]; omega), List.nil_append, List.length_append, List.length_take, show a + w - (min a R.length + Y.length) = 0 by omega, List.drop_zero]
theorem rep_right (b n : Nat) (hb : a + w ≤ b) : seg (R.take a ++ Y ++ R.drop (a + w)) b n = seg R b n := by
  unfold seg
  rw [show b = (a + w) + (b - (a + w)) by omega, ← List.drop_drop, rep_drop R Y a w h hY, List.drop_drop]
theorem rep_mid : seg (R.take a ++ Y ++ R.drop (a + w)) a w = Y := by
  unfold seg
  have e : (R.take a).length = a := by rw [List.length_take]; omega
  rw [List.append_assoc, List.drop_append_of_le_length (by omega), List.drop_of_length_le (by omega), List.nil_append, List.take_append_of_le_length (by omega), List.take_of_length_le (by omega)]
end
theorem mul_lt_ {k j m : Nat} (h : k < j) : k * m + m ≤ j * m := by
  have := Nat.mul_le_mul_right m (show k + 1 ≤ j by omega)
  rw [Nat.add_mul, Nat.one_mul] at this
  exact this
structure Begun (c : α → α → Int) (n a : Nat) (L R : List α) : Prop where
  len : R.length = L.length
  fst : ∀ k, k * n + n ≤ a → seg R (k * n) n = isort c (seg L (k * n) n)
  snd : R.drop a = L.drop a
structure Blocks (c : α → α → Int) (n : Nat) (L R : List α) : Prop where
  len : R.length = L.length
  all : ∀ k, seg R (k * n) n = isort c (seg L (k * n) n)
structure Part (c : α → α → Int) (m n a : Nat) (L R : List α) : Prop where
  len : R.length = L.length
  fst : ∀ k, k * m + m ≤ a → seg R (k * m) m = isort c (seg L (k * m) m)
  snd : ∀ k, a ≤ k * n → seg R (k * n) n = isort c (seg L (k * n) n)
theorem Begun.start (n : Nat) (hn : 0 < n) (L : List α) : Begun c n 0 L L := ⟨rfl, fun k hk => by omega, rfl⟩
theorem Begun.next {n a : Nat} {L R : List α} (h : Begun c n a L R) (j : Nat) (ha : a = j * n) (hb : a + n ≤ L.length) (hn : 0 < n) :
    Begun c n (a + n) L (R.take a ++ isort c ((R.drop a).take (a + n - a)) ++ R.drop (a + n)) := by
  have hl := h.len
  rw [show a + n - a = n by omega]
  have li : (isort c ((R.drop a).take n)).length = n := by rw [isort_length, List.length_take, List.length_drop]; omega
  refine ⟨by rw [rep_len R _ a n (by omega) li, hl], fun k hk => ?_, ?_⟩
  · rcases Nat.lt_trichotomy k j with g | g | g
    · have := mul_lt_ (m := n) g
      rw [rep_left R _ a n (by omega) li _ _ (by omega), h.fst k (by omega)]
    · subst g
      rw [← ha, rep_mid R _ a n (by omega) li, h.snd]
      rfl
    · have := mul_lt_ (m := n) g
      omega
  · rw [rep_drop R _ a n (by omega) li, ← List.drop_drop, ← List.drop_drop, h.snd]
theorem Begun.last {n a : Nat} {L R : List α} (h : Begun c n a L R) (j : Nat) (ha : a = j * n) (hb : L.length < a + n) (hal : a ≤ L.length) (hn : 0 < n) :
    Blocks c n L (R.take a ++ isort c ((R.drop a).take (L.length - a)) ++ R.drop L.length) := by
  have hl := h.len
  obtain ⟨w, hw⟩ : ∃ w, w = L.length - a := ⟨_, rfl⟩
  rw [← hw, show L.length = a + w by omega]
  have li : (isort c ((R.drop a).take w)).length = w := by rw [isort_length, List.length_take, List.length_drop]; omega
  have hlen := rep_len R _ a w (by omega) li
  refine ⟨by rw [hlen, hl], fun k => ?_⟩
  rcases Nat.lt_trichotomy k j with g | g | g
  · have := mul_lt_ (m := n) g
    rw [rep_left R _ a w (by omega) li _ _ (by omega), h.fst k (by omega)]
  · subst g
    rw [← ha, seg_all _ a n (by omega), ← seg_all _ a w (by omega), rep_mid R _ a w (by omega) li, h.snd, seg_all L a n (by omega), List.take_of_length_le (by rw [List.length_drop]; omega)]
  · have := mul_lt_ (m := n) g
    rw [seg_nil _ _ _ (by omega), seg_nil _ _ _ (by omega)]
    rfl
theorem Blocks.part {n : Nat} {L R : List α} (h : Blocks c n L R) (hn : 0 < n) : Part c (2 * n) n 0 L R := ⟨h.len, fun k hk => by omega, fun k _ => h.all k⟩
theorem Blocks.end_ {n : Nat} {L R : List α} (h : Blocks c n L R) (hn : L.length ≤ n) : R = isort c L := by
  have := h.all 0
  have hl := h.len
  rw [Nat.zero_mul, seg_all _ _ _ (by omega), seg_all _ _ _ (by omega)] at this
  exact this
theorem Part.two {n a : Nat} {L R : List α} (h : Part c (2 * n) n a L R) (hc : IsCmp c) (j : Nat) (ha : a = j * (2 * n)) : merge c (seg R a n) (seg R (a + n) n) = isort c (seg L a (2 * n)) := by
  have e1 : a = (2 * j) * n := by rw [ha, Nat.mul_left_comm, ← Nat.mul_assoc]
  have e2 : a + n = (2 * j + 1) * n := by rw [Nat.add_mul, Nat.one_mul, ← e1]
  have h1 := h.snd (2 * j) (by omega)
  have h2 := h.snd (2 * j + 1) (by omega)
  rw [← e1] at h1
  rw [← e2] at h2
  rw [h1, h2, ← isort_app hc, show 2 * n = n + n by omega, seg_cut]
theorem Part.next {n a : Nat} {L R : List α} (h : Part c (2 * n) n a L R) (hc : IsCmp c) (j : Nat) (ha : a = j * (2 * n)) (hb : a + 2 * n ≤ L.length) (hn : 0 < n) :
    Part c (2 * n) n (a + 2 * n) L (R.take a ++ merge c (seg R a n) (seg R (a + n) n) ++ R.drop (a + 2 * n)) := by
  have hl := h.len
  have li : (merge c (seg R a n) (seg R (a + n) n)).length = 2 * n := by rw [merge_length _ _ _ (Nat.le_refl _), seg_length, seg_length]; omega
  refine ⟨by rw [rep_len R _ a (2 * n) (by omega) li, hl], fun k hk => ?_, fun k hk => ?_⟩
  · rcases Nat.lt_trichotomy k j with g | g | g
    · have := mul_lt_ (m := 2 * n) g
      rw [rep_left R _ a (2 * n) (by omega) li _ _ (by omega), h.fst k (by omega)]
    · subst g
      rw [← ha, rep_mid R _ a (2 * n) (by omega) li, h.two hc k ha]
    · have := mul_lt_ (m := 2 * n) g
      omega
  · rw [rep_right R _ a (2 * n) (by omega) li _ _ (by omega), h.snd k (by omega)]
theorem Part.most {n a : Nat} {L R : List α} (h : Part c (2 * n) n a L R) (hc : IsCmp c) (j : Nat) (ha : a = j * (2 * n)) (hb : L.length < a + 2 * n) (hm : a + n < L.length) (hn : 0 < n) :
    Blocks c (2 * n) L (R.take a ++ merge c (seg R a n) (R.drop (a + n)) ++ []) := by
  have hl := h.len
  obtain ⟨w, hw⟩ : ∃ w, w = L.length - a := ⟨_, rfl⟩
  have e0 : ([] : List α) = R.drop (a + w) := by rw [List.drop_eq_nil_of_le (by omega)]
  rw [e0]
  have li : (merge c (seg R a n) (R.drop (a + n))).length = w := by rw [merge_length _ _ _ (Nat.le_refl _), seg_length, List.length_drop]; omega
  have hlen := rep_len R _ a w (by omega) li
  refine ⟨by rw [hlen, hl], fun k => ?_⟩
  rcases Nat.lt_trichotomy k j with g | g | g
  · have := mul_lt_ (m := 2 * n) g
    rw [rep_left R _ a w (by omega) li _ _ (by omega), h.fst k (by omega)]
  · subst g
    rw [← ha, seg_all _ a (2 * n) (by omega), ← seg_all _ a w (by omega), rep_mid R _ a w (by omega) li, ← seg_all R (a + n) n (by omega), h.two hc k ha]
  · have := mul_lt_ (m := 2 * n) g
    rw [seg_nil _ _ _ (by omega), seg_nil _ _ _ (by omega)]
    rfl
theorem Part.none_ {n a : Nat} {L R : List α} (h : Part c (2 * n) n a L R) (hc : IsCmp c) (j : Nat) (ha : a = j * (2 * n)) (hb : L.length ≤ a + n) (hn : 0 < n) : Blocks c (2 * n) L R := by
  have hl := h.len
  refine ⟨hl, fun k => ?_⟩
  rcases Nat.lt_trichotomy k j with g | g | g
  · have := mul_lt_ (m := 2 * n) g
    rw [h.fst k (by omega)]
  · subst g
    have e1 : a = (2 * k) * n := by rw [ha, Nat.mul_left_comm, ← Nat.mul_assoc]
    have h1 := h.snd (2 * k) (by omega)
    rw [← e1] at h1
    rw [← ha, seg_all _ a (2 * n) (by omega), seg_all _ a (2 * n) (by omega), ← seg_all R a n (by omega), h1, seg_all L a n (by omega)]
  · have := mul_lt_ (m := 2 * n) g
    rw [seg_nil _ _ _ (by omega), seg_nil _ _ _ (by omega)]
    rfl
theorem Blocks.sorted {n : Nat} {L R : List α} (h : Blocks c n L R) (hc : IsCmp c) (k : Nat) : Sorted c (seg R (k * n) n) := by rw [h.all]; exact isort_sorted hc _
end Go.Proofs.YtiaggfjfgoiafaaDoor.Srt

/- Stable sorting, plainly: sorting pictures; what is equal among itself keeps its order; the document's way (put in from behind). -/
namespace Go.Proofs.YtiaggfjfgoiafaaDoor.Srt
open Go.Proofs.YtiaggfjfgoiafaaDoor.Wc
variable {α β : Type}
theorem ins_map (c : α → α → Int) (f : β → α) (x : β) (l : List β) : (ins (fun a b => c (f a) (f b)) x l).map f = ins c (f x) (l.map f) := by
  induction l with
  | nil => rfl
  | cons y l ih =>
    simp only [ins, List.map_cons]
    split
    · rfl
    · rw [List.map_cons, ih]
theorem isort_map (c : α → α → Int) (f : β → α) (l : List β) : (isort (fun a b => c (f a) (f b)) l).map f = isort c (l.map f) := by
  have key : ∀ (l acc : List β), (l.foldl (fun acc x => ins (fun a b => c (f a) (f b)) x acc) acc).map f = (l.map f).foldl (fun acc x => ins c x acc) (acc.map f) := by
    intro l
    induction l with
    | nil => intro acc; rfl
    | cons x l ih => intro acc; rw [List.foldl_cons, ih, ins_map, List.map_cons, List.foldl_cons]
  exact key l []
theorem ins_congr {c c' : α → α → Int} (x : α) (l : List α) (h : ∀ y ∈ l, (c x y < 0 ↔ c' x y < 0)) : ins c x l = ins c' x l := by
  induction l with
  | nil => rfl
  | cons y l ih =>
    simp only [ins]
    have h1 := h y List.mem_cons_self
    by_cases g : c x y < 0
    · rw [if_pos g, if_pos (h1.1 g)]
    · rw [if_neg g, if_neg (fun k => g (h1.2 k)), ih (fun z hz => h z (List.mem_cons_of_mem _ hz))]
theorem isort_congr {c c' : α → α → Int} (l : List α) (h : ∀ x ∈ l, ∀ y ∈ l, (c x y < 0 ↔ c' x y < 0)) : isort c l = isort c' l := by
  have key : ∀ (l acc : List α), (∀ x ∈ l, ∀ y, y ∈ l ∨ y ∈ acc → (c x y < 0 ↔ c' x y < 0)) → l.foldl (fun acc x => ins c x acc) acc = l.foldl (fun acc x => ins c' x acc) acc := by
    intro l
    induction l with
    | nil => intro acc _; rfl
    | cons x l ih =>
      intro acc hh
      have e : ins c x acc = ins c' x acc := ins_congr x acc (fun y hy => hh x List.mem_cons_self y (.inr hy))
      rw [List.foldl_cons, List.foldl_cons, e]
      refine ih _ (fun z hz y hy => hh z (List.mem_cons_of_mem _ hz) y ?_)
      rcases hy with hy | hy
      · exact .inl (List.mem_cons_of_mem _ hy)
      · rcases (mem_ins x y acc).1 hy with rfl | hy
        · exact .inl List.mem_cons_self
        · exact .inr hy
  exact key l [] (fun x hx y hy => h x hx y (hy.resolve_right List.not_mem_nil))
theorem mem_merge (c : α → α → Int) (x : α) : ∀ (n : Nat) (A B : List α), A.length + B.length ≤ n → (x ∈ merge c A B ↔ x ∈ A ∨ x ∈ B) := by
  intro n
  induction n with
  | zero =>
    intro A B hn
    obtain rfl : A = [] := List.length_eq_zero_iff.1 (by omega)
    rw [merge_nil_left]
    simp
  | succ n ih =>
    intro A B hn
    cases A with
    | nil => rw [merge_nil_left]; simp
    | cons a A =>
      cases B with
      | nil => rw [merge_nil_right]; simp
      | cons b B =>
        rw [merge_cons]
        split
        · rw [List.mem_cons, ih _ _ (by simp at hn ⊢; omega)]
          simp only [List.mem_cons]
          exact ⟨fun g => by rcases g with g | (g | g) | g <;> simp [g], fun g => by rcases g with (g | g) | (g | g) <;> simp [g]⟩
        · rw [List.mem_cons, ih _ _ (by simp at hn ⊢; omega)]
          simp only [List.mem_cons]
          exact ⟨fun g => by rcases g with g | g | (g | g) <;> simp [g], fun g => by rcases g with (g | g) | (g | g) <;> simp [g]⟩
def back (lt : α → α → Bool) (x : α) (acc : List α) (n : Nat) : Nat :=
  match n with
  | 0 => 0
  | n + 1 => match acc[n]? with
    | some y => if lt x y then back lt x acc n else n + 1
    | none => 0
end Go.Proofs.YtiaggfjfgoiafaaDoor.Srt
