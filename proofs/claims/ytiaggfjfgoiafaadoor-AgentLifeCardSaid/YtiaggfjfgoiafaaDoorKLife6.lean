/- Lemmas on which the law stands, part 6: OpenF, Laid. -/
import Derived.Test.YtiaggfjfgoiafaaDoorKLife5
import Derived.Test.YtiaggfjfgoiafaaDoorCards
import Derived.WalkKit
import Derived.ProofKit
set_option linter.unusedVariables false
set_option linter.unusedSimpArgs false
/- Fleets that are arguments, opened. -/
namespace Go.Proofs.YtiaggfjfgoiafaaDoor
set_option maxRecDepth 100000
open Go.ChangeShapes Go.WideShapes Go.RowKit Go.Proofs.YtiaggfjfgoiafaaDoorW.PrintWords
section
variable {H : Type} {enc : TypeId × Value → H} {W : World} {base : Nat} {spare : Nat → Bool} {held : Bool}
set_option maxRecDepth 100000 in
theorem open_fleet {fuel : Nat} {cs : List Value} {x : DataW H × List MemPlace} (hw : ∀ n ∈ x.1.weights Tryd.prog 24, n ≤ reachBytes) (h : DataW.trod enc Tryd.prog W base spare held fuel 24 cs = some x) :
    ∃ f : F4, cs = f.v.toList ∧ F4.At kO W f ∧ F4.Ok f := by
  have hu := Tryd.underlying24
  obtain ⟨xs, m, _, hx, hlen, hl, hfd⟩ := DataW.trod_struct hu h
  rw [show Tryd.prog.cellsOf 24 = 4 by kernel_rfl] at hlen
  have hwd : ∀ (j : Nat) (t : TypeId) (y : DataW H × List MemPlace), xs[j]? = some y → (Program.underlying Tryd.prog 24).elim none (fun d => match d with | .struct fs => (fs.toList.map (·.type))[j]? | _ => none) = some t → ∀ n ∈ y.1.weights Tryd.prog t, n ≤ reachBytes := fun j t y hy ht n hn => hw n (by
    rw [hx]
    unfold DataW.weights
    rw [hu] at ht ⊢
    exact DataW.weights_mem_each (j := j) (t := t) (d := y.1) ht (by simp [hy]) n hn)
  rw [hu] at hwd
  have c5 : Tryd.prog.cellsOf 22 = 1 := by kernel_rfl
  have ex : ∀ j, j < 4 → ∃ y, xs[j]? = some y := fun j hj => ⟨_, List.getElem?_eq_getElem (by rw [hl]; exact hj)⟩
  have one : ∀ j, j < 4 → ∃ A c l, (cs.drop j).take 1 = [.slice A l.length c] ∧ l.length ≤ c ∧ kO.C W A l.length l ∧ (∀ o ∈ l, ObFits o ∧ ObInts o) ∧ l.length * 312 ≤ 140737488351232 := by
    intro j hj
    have f0 : DataW.trod enc Tryd.prog W base spare held m 22 ((cs.drop j).take (Tryd.prog.cellsOf 22)) = xs[j]? := by
      match j, hj with
      | 0, _ => exact hfd 0 _ rfl
      | 1, _ => exact hfd 1 _ rfl
      | 2, _ => exact hfd 2 _ rfl
      | 3, _ => exact hfd 3 _ rfl
    rw [c5] at f0
    obtain ⟨y, e⟩ := ex j hj
    rw [e] at f0
    have w0 : ∀ n ∈ y.1.weights Tryd.prog 22, n ≤ reachBytes := by
      match j, hj, e with
      | 0, _, e => exact hwd 0 22 y e rfl
      | 1, _, e => exact hwd 1 22 y e rfl
      | 2, _, e => exact hwd 2 22 y e rfl
      | 3, _, e => exact hwd 3 22 y e rfl
    exact open_objs w0 f0
  obtain ⟨A0, c0, l0, e0, _, h0, g0, z0⟩ := one 0 (by omega)
  obtain ⟨A1, c1, l1, e1, _, h1, g1, z1⟩ := one 1 (by omega)
  obtain ⟨A2, c2, l2, e2, _, h2, g2, z2⟩ := one 2 (by omega)
  obtain ⟨A3, c3, l3, e3, _, h3, g3, z3⟩ := one 3 (by omega)
  obtain ⟨x0, x1, x2, x3, rfl⟩ : ∃ a b c d, cs = [a, b, c, d] := by
    match cs, hlen with
    | [x0, x1, x2, x3], _ => exact ⟨x0, x1, x2, x3, rfl⟩
  simp only [List.drop_succ_cons, List.drop_zero, List.take_succ_cons, List.take_zero, List.cons.injEq, and_true] at e0 e1 e2 e3
  subst e0 e1 e2 e3
  exact ⟨⟨A0, A1, A2, A3, l0.length, l1.length, l2.length, l3.length, c0, c1, c2, c3, l0, l1, l2, l3⟩, rfl, ⟨h0, h1, h2, h3⟩, ⟨by simp only; omega, by simp only; omega, by simp only; omega, by simp only; omega, g0, g1, g2, g3⟩⟩
set_option maxRecDepth 100000 in
theorem open_fleetV {r : Reach} {b0 : Nat} {v : Value} {d : DataW H} {ps : List MemPlace} (hval : Value.okWide Tryd.prog W r b0 24 v) (hw : ∀ n ∈ d.weights Tryd.prog 24, n ≤ reachBytes) (h : DataW.Trod enc Tryd.prog W base spare held 24 v d ps) :
    ∃ f : F4, v = .agg f.v ∧ F4.At kO W f ∧ F4.Ok f := by
  obtain ⟨cs, rfl, _⟩ := okWide_agg Tryd.underlying24 hval
  obtain ⟨fuel, hf⟩ := h
  obtain ⟨f, e, h1, h2⟩ := open_fleet (x := (d, ps)) hw hf
  have e' : cs.toList = f.v.toList := e
  exact ⟨f, by rw [Array.toList_inj.1 e'], h1, h2⟩
end
end Go.Proofs.YtiaggfjfgoiafaaDoor

/- A start for the witness: the settled world, some variables' cells laid as the row says. -/
namespace Go.Proofs.YtiaggfjfgoiafaaDoor
def flat1 : DataW Unit → List Value
  | .lit (.int k n) => [.int k n]
  | _ => []
def flat2 : DataW Unit → List Value
  | .agg l => l.flatMap fun
    | .agg m => m.flatMap flat1
    | x => flat1 x
  | x => flat1 x
def handleCell (h t : Nat) : List Value := [.iface h (.agg #[.pointer (some ⟨3, t, none⟩)])]
def layAt (heap : Array Obj) (x : Nat × List Value) : Array Obj := heap.modify x.1 fun
  | .cells _ t frozen => .cells x.2.toArray t frozen
  | o => o
noncomputable def laidWith (l : List (Nat × List Value)) (os : Os) : World :=
  { World.holding Tryd.prog os ⟨#[], #[], []⟩ with heap := l.foldl layAt (World.holding Tryd.prog os ⟨#[], #[], []⟩).heap }
end Go.Proofs.YtiaggfjfgoiafaaDoor
