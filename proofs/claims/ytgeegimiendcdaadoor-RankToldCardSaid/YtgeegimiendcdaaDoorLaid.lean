/- A start for the witness: the settled world, some variables' cells laid as the row says. -/
import Derived.Test.YtgeegimiendcdaaDoorCards
import Derived.WalkKit
import Derived.ProofKit
namespace Go.Proofs.YtgeegimiendcdaaDoor
/-- The cells of a datum that is made of numbers (in arrays, structs; two deep). -/
def flat1 : DataW Unit → List Value
  | .lit (.int k n) => [.int k n]
  | _ => []
def flat2 : DataW Unit → List Value
  | .agg l => l.flatMap fun
    | .agg m => m.flatMap flat1
    | x => flat1 x
  | x => flat1 x
def handleCell (h t : Nat) : List Value := [.iface h (.agg #[.pointer (some ⟨3, t, none⟩)])]
/-- One variable's cells, laid. -/
def layAt (heap : Array Obj) (x : Nat × List Value) : Array Obj := heap.modify x.1 fun
  | .cells _ t frozen => .cells x.2.toArray t frozen
  | o => o
noncomputable def laidWith (l : List (Nat × List Value)) (os : Os) : World :=
  { World.holding Tryd.prog os ⟨#[], #[], []⟩ with heap := l.foldl layAt (World.holding Tryd.prog os ⟨#[], #[], []⟩).heap }
end Go.Proofs.YtgeegimiendcdaaDoor
