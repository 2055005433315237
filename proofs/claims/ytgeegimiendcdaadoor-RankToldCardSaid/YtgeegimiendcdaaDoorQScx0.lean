-- WRITTEN BY myprint.py, a program of this seat's prover, over the kit's printer, some functions' contracts given by hand: no output of print.sh
import Derived.Test.YtgeegimiendcdaaDoorProg
import Derived.Below
import Derived.Deep.Draws
import Derived.Deep.AppendLies
import Derived.Maps.AppendAt
import Derived.OwnWalk
import Derived.Laws.BytesArg
import Derived.Laws.MakeOwn
import Derived.Laws.OwnMore
import Derived.Deep.OwnRows
import Derived.Tactics
import Derived.Lib.ConvBytes
import Derived.Laws.Slices
import Derived.WalkKit
import Derived.KernelRfl
import Derived.RowKit3
import Derived.Deep.LoopGhost
import Derived.Deep.QuietTactic
import Derived.BigQuiet
import Derived.WideLaws
import Derived.Deep.DeepCutAuto
import Derived.Deep.CutBlock
import Derived.Deep.RegionHeld3
import Derived.Laws.Rows
import Derived.Lib.AppendStr
import Derived.ArgAppend
import Derived.Laws.IdiomCopy
import Derived.OrdersHeld
import Derived.Laws.BitsLemmas
import Derived.RowKit
import Derived.Test.YtgeegimiendcdaaDoorWWords
import Derived.Test.YtgeegimiendcdaaDoorWLast
import Derived.Test.YtgeegimiendcdaaDoorWTab
import Derived.Test.YtgeegimiendcdaaDoorWFour
import Derived.Test.YtgeegimiendcdaaDoorWQPut
import Derived.Test.YtgeegimiendcdaaDoorWApart
import Derived.Test.YtgeegimiendcdaaDoorWArr
import Derived.Test.YtgeegimiendcdaaDoorWZeros
import Derived.Test.YtgeegimiendcdaaDoorWFoot
import Derived.Test.YtgeegimiendcdaaDoorWKept
import Derived.Test.YtgeegimiendcdaaDoorWShare
import Derived.Test.YtgeegimiendcdaaDoorWN
import Derived.Test.YtgeegimiendcdaaDoorWFootNe
import Derived.Test.YtgeegimiendcdaaDoorWAt
import Derived.Test.YtgeegimiendcdaaDoorWEqStruct
import Derived.Test.YtgeegimiendcdaaDoorWRepsOne
import Derived.Test.YtgeegimiendcdaaDoorWInv
import Derived.Test.YtgeegimiendcdaaDoorWInvWords
import Derived.Test.YtgeegimiendcdaaDoorWGuard
import Derived.Test.YtgeegimiendcdaaDoorWNEv
import Derived.Test.YtgeegimiendcdaaDoorWMore
namespace Go.Proofs.YtgeegimiendcdaaDoor.QSc
open Go.RowKit Go.Proofs.YtgeegimiendcdaaDoorW.PrintWords Go.Proofs.YtgeegimiendcdaaDoorW.PrintLast Go.Proofs.YtgeegimiendcdaaDoorW.PrintMore
attribute [local go_sem] max2_int min2_int max_two min_two max_three min_three max_four min_four   -- for this text's walks alone
set_option linter.unusedVariables false
set_option linter.unusedSimpArgs false



def errW : Option Int → Value
  | none => .nilIface
  | some c => .iface 0 (.int .i64 c)
theorem errW_none : errW none = .nilIface := rfl
theorem errW_some (c : Int) : errW (some c) = .iface 0 (.int .i64 c) := rfl

-- the values' own types

end Go.Proofs.YtgeegimiendcdaaDoor.QSc
