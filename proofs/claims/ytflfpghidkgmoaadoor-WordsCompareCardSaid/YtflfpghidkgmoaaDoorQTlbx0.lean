-- WRITTEN BY myprint.py, a program of this seat's prover, over the kit's printer, some functions' contracts given by hand: no output of print.sh
import Derived.Test.YtflfpghidkgmoaaDoorProg
import Derived.Below
import Derived.Deep.Draws
import Derived.Deep.AppendLies
import Derived.Maps.AppendAt
import Derived.OwnWalk
import Derived.Laws.BytesArg
import Derived.Laws.MakeOwn
import Derived.Laws.OwnMore
import Derived.Deep.OwnRows
import Derived.Tactics
import Derived.Lib.ConvBytes
import Derived.Laws.Slices
import Derived.WalkKit
import Derived.KernelRfl
import Derived.RowKit3
import Derived.Deep.LoopGhost
import Derived.Deep.QuietTactic
import Derived.BigQuiet
import Derived.WideLaws
import Derived.Deep.DeepCutAuto
import Derived.Deep.CutBlock
import Derived.Deep.RegionHeld3
import Derived.Laws.Rows
import Derived.Lib.AppendStr
import Derived.ArgAppend
import Derived.Laws.IdiomCopy
import Derived.OrdersHeld
import Derived.Laws.BitsLemmas
import Derived.RowKit
import Derived.Test.YtflfpghidkgmoaaDoorWWords
import Derived.Test.YtflfpghidkgmoaaDoorWLast
import Derived.Test.YtflfpghidkgmoaaDoorWTab
import Derived.Test.YtflfpghidkgmoaaDoorWFour
import Derived.Test.YtflfpghidkgmoaaDoorWQPut
import Derived.Test.YtflfpghidkgmoaaDoorWApart
import Derived.Test.YtflfpghidkgmoaaDoorWArr
import Derived.Test.YtflfpghidkgmoaaDoorWZeros
import Derived.Test.YtflfpghidkgmoaaDoorWFoot
import Derived.Test.YtflfpghidkgmoaaDoorWKept
import Derived.Test.YtflfpghidkgmoaaDoorWShare
import Derived.Test.YtflfpghidkgmoaaDoorWN
import Derived.Test.YtflfpghidkgmoaaDoorWFootNe
import Derived.Test.YtflfpghidkgmoaaDoorWAt
import Derived.Test.YtflfpghidkgmoaaDoorWEqStruct
import Derived.Test.YtflfpghidkgmoaaDoorWRepsOne
import Derived.Test.YtflfpghidkgmoaaDoorWInv
import Derived.Test.YtflfpghidkgmoaaDoorWInvWords
import Derived.Test.YtflfpghidkgmoaaDoorWGuard
import Derived.Test.YtflfpghidkgmoaaDoorWNEv
import Derived.Test.YtflfpghidkgmoaaDoorWMore
namespace Go.Proofs.YtflfpghidkgmoaaDoor.QTlb
open Go.RowKit Go.Proofs.YtflfpghidkgmoaaDoorW.PrintWords Go.Proofs.YtflfpghidkgmoaaDoorW.PrintLast Go.Proofs.YtflfpghidkgmoaaDoorW.PrintMore
attribute [local go_sem] max2_int min2_int max_two min_two max_three min_three max_four min_four   -- for this text's walks alone
set_option linter.unusedVariables false
set_option linter.unusedSimpArgs false



def errW : Option Int → Value
  | none => .nilIface
  | some c => .iface 0 (.int .i64 c)
theorem errW_none : errW none = .nilIface := rfl
theorem errW_some (c : Int) : errW (some c) = .iface 0 (.int .i64 c) := rfl

-- the values' own types

end Go.Proofs.YtflfpghidkgmoaaDoor.QTlb
