-- WRITTEN BY myprint.py, a program of this seat's prover, over the kit's printer, some functions' contracts given by hand: no output of print.sh
import Derived.Test.YtflfpghidkgmoaaDoorQAmtx0
import Derived.Test.YtflfpghidkgmoaaDoorQAmtx1
import Derived.Test.YtflfpghidkgmoaaDoorQAmtx2
import Derived.Test.YtflfpghidkgmoaaDoorQAmtx3
import Derived.Test.YtflfpghidkgmoaaDoorQAmtx4
namespace Go.Proofs.YtflfpghidkgmoaaDoor.QAmt
open Go.Proofs.YtflfpghidkgmoaaDoor
open Go.RowKit Go.Proofs.YtflfpghidkgmoaaDoorW.PrintWords Go.Proofs.YtflfpghidkgmoaaDoorW.PrintLast Go.Proofs.YtflfpghidkgmoaaDoorW.PrintMore
attribute [local go_sem] max2_int min2_int max_two min_two max_three min_three max_four min_four   -- for this text's walks alone
set_option linter.unusedVariables false
set_option linter.unusedSimpArgs false

end Go.Proofs.YtflfpghidkgmoaaDoor.QAmt
