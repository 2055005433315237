-- WRITTEN BY myprint.py, a program of this seat's prover, over the kit's printer, some functions' contracts given by hand: no output of print.sh
import Derived.Test.YtflfpghidkgmoaaDoorQAmountCountsx0
import Derived.Test.YtflfpghidkgmoaaDoorQAmountCountsx1
import Derived.Test.YtflfpghidkgmoaaDoorQAmountCountsx2
import Derived.Test.YtflfpghidkgmoaaDoorQAmountCountsx3
import Derived.Test.YtflfpghidkgmoaaDoorQAmountCountsx4
namespace Go.Proofs.YtflfpghidkgmoaaDoor.QAmountCounts
open Go.Proofs.YtflfpghidkgmoaaDoor
open Go.RowKit Go.Proofs.YtflfpghidkgmoaaDoorW.PrintWords Go.Proofs.YtflfpghidkgmoaaDoorW.PrintLast Go.Proofs.YtflfpghidkgmoaaDoorW.PrintMore
attribute [local go_sem] max2_int min2_int max_two min_two max_three min_three max_four min_four   -- for this text's walks alone
set_option linter.unusedVariables false
set_option linter.unusedSimpArgs false

end Go.Proofs.YtflfpghidkgmoaaDoor.QAmountCounts
