-- WRITTEN BY myprint.py, a program of this seat's prover, over the kit's printer, some functions' contracts given by hand: no output of print.sh
import Derived.Test.YtgeegimiendcdaaDoorQWcx0
import Derived.Test.YtgeegimiendcdaaDoorQWcx1
import Derived.Test.YtgeegimiendcdaaDoorQWcx2
import Derived.Test.YtgeegimiendcdaaDoorQWcx3
namespace Go.Proofs.YtgeegimiendcdaaDoor.QWc
open Go.Proofs.YtgeegimiendcdaaDoor
open Go.RowKit Go.Proofs.YtgeegimiendcdaaDoorW.PrintWords Go.Proofs.YtgeegimiendcdaaDoorW.PrintLast Go.Proofs.YtgeegimiendcdaaDoorW.PrintMore
attribute [local go_sem] max2_int min2_int max_two min_two max_three min_three max_four min_four   -- for this text's walks alone
set_option linter.unusedVariables false
set_option linter.unusedSimpArgs false

end Go.Proofs.YtgeegimiendcdaaDoor.QWc
