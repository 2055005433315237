/- Lemmas on which the law stands, part 3: QScx. -/
import Derived.Test.YtiaggfjfgoiafaaDoorKLife2
set_option linter.unusedVariables false
set_option linter.unusedSimpArgs false
-- WRITTEN BY myprint.py, a program of this seat's prover, over the kit's printer, some functions' contracts given by hand: no output of print.sh
namespace Go.Proofs.YtiaggfjfgoiafaaDoor.QSc
open Go.RowKit Go.Proofs.YtiaggfjfgoiafaaDoorW.PrintWords Go.Proofs.YtiaggfjfgoiafaaDoorW.PrintLast Go.Proofs.YtiaggfjfgoiafaaDoorW.PrintMore
attribute [local go_sem] max2_int min2_int max_two min_two max_three min_three max_four min_four   -- for this text's walks alone
end Go.Proofs.YtiaggfjfgoiafaaDoor.QSc
