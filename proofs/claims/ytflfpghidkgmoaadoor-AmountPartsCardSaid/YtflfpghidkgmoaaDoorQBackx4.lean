-- WRITTEN BY myprint.py, a program of this seat's prover, over the kit's printer, some functions' contracts given by hand: no output of print.sh
import Derived.Test.YtflfpghidkgmoaaDoorQBackx0
namespace Go.Proofs.YtflfpghidkgmoaaDoor.QBack
open Go.Proofs.YtflfpghidkgmoaaDoor
open Go.RowKit Go.Proofs.YtflfpghidkgmoaaDoorW.PrintWords Go.Proofs.YtflfpghidkgmoaaDoorW.PrintLast Go.Proofs.YtflfpghidkgmoaaDoorW.PrintMore
attribute [local go_sem] max2_int min2_int max_two min_two max_three min_three max_four min_four   -- for this text's walks alone
set_option linter.unusedVariables false
set_option linter.unusedSimpArgs false

/-! ### flotillakit_Num: function 25 -/
def flotillakit_Num.f (a0 : Option Int) : Option Int := numF a0
theorem flotillakit_Num.calls (a0 : Option Int) (r : Int) (w : World) (h : flotillakit_Num.f a0 = some r) :
    Calls Tryd.prog 25 #[errW a0] w fun e w' => e = .returned (.int .i64 r) ∧ Below w.heap.size w w' := by
  rw [errW_O]
  exact num_code _ _ w h


end Go.Proofs.YtflfpghidkgmoaaDoor.QBack
