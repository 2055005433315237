/- strconv.Itoa where the table of powers of ten starts as the program's text lays it. -/
import Derived.Test.YtflfpghidkgmoaaDoorShelf
import Derived.Test.YtflfpghidkgmoaaDoorCheck
import Derived.Lib.LaidTab
import Derived.Lib.AppendIntMem
import Derived.Lib.SmallJoins
namespace Go.Proofs.YtflfpghidkgmoaaDoor
set_option linter.unusedVariables false
open Go.RowKit Go.Proofs.YtflfpghidkgmoaaDoorW.PrintWords
def Pow10At (w : World) : Prop := Lib.TabIs Tryd.prog w "internal/strconv.uint64pow10" .u64 Lib.pow10Tab
theorem Pow10At.below {w w1 : World} (h : Pow10At w) (hb : Below w.heap.size w w1) : Pow10At w1 :=
  Go.Joins.tab_stays (g := 2) (by kernel_rfl) h hb (Nat.le_refl _)
def itoaF (n : Int) : Option ByteArray := if isI n = true then some ⟨(Lib.itoa n).toArray⟩ else none
theorem itoa_calls (a0 : Int) (r : ByteArray) (w : World) (h : itoaF a0 = some r) (hInv : Pow10At w) :
    Calls Tryd.prog 44 #[.int .i64 a0] w fun e w' => e = .returned (.string r) ∧ Below w.heap.size w w' := by
  unfold itoaF at h
  split at h
  next hi =>
    obtain rfl := Option.some.inj h
    have hb := (isI_iff a0).1 hi
    refine (Tryd.strconv_Itoa a0 hb.1 (by omega) w hInv).mono fun e w' ⟨he, k, os, hw⟩ => ⟨he, ?_⟩
    subst hw
    exact Lib.below_grow _ _ (Nat.le_refl _) k os
  next => cases h
end Go.Proofs.YtflfpghidkgmoaaDoor
