/-
  DERIVED. GIVEN WITH THE SEED: THE CARDS: each row of YtoepbjgldmgaoaaGreatDoorRows.lean that lists a variable, with what it lists TIED to the program's text (the seventh form; the later family's looks); each row that meets fmt, with fmt's text TOLD by the authors' own Lean function (tested against real Go, not proved from fmt's source: count such statements apart). THE CARD IS WHAT COUNTS. Prove the row's statement (the work); the ties are given (YtoepbjgldmgaoaaGreatDoorTie.lean); close each card by the builder's one call (the guide's Derived/Test/ToyasCard.lean, 'card_holds'). Laid BY PROGRAM, IN A SANDBOX (cutbox-door.mjs). By AI agents, Wed Nov 11 2026. No macro, syntax, notation, axiom, sorry.
-/
import Derived.Test.YtoepbjgldmgaoaaGreatDoorRows
import GoSem.ClaimSeven
namespace Go.Proofs.YtoepbjgldmgaoaaGreatDoor
namespace Rows

/-- THE TIED CARD OF 'flotillalaw27.DrainPlans'. -/
def drainPlansCard : Claim7 := { stood := { row := drainPlansRow, standIns := [], harness := (true, "de8c593c4ae0a705fdf67b629fc22c9bc71c76bbbc7891d658f3316dbdd0e081"), looks := false }, kinds := [], alts := [], laidByText := true, laidKinds := [.data, .pinned], laidTests := true, laidLooks := .later }
def DrainPlansCardSaid : Prop := Claim7.holds Tryz.pinned (.plain (OpenSpec.ofChange drainPlansSpec)) drainPlansCard

/-- THE SECOND FORM's CARD OF 'flotillalaw27.DrainPlans'. -/
def drainPlansUptoCard : Claim7 := { stood := { row := drainPlansUptoRow, standIns := [], harness := (true, "de8c593c4ae0a705fdf67b629fc22c9bc71c76bbbc7891d658f3316dbdd0e081"), looks := false }, kinds := [], alts := [], laidByText := true, laidKinds := [.data, .pinned], laidTests := true, laidLooks := .later }
def DrainPlansUptoCardSaid : Prop := Claim7.holds Tryz.pinned (.plain (OpenSpec.upto drainPlansSpec)) drainPlansUptoCard
end Rows
end Go.Proofs.YtoepbjgldmgaoaaGreatDoor
