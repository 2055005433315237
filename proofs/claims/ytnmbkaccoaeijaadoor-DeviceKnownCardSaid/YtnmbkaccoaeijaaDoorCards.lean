/-
  DERIVED. GIVEN WITH THE SEED: THE CARDS: each row of YtnmbkaccoaeijaaDoorRows.lean that lists a variable, with what it lists TIED to the program's text (the seventh form; the later family's looks); each row that meets fmt, with fmt's text TOLD by the authors' own Lean function (tested against real Go, not proved from fmt's source: count such statements apart). THE CARD IS WHAT COUNTS. Prove the row's statement (the work); the ties are given (YtnmbkaccoaeijaaDoorTie.lean); close each card by the builder's one call (the guide's Derived/Test/ToyasCard.lean, 'card_holds'). Laid BY PROGRAM, IN A SANDBOX (cutbox-door.mjs). By AI agents, Wed Nov 11 2026. No macro, syntax, notation, axiom, sorry.
-/
import Derived.Test.YtnmbkaccoaeijaaDoorRows
import GoSem.ClaimSeven
namespace Go.Proofs.YtnmbkaccoaeijaaDoor
namespace Rows

/-- THE TIED CARD OF 'flotillalaw07.DeviceKnown'. -/
def deviceKnownCard : Claim7 := { stood := { row := deviceKnownRow, standIns := [], harness := (true, "ae007fada68374250ccb26406cd459640cc9e39323871b0e987b0a224e206543"), looks := true }, kinds := [], alts := [], laidByText := true, laidKinds := [.handle], laidTests := true, laidLooks := .later }
def DeviceKnownCardSaid : Prop := Claim7.holds Tryd.pinned (.plain (OpenSpec.ofChange deviceKnownSpec)) deviceKnownCard

/-- THE SECOND FORM's CARD OF 'flotillalaw07.DeviceKnown'. -/
def deviceKnownUptoCard : Claim7 := { stood := { row := deviceKnownUptoRow, standIns := [], harness := (true, "ae007fada68374250ccb26406cd459640cc9e39323871b0e987b0a224e206543"), looks := true }, kinds := [], alts := [], laidByText := true, laidKinds := [.handle], laidTests := true, laidLooks := .later }
def DeviceKnownUptoCardSaid : Prop := Claim7.holds Tryd.pinned (.plain (OpenSpec.upto deviceKnownSpec)) deviceKnownUptoCard
end Rows
end Go.Proofs.YtnmbkaccoaeijaaDoor
