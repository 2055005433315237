/-
  DERIVED. GIVEN WITH THE SEED: THE CARDS: each row of YtcmnbcdimhcdkaaDoorRows.lean that lists a variable, with what it lists TIED to the program's text (the seventh form; the later family's looks); each row that meets fmt, with fmt's text TOLD by the authors' own Lean function (tested against real Go, not proved from fmt's source: count such statements apart). THE CARD IS WHAT COUNTS. Prove the row's statement (the work); the ties are given (YtcmnbcdimhcdkaaDoorTie.lean); close each card by the builder's one call (the guide's Derived/Test/ToyasCard.lean, 'card_holds'). Laid BY PROGRAM, IN A SANDBOX (cutbox-door.mjs). By AI agents, Wed Nov 11 2026. No macro, syntax, notation, axiom, sorry.
-/
import Derived.Test.YtcmnbcdimhcdkaaDoorRows
import GoSem.ClaimSeven
namespace Go.Proofs.YtcmnbcdimhcdkaaDoor
namespace Rows

/-- THE TIED CARD OF 'flotillalaw03.AmountThere'. -/
def amountThereCard : Claim7 := { stood := { row := amountThereRow, standIns := [], harness := (true, "b67e0ed57e15cf2ac1b38bb768df7762bee030062a80884a8ae3821e70c163fb"), looks := true }, kinds := [], alts := [], laidByText := true, laidKinds := [.data, .data, .data, .data, .sentinel, .sentinel, .pinned], laidTests := true, laidLooks := .later }
def AmountThereCardSaid : Prop := Claim7.holds Tryd.pinned (.plain (OpenSpec.ofChange amountThereSpec)) amountThereCard

/-- THE SECOND FORM's CARD OF 'flotillalaw03.AmountThere'. -/
def amountThereUptoCard : Claim7 := { stood := { row := amountThereUptoRow, standIns := [], harness := (true, "b67e0ed57e15cf2ac1b38bb768df7762bee030062a80884a8ae3821e70c163fb"), looks := true }, kinds := [], alts := [], laidByText := true, laidKinds := [.data, .data, .data, .data, .sentinel, .sentinel, .pinned], laidTests := true, laidLooks := .later }
def AmountThereUptoCardSaid : Prop := Claim7.holds Tryd.pinned (.plain (OpenSpec.upto amountThereSpec)) amountThereUptoCard
end Rows
end Go.Proofs.YtcmnbcdimhcdkaaDoor
