/-
  DERIVED. GIVEN WITH THE SEED: THE CARDS: each row of YtcmnbcdimhcdkaaGreatDoorRows.lean that lists a variable, with what it lists TIED to the program's text (the seventh form; the later family's looks); each row that meets fmt, with fmt's text TOLD by the authors' own Lean function (tested against real Go, not proved from fmt's source: count such statements apart). THE CARD IS WHAT COUNTS. Prove the row's statement (the work); the ties are given (YtcmnbcdimhcdkaaGreatDoorTie.lean); close each card by the builder's one call (the guide's Derived/Test/ToyasCard.lean, 'card_holds'). Laid BY PROGRAM, IN A SANDBOX (cutbox-door.mjs). By AI agents, Wed Nov 11 2026. No macro, syntax, notation, axiom, sorry.
-/
import Derived.Test.YtcmnbcdimhcdkaaGreatDoorRows
import GoSem.ClaimSeven
namespace Go.Proofs.YtcmnbcdimhcdkaaGreatDoor
namespace Rows

/-- THE TIED CARD OF 'flotillalaw03.AmountTexts'. -/
def amountTextsCard : Claim7 := { stood := { row := amountTextsRow, standIns := [], harness := (true, "8a026807fb9a6be1b79ccfac3564860a3a9aa08dec26c7a27df4c8590378c15d"), looks := true }, kinds := [], alts := [], laidByText := true, laidKinds := [.data, .data, .data, .data, .handle, .sentinel, .sentinel, .pinned], laidTests := true, laidLooks := .later }
def AmountTextsCardSaid : Prop := Claim7.holds Tryz.pinned (.plain (OpenSpec.ofChange amountTextsSpec)) amountTextsCard

/-- THE TIED CARD OF 'flotillalaw03.AmountKnown'. -/
def amountKnownCard : Claim7 := { stood := { row := amountKnownRow, standIns := [], harness := (true, "8a026807fb9a6be1b79ccfac3564860a3a9aa08dec26c7a27df4c8590378c15d"), looks := true }, kinds := [], alts := [], laidByText := true, laidKinds := [.data, .data, .data, .data, .handle, .sentinel, .sentinel, .pinned], laidTests := true, laidLooks := .later }
def AmountKnownCardSaid : Prop := Claim7.holds Tryz.pinned (.plain (OpenSpec.ofChange amountKnownSpec)) amountKnownCard

/-- THE SECOND FORM's CARD OF 'flotillalaw03.AmountTexts'. -/
def amountTextsUptoCard : Claim7 := { stood := { row := amountTextsUptoRow, standIns := [], harness := (true, "8a026807fb9a6be1b79ccfac3564860a3a9aa08dec26c7a27df4c8590378c15d"), looks := true }, kinds := [], alts := [], laidByText := true, laidKinds := [.data, .data, .data, .data, .handle, .sentinel, .sentinel, .pinned], laidTests := true, laidLooks := .later }
def AmountTextsUptoCardSaid : Prop := Claim7.holds Tryz.pinned (.plain (OpenSpec.upto amountTextsSpec)) amountTextsUptoCard

/-- THE SECOND FORM's CARD OF 'flotillalaw03.AmountKnown'. -/
def amountKnownUptoCard : Claim7 := { stood := { row := amountKnownUptoRow, standIns := [], harness := (true, "8a026807fb9a6be1b79ccfac3564860a3a9aa08dec26c7a27df4c8590378c15d"), looks := true }, kinds := [], alts := [], laidByText := true, laidKinds := [.data, .data, .data, .data, .handle, .sentinel, .sentinel, .pinned], laidTests := true, laidLooks := .later }
def AmountKnownUptoCardSaid : Prop := Claim7.holds Tryz.pinned (.plain (OpenSpec.upto amountKnownSpec)) amountKnownUptoCard
end Rows
end Go.Proofs.YtcmnbcdimhcdkaaGreatDoor
