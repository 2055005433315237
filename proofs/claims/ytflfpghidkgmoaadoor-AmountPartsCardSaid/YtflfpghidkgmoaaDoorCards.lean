/-
  DERIVED. GIVEN WITH THE SEED: THE CARDS: each row of YtflfpghidkgmoaaDoorRows.lean that lists a variable, with what it lists TIED to the program's text (the seventh form; the later family's looks); each row that meets fmt, with fmt's text TOLD by the authors' own Lean function (tested against real Go, not proved from fmt's source: count such statements apart). THE CARD IS WHAT COUNTS. Prove the row's statement (the work); the ties are given (YtflfpghidkgmoaaDoorTie.lean); close each card by the builder's one call (the guide's Derived/Test/ToyasCard.lean, 'card_holds'). Laid BY PROGRAM, IN A SANDBOX (cutbox-door.mjs). By AI agents, Wed Nov 11 2026. No macro, syntax, notation, axiom, sorry.
-/
import Derived.Test.YtflfpghidkgmoaaDoorRows
import GoSem.ClaimSeven
namespace Go.Proofs.YtflfpghidkgmoaaDoor
namespace Rows

/-- THE TIED CARD OF 'flotillalaw03.AmountCounts'. -/
def amountCountsCard : Claim7 := { stood := { row := amountCountsRow, standIns := [], harness := (true, "02a23e24b6e7f9de3d726f07443f46faf18ad4434e3ae43193f80049ca823261"), looks := true }, kinds := [], alts := [], laidByText := true, laidKinds := [.handle], laidTests := true, laidLooks := .later }
def AmountCountsCardSaid : Prop := Claim7.holds Tryd.pinned (.plain (OpenSpec.ofChange amountCountsSpec)) amountCountsCard

/-- THE TIED CARD OF 'flotillalaw03.AmountSums'. -/
def amountSumsCard : Claim7 := { stood := { row := amountSumsRow, standIns := [], harness := (true, "02a23e24b6e7f9de3d726f07443f46faf18ad4434e3ae43193f80049ca823261"), looks := true }, kinds := [], alts := [], laidByText := true, laidKinds := [.handle], laidTests := true, laidLooks := .later }
def AmountSumsCardSaid : Prop := Claim7.holds Tryd.pinned (.plain (OpenSpec.ofChange amountSumsSpec)) amountSumsCard

/-- THE TIED CARD OF 'flotillalaw01.WordsCompare'. -/
def wordsCompareCard : Claim7 := { stood := { row := wordsCompareRow, standIns := [], harness := (true, "02a23e24b6e7f9de3d726f07443f46faf18ad4434e3ae43193f80049ca823261"), looks := true }, kinds := [], alts := [], laidByText := true, laidKinds := [.data, .pinned], laidTests := true, laidLooks := .later }
def WordsCompareCardSaid : Prop := Claim7.holds Tryd.pinned (.plain (OpenSpec.ofChange wordsCompareSpec)) wordsCompareCard

/-- THE TIED CARD OF 'flotillalaw03.AmountBack'. -/
def amountBackCard : Claim7 := { stood := { row := amountBackRow, standIns := [], harness := (true, "02a23e24b6e7f9de3d726f07443f46faf18ad4434e3ae43193f80049ca823261"), looks := true }, kinds := [], alts := [], laidByText := true, laidKinds := [.data, .data, .data], laidTests := true, laidLooks := .later }
def AmountBackCardSaid : Prop := Claim7.holds Tryd.pinned (.plain (OpenSpec.ofChange amountBackSpec)) amountBackCard

/-- THE TIED CARD OF 'flotillalaw03.AmountParts'. -/
def amountPartsCard : Claim7 := { stood := { row := amountPartsRow, standIns := [], harness := (true, "02a23e24b6e7f9de3d726f07443f46faf18ad4434e3ae43193f80049ca823261"), looks := true }, kinds := [], alts := [], laidByText := true, laidKinds := [.data, .data, .data], laidTests := true, laidLooks := .later }
def AmountPartsCardSaid : Prop := Claim7.holds Tryd.pinned (.plain (OpenSpec.ofChange amountPartsSpec)) amountPartsCard

/-- THE TIED CARD OF 'flotillalaw03.AmountThere'. -/
def amountThereCard : Claim7 := { stood := { row := amountThereRow, standIns := [], harness := (true, "02a23e24b6e7f9de3d726f07443f46faf18ad4434e3ae43193f80049ca823261"), looks := true }, kinds := [], alts := [], laidByText := true, laidKinds := [.data, .data, .data, .data, .sentinel, .sentinel, .pinned], laidTests := true, laidLooks := .later }
def AmountThereCardSaid : Prop := Claim7.holds Tryd.pinned (.plain (OpenSpec.ofChange amountThereSpec)) amountThereCard

/-- THE SECOND FORM's CARD OF 'flotillalaw03.AmountCounts'. -/
def amountCountsUptoCard : Claim7 := { stood := { row := amountCountsUptoRow, standIns := [], harness := (true, "02a23e24b6e7f9de3d726f07443f46faf18ad4434e3ae43193f80049ca823261"), looks := true }, kinds := [], alts := [], laidByText := true, laidKinds := [.handle], laidTests := true, laidLooks := .later }
def AmountCountsUptoCardSaid : Prop := Claim7.holds Tryd.pinned (.plain (OpenSpec.upto amountCountsSpec)) amountCountsUptoCard

/-- THE SECOND FORM's CARD OF 'flotillalaw03.AmountSums'. -/
def amountSumsUptoCard : Claim7 := { stood := { row := amountSumsUptoRow, standIns := [], harness := (true, "02a23e24b6e7f9de3d726f07443f46faf18ad4434e3ae43193f80049ca823261"), looks := true }, kinds := [], alts := [], laidByText := true, laidKinds := [.handle], laidTests := true, laidLooks := .later }
def AmountSumsUptoCardSaid : Prop := Claim7.holds Tryd.pinned (.plain (OpenSpec.upto amountSumsSpec)) amountSumsUptoCard

/-- THE SECOND FORM's CARD OF 'flotillalaw01.WordsCompare'. -/
def wordsCompareUptoCard : Claim7 := { stood := { row := wordsCompareUptoRow, standIns := [], harness := (true, "02a23e24b6e7f9de3d726f07443f46faf18ad4434e3ae43193f80049ca823261"), looks := true }, kinds := [], alts := [], laidByText := true, laidKinds := [.data, .pinned], laidTests := true, laidLooks := .later }
def WordsCompareUptoCardSaid : Prop := Claim7.holds Tryd.pinned (.plain (OpenSpec.upto wordsCompareSpec)) wordsCompareUptoCard

/-- THE SECOND FORM's CARD OF 'flotillalaw03.AmountBack'. -/
def amountBackUptoCard : Claim7 := { stood := { row := amountBackUptoRow, standIns := [], harness := (true, "02a23e24b6e7f9de3d726f07443f46faf18ad4434e3ae43193f80049ca823261"), looks := true }, kinds := [], alts := [], laidByText := true, laidKinds := [.data, .data, .data], laidTests := true, laidLooks := .later }
def AmountBackUptoCardSaid : Prop := Claim7.holds Tryd.pinned (.plain (OpenSpec.upto amountBackSpec)) amountBackUptoCard

/-- THE SECOND FORM's CARD OF 'flotillalaw03.AmountParts'. -/
def amountPartsUptoCard : Claim7 := { stood := { row := amountPartsUptoRow, standIns := [], harness := (true, "02a23e24b6e7f9de3d726f07443f46faf18ad4434e3ae43193f80049ca823261"), looks := true }, kinds := [], alts := [], laidByText := true, laidKinds := [.data, .data, .data], laidTests := true, laidLooks := .later }
def AmountPartsUptoCardSaid : Prop := Claim7.holds Tryd.pinned (.plain (OpenSpec.upto amountPartsSpec)) amountPartsUptoCard

/-- THE SECOND FORM's CARD OF 'flotillalaw03.AmountThere'. -/
def amountThereUptoCard : Claim7 := { stood := { row := amountThereUptoRow, standIns := [], harness := (true, "02a23e24b6e7f9de3d726f07443f46faf18ad4434e3ae43193f80049ca823261"), looks := true }, kinds := [], alts := [], laidByText := true, laidKinds := [.data, .data, .data, .data, .sentinel, .sentinel, .pinned], laidTests := true, laidLooks := .later }
def AmountThereUptoCardSaid : Prop := Claim7.holds Tryd.pinned (.plain (OpenSpec.upto amountThereSpec)) amountThereUptoCard
end Rows
end Go.Proofs.YtflfpghidkgmoaaDoor
