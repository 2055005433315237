/-
  DERIVED. GIVEN WITH THE SEED: THE CARDS: each row of YtoepbjgldmgaoaaDoorRows.lean that lists a variable, with what it lists TIED to the program's text (the seventh form; the later family's looks); each row that meets fmt, with fmt's text TOLD by the authors' own Lean function (tested against real Go, not proved from fmt's source: count such statements apart). THE CARD IS WHAT COUNTS. Prove the row's statement (the work); the ties are given (YtoepbjgldmgaoaaDoorTie.lean); close each card by the builder's one call (the guide's Derived/Test/ToyasCard.lean, 'card_holds'). Laid BY PROGRAM, IN A SANDBOX (cutbox-door.mjs). By AI agents, Wed Nov 11 2026. No macro, syntax, notation, axiom, sorry.
-/
import Derived.Test.YtoepbjgldmgaoaaDoorRows
import GoSem.ClaimSeven
namespace Go.Proofs.YtoepbjgldmgaoaaDoor
namespace Rows

/-- THE TIED CARD OF 'flotillalaw08.ObjectSorted'. -/
def objectSortedCard : Claim7 := { stood := { row := objectSortedRow, standIns := [], harness := (true, "78b7de60a8c28cd1c6cc9b62ce2067a4ff4ff32693b2fe9919b9bcbf01e83568"), looks := false }, kinds := [], alts := [], laidByText := true, laidKinds := [.data, .pinned], laidTests := true, laidLooks := .later }
def ObjectSortedCardSaid : Prop := Claim7.holds Tryd.pinned (.plain (OpenSpec.ofChange objectSortedSpec)) objectSortedCard

/-- THE TIED CARD OF 'flotillalaw24.RankTold'. -/
def rankToldCard : Claim7 := { stood := { row := rankToldRow, standIns := [], harness := (true, "78b7de60a8c28cd1c6cc9b62ce2067a4ff4ff32693b2fe9919b9bcbf01e83568"), looks := false }, kinds := [], alts := [], laidByText := true, laidKinds := [.data, .pinned], laidTests := true, laidLooks := .later }
def RankToldCardSaid : Prop := Claim7.holds Tryd.pinned (.plain (OpenSpec.ofChange rankToldSpec)) rankToldCard

/-- THE TIED CARD OF 'flotillalaw24.RankChosen'. -/
def rankChosenCard : Claim7 := { stood := { row := rankChosenRow, standIns := [], harness := (true, "78b7de60a8c28cd1c6cc9b62ce2067a4ff4ff32693b2fe9919b9bcbf01e83568"), looks := false }, kinds := [], alts := [], laidByText := true, laidKinds := [.data, .pinned], laidTests := true, laidLooks := .later }
def RankChosenCardSaid : Prop := Claim7.holds Tryd.pinned (.plain (OpenSpec.ofChange rankChosenSpec)) rankChosenCard

/-- THE TIED CARD OF 'flotillalaw24.RankOrder'. -/
def rankOrderCard : Claim7 := { stood := { row := rankOrderRow, standIns := [], harness := (true, "78b7de60a8c28cd1c6cc9b62ce2067a4ff4ff32693b2fe9919b9bcbf01e83568"), looks := false }, kinds := [], alts := [], laidByText := true, laidKinds := [.data, .pinned], laidTests := true, laidLooks := .later }
def RankOrderCardSaid : Prop := Claim7.holds Tryd.pinned (.plain (OpenSpec.ofChange rankOrderSpec)) rankOrderCard

/-- THE TIED CARD OF 'flotillalaw24.RankFirst'. -/
def rankFirstCard : Claim7 := { stood := { row := rankFirstRow, standIns := [], harness := (true, "78b7de60a8c28cd1c6cc9b62ce2067a4ff4ff32693b2fe9919b9bcbf01e83568"), looks := false }, kinds := [], alts := [], laidByText := true, laidKinds := [.data, .pinned], laidTests := true, laidLooks := .later }
def RankFirstCardSaid : Prop := Claim7.holds Tryd.pinned (.plain (OpenSpec.ofChange rankFirstSpec)) rankFirstCard

/-- THE TIED CARD OF 'flotillalaw24.RankKnown'. -/
def rankKnownCard : Claim7 := { stood := { row := rankKnownRow, standIns := [], harness := (true, "78b7de60a8c28cd1c6cc9b62ce2067a4ff4ff32693b2fe9919b9bcbf01e83568"), looks := false }, kinds := [], alts := [], laidByText := true, laidKinds := [.data, .pinned], laidTests := true, laidLooks := .later }
def RankKnownCardSaid : Prop := Claim7.holds Tryd.pinned (.plain (OpenSpec.ofChange rankKnownSpec)) rankKnownCard

/-- THE TIED CARD OF 'flotillalaw27.DrainSettles'. -/
def drainSettlesCard : Claim7 := { stood := { row := drainSettlesRow, standIns := [], harness := (true, "78b7de60a8c28cd1c6cc9b62ce2067a4ff4ff32693b2fe9919b9bcbf01e83568"), looks := false }, kinds := [], alts := [], laidByText := true, laidKinds := [.data, .pinned], laidTests := true, laidLooks := .later }
def DrainSettlesCardSaid : Prop := Claim7.holds Tryd.pinned (.plain (OpenSpec.ofChange drainSettlesSpec)) drainSettlesCard

/-- THE TIED CARD OF 'flotillalaw27.DrainKnown'. -/
def drainKnownCard : Claim7 := { stood := { row := drainKnownRow, standIns := [], harness := (true, "78b7de60a8c28cd1c6cc9b62ce2067a4ff4ff32693b2fe9919b9bcbf01e83568"), looks := false }, kinds := [], alts := [], laidByText := true, laidKinds := [.data, .pinned], laidTests := true, laidLooks := .later }
def DrainKnownCardSaid : Prop := Claim7.holds Tryd.pinned (.plain (OpenSpec.ofChange drainKnownSpec)) drainKnownCard

/-- THE TIED CARD OF 'flotillalaw28.FleetOf'. -/
def fleetOfCard : Claim7 := { stood := { row := fleetOfRow, standIns := [], harness := (true, "78b7de60a8c28cd1c6cc9b62ce2067a4ff4ff32693b2fe9919b9bcbf01e83568"), looks := false }, kinds := [], alts := [], laidByText := true, laidKinds := [.data, .pinned], laidTests := true, laidLooks := .later }
def FleetOfCardSaid : Prop := Claim7.holds Tryd.pinned (.plain (OpenSpec.ofChange fleetOfSpec)) fleetOfCard

/-- THE SECOND FORM's CARD OF 'flotillalaw08.ObjectSorted'. -/
def objectSortedUptoCard : Claim7 := { stood := { row := objectSortedUptoRow, standIns := [], harness := (true, "78b7de60a8c28cd1c6cc9b62ce2067a4ff4ff32693b2fe9919b9bcbf01e83568"), looks := false }, kinds := [], alts := [], laidByText := true, laidKinds := [.data, .pinned], laidTests := true, laidLooks := .later }
def ObjectSortedUptoCardSaid : Prop := Claim7.holds Tryd.pinned (.plain (OpenSpec.upto objectSortedSpec)) objectSortedUptoCard

/-- THE SECOND FORM's CARD OF 'flotillalaw24.RankTold'. -/
def rankToldUptoCard : Claim7 := { stood := { row := rankToldUptoRow, standIns := [], harness := (true, "78b7de60a8c28cd1c6cc9b62ce2067a4ff4ff32693b2fe9919b9bcbf01e83568"), looks := false }, kinds := [], alts := [], laidByText := true, laidKinds := [.data, .pinned], laidTests := true, laidLooks := .later }
def RankToldUptoCardSaid : Prop := Claim7.holds Tryd.pinned (.plain (OpenSpec.upto rankToldSpec)) rankToldUptoCard

/-- THE SECOND FORM's CARD OF 'flotillalaw24.RankChosen'. -/
def rankChosenUptoCard : Claim7 := { stood := { row := rankChosenUptoRow, standIns := [], harness := (true, "78b7de60a8c28cd1c6cc9b62ce2067a4ff4ff32693b2fe9919b9bcbf01e83568"), looks := false }, kinds := [], alts := [], laidByText := true, laidKinds := [.data, .pinned], laidTests := true, laidLooks := .later }
def RankChosenUptoCardSaid : Prop := Claim7.holds Tryd.pinned (.plain (OpenSpec.upto rankChosenSpec)) rankChosenUptoCard

/-- THE SECOND FORM's CARD OF 'flotillalaw24.RankOrder'. -/
def rankOrderUptoCard : Claim7 := { stood := { row := rankOrderUptoRow, standIns := [], harness := (true, "78b7de60a8c28cd1c6cc9b62ce2067a4ff4ff32693b2fe9919b9bcbf01e83568"), looks := false }, kinds := [], alts := [], laidByText := true, laidKinds := [.data, .pinned], laidTests := true, laidLooks := .later }
def RankOrderUptoCardSaid : Prop := Claim7.holds Tryd.pinned (.plain (OpenSpec.upto rankOrderSpec)) rankOrderUptoCard

/-- THE SECOND FORM's CARD OF 'flotillalaw24.RankFirst'. -/
def rankFirstUptoCard : Claim7 := { stood := { row := rankFirstUptoRow, standIns := [], harness := (true, "78b7de60a8c28cd1c6cc9b62ce2067a4ff4ff32693b2fe9919b9bcbf01e83568"), looks := false }, kinds := [], alts := [], laidByText := true, laidKinds := [.data, .pinned], laidTests := true, laidLooks := .later }
def RankFirstUptoCardSaid : Prop := Claim7.holds Tryd.pinned (.plain (OpenSpec.upto rankFirstSpec)) rankFirstUptoCard

/-- THE SECOND FORM's CARD OF 'flotillalaw24.RankKnown'. -/
def rankKnownUptoCard : Claim7 := { stood := { row := rankKnownUptoRow, standIns := [], harness := (true, "78b7de60a8c28cd1c6cc9b62ce2067a4ff4ff32693b2fe9919b9bcbf01e83568"), looks := false }, kinds := [], alts := [], laidByText := true, laidKinds := [.data, .pinned], laidTests := true, laidLooks := .later }
def RankKnownUptoCardSaid : Prop := Claim7.holds Tryd.pinned (.plain (OpenSpec.upto rankKnownSpec)) rankKnownUptoCard

/-- THE SECOND FORM's CARD OF 'flotillalaw27.DrainSettles'. -/
def drainSettlesUptoCard : Claim7 := { stood := { row := drainSettlesUptoRow, standIns := [], harness := (true, "78b7de60a8c28cd1c6cc9b62ce2067a4ff4ff32693b2fe9919b9bcbf01e83568"), looks := false }, kinds := [], alts := [], laidByText := true, laidKinds := [.data, .pinned], laidTests := true, laidLooks := .later }
def DrainSettlesUptoCardSaid : Prop := Claim7.holds Tryd.pinned (.plain (OpenSpec.upto drainSettlesSpec)) drainSettlesUptoCard

/-- THE SECOND FORM's CARD OF 'flotillalaw27.DrainKnown'. -/
def drainKnownUptoCard : Claim7 := { stood := { row := drainKnownUptoRow, standIns := [], harness := (true, "78b7de60a8c28cd1c6cc9b62ce2067a4ff4ff32693b2fe9919b9bcbf01e83568"), looks := false }, kinds := [], alts := [], laidByText := true, laidKinds := [.data, .pinned], laidTests := true, laidLooks := .later }
def DrainKnownUptoCardSaid : Prop := Claim7.holds Tryd.pinned (.plain (OpenSpec.upto drainKnownSpec)) drainKnownUptoCard

/-- THE SECOND FORM's CARD OF 'flotillalaw28.FleetOf'. -/
def fleetOfUptoCard : Claim7 := { stood := { row := fleetOfUptoRow, standIns := [], harness := (true, "78b7de60a8c28cd1c6cc9b62ce2067a4ff4ff32693b2fe9919b9bcbf01e83568"), looks := false }, kinds := [], alts := [], laidByText := true, laidKinds := [.data, .pinned], laidTests := true, laidLooks := .later }
def FleetOfUptoCardSaid : Prop := Claim7.holds Tryd.pinned (.plain (OpenSpec.upto fleetOfSpec)) fleetOfUptoCard
end Rows
end Go.Proofs.YtoepbjgldmgaoaaDoor
