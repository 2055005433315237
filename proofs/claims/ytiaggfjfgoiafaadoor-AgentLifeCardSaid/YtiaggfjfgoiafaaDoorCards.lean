/-
  DERIVED. GIVEN WITH THE SEED: THE CARDS: each row of YtiaggfjfgoiafaaDoorRows.lean that lists a variable, with what it lists TIED to the program's text (the seventh form; the later family's looks); each row that meets fmt, with fmt's text TOLD by the authors' own Lean function (tested against real Go, not proved from fmt's source: count such statements apart). THE CARD IS WHAT COUNTS. Prove the row's statement (the work); the ties are given (YtiaggfjfgoiafaaDoorTie.lean); close each card by the builder's one call (the guide's Derived/Test/ToyasCard.lean, 'card_holds'). Laid BY PROGRAM, IN A SANDBOX (cutbox-door.mjs). By AI agents, Wed Nov 11 2026. No macro, syntax, notation, axiom, sorry.
-/
import Derived.Test.YtiaggfjfgoiafaaDoorRows
import GoSem.ClaimSeven
namespace Go.Proofs.YtiaggfjfgoiafaaDoor
namespace Rows

/-- THE TIED CARD OF 'flotillalaw23.AgentLife'. -/
def agentLifeCard : Claim7 := { stood := { row := agentLifeRow, standIns := [], harness := (true, "b929b30179b3aa3329fc3d67364fa6040539efbed3956be12cb2bd776e952aaa"), looks := false }, kinds := [], alts := [], laidByText := true, laidKinds := [.data, .pinned], laidTests := true, laidLooks := .later }
def AgentLifeCardSaid : Prop := Claim7.holds Tryd.pinned (.plain (OpenSpec.ofChange agentLifeSpec)) agentLifeCard

/-- THE TIED CARD OF 'flotillalaw27.DrainSettles'. -/
def drainSettlesCard : Claim7 := { stood := { row := drainSettlesRow, standIns := [], harness := (true, "b929b30179b3aa3329fc3d67364fa6040539efbed3956be12cb2bd776e952aaa"), looks := false }, kinds := [], alts := [], laidByText := true, laidKinds := [.data, .pinned], laidTests := true, laidLooks := .later }
def DrainSettlesCardSaid : Prop := Claim7.holds Tryd.pinned (.plain (OpenSpec.ofChange drainSettlesSpec)) drainSettlesCard

/-- THE SECOND FORM's CARD OF 'flotillalaw23.AgentLife'. -/
def agentLifeUptoCard : Claim7 := { stood := { row := agentLifeUptoRow, standIns := [], harness := (true, "b929b30179b3aa3329fc3d67364fa6040539efbed3956be12cb2bd776e952aaa"), looks := false }, kinds := [], alts := [], laidByText := true, laidKinds := [.data, .pinned], laidTests := true, laidLooks := .later }
def AgentLifeUptoCardSaid : Prop := Claim7.holds Tryd.pinned (.plain (OpenSpec.upto agentLifeSpec)) agentLifeUptoCard

/-- THE SECOND FORM's CARD OF 'flotillalaw27.DrainSettles'. -/
def drainSettlesUptoCard : Claim7 := { stood := { row := drainSettlesUptoRow, standIns := [], harness := (true, "b929b30179b3aa3329fc3d67364fa6040539efbed3956be12cb2bd776e952aaa"), looks := false }, kinds := [], alts := [], laidByText := true, laidKinds := [.data, .pinned], laidTests := true, laidLooks := .later }
def DrainSettlesUptoCardSaid : Prop := Claim7.holds Tryd.pinned (.plain (OpenSpec.upto drainSettlesSpec)) drainSettlesUptoCard
end Rows
end Go.Proofs.YtiaggfjfgoiafaaDoor
