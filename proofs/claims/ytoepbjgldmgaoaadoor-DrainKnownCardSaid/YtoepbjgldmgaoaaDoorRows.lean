/-
  NARROWER THAN 'FOR EVERY INPUT', by the rows' own cells (each row's printed sentence says how): ObjectSorted: laid · RankTold: laid · RankChosen: laid · RankOrder: laid · RankFirst: laid · RankKnown: laid · DrainSettles: laid · DrainKnown: laid · FleetOf: laid.
  DERIVED. THE GIVEN ROWS OF THIS SEAT. 9 by the template 'for every input the law returns true; each argument reads behind the call as it read before'; 0 by the template 'total and deterministic' (their statements: YtoepbjgldmgaoaaDoorTotals.lean).
  GIVEN WITH THE SEED: the statements are not yours to turn. If you find one false, say at which input.
  Laid BY PROGRAM, IN A SANDBOX (cutbox-rows.mjs): the forced cells as the released guide's own fill.sh prints them over the translation d139345f71585a1f… (all of the seat's roots in one cut). By AI agents, Wed Nov 11 2026. No macro, syntax, notation, axiom, sorry.
-/
import Derived.Test.YtoepbjgldmgaoaaDoorChecked
import GoSem.PinnedTables
import GoSem.Claim
import GoSem.ClaimJoined
import GoSem.ClaimMapViews
import Derived.JoinedTies
import Derived.KernelRfl
namespace Go.Proofs.YtoepbjgldmgaoaaDoor
/- THE CELL 'sum', in the pinned program and in every row, IS THE sha256 OF THE DUMP (.gsa) THAT YtoepbjgldmgaoaaDoorProg.lean LOADS. Nothing in Lean hashes anything: it is a label: what it is worth is what the hold of that sum in a sandbox is worth. -/
noncomputable def Tryd.pinned : Pinned := { name := "ytoepbjgldmgaoaadoor", sum := "d139345f71585a1f693f24779abedbd6dfbd058ba49f172b671251f0aef16a1d", checked := Tryd.checked }
namespace Rows
def none {H : Type} : Left H := { results := [], args := [] }

/- WHAT THE LISTED PACKAGE-LEVEL VARIABLES READ AS WHEN THE CALL BEGINS. Each datum BY PROGRAM (the guide's laid-datum.mjs) off the statement by which the dump's own 'gosem.cut.vars' lays the variable. In a bare row this is a premise. The card (YtoepbjgldmgaoaaDoorCards.lean) ties it to the program's text. -/
def laid_unicode_utf8_acceptRanges {H : Type} : DataW H := .agg [.agg [.lit (.int .u8 128), .lit (.int .u8 191)], .agg [.lit (.int .u8 160), .lit (.int .u8 191)], .agg [.lit (.int .u8 128), .lit (.int .u8 159)], .agg [.lit (.int .u8 144), .lit (.int .u8 191)], .agg [.lit (.int .u8 128), .lit (.int .u8 143)], .agg [.lit (.int .u8 0), .lit (.int .u8 0)], .agg [.lit (.int .u8 0), .lit (.int .u8 0)], .agg [.lit (.int .u8 0), .lit (.int .u8 0)], .agg [.lit (.int .u8 0), .lit (.int .u8 0)], .agg [.lit (.int .u8 0), .lit (.int .u8 0)], .agg [.lit (.int .u8 0), .lit (.int .u8 0)], .agg [.lit (.int .u8 0), .lit (.int .u8 0)], .agg [.lit (.int .u8 0), .lit (.int .u8 0)], .agg [.lit (.int .u8 0), .lit (.int .u8 0)], .agg [.lit (.int .u8 0), .lit (.int .u8 0)], .agg [.lit (.int .u8 0), .lit (.int .u8 0)]]
/-- One of Go's own tables, pinned by name: the form's constant. -/
def laid_unicode_utf8_first : DataW Unit := Go.Pinned.utf8First

/-- 'flotillalaw08.ObjectSorted': WHATEVER THE INPUT: true; the input reads as it did. -/
def objectSortedSpec : ChangeSpec := { name := "objectSorted", fn := fun _ => fun
  | [d] => { results := [.lit (.bool true)], args := [d] }
  | _ => none }
def objectSortedRow : OpenClaim := { program := "ytoepbjgldmgaoaadoor", sum := "d139345f71585a1f693f24779abedbd6dfbd058ba49f172b671251f0aef16a1d", func := "flotilla/flotillalaw08.ObjectSorted", spec := "objectSorted", inPlace := ["internal/bytealg.IndexByteString", "internal/bytealg.IndexString"], unfollowed := true, recurses := true, named := ["unicode/utf8.first", "unicode/utf8.acceptRanges", "internal/bytealg.MaxLen"], apart := false, laid := [("unicode/utf8.acceptRanges", laid_unicode_utf8_acceptRanges), ("unicode/utf8.first", laid_unicode_utf8_first)] }
def ObjectSortedSaid : Prop := objectSortedRow.holds Tryd.pinned (OpenSpec.ofChange objectSortedSpec)

/-- ITS FALSE NEIGHBOUR: 'it returns false'. Refute it at one input. -/
def objectSortedWrong : ChangeSpec := { name := "objectSorted", fn := fun _ => fun
  | [d] => { results := [.lit (.bool false)], args := [d] }
  | _ => none }
def ObjectSortedWrongFalsely : Prop := objectSortedRow.holds Tryd.pinned (OpenSpec.ofChange objectSortedWrong)

/-- 'flotillalaw24.RankTold': WHATEVER THE INPUT: true; the input reads as it did. -/
def rankToldSpec : ChangeSpec := { name := "rankTold", fn := fun _ => fun
  | [d1, d2] => { results := [.lit (.bool true)], args := [d1, d2] }
  | _ => none }
def rankToldRow : OpenClaim := { program := "ytoepbjgldmgaoaadoor", sum := "d139345f71585a1f693f24779abedbd6dfbd058ba49f172b671251f0aef16a1d", func := "flotilla/flotillalaw24.RankTold", spec := "rankTold", inPlace := ["internal/bytealg.IndexByteString", "internal/bytealg.IndexString"], named := ["unicode/utf8.first", "unicode/utf8.acceptRanges", "internal/bytealg.MaxLen"], apart := false, laid := [("unicode/utf8.acceptRanges", laid_unicode_utf8_acceptRanges), ("unicode/utf8.first", laid_unicode_utf8_first)] }
def RankToldSaid : Prop := rankToldRow.holds Tryd.pinned (OpenSpec.ofChange rankToldSpec)

/-- ITS FALSE NEIGHBOUR: 'it returns false'. Refute it at one input. -/
def rankToldWrong : ChangeSpec := { name := "rankTold", fn := fun _ => fun
  | [d1, d2] => { results := [.lit (.bool false)], args := [d1, d2] }
  | _ => none }
def RankToldWrongFalsely : Prop := rankToldRow.holds Tryd.pinned (OpenSpec.ofChange rankToldWrong)

/-- 'flotillalaw24.RankChosen': WHATEVER THE INPUT: true; the input reads as it did. -/
def rankChosenSpec : ChangeSpec := { name := "rankChosen", fn := fun _ => fun
  | [d1, d2] => { results := [.lit (.bool true)], args := [d1, d2] }
  | _ => none }
def rankChosenRow : OpenClaim := { program := "ytoepbjgldmgaoaadoor", sum := "d139345f71585a1f693f24779abedbd6dfbd058ba49f172b671251f0aef16a1d", func := "flotilla/flotillalaw24.RankChosen", spec := "rankChosen", inPlace := ["internal/bytealg.IndexByteString", "internal/bytealg.IndexString"], unfollowed := true, recurses := true, named := ["unicode/utf8.first", "unicode/utf8.acceptRanges", "internal/bytealg.MaxLen"], apart := false, laid := [("unicode/utf8.acceptRanges", laid_unicode_utf8_acceptRanges), ("unicode/utf8.first", laid_unicode_utf8_first)] }
def RankChosenSaid : Prop := rankChosenRow.holds Tryd.pinned (OpenSpec.ofChange rankChosenSpec)

/-- ITS FALSE NEIGHBOUR: 'it returns false'. Refute it at one input. -/
def rankChosenWrong : ChangeSpec := { name := "rankChosen", fn := fun _ => fun
  | [d1, d2] => { results := [.lit (.bool false)], args := [d1, d2] }
  | _ => none }
def RankChosenWrongFalsely : Prop := rankChosenRow.holds Tryd.pinned (OpenSpec.ofChange rankChosenWrong)

/-- 'flotillalaw24.RankOrder': WHATEVER THE INPUT: true; the input reads as it did. -/
def rankOrderSpec : ChangeSpec := { name := "rankOrder", fn := fun _ => fun
  | [d1, d2, d3] => { results := [.lit (.bool true)], args := [d1, d2, d3] }
  | _ => none }
def rankOrderRow : OpenClaim := { program := "ytoepbjgldmgaoaadoor", sum := "d139345f71585a1f693f24779abedbd6dfbd058ba49f172b671251f0aef16a1d", func := "flotilla/flotillalaw24.RankOrder", spec := "rankOrder", inPlace := ["internal/bytealg.IndexByteString", "internal/bytealg.IndexString"], unfollowed := true, recurses := true, named := ["unicode/utf8.first", "unicode/utf8.acceptRanges", "internal/bytealg.MaxLen"], apart := false, laid := [("unicode/utf8.acceptRanges", laid_unicode_utf8_acceptRanges), ("unicode/utf8.first", laid_unicode_utf8_first)] }
def RankOrderSaid : Prop := rankOrderRow.holds Tryd.pinned (OpenSpec.ofChange rankOrderSpec)

/-- ITS FALSE NEIGHBOUR: 'it returns false'. Refute it at one input. -/
def rankOrderWrong : ChangeSpec := { name := "rankOrder", fn := fun _ => fun
  | [d1, d2, d3] => { results := [.lit (.bool false)], args := [d1, d2, d3] }
  | _ => none }
def RankOrderWrongFalsely : Prop := rankOrderRow.holds Tryd.pinned (OpenSpec.ofChange rankOrderWrong)

/-- 'flotillalaw24.RankFirst': WHATEVER THE INPUT: true; the input reads as it did. -/
def rankFirstSpec : ChangeSpec := { name := "rankFirst", fn := fun _ => fun
  | [d1, d2] => { results := [.lit (.bool true)], args := [d1, d2] }
  | _ => none }
def rankFirstRow : OpenClaim := { program := "ytoepbjgldmgaoaadoor", sum := "d139345f71585a1f693f24779abedbd6dfbd058ba49f172b671251f0aef16a1d", func := "flotilla/flotillalaw24.RankFirst", spec := "rankFirst", inPlace := ["internal/bytealg.IndexByteString", "internal/bytealg.IndexString"], unfollowed := true, recurses := true, named := ["unicode/utf8.first", "unicode/utf8.acceptRanges", "internal/bytealg.MaxLen"], apart := false, laid := [("unicode/utf8.acceptRanges", laid_unicode_utf8_acceptRanges), ("unicode/utf8.first", laid_unicode_utf8_first)] }
def RankFirstSaid : Prop := rankFirstRow.holds Tryd.pinned (OpenSpec.ofChange rankFirstSpec)

/-- ITS FALSE NEIGHBOUR: 'it returns false'. Refute it at one input. -/
def rankFirstWrong : ChangeSpec := { name := "rankFirst", fn := fun _ => fun
  | [d1, d2] => { results := [.lit (.bool false)], args := [d1, d2] }
  | _ => none }
def RankFirstWrongFalsely : Prop := rankFirstRow.holds Tryd.pinned (OpenSpec.ofChange rankFirstWrong)

/-- 'flotillalaw24.RankKnown': WHATEVER THE INPUT: true; the input reads as it did. -/
def rankKnownSpec : ChangeSpec := { name := "rankKnown", fn := fun _ => fun
  | [] => { results := [.lit (.bool true)], args := [] }
  | _ => none }
def rankKnownRow : OpenClaim := { program := "ytoepbjgldmgaoaadoor", sum := "d139345f71585a1f693f24779abedbd6dfbd058ba49f172b671251f0aef16a1d", func := "flotilla/flotillalaw24.RankKnown", spec := "rankKnown", inPlace := ["internal/bytealg.IndexByteString", "internal/bytealg.IndexString"], unfollowed := true, recurses := true, named := ["unicode/utf8.first", "unicode/utf8.acceptRanges", "internal/bytealg.MaxLen"], apart := false, laid := [("unicode/utf8.acceptRanges", laid_unicode_utf8_acceptRanges), ("unicode/utf8.first", laid_unicode_utf8_first)] }
def RankKnownSaid : Prop := rankKnownRow.holds Tryd.pinned (OpenSpec.ofChange rankKnownSpec)

/-- ITS FALSE NEIGHBOUR: 'it returns false'. Refute it at one input. -/
def rankKnownWrong : ChangeSpec := { name := "rankKnown", fn := fun _ => fun
  | [] => { results := [.lit (.bool false)], args := [] }
  | _ => none }
def RankKnownWrongFalsely : Prop := rankKnownRow.holds Tryd.pinned (OpenSpec.ofChange rankKnownWrong)

/-- 'flotillalaw27.DrainSettles': WHATEVER THE INPUT: true; the input reads as it did. -/
def drainSettlesSpec : ChangeSpec := { name := "drainSettles", fn := fun _ => fun
  | [d] => { results := [.lit (.bool true)], args := [d] }
  | _ => none }
def drainSettlesRow : OpenClaim := { program := "ytoepbjgldmgaoaadoor", sum := "d139345f71585a1f693f24779abedbd6dfbd058ba49f172b671251f0aef16a1d", func := "flotilla/flotillalaw27.DrainSettles", spec := "drainSettles", inPlace := ["internal/bytealg.IndexByteString", "internal/bytealg.IndexString"], unfollowed := true, recurses := true, named := ["unicode/utf8.first", "unicode/utf8.acceptRanges", "internal/bytealg.MaxLen"], apart := false, laid := [("unicode/utf8.acceptRanges", laid_unicode_utf8_acceptRanges), ("unicode/utf8.first", laid_unicode_utf8_first)] }
def DrainSettlesSaid : Prop := drainSettlesRow.holds Tryd.pinned (OpenSpec.ofChange drainSettlesSpec)

/-- ITS FALSE NEIGHBOUR: 'it returns false'. Refute it at one input. -/
def drainSettlesWrong : ChangeSpec := { name := "drainSettles", fn := fun _ => fun
  | [d] => { results := [.lit (.bool false)], args := [d] }
  | _ => none }
def DrainSettlesWrongFalsely : Prop := drainSettlesRow.holds Tryd.pinned (OpenSpec.ofChange drainSettlesWrong)

/-- 'flotillalaw27.DrainKnown': WHATEVER THE INPUT: true; the input reads as it did. -/
def drainKnownSpec : ChangeSpec := { name := "drainKnown", fn := fun _ => fun
  | [] => { results := [.lit (.bool true)], args := [] }
  | _ => none }
def drainKnownRow : OpenClaim := { program := "ytoepbjgldmgaoaadoor", sum := "d139345f71585a1f693f24779abedbd6dfbd058ba49f172b671251f0aef16a1d", func := "flotilla/flotillalaw27.DrainKnown", spec := "drainKnown", inPlace := ["internal/bytealg.IndexByteString", "internal/bytealg.IndexString"], unfollowed := true, recurses := true, named := ["unicode/utf8.first", "unicode/utf8.acceptRanges", "internal/bytealg.MaxLen"], apart := false, laid := [("unicode/utf8.acceptRanges", laid_unicode_utf8_acceptRanges), ("unicode/utf8.first", laid_unicode_utf8_first)] }
def DrainKnownSaid : Prop := drainKnownRow.holds Tryd.pinned (OpenSpec.ofChange drainKnownSpec)

/-- ITS FALSE NEIGHBOUR: 'it returns false'. Refute it at one input. -/
def drainKnownWrong : ChangeSpec := { name := "drainKnown", fn := fun _ => fun
  | [] => { results := [.lit (.bool false)], args := [] }
  | _ => none }
def DrainKnownWrongFalsely : Prop := drainKnownRow.holds Tryd.pinned (OpenSpec.ofChange drainKnownWrong)

/-- 'flotillalaw28.FleetOf': WHATEVER THE INPUT: true; the input reads as it did. -/
def fleetOfSpec : ChangeSpec := { name := "fleetOf", fn := fun _ => fun
  | [d] => { results := [.lit (.bool true)], args := [d] }
  | _ => none }
def fleetOfRow : OpenClaim := { program := "ytoepbjgldmgaoaadoor", sum := "d139345f71585a1f693f24779abedbd6dfbd058ba49f172b671251f0aef16a1d", func := "flotilla/flotillalaw28.FleetOf", spec := "fleetOf", inPlace := ["internal/bytealg.IndexByteString", "internal/bytealg.IndexString"], unfollowed := true, recurses := true, named := ["unicode/utf8.first", "unicode/utf8.acceptRanges", "internal/bytealg.MaxLen"], apart := false, laid := [("unicode/utf8.acceptRanges", laid_unicode_utf8_acceptRanges), ("unicode/utf8.first", laid_unicode_utf8_first)] }
def FleetOfSaid : Prop := fleetOfRow.holds Tryd.pinned (OpenSpec.ofChange fleetOfSpec)

/-- ITS FALSE NEIGHBOUR: 'it returns false'. Refute it at one input. -/
def fleetOfWrong : ChangeSpec := { name := "fleetOf", fn := fun _ => fun
  | [d] => { results := [.lit (.bool false)], args := [d] }
  | _ => none }
def FleetOfWrongFalsely : Prop := fleetOfRow.holds Tryd.pinned (OpenSpec.ofChange fleetOfWrong)

/- THE SECOND FORM. 'bulk': how many values and letters a reading holds, each counted each time it is reached (what is shared counts as often as it is met; a slice's spare places count too). A statement '..UptoSaid' is the law's where the arguments, and the package variables that the reading takes, are together of bulk at most 1048576: NARROWER than '..Said'. Prove '..Said' where nothing that the law and all that it calls make is longer than what came in: it says more and counts as full. Else prove '..UptoSaid'. A law counts once. -/
mutual
def uptoBulk {H : Type} : DataW H → Nat
  | .lit (.string bytes) => bytes.length + 1
  | .lit _ => 1
  | .nil => 1
  | .ptr d => uptoBulk d + 1
  | .slice elems spare => uptoBulkAll elems + uptoBulkAll spare + 1
  | .agg parts => uptoBulkAll parts + 1
  | .iface _ d => uptoBulk d + 1
  | .map entries => uptoBulkEntries entries + 1
  | .held _ => 1
def uptoBulkAll {H : Type} : List (DataW H) → Nat
  | [] => 0
  | d :: r => uptoBulk d + uptoBulkAll r
def uptoBulkEntries {H : Type} : List (Lit × DataW H) → Nat
  | [] => 0
  | x :: r => uptoBulkEntry x + uptoBulkEntries r
def uptoBulkEntry {H : Type} : Lit × DataW H → Nat
  | (.string bytes, d) => bytes.length + uptoBulk d + 1
  | (_, d) => uptoBulk d + 1
 end
def uptoSmall : (H : Type) → List (DataW H) → Bool := fun _ ds => decide (uptoBulkAll ds ≤ 1048576)
def OpenSpec.upto (s : _root_.Go.ChangeSpec) : _root_.Go.OpenSpec := { _root_.Go.OpenSpec.ofChange s with cond := some uptoSmall }

/-- 'flotillalaw08.ObjectSorted', WHERE WHAT IT READS IS OF BULK AT MOST 1048576: true; the input reads as it did. -/
def objectSortedUptoRow : OpenClaim := { program := "ytoepbjgldmgaoaadoor", sum := "d139345f71585a1f693f24779abedbd6dfbd058ba49f172b671251f0aef16a1d", func := "flotilla/flotillalaw08.ObjectSorted", spec := "objectSorted", inPlace := ["internal/bytealg.IndexByteString", "internal/bytealg.IndexString"], unfollowed := true, recurses := true, named := ["unicode/utf8.first", "unicode/utf8.acceptRanges", "internal/bytealg.MaxLen"], apart := false, laid := [("unicode/utf8.acceptRanges", laid_unicode_utf8_acceptRanges), ("unicode/utf8.first", laid_unicode_utf8_first)], narrowed := true }
def ObjectSortedUptoSaid : Prop := objectSortedUptoRow.holds Tryd.pinned (OpenSpec.upto objectSortedSpec)

/-- 'flotillalaw24.RankTold', WHERE WHAT IT READS IS OF BULK AT MOST 1048576: true; the input reads as it did. -/
def rankToldUptoRow : OpenClaim := { program := "ytoepbjgldmgaoaadoor", sum := "d139345f71585a1f693f24779abedbd6dfbd058ba49f172b671251f0aef16a1d", func := "flotilla/flotillalaw24.RankTold", spec := "rankTold", inPlace := ["internal/bytealg.IndexByteString", "internal/bytealg.IndexString"], named := ["unicode/utf8.first", "unicode/utf8.acceptRanges", "internal/bytealg.MaxLen"], apart := false, laid := [("unicode/utf8.acceptRanges", laid_unicode_utf8_acceptRanges), ("unicode/utf8.first", laid_unicode_utf8_first)], narrowed := true }
def RankToldUptoSaid : Prop := rankToldUptoRow.holds Tryd.pinned (OpenSpec.upto rankToldSpec)

/-- 'flotillalaw24.RankChosen', WHERE WHAT IT READS IS OF BULK AT MOST 1048576: true; the input reads as it did. -/
def rankChosenUptoRow : OpenClaim := { program := "ytoepbjgldmgaoaadoor", sum := "d139345f71585a1f693f24779abedbd6dfbd058ba49f172b671251f0aef16a1d", func := "flotilla/flotillalaw24.RankChosen", spec := "rankChosen", inPlace := ["internal/bytealg.IndexByteString", "internal/bytealg.IndexString"], unfollowed := true, recurses := true, named := ["unicode/utf8.first", "unicode/utf8.acceptRanges", "internal/bytealg.MaxLen"], apart := false, laid := [("unicode/utf8.acceptRanges", laid_unicode_utf8_acceptRanges), ("unicode/utf8.first", laid_unicode_utf8_first)], narrowed := true }
def RankChosenUptoSaid : Prop := rankChosenUptoRow.holds Tryd.pinned (OpenSpec.upto rankChosenSpec)

/-- 'flotillalaw24.RankOrder', WHERE WHAT IT READS IS OF BULK AT MOST 1048576: true; the input reads as it did. -/
def rankOrderUptoRow : OpenClaim := { program := "ytoepbjgldmgaoaadoor", sum := "d139345f71585a1f693f24779abedbd6dfbd058ba49f172b671251f0aef16a1d", func := "flotilla/flotillalaw24.RankOrder", spec := "rankOrder", inPlace := ["internal/bytealg.IndexByteString", "internal/bytealg.IndexString"], unfollowed := true, recurses := true, named := ["unicode/utf8.first", "unicode/utf8.acceptRanges", "internal/bytealg.MaxLen"], apart := false, laid := [("unicode/utf8.acceptRanges", laid_unicode_utf8_acceptRanges), ("unicode/utf8.first", laid_unicode_utf8_first)], narrowed := true }
def RankOrderUptoSaid : Prop := rankOrderUptoRow.holds Tryd.pinned (OpenSpec.upto rankOrderSpec)

/-- 'flotillalaw24.RankFirst', WHERE WHAT IT READS IS OF BULK AT MOST 1048576: true; the input reads as it did. -/
def rankFirstUptoRow : OpenClaim := { program := "ytoepbjgldmgaoaadoor", sum := "d139345f71585a1f693f24779abedbd6dfbd058ba49f172b671251f0aef16a1d", func := "flotilla/flotillalaw24.RankFirst", spec := "rankFirst", inPlace := ["internal/bytealg.IndexByteString", "internal/bytealg.IndexString"], unfollowed := true, recurses := true, named := ["unicode/utf8.first", "unicode/utf8.acceptRanges", "internal/bytealg.MaxLen"], apart := false, laid := [("unicode/utf8.acceptRanges", laid_unicode_utf8_acceptRanges), ("unicode/utf8.first", laid_unicode_utf8_first)], narrowed := true }
def RankFirstUptoSaid : Prop := rankFirstUptoRow.holds Tryd.pinned (OpenSpec.upto rankFirstSpec)

/-- 'flotillalaw24.RankKnown', WHERE WHAT IT READS IS OF BULK AT MOST 1048576: true; the input reads as it did. -/
def rankKnownUptoRow : OpenClaim := { program := "ytoepbjgldmgaoaadoor", sum := "d139345f71585a1f693f24779abedbd6dfbd058ba49f172b671251f0aef16a1d", func := "flotilla/flotillalaw24.RankKnown", spec := "rankKnown", inPlace := ["internal/bytealg.IndexByteString", "internal/bytealg.IndexString"], unfollowed := true, recurses := true, named := ["unicode/utf8.first", "unicode/utf8.acceptRanges", "internal/bytealg.MaxLen"], apart := false, laid := [("unicode/utf8.acceptRanges", laid_unicode_utf8_acceptRanges), ("unicode/utf8.first", laid_unicode_utf8_first)], narrowed := true }
def RankKnownUptoSaid : Prop := rankKnownUptoRow.holds Tryd.pinned (OpenSpec.upto rankKnownSpec)

/-- 'flotillalaw27.DrainSettles', WHERE WHAT IT READS IS OF BULK AT MOST 1048576: true; the input reads as it did. -/
def drainSettlesUptoRow : OpenClaim := { program := "ytoepbjgldmgaoaadoor", sum := "d139345f71585a1f693f24779abedbd6dfbd058ba49f172b671251f0aef16a1d", func := "flotilla/flotillalaw27.DrainSettles", spec := "drainSettles", inPlace := ["internal/bytealg.IndexByteString", "internal/bytealg.IndexString"], unfollowed := true, recurses := true, named := ["unicode/utf8.first", "unicode/utf8.acceptRanges", "internal/bytealg.MaxLen"], apart := false, laid := [("unicode/utf8.acceptRanges", laid_unicode_utf8_acceptRanges), ("unicode/utf8.first", laid_unicode_utf8_first)], narrowed := true }
def DrainSettlesUptoSaid : Prop := drainSettlesUptoRow.holds Tryd.pinned (OpenSpec.upto drainSettlesSpec)

/-- 'flotillalaw27.DrainKnown', WHERE WHAT IT READS IS OF BULK AT MOST 1048576: true; the input reads as it did. -/
def drainKnownUptoRow : OpenClaim := { program := "ytoepbjgldmgaoaadoor", sum := "d139345f71585a1f693f24779abedbd6dfbd058ba49f172b671251f0aef16a1d", func := "flotilla/flotillalaw27.DrainKnown", spec := "drainKnown", inPlace := ["internal/bytealg.IndexByteString", "internal/bytealg.IndexString"], unfollowed := true, recurses := true, named := ["unicode/utf8.first", "unicode/utf8.acceptRanges", "internal/bytealg.MaxLen"], apart := false, laid := [("unicode/utf8.acceptRanges", laid_unicode_utf8_acceptRanges), ("unicode/utf8.first", laid_unicode_utf8_first)], narrowed := true }
def DrainKnownUptoSaid : Prop := drainKnownUptoRow.holds Tryd.pinned (OpenSpec.upto drainKnownSpec)

/-- 'flotillalaw28.FleetOf', WHERE WHAT IT READS IS OF BULK AT MOST 1048576: true; the input reads as it did. -/
def fleetOfUptoRow : OpenClaim := { program := "ytoepbjgldmgaoaadoor", sum := "d139345f71585a1f693f24779abedbd6dfbd058ba49f172b671251f0aef16a1d", func := "flotilla/flotillalaw28.FleetOf", spec := "fleetOf", inPlace := ["internal/bytealg.IndexByteString", "internal/bytealg.IndexString"], unfollowed := true, recurses := true, named := ["unicode/utf8.first", "unicode/utf8.acceptRanges", "internal/bytealg.MaxLen"], apart := false, laid := [("unicode/utf8.acceptRanges", laid_unicode_utf8_acceptRanges), ("unicode/utf8.first", laid_unicode_utf8_first)], narrowed := true }
def FleetOfUptoSaid : Prop := fleetOfUptoRow.holds Tryd.pinned (OpenSpec.upto fleetOfSpec)

end Rows
end Go.Proofs.YtoepbjgldmgaoaaDoor
