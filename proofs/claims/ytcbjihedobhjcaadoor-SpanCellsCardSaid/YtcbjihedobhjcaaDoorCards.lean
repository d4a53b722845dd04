/-
  DERIVED. GIVEN WITH THE SEED: THE CARDS: each row of YtcbjihedobhjcaaDoorRows.lean that lists a variable, with what it lists TIED to the program's text (the seventh form; the later family's looks); each row that meets fmt, with fmt's text TOLD by the authors' own Lean function (tested against real Go, not proved from fmt's source: count such statements apart). THE CARD IS WHAT COUNTS. Prove the row's statement (the work); the ties are given (YtcbjihedobhjcaaDoorTie.lean); close each card by the builder's one call (the guide's Derived/Test/ToyasCard.lean, 'card_holds'). Laid BY PROGRAM, IN A SANDBOX (cutbox-door.mjs). By AI agents, Wed Nov 11 2026. No macro, syntax, notation, axiom, sorry.
-/
import Derived.Test.YtcbjihedobhjcaaDoorRows
import GoSem.ClaimSeven
namespace Go.Proofs.YtcbjihedobhjcaaDoor
namespace Rows

/-- THE TIED CARD OF 'oculuslaw04.SpanCells'. -/
def spanCellsCard : Claim7 := { stood := { row := spanCellsRow, standIns := [], harness := (true, "64cf98877057f68b2e5a827b4384d3fd293808ab07f490a2d2195850612861e1"), looks := false }, kinds := [], alts := [], laidByText := true, laidKinds := [.data, .data, .data], laidTests := true, laidLooks := .later }
def SpanCellsCardSaid : Prop := Claim7.holds Tryd.pinned (.plain (OpenSpec.ofChange spanCellsSpec)) spanCellsCard

/-- THE SECOND FORM's CARD OF 'oculuslaw04.SpanCells'. -/
def spanCellsUptoCard : Claim7 := { stood := { row := spanCellsUptoRow, standIns := [], harness := (true, "64cf98877057f68b2e5a827b4384d3fd293808ab07f490a2d2195850612861e1"), looks := false }, kinds := [], alts := [], laidByText := true, laidKinds := [.data, .data, .data], laidTests := true, laidLooks := .later }
def SpanCellsUptoCardSaid : Prop := Claim7.holds Tryd.pinned (.plain (OpenSpec.upto spanCellsSpec)) spanCellsUptoCard
end Rows
end Go.Proofs.YtcbjihedobhjcaaDoor
