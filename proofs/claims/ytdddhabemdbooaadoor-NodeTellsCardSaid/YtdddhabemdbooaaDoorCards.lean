/-
  DERIVED. GIVEN WITH THE SEED: THE CARDS: each row of YtdddhabemdbooaaDoorRows.lean that lists a variable, with what it lists TIED to the program's text (the seventh form; the later family's looks); each row that meets fmt, with fmt's text TOLD by the authors' own Lean function (tested against real Go, not proved from fmt's source: count such statements apart). THE CARD IS WHAT COUNTS. Prove the row's statement (the work); the ties are given (YtdddhabemdbooaaDoorTie.lean); close each card by the builder's one call (the guide's Derived/Test/ToyasCard.lean, 'card_holds'). Laid BY PROGRAM, IN A SANDBOX (cutbox-door.mjs). By AI agents, Wed Nov 11 2026. No macro, syntax, notation, axiom, sorry.
-/
import Derived.Test.YtdddhabemdbooaaDoorRows
import GoSem.ClaimSeven
namespace Go.Proofs.YtdddhabemdbooaaDoor
namespace Rows

/-- THE TIED CARD OF 'oculuslaw22.NodeTells'. -/
def nodeTellsCard : Claim7 := { stood := { row := nodeTellsRow, standIns := [], harness := (true, "31356eab8e7111e0eb49f97ca1bccb1d916a58e4287131ccde06c48b564e9e95"), looks := false }, kinds := [], alts := [], laidByText := true, laidKinds := [.data, .data, .data, .data, .pinned], laidTests := true, laidLooks := .later }
def NodeTellsCardSaid : Prop := Claim7.holds Tryd.pinned (.plain (OpenSpec.ofChange nodeTellsSpec)) nodeTellsCard

/-- THE TIED CARD OF 'oculuslaw22.NodeParts'. -/
def nodePartsCard : Claim7 := { stood := { row := nodePartsRow, standIns := [], harness := (true, "31356eab8e7111e0eb49f97ca1bccb1d916a58e4287131ccde06c48b564e9e95"), looks := false }, kinds := [], alts := [], laidByText := true, laidKinds := [.data, .data, .data, .data, .pinned], laidTests := true, laidLooks := .later }
def NodePartsCardSaid : Prop := Claim7.holds Tryd.pinned (.plain (OpenSpec.ofChange nodePartsSpec)) nodePartsCard

/-- THE TIED CARD OF 'oculuslaw22.NodeSame'. -/
def nodeSameCard : Claim7 := { stood := { row := nodeSameRow, standIns := [], harness := (true, "31356eab8e7111e0eb49f97ca1bccb1d916a58e4287131ccde06c48b564e9e95"), looks := false }, kinds := [], alts := [], laidByText := true, laidKinds := [.data, .data, .data, .data, .pinned], laidTests := true, laidLooks := .later }
def NodeSameCardSaid : Prop := Claim7.holds Tryd.pinned (.plain (OpenSpec.ofChange nodeSameSpec)) nodeSameCard

/-- THE SECOND FORM's CARD OF 'oculuslaw22.NodeTells'. -/
def nodeTellsUptoCard : Claim7 := { stood := { row := nodeTellsUptoRow, standIns := [], harness := (true, "31356eab8e7111e0eb49f97ca1bccb1d916a58e4287131ccde06c48b564e9e95"), looks := false }, kinds := [], alts := [], laidByText := true, laidKinds := [.data, .data, .data, .data, .pinned], laidTests := true, laidLooks := .later }
def NodeTellsUptoCardSaid : Prop := Claim7.holds Tryd.pinned (.plain (OpenSpec.upto nodeTellsSpec)) nodeTellsUptoCard

/-- THE SECOND FORM's CARD OF 'oculuslaw22.NodeParts'. -/
def nodePartsUptoCard : Claim7 := { stood := { row := nodePartsUptoRow, standIns := [], harness := (true, "31356eab8e7111e0eb49f97ca1bccb1d916a58e4287131ccde06c48b564e9e95"), looks := false }, kinds := [], alts := [], laidByText := true, laidKinds := [.data, .data, .data, .data, .pinned], laidTests := true, laidLooks := .later }
def NodePartsUptoCardSaid : Prop := Claim7.holds Tryd.pinned (.plain (OpenSpec.upto nodePartsSpec)) nodePartsUptoCard

/-- THE SECOND FORM's CARD OF 'oculuslaw22.NodeSame'. -/
def nodeSameUptoCard : Claim7 := { stood := { row := nodeSameUptoRow, standIns := [], harness := (true, "31356eab8e7111e0eb49f97ca1bccb1d916a58e4287131ccde06c48b564e9e95"), looks := false }, kinds := [], alts := [], laidByText := true, laidKinds := [.data, .data, .data, .data, .pinned], laidTests := true, laidLooks := .later }
def NodeSameUptoCardSaid : Prop := Claim7.holds Tryd.pinned (.plain (OpenSpec.upto nodeSameSpec)) nodeSameUptoCard
end Rows
end Go.Proofs.YtdddhabemdbooaaDoor
