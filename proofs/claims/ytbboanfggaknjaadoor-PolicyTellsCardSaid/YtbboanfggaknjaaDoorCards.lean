/-
  DERIVED. GIVEN WITH THE SEED: THE CARDS: each row of YtbboanfggaknjaaDoorRows.lean that lists a variable, with what it lists TIED to the program's text (the seventh form; the later family's looks); each row that meets fmt, with fmt's text TOLD by the authors' own Lean function (tested against real Go, not proved from fmt's source: count such statements apart). THE CARD IS WHAT COUNTS. Prove the row's statement (the work); the ties are given (YtbboanfggaknjaaDoorTie.lean); close each card by the builder's one call (the guide's Derived/Test/ToyasCard.lean, 'card_holds'). Laid BY PROGRAM, IN A SANDBOX (cutbox-door.mjs). By AI agents, Wed Nov 11 2026. No macro, syntax, notation, axiom, sorry.
-/
import Derived.Test.YtbboanfggaknjaaDoorRows
import GoSem.ClaimSeven
namespace Go.Proofs.YtbboanfggaknjaaDoor
namespace Rows

/-- THE TIED CARD OF 'oculuslaw07.PolicyTells'. -/
def policyTellsCard : Claim7 := { stood := { row := policyTellsRow, standIns := [], harness := (true, "b20370fb315023bea96c53067fcc5b990838f21093fb5456fd6bdaee6fe56a19"), looks := false }, kinds := [], alts := [], laidByText := true, laidKinds := [.data, .data, .data, .data, .pinned], laidTests := true, laidLooks := .later }
def PolicyTellsCardSaid : Prop := Claim7.holds Tryd.pinned (.plain (OpenSpec.ofChange policyTellsSpec)) policyTellsCard

/-- THE TIED CARD OF 'oculuslaw07.PolicyWrong'. -/
def policyWrongCard : Claim7 := { stood := { row := policyWrongRow, standIns := [], harness := (true, "b20370fb315023bea96c53067fcc5b990838f21093fb5456fd6bdaee6fe56a19"), looks := false }, kinds := [], alts := [], laidByText := true, laidKinds := [.data, .data, .data, .data, .pinned], laidTests := true, laidLooks := .later }
def PolicyWrongCardSaid : Prop := Claim7.holds Tryd.pinned (.plain (OpenSpec.ofChange policyWrongSpec)) policyWrongCard

/-- THE SECOND FORM's CARD OF 'oculuslaw07.PolicyTells'. -/
def policyTellsUptoCard : Claim7 := { stood := { row := policyTellsUptoRow, standIns := [], harness := (true, "b20370fb315023bea96c53067fcc5b990838f21093fb5456fd6bdaee6fe56a19"), looks := false }, kinds := [], alts := [], laidByText := true, laidKinds := [.data, .data, .data, .data, .pinned], laidTests := true, laidLooks := .later }
def PolicyTellsUptoCardSaid : Prop := Claim7.holds Tryd.pinned (.plain (OpenSpec.upto policyTellsSpec)) policyTellsUptoCard

/-- THE SECOND FORM's CARD OF 'oculuslaw07.PolicyWrong'. -/
def policyWrongUptoCard : Claim7 := { stood := { row := policyWrongUptoRow, standIns := [], harness := (true, "b20370fb315023bea96c53067fcc5b990838f21093fb5456fd6bdaee6fe56a19"), looks := false }, kinds := [], alts := [], laidByText := true, laidKinds := [.data, .data, .data, .data, .pinned], laidTests := true, laidLooks := .later }
def PolicyWrongUptoCardSaid : Prop := Claim7.holds Tryd.pinned (.plain (OpenSpec.upto policyWrongSpec)) policyWrongUptoCard
end Rows
end Go.Proofs.YtbboanfggaknjaaDoor
