/-
  DERIVED. GIVEN WITH THE SEED: THE CARDS: each row of YtlfoechdakjekaaDoorRows.lean that lists a variable, with what it lists TIED to the program's text (the seventh form; the later family's looks); each row that meets fmt, with fmt's text TOLD by the authors' own Lean function (tested against real Go, not proved from fmt's source: count such statements apart). THE CARD IS WHAT COUNTS. Prove the row's statement (the work); the ties are given (YtlfoechdakjekaaDoorTie.lean); close each card by the builder's one call (the guide's Derived/Test/ToyasCard.lean, 'card_holds'). Laid BY PROGRAM, IN A SANDBOX (cutbox-door.mjs). By AI agents, Wed Nov 11 2026. No macro, syntax, notation, axiom, sorry.
-/
import Derived.Test.YtlfoechdakjekaaDoorRows
import GoSem.ClaimSeven
namespace Go.Proofs.YtlfoechdakjekaaDoor
namespace Rows

/-- THE TIED CARD OF 'oculuslaw13.RunesTurn'. -/
def runesTurnCard : Claim7 := { stood := { row := runesTurnRow, standIns := [], harness := (true, "e349606182b49f8dde2821659814258e2ab177cd4f5c62b2314028684779d216"), looks := false }, kinds := [], alts := [], laidByText := true, laidKinds := [.data, .pinned], laidTests := true, laidLooks := .later }
def RunesTurnCardSaid : Prop := Claim7.holds Tryd.pinned (.plain (OpenSpec.ofChange runesTurnSpec)) runesTurnCard

/-- THE SECOND FORM's CARD OF 'oculuslaw13.RunesTurn'. -/
def runesTurnUptoCard : Claim7 := { stood := { row := runesTurnUptoRow, standIns := [], harness := (true, "e349606182b49f8dde2821659814258e2ab177cd4f5c62b2314028684779d216"), looks := false }, kinds := [], alts := [], laidByText := true, laidKinds := [.data, .pinned], laidTests := true, laidLooks := .later }
def RunesTurnUptoCardSaid : Prop := Claim7.holds Tryd.pinned (.plain (OpenSpec.upto runesTurnSpec)) runesTurnUptoCard
end Rows
end Go.Proofs.YtlfoechdakjekaaDoor
