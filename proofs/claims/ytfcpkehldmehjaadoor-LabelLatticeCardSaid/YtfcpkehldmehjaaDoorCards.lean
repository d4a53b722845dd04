/-
  DERIVED. GIVEN WITH THE SEED: THE CARDS: each row of YtfcpkehldmehjaaDoorRows.lean that lists a variable, with what it lists TIED to the program's text (the seventh form; the later family's looks); each row that meets fmt, with fmt's text TOLD by the authors' own Lean function (tested against real Go, not proved from fmt's source: count such statements apart). THE CARD IS WHAT COUNTS. Prove the row's statement (the work); the ties are given (YtfcpkehldmehjaaDoorTie.lean); close each card by the builder's one call (the guide's Derived/Test/ToyasCard.lean, 'card_holds'). Laid BY PROGRAM, IN A SANDBOX (cutbox-door.mjs). By AI agents, Wed Nov 11 2026. No macro, syntax, notation, axiom, sorry.
-/
import Derived.Test.YtfcpkehldmehjaaDoorRows
import GoSem.ClaimSeven
namespace Go.Proofs.YtfcpkehldmehjaaDoor
namespace Rows

/-- THE TIED CARD OF 'oculuslaw02.LabelBack'. -/
def labelBackCard : Claim7 := { stood := { row := labelBackRow, standIns := [], harness := (true, "082104a09d2d257e1fdbecbf09d23830929c5102aba5221a79c67c7db62cd7e2"), looks := false }, kinds := [], alts := [], laidByText := true, laidKinds := [.data, .data, .data, .data, .pinned], laidTests := true, laidLooks := .later }
def LabelBackCardSaid : Prop := Claim7.holds Tryd.pinned (.plain (OpenSpec.ofChange labelBackSpec)) labelBackCard

/-- THE TIED CARD OF 'oculuslaw01.CatsOf'. -/
def catsOfCard : Claim7 := { stood := { row := catsOfRow, standIns := [], harness := (true, "082104a09d2d257e1fdbecbf09d23830929c5102aba5221a79c67c7db62cd7e2"), looks := false }, kinds := [], alts := [], laidByText := true, laidKinds := [.data, .data, .data, .data, .pinned], laidTests := true, laidLooks := .later }
def CatsOfCardSaid : Prop := Claim7.holds Tryd.pinned (.plain (OpenSpec.ofChange catsOfSpec)) catsOfCard

/-- THE TIED CARD OF 'oculuslaw01.CatsBack'. -/
def catsBackCard : Claim7 := { stood := { row := catsBackRow, standIns := [], harness := (true, "082104a09d2d257e1fdbecbf09d23830929c5102aba5221a79c67c7db62cd7e2"), looks := false }, kinds := [], alts := [], laidByText := true, laidKinds := [.data, .data, .data, .data, .pinned], laidTests := true, laidLooks := .later }
def CatsBackCardSaid : Prop := Claim7.holds Tryd.pinned (.plain (OpenSpec.ofChange catsBackSpec)) catsBackCard

/-- THE TIED CARD OF 'oculuslaw01.CatsWithin'. -/
def catsWithinCard : Claim7 := { stood := { row := catsWithinRow, standIns := [], harness := (true, "082104a09d2d257e1fdbecbf09d23830929c5102aba5221a79c67c7db62cd7e2"), looks := false }, kinds := [], alts := [], laidByText := true, laidKinds := [.data, .data, .data, .data, .pinned], laidTests := true, laidLooks := .later }
def CatsWithinCardSaid : Prop := Claim7.holds Tryd.pinned (.plain (OpenSpec.ofChange catsWithinSpec)) catsWithinCard

/-- THE TIED CARD OF 'oculuslaw02.LabelLattice'. -/
def labelLatticeCard : Claim7 := { stood := { row := labelLatticeRow, standIns := [], harness := (true, "082104a09d2d257e1fdbecbf09d23830929c5102aba5221a79c67c7db62cd7e2"), looks := false }, kinds := [], alts := [], laidByText := true, laidKinds := [.data, .data, .data, .data, .pinned], laidTests := true, laidLooks := .later }
def LabelLatticeCardSaid : Prop := Claim7.holds Tryd.pinned (.plain (OpenSpec.ofChange labelLatticeSpec)) labelLatticeCard

/-- THE TIED CARD OF 'oculuslaw01.CatsTells'. -/
def catsTellsCard : Claim7 := { stood := { row := catsTellsRow, standIns := [], harness := (true, "082104a09d2d257e1fdbecbf09d23830929c5102aba5221a79c67c7db62cd7e2"), looks := false }, kinds := [], alts := [], laidByText := true, laidKinds := [.data, .data, .data, .data, .pinned], laidTests := true, laidLooks := .later }
def CatsTellsCardSaid : Prop := Claim7.holds Tryd.pinned (.plain (OpenSpec.ofChange catsTellsSpec)) catsTellsCard

/-- THE TIED CARD OF 'oculuslaw02.LabelTells'. -/
def labelTellsCard : Claim7 := { stood := { row := labelTellsRow, standIns := [], harness := (true, "082104a09d2d257e1fdbecbf09d23830929c5102aba5221a79c67c7db62cd7e2"), looks := false }, kinds := [], alts := [], laidByText := true, laidKinds := [.data, .data, .data, .data, .pinned], laidTests := true, laidLooks := .later }
def LabelTellsCardSaid : Prop := Claim7.holds Tryd.pinned (.plain (OpenSpec.ofChange labelTellsSpec)) labelTellsCard

/-- THE SECOND FORM's CARD OF 'oculuslaw02.LabelBack'. -/
def labelBackUptoCard : Claim7 := { stood := { row := labelBackUptoRow, standIns := [], harness := (true, "082104a09d2d257e1fdbecbf09d23830929c5102aba5221a79c67c7db62cd7e2"), looks := false }, kinds := [], alts := [], laidByText := true, laidKinds := [.data, .data, .data, .data, .pinned], laidTests := true, laidLooks := .later }
def LabelBackUptoCardSaid : Prop := Claim7.holds Tryd.pinned (.plain (OpenSpec.upto labelBackSpec)) labelBackUptoCard

/-- THE SECOND FORM's CARD OF 'oculuslaw01.CatsOf'. -/
def catsOfUptoCard : Claim7 := { stood := { row := catsOfUptoRow, standIns := [], harness := (true, "082104a09d2d257e1fdbecbf09d23830929c5102aba5221a79c67c7db62cd7e2"), looks := false }, kinds := [], alts := [], laidByText := true, laidKinds := [.data, .data, .data, .data, .pinned], laidTests := true, laidLooks := .later }
def CatsOfUptoCardSaid : Prop := Claim7.holds Tryd.pinned (.plain (OpenSpec.upto catsOfSpec)) catsOfUptoCard

/-- THE SECOND FORM's CARD OF 'oculuslaw01.CatsBack'. -/
def catsBackUptoCard : Claim7 := { stood := { row := catsBackUptoRow, standIns := [], harness := (true, "082104a09d2d257e1fdbecbf09d23830929c5102aba5221a79c67c7db62cd7e2"), looks := false }, kinds := [], alts := [], laidByText := true, laidKinds := [.data, .data, .data, .data, .pinned], laidTests := true, laidLooks := .later }
def CatsBackUptoCardSaid : Prop := Claim7.holds Tryd.pinned (.plain (OpenSpec.upto catsBackSpec)) catsBackUptoCard

/-- THE SECOND FORM's CARD OF 'oculuslaw01.CatsWithin'. -/
def catsWithinUptoCard : Claim7 := { stood := { row := catsWithinUptoRow, standIns := [], harness := (true, "082104a09d2d257e1fdbecbf09d23830929c5102aba5221a79c67c7db62cd7e2"), looks := false }, kinds := [], alts := [], laidByText := true, laidKinds := [.data, .data, .data, .data, .pinned], laidTests := true, laidLooks := .later }
def CatsWithinUptoCardSaid : Prop := Claim7.holds Tryd.pinned (.plain (OpenSpec.upto catsWithinSpec)) catsWithinUptoCard

/-- THE SECOND FORM's CARD OF 'oculuslaw02.LabelLattice'. -/
def labelLatticeUptoCard : Claim7 := { stood := { row := labelLatticeUptoRow, standIns := [], harness := (true, "082104a09d2d257e1fdbecbf09d23830929c5102aba5221a79c67c7db62cd7e2"), looks := false }, kinds := [], alts := [], laidByText := true, laidKinds := [.data, .data, .data, .data, .pinned], laidTests := true, laidLooks := .later }
def LabelLatticeUptoCardSaid : Prop := Claim7.holds Tryd.pinned (.plain (OpenSpec.upto labelLatticeSpec)) labelLatticeUptoCard

/-- THE SECOND FORM's CARD OF 'oculuslaw01.CatsTells'. -/
def catsTellsUptoCard : Claim7 := { stood := { row := catsTellsUptoRow, standIns := [], harness := (true, "082104a09d2d257e1fdbecbf09d23830929c5102aba5221a79c67c7db62cd7e2"), looks := false }, kinds := [], alts := [], laidByText := true, laidKinds := [.data, .data, .data, .data, .pinned], laidTests := true, laidLooks := .later }
def CatsTellsUptoCardSaid : Prop := Claim7.holds Tryd.pinned (.plain (OpenSpec.upto catsTellsSpec)) catsTellsUptoCard

/-- THE SECOND FORM's CARD OF 'oculuslaw02.LabelTells'. -/
def labelTellsUptoCard : Claim7 := { stood := { row := labelTellsUptoRow, standIns := [], harness := (true, "082104a09d2d257e1fdbecbf09d23830929c5102aba5221a79c67c7db62cd7e2"), looks := false }, kinds := [], alts := [], laidByText := true, laidKinds := [.data, .data, .data, .data, .pinned], laidTests := true, laidLooks := .later }
def LabelTellsUptoCardSaid : Prop := Claim7.holds Tryd.pinned (.plain (OpenSpec.upto labelTellsSpec)) labelTellsUptoCard
end Rows
end Go.Proofs.YtfcpkehldmehjaaDoor
