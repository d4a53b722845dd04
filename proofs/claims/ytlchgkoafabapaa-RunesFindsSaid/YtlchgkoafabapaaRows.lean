/-
  No cell of these rows narrows 'for every input' (looked for: loops, veiled, ifaces, maps, wideKeys, modest, calm, conditions, laid).
  DERIVED. THE GIVEN ROWS OF THIS SEAT. 10 by the template 'for every input the law returns true; each argument reads behind the call as it read before'; 0 by the template 'total and deterministic' (their statements: YtlchgkoafabapaaTotals.lean).
  GIVEN WITH THE SEED: the statements are not yours to turn. If you find one false, say at which input.
  Laid BY PROGRAM, IN A SANDBOX (cutbox-rows.mjs): the forced cells as the released guide's own fill.sh prints them over the translation ec75443d045179c2… (all of the seat's roots in one cut). By AI agents, Wed Nov 11 2026. No macro, syntax, notation, axiom, sorry.
-/
import Derived.Test.YtlchgkoafabapaaChecked
import GoSem.Claim
import GoSem.ClaimJoined
import GoSem.ClaimMapViews
import Derived.JoinedTies
import Derived.KernelRfl
namespace Go.Proofs.Ytlchgkoafabapaa
/- THE CELL 'sum', in the pinned program and in every row, IS THE sha256 OF THE DUMP (.gsa) THAT YtlchgkoafabapaaProg.lean LOADS. Nothing in Lean hashes anything: it is a label: what it is worth is what the hold of that sum in a sandbox is worth. -/
noncomputable def Try.pinned : Pinned := { name := "ytlchgkoafabapaa", sum := "ec75443d045179c242961595e00a8c6d3419ece5ed642d991eebec64f13d2a67", checked := Try.checked }
namespace Rows
def none {H : Type} : Left H := { results := [], args := [] }

/-- 'oculuslaw33.ReleaseLowers': WHATEVER THE INPUT: true; the input reads as it did. -/
def releaseLowersSpec : ChangeSpec := { name := "releaseLowers", fn := fun _ => fun
  | [d1, d2, d3] => { results := [.lit (.bool true)], args := [d1, d2, d3] }
  | _ => none }
def releaseLowersRow : OpenClaim := { program := "ytlchgkoafabapaa", sum := "ec75443d045179c242961595e00a8c6d3419ece5ed642d991eebec64f13d2a67", func := "oculus/oculuslaw33.ReleaseLowers", spec := "releaseLowers", apart := false }
def ReleaseLowersSaid : Prop := releaseLowersRow.holds Try.pinned (OpenSpec.ofChange releaseLowersSpec)

/-- ITS FALSE NEIGHBOUR: 'it returns false'. Refute it at one input. -/
def releaseLowersWrong : ChangeSpec := { name := "releaseLowers", fn := fun _ => fun
  | [d1, d2, d3] => { results := [.lit (.bool false)], args := [d1, d2, d3] }
  | _ => none }
def ReleaseLowersWrongFalsely : Prop := releaseLowersRow.holds Try.pinned (OpenSpec.ofChange releaseLowersWrong)

/-- 'oculuslaw33.ReleaseBound': WHATEVER THE INPUT: true; the input reads as it did. -/
def releaseBoundSpec : ChangeSpec := { name := "releaseBound", fn := fun _ => fun
  | [d1, d2, d3] => { results := [.lit (.bool true)], args := [d1, d2, d3] }
  | _ => none }
def releaseBoundRow : OpenClaim := { program := "ytlchgkoafabapaa", sum := "ec75443d045179c242961595e00a8c6d3419ece5ed642d991eebec64f13d2a67", func := "oculus/oculuslaw33.ReleaseBound", spec := "releaseBound", apart := false }
def ReleaseBoundSaid : Prop := releaseBoundRow.holds Try.pinned (OpenSpec.ofChange releaseBoundSpec)

/-- ITS FALSE NEIGHBOUR: 'it returns false'. Refute it at one input. -/
def releaseBoundWrong : ChangeSpec := { name := "releaseBound", fn := fun _ => fun
  | [d1, d2, d3] => { results := [.lit (.bool false)], args := [d1, d2, d3] }
  | _ => none }
def ReleaseBoundWrongFalsely : Prop := releaseBoundRow.holds Try.pinned (OpenSpec.ofChange releaseBoundWrong)

/-- 'oculuslaw35.ChaseApart': WHATEVER THE INPUT: true; the input reads as it did. -/
def chaseApartSpec : ChangeSpec := { name := "chaseApart", fn := fun _ => fun
  | [d1, d2, d3] => { results := [.lit (.bool true)], args := [d1, d2, d3] }
  | _ => none }
def chaseApartRow : OpenClaim := { program := "ytlchgkoafabapaa", sum := "ec75443d045179c242961595e00a8c6d3419ece5ed642d991eebec64f13d2a67", func := "oculus/oculuslaw35.ChaseApart", spec := "chaseApart", apart := false }
def ChaseApartSaid : Prop := chaseApartRow.holds Try.pinned (OpenSpec.ofChange chaseApartSpec)

/-- ITS FALSE NEIGHBOUR: 'it returns false'. Refute it at one input. -/
def chaseApartWrong : ChangeSpec := { name := "chaseApart", fn := fun _ => fun
  | [d1, d2, d3] => { results := [.lit (.bool false)], args := [d1, d2, d3] }
  | _ => none }
def ChaseApartWrongFalsely : Prop := chaseApartRow.holds Try.pinned (OpenSpec.ofChange chaseApartWrong)

/-- 'oculuslaw13.RunesCut': WHATEVER THE INPUT: true; the input reads as it did. -/
def runesCutSpec : ChangeSpec := { name := "runesCut", fn := fun _ => fun
  | [d1, d2, d3] => { results := [.lit (.bool true)], args := [d1, d2, d3] }
  | _ => none }
def runesCutRow : OpenClaim := { program := "ytlchgkoafabapaa", sum := "ec75443d045179c242961595e00a8c6d3419ece5ed642d991eebec64f13d2a67", func := "oculus/oculuslaw13.RunesCut", spec := "runesCut", apart := false }
def RunesCutSaid : Prop := runesCutRow.holds Try.pinned (OpenSpec.ofChange runesCutSpec)

/-- ITS FALSE NEIGHBOUR: 'it returns false'. Refute it at one input. -/
def runesCutWrong : ChangeSpec := { name := "runesCut", fn := fun _ => fun
  | [d1, d2, d3] => { results := [.lit (.bool false)], args := [d1, d2, d3] }
  | _ => none }
def RunesCutWrongFalsely : Prop := runesCutRow.holds Try.pinned (OpenSpec.ofChange runesCutWrong)

/-- 'oculuslaw13.RunesSplit': WHATEVER THE INPUT: true; the input reads as it did. -/
def runesSplitSpec : ChangeSpec := { name := "runesSplit", fn := fun _ => fun
  | [d1, d2] => { results := [.lit (.bool true)], args := [d1, d2] }
  | _ => none }
def runesSplitRow : OpenClaim := { program := "ytlchgkoafabapaa", sum := "ec75443d045179c242961595e00a8c6d3419ece5ed642d991eebec64f13d2a67", func := "oculus/oculuslaw13.RunesSplit", spec := "runesSplit", apart := false }
def RunesSplitSaid : Prop := runesSplitRow.holds Try.pinned (OpenSpec.ofChange runesSplitSpec)

/-- ITS FALSE NEIGHBOUR: 'it returns false'. Refute it at one input. -/
def runesSplitWrong : ChangeSpec := { name := "runesSplit", fn := fun _ => fun
  | [d1, d2] => { results := [.lit (.bool false)], args := [d1, d2] }
  | _ => none }
def RunesSplitWrongFalsely : Prop := runesSplitRow.holds Try.pinned (OpenSpec.ofChange runesSplitWrong)

/-- 'oculuslaw13.RunesFinds': WHATEVER THE INPUT: true; the input reads as it did. -/
def runesFindsSpec : ChangeSpec := { name := "runesFinds", fn := fun _ => fun
  | [d1, d2] => { results := [.lit (.bool true)], args := [d1, d2] }
  | _ => none }
def runesFindsRow : OpenClaim := { program := "ytlchgkoafabapaa", sum := "ec75443d045179c242961595e00a8c6d3419ece5ed642d991eebec64f13d2a67", func := "oculus/oculuslaw13.RunesFinds", spec := "runesFinds", apart := false }
def RunesFindsSaid : Prop := runesFindsRow.holds Try.pinned (OpenSpec.ofChange runesFindsSpec)

/-- ITS FALSE NEIGHBOUR: 'it returns false'. Refute it at one input. -/
def runesFindsWrong : ChangeSpec := { name := "runesFinds", fn := fun _ => fun
  | [d1, d2] => { results := [.lit (.bool false)], args := [d1, d2] }
  | _ => none }
def RunesFindsWrongFalsely : Prop := runesFindsRow.holds Try.pinned (OpenSpec.ofChange runesFindsWrong)

/-- 'oculuslaw06.RightLowers': WHATEVER THE INPUT: true; the input reads as it did. -/
def rightLowersSpec : ChangeSpec := { name := "rightLowers", fn := fun _ => fun
  | [d1, d2, d3] => { results := [.lit (.bool true)], args := [d1, d2, d3] }
  | _ => none }
def rightLowersRow : OpenClaim := { program := "ytlchgkoafabapaa", sum := "ec75443d045179c242961595e00a8c6d3419ece5ed642d991eebec64f13d2a67", func := "oculus/oculuslaw06.RightLowers", spec := "rightLowers", apart := false }
def RightLowersSaid : Prop := rightLowersRow.holds Try.pinned (OpenSpec.ofChange rightLowersSpec)

/-- ITS FALSE NEIGHBOUR: 'it returns false'. Refute it at one input. -/
def rightLowersWrong : ChangeSpec := { name := "rightLowers", fn := fun _ => fun
  | [d1, d2, d3] => { results := [.lit (.bool false)], args := [d1, d2, d3] }
  | _ => none }
def RightLowersWrongFalsely : Prop := rightLowersRow.holds Try.pinned (OpenSpec.ofChange rightLowersWrong)

/-- 'oculuslaw06.RightBound': WHATEVER THE INPUT: true; the input reads as it did. -/
def rightBoundSpec : ChangeSpec := { name := "rightBound", fn := fun _ => fun
  | [d1, d2, d3] => { results := [.lit (.bool true)], args := [d1, d2, d3] }
  | _ => none }
def rightBoundRow : OpenClaim := { program := "ytlchgkoafabapaa", sum := "ec75443d045179c242961595e00a8c6d3419ece5ed642d991eebec64f13d2a67", func := "oculus/oculuslaw06.RightBound", spec := "rightBound", apart := false }
def RightBoundSaid : Prop := rightBoundRow.holds Try.pinned (OpenSpec.ofChange rightBoundSpec)

/-- ITS FALSE NEIGHBOUR: 'it returns false'. Refute it at one input. -/
def rightBoundWrong : ChangeSpec := { name := "rightBound", fn := fun _ => fun
  | [d1, d2, d3] => { results := [.lit (.bool false)], args := [d1, d2, d3] }
  | _ => none }
def RightBoundWrongFalsely : Prop := rightBoundRow.holds Try.pinned (OpenSpec.ofChange rightBoundWrong)

/-- 'oculuslaw06.RightGrants': WHATEVER THE INPUT: true; the input reads as it did. -/
def rightGrantsSpec : ChangeSpec := { name := "rightGrants", fn := fun _ => fun
  | [d1, d2] => { results := [.lit (.bool true)], args := [d1, d2] }
  | _ => none }
def rightGrantsRow : OpenClaim := { program := "ytlchgkoafabapaa", sum := "ec75443d045179c242961595e00a8c6d3419ece5ed642d991eebec64f13d2a67", func := "oculus/oculuslaw06.RightGrants", spec := "rightGrants", apart := false }
def RightGrantsSaid : Prop := rightGrantsRow.holds Try.pinned (OpenSpec.ofChange rightGrantsSpec)

/-- ITS FALSE NEIGHBOUR: 'it returns false'. Refute it at one input. -/
def rightGrantsWrong : ChangeSpec := { name := "rightGrants", fn := fun _ => fun
  | [d1, d2] => { results := [.lit (.bool false)], args := [d1, d2] }
  | _ => none }
def RightGrantsWrongFalsely : Prop := rightGrantsRow.holds Try.pinned (OpenSpec.ofChange rightGrantsWrong)

/-- 'oculuslaw06.RightActs': WHATEVER THE INPUT: true; the input reads as it did. -/
def rightActsSpec : ChangeSpec := { name := "rightActs", fn := fun _ => fun
  | [d1, d2, d3] => { results := [.lit (.bool true)], args := [d1, d2, d3] }
  | _ => none }
def rightActsRow : OpenClaim := { program := "ytlchgkoafabapaa", sum := "ec75443d045179c242961595e00a8c6d3419ece5ed642d991eebec64f13d2a67", func := "oculus/oculuslaw06.RightActs", spec := "rightActs", apart := false }
def RightActsSaid : Prop := rightActsRow.holds Try.pinned (OpenSpec.ofChange rightActsSpec)

/-- ITS FALSE NEIGHBOUR: 'it returns false'. Refute it at one input. -/
def rightActsWrong : ChangeSpec := { name := "rightActs", fn := fun _ => fun
  | [d1, d2, d3] => { results := [.lit (.bool false)], args := [d1, d2, d3] }
  | _ => none }
def RightActsWrongFalsely : Prop := rightActsRow.holds Try.pinned (OpenSpec.ofChange rightActsWrong)

/- THE SECOND FORM. 'bulk': how many values and letters a reading holds, each counted each time it is reached (what is shared counts as often as it is met; a slice's spare places count too). A statement '..UptoSaid' is the law's where the arguments, and the package variables that the reading takes, are together of bulk at most 1048576: NARROWER than '..Said'. Prove '..Said' where nothing that the law and all that it calls make is longer than what came in: it says more and counts as full. Else prove '..UptoSaid'. A law counts once. -/
mutual
def uptoBulk {H : Type} : DataW H → Nat
  | .lit (.string bytes) => bytes.length + 1
  | .lit _ => 1
  | .nil => 1
  | .ptr d => uptoBulk d + 1
  | .slice elems spare => uptoBulkAll elems + uptoBulkAll spare + 1
  | .agg parts => uptoBulkAll parts + 1
  | .iface _ d => uptoBulk d + 1
  | .map entries => uptoBulkEntries entries + 1
  | .held _ => 1
def uptoBulkAll {H : Type} : List (DataW H) → Nat
  | [] => 0
  | d :: r => uptoBulk d + uptoBulkAll r
def uptoBulkEntries {H : Type} : List (Lit × DataW H) → Nat
  | [] => 0
  | x :: r => uptoBulkEntry x + uptoBulkEntries r
def uptoBulkEntry {H : Type} : Lit × DataW H → Nat
  | (.string bytes, d) => bytes.length + uptoBulk d + 1
  | (_, d) => uptoBulk d + 1
 end
def uptoSmall : (H : Type) → List (DataW H) → Bool := fun _ ds => decide (uptoBulkAll ds ≤ 1048576)
def OpenSpec.upto (s : _root_.Go.ChangeSpec) : _root_.Go.OpenSpec := { _root_.Go.OpenSpec.ofChange s with cond := some uptoSmall }

/-- 'oculuslaw33.ReleaseLowers', WHERE WHAT IT READS IS OF BULK AT MOST 1048576: true; the input reads as it did. -/
def releaseLowersUptoRow : OpenClaim := { program := "ytlchgkoafabapaa", sum := "ec75443d045179c242961595e00a8c6d3419ece5ed642d991eebec64f13d2a67", func := "oculus/oculuslaw33.ReleaseLowers", spec := "releaseLowers", apart := false, narrowed := true }
def ReleaseLowersUptoSaid : Prop := releaseLowersUptoRow.holds Try.pinned (OpenSpec.upto releaseLowersSpec)

/-- 'oculuslaw33.ReleaseBound', WHERE WHAT IT READS IS OF BULK AT MOST 1048576: true; the input reads as it did. -/
def releaseBoundUptoRow : OpenClaim := { program := "ytlchgkoafabapaa", sum := "ec75443d045179c242961595e00a8c6d3419ece5ed642d991eebec64f13d2a67", func := "oculus/oculuslaw33.ReleaseBound", spec := "releaseBound", apart := false, narrowed := true }
def ReleaseBoundUptoSaid : Prop := releaseBoundUptoRow.holds Try.pinned (OpenSpec.upto releaseBoundSpec)

/-- 'oculuslaw35.ChaseApart', WHERE WHAT IT READS IS OF BULK AT MOST 1048576: true; the input reads as it did. -/
def chaseApartUptoRow : OpenClaim := { program := "ytlchgkoafabapaa", sum := "ec75443d045179c242961595e00a8c6d3419ece5ed642d991eebec64f13d2a67", func := "oculus/oculuslaw35.ChaseApart", spec := "chaseApart", apart := false, narrowed := true }
def ChaseApartUptoSaid : Prop := chaseApartUptoRow.holds Try.pinned (OpenSpec.upto chaseApartSpec)

/-- 'oculuslaw13.RunesCut', WHERE WHAT IT READS IS OF BULK AT MOST 1048576: true; the input reads as it did. -/
def runesCutUptoRow : OpenClaim := { program := "ytlchgkoafabapaa", sum := "ec75443d045179c242961595e00a8c6d3419ece5ed642d991eebec64f13d2a67", func := "oculus/oculuslaw13.RunesCut", spec := "runesCut", apart := false, narrowed := true }
def RunesCutUptoSaid : Prop := runesCutUptoRow.holds Try.pinned (OpenSpec.upto runesCutSpec)

/-- 'oculuslaw13.RunesSplit', WHERE WHAT IT READS IS OF BULK AT MOST 1048576: true; the input reads as it did. -/
def runesSplitUptoRow : OpenClaim := { program := "ytlchgkoafabapaa", sum := "ec75443d045179c242961595e00a8c6d3419ece5ed642d991eebec64f13d2a67", func := "oculus/oculuslaw13.RunesSplit", spec := "runesSplit", apart := false, narrowed := true }
def RunesSplitUptoSaid : Prop := runesSplitUptoRow.holds Try.pinned (OpenSpec.upto runesSplitSpec)

/-- 'oculuslaw13.RunesFinds', WHERE WHAT IT READS IS OF BULK AT MOST 1048576: true; the input reads as it did. -/
def runesFindsUptoRow : OpenClaim := { program := "ytlchgkoafabapaa", sum := "ec75443d045179c242961595e00a8c6d3419ece5ed642d991eebec64f13d2a67", func := "oculus/oculuslaw13.RunesFinds", spec := "runesFinds", apart := false, narrowed := true }
def RunesFindsUptoSaid : Prop := runesFindsUptoRow.holds Try.pinned (OpenSpec.upto runesFindsSpec)

/-- 'oculuslaw06.RightLowers', WHERE WHAT IT READS IS OF BULK AT MOST 1048576: true; the input reads as it did. -/
def rightLowersUptoRow : OpenClaim := { program := "ytlchgkoafabapaa", sum := "ec75443d045179c242961595e00a8c6d3419ece5ed642d991eebec64f13d2a67", func := "oculus/oculuslaw06.RightLowers", spec := "rightLowers", apart := false, narrowed := true }
def RightLowersUptoSaid : Prop := rightLowersUptoRow.holds Try.pinned (OpenSpec.upto rightLowersSpec)

/-- 'oculuslaw06.RightBound', WHERE WHAT IT READS IS OF BULK AT MOST 1048576: true; the input reads as it did. -/
def rightBoundUptoRow : OpenClaim := { program := "ytlchgkoafabapaa", sum := "ec75443d045179c242961595e00a8c6d3419ece5ed642d991eebec64f13d2a67", func := "oculus/oculuslaw06.RightBound", spec := "rightBound", apart := false, narrowed := true }
def RightBoundUptoSaid : Prop := rightBoundUptoRow.holds Try.pinned (OpenSpec.upto rightBoundSpec)

/-- 'oculuslaw06.RightGrants', WHERE WHAT IT READS IS OF BULK AT MOST 1048576: true; the input reads as it did. -/
def rightGrantsUptoRow : OpenClaim := { program := "ytlchgkoafabapaa", sum := "ec75443d045179c242961595e00a8c6d3419ece5ed642d991eebec64f13d2a67", func := "oculus/oculuslaw06.RightGrants", spec := "rightGrants", apart := false, narrowed := true }
def RightGrantsUptoSaid : Prop := rightGrantsUptoRow.holds Try.pinned (OpenSpec.upto rightGrantsSpec)

/-- 'oculuslaw06.RightActs', WHERE WHAT IT READS IS OF BULK AT MOST 1048576: true; the input reads as it did. -/
def rightActsUptoRow : OpenClaim := { program := "ytlchgkoafabapaa", sum := "ec75443d045179c242961595e00a8c6d3419ece5ed642d991eebec64f13d2a67", func := "oculus/oculuslaw06.RightActs", spec := "rightActs", apart := false, narrowed := true }
def RightActsUptoSaid : Prop := rightActsUptoRow.holds Try.pinned (OpenSpec.upto rightActsSpec)

end Rows
end Go.Proofs.Ytlchgkoafabapaa
