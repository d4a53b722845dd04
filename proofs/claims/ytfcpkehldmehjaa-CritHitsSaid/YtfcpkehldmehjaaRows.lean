/-
  No cell of these rows narrows 'for every input' (looked for: loops, veiled, ifaces, maps, wideKeys, modest, calm, conditions, laid).
  DERIVED. THE GIVEN ROWS OF THIS SEAT. 3 by the template 'for every input the law returns true; each argument reads behind the call as it read before'; 0 by the template 'total and deterministic' (their statements: YtfcpkehldmehjaaTotals.lean).
  GIVEN WITH THE SEED: the statements are not yours to turn. If you find one false, say at which input.
  Laid BY PROGRAM, IN A SANDBOX (cutbox-rows.mjs): the forced cells as the released guide's own fill.sh prints them over the translation f0f095dad9adfaab… (all of the seat's roots in one cut). By AI agents, Wed Nov 11 2026. No macro, syntax, notation, axiom, sorry.
-/
import Derived.Test.YtfcpkehldmehjaaChecked
import GoSem.Claim
import GoSem.ClaimJoined
import GoSem.ClaimMapViews
import Derived.JoinedTies
import Derived.KernelRfl
namespace Go.Proofs.Ytfcpkehldmehjaa
/- THE CELL 'sum', in the pinned program and in every row, IS THE sha256 OF THE DUMP (.gsa) THAT YtfcpkehldmehjaaProg.lean LOADS. Nothing in Lean hashes anything: it is a label: what it is worth is what the hold of that sum in a sandbox is worth. -/
noncomputable def Try.pinned : Pinned := { name := "ytfcpkehldmehjaa", sum := "f0f095dad9adfaab588f57e05a4b681680403d259df9404f73764c53d0d1dc44", checked := Try.checked }
namespace Rows
def none {H : Type} : Left H := { results := [], args := [] }

/-- 'oculuslaw17.CritOf': WHATEVER THE INPUT: true; the input reads as it did. -/
def critOfSpec : ChangeSpec := { name := "critOf", fn := fun _ => fun
  | [d] => { results := [.lit (.bool true)], args := [d] }
  | _ => none }
def critOfRow : OpenClaim := { program := "ytfcpkehldmehjaa", sum := "f0f095dad9adfaab588f57e05a4b681680403d259df9404f73764c53d0d1dc44", func := "oculus/oculuslaw17.CritOf", spec := "critOf", inPlace := ["internal/bytealg.IndexByteString", "internal/bytealg.IndexString", "internal/bytealg.abigen_runtime_cmpstring"], named := ["internal/bytealg.MaxLen", "math/bits.divideError", "math/bits.overflowError"], apart := false }
def CritOfSaid : Prop := critOfRow.holds Try.pinned (OpenSpec.ofChange critOfSpec)

/-- ITS FALSE NEIGHBOUR: 'it returns false'. Refute it at one input. -/
def critOfWrong : ChangeSpec := { name := "critOf", fn := fun _ => fun
  | [d] => { results := [.lit (.bool false)], args := [d] }
  | _ => none }
def CritOfWrongFalsely : Prop := critOfRow.holds Try.pinned (OpenSpec.ofChange critOfWrong)

/-- 'oculuslaw17.CritLike': WHATEVER THE INPUT: true; the input reads as it did. -/
def critLikeSpec : ChangeSpec := { name := "critLike", fn := fun _ => fun
  | [d1, d2, d3] => { results := [.lit (.bool true)], args := [d1, d2, d3] }
  | _ => none }
def critLikeRow : OpenClaim := { program := "ytfcpkehldmehjaa", sum := "f0f095dad9adfaab588f57e05a4b681680403d259df9404f73764c53d0d1dc44", func := "oculus/oculuslaw17.CritLike", spec := "critLike", inPlace := ["internal/bytealg.IndexByteString", "internal/bytealg.IndexString", "internal/bytealg.abigen_runtime_cmpstring"], named := ["internal/bytealg.MaxLen", "math/bits.divideError", "math/bits.overflowError"], apart := false }
def CritLikeSaid : Prop := critLikeRow.holds Try.pinned (OpenSpec.ofChange critLikeSpec)

/-- ITS FALSE NEIGHBOUR: 'it returns false'. Refute it at one input. -/
def critLikeWrong : ChangeSpec := { name := "critLike", fn := fun _ => fun
  | [d1, d2, d3] => { results := [.lit (.bool false)], args := [d1, d2, d3] }
  | _ => none }
def CritLikeWrongFalsely : Prop := critLikeRow.holds Try.pinned (OpenSpec.ofChange critLikeWrong)

/-- 'oculuslaw17.CritHits': WHATEVER THE INPUT: true; the input reads as it did. -/
def critHitsSpec : ChangeSpec := { name := "critHits", fn := fun _ => fun
  | [d1, d2] => { results := [.lit (.bool true)], args := [d1, d2] }
  | _ => none }
def critHitsRow : OpenClaim := { program := "ytfcpkehldmehjaa", sum := "f0f095dad9adfaab588f57e05a4b681680403d259df9404f73764c53d0d1dc44", func := "oculus/oculuslaw17.CritHits", spec := "critHits", inPlace := ["internal/bytealg.IndexByteString", "internal/bytealg.IndexString", "internal/bytealg.abigen_runtime_cmpstring"], named := ["internal/bytealg.MaxLen", "math/bits.divideError", "math/bits.overflowError"], apart := false }
def CritHitsSaid : Prop := critHitsRow.holds Try.pinned (OpenSpec.ofChange critHitsSpec)

/-- ITS FALSE NEIGHBOUR: 'it returns false'. Refute it at one input. -/
def critHitsWrong : ChangeSpec := { name := "critHits", fn := fun _ => fun
  | [d1, d2] => { results := [.lit (.bool false)], args := [d1, d2] }
  | _ => none }
def CritHitsWrongFalsely : Prop := critHitsRow.holds Try.pinned (OpenSpec.ofChange critHitsWrong)

/- THE SECOND FORM. 'bulk': how many values and letters a reading holds, each counted each time it is reached (what is shared counts as often as it is met; a slice's spare places count too). A statement '..UptoSaid' is the law's where the arguments, and the package variables that the reading takes, are together of bulk at most 1048576: NARROWER than '..Said'. Prove '..Said' where nothing that the law and all that it calls make is longer than what came in: it says more and counts as full. Else prove '..UptoSaid'. A law counts once. -/
mutual
def uptoBulk {H : Type} : DataW H → Nat
  | .lit (.string bytes) => bytes.length + 1
  | .lit _ => 1
  | .nil => 1
  | .ptr d => uptoBulk d + 1
  | .slice elems spare => uptoBulkAll elems + uptoBulkAll spare + 1
  | .agg parts => uptoBulkAll parts + 1
  | .iface _ d => uptoBulk d + 1
  | .map entries => uptoBulkEntries entries + 1
  | .held _ => 1
def uptoBulkAll {H : Type} : List (DataW H) → Nat
  | [] => 0
  | d :: r => uptoBulk d + uptoBulkAll r
def uptoBulkEntries {H : Type} : List (Lit × DataW H) → Nat
  | [] => 0
  | x :: r => uptoBulkEntry x + uptoBulkEntries r
def uptoBulkEntry {H : Type} : Lit × DataW H → Nat
  | (.string bytes, d) => bytes.length + uptoBulk d + 1
  | (_, d) => uptoBulk d + 1
 end
def uptoSmall : (H : Type) → List (DataW H) → Bool := fun _ ds => decide (uptoBulkAll ds ≤ 1048576)
def OpenSpec.upto (s : _root_.Go.ChangeSpec) : _root_.Go.OpenSpec := { _root_.Go.OpenSpec.ofChange s with cond := some uptoSmall }

/-- 'oculuslaw17.CritOf', WHERE WHAT IT READS IS OF BULK AT MOST 1048576: true; the input reads as it did. -/
def critOfUptoRow : OpenClaim := { program := "ytfcpkehldmehjaa", sum := "f0f095dad9adfaab588f57e05a4b681680403d259df9404f73764c53d0d1dc44", func := "oculus/oculuslaw17.CritOf", spec := "critOf", inPlace := ["internal/bytealg.IndexByteString", "internal/bytealg.IndexString", "internal/bytealg.abigen_runtime_cmpstring"], named := ["internal/bytealg.MaxLen", "math/bits.divideError", "math/bits.overflowError"], apart := false, narrowed := true }
def CritOfUptoSaid : Prop := critOfUptoRow.holds Try.pinned (OpenSpec.upto critOfSpec)

/-- 'oculuslaw17.CritLike', WHERE WHAT IT READS IS OF BULK AT MOST 1048576: true; the input reads as it did. -/
def critLikeUptoRow : OpenClaim := { program := "ytfcpkehldmehjaa", sum := "f0f095dad9adfaab588f57e05a4b681680403d259df9404f73764c53d0d1dc44", func := "oculus/oculuslaw17.CritLike", spec := "critLike", inPlace := ["internal/bytealg.IndexByteString", "internal/bytealg.IndexString", "internal/bytealg.abigen_runtime_cmpstring"], named := ["internal/bytealg.MaxLen", "math/bits.divideError", "math/bits.overflowError"], apart := false, narrowed := true }
def CritLikeUptoSaid : Prop := critLikeUptoRow.holds Try.pinned (OpenSpec.upto critLikeSpec)

/-- 'oculuslaw17.CritHits', WHERE WHAT IT READS IS OF BULK AT MOST 1048576: true; the input reads as it did. -/
def critHitsUptoRow : OpenClaim := { program := "ytfcpkehldmehjaa", sum := "f0f095dad9adfaab588f57e05a4b681680403d259df9404f73764c53d0d1dc44", func := "oculus/oculuslaw17.CritHits", spec := "critHits", inPlace := ["internal/bytealg.IndexByteString", "internal/bytealg.IndexString", "internal/bytealg.abigen_runtime_cmpstring"], named := ["internal/bytealg.MaxLen", "math/bits.divideError", "math/bits.overflowError"], apart := false, narrowed := true }
def CritHitsUptoSaid : Prop := critHitsUptoRow.holds Try.pinned (OpenSpec.upto critHitsSpec)

end Rows
end Go.Proofs.Ytfcpkehldmehjaa
