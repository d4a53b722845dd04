/-
  No cell of these rows narrows 'for every input' (looked for: loops, veiled, ifaces, maps, wideKeys, modest, calm, conditions, laid).
  DERIVED. THE GIVEN ROWS OF THIS SEAT. 5 by the template 'for every input the law returns true; each argument reads behind the call as it read before'; 0 by the template 'total and deterministic' (their statements: YtjbdljolpkkhcaaTotals.lean).
  GIVEN WITH THE SEED: the statements are not yours to turn. If you find one false, say at which input.
  Laid BY PROGRAM, IN A SANDBOX (cutbox-rows.mjs): the forced cells as the released guide's own fill.sh prints them over the translation 074c9e7f2d4a6861… (all of the seat's roots in one cut). By AI agents, Wed Nov 11 2026. No macro, syntax, notation, axiom, sorry.
-/
import Derived.Test.YtjbdljolpkkhcaaChecked
import GoSem.Claim
import GoSem.ClaimJoined
import GoSem.ClaimMapViews
import Derived.JoinedTies
import Derived.KernelRfl
namespace Go.Proofs.Ytjbdljolpkkhcaa
/- THE CELL 'sum', in the pinned program and in every row, IS THE sha256 OF THE DUMP (.gsa) THAT YtjbdljolpkkhcaaProg.lean LOADS. Nothing in Lean hashes anything: it is a label: what it is worth is what the hold of that sum in a sandbox is worth. -/
noncomputable def Try.pinned : Pinned := { name := "ytjbdljolpkkhcaa", sum := "074c9e7f2d4a68619b9a35f4ee852a78e11604869ceb7e93821c9cf0ee656ab3", checked := Try.checked }
namespace Rows
def none {H : Type} : Left H := { results := [], args := [] }

/-- 'oculuslaw05.ZoneBehind': WHATEVER THE INPUT: true; the input reads as it did. -/
def zoneBehindSpec : ChangeSpec := { name := "zoneBehind", fn := fun _ => fun
  | [d1, d2, d3] => { results := [.lit (.bool true)], args := [d1, d2, d3] }
  | _ => none }
def zoneBehindRow : OpenClaim := { program := "ytjbdljolpkkhcaa", sum := "074c9e7f2d4a68619b9a35f4ee852a78e11604869ceb7e93821c9cf0ee656ab3", func := "oculus/oculuslaw05.ZoneBehind", spec := "zoneBehind", unfollowed := true, recurses := true, apart := false }
def ZoneBehindSaid : Prop := zoneBehindRow.holds Try.pinned (OpenSpec.ofChange zoneBehindSpec)

/-- ITS FALSE NEIGHBOUR: 'it returns false'. Refute it at one input. -/
def zoneBehindWrong : ChangeSpec := { name := "zoneBehind", fn := fun _ => fun
  | [d1, d2, d3] => { results := [.lit (.bool false)], args := [d1, d2, d3] }
  | _ => none }
def ZoneBehindWrongFalsely : Prop := zoneBehindRow.holds Try.pinned (OpenSpec.ofChange zoneBehindWrong)

/-- 'oculuslaw05.ZoneWrong': WHATEVER THE INPUT: true; the input reads as it did. -/
def zoneWrongSpec : ChangeSpec := { name := "zoneWrong", fn := fun _ => fun
  | [d1, d2, d3] => { results := [.lit (.bool true)], args := [d1, d2, d3] }
  | _ => none }
def zoneWrongRow : OpenClaim := { program := "ytjbdljolpkkhcaa", sum := "074c9e7f2d4a68619b9a35f4ee852a78e11604869ceb7e93821c9cf0ee656ab3", func := "oculus/oculuslaw05.ZoneWrong", spec := "zoneWrong", unfollowed := true, recurses := true, apart := false }
def ZoneWrongSaid : Prop := zoneWrongRow.holds Try.pinned (OpenSpec.ofChange zoneWrongSpec)

/-- ITS FALSE NEIGHBOUR: 'it returns false'. Refute it at one input. -/
def zoneWrongWrong : ChangeSpec := { name := "zoneWrong", fn := fun _ => fun
  | [d1, d2, d3] => { results := [.lit (.bool false)], args := [d1, d2, d3] }
  | _ => none }
def ZoneWrongWrongFalsely : Prop := zoneWrongRow.holds Try.pinned (OpenSpec.ofChange zoneWrongWrong)

/-- 'oculuslaw05.ZoneOver': WHATEVER THE INPUT: true; the input reads as it did. -/
def zoneOverSpec : ChangeSpec := { name := "zoneOver", fn := fun _ => fun
  | [d1, d2, d3] => { results := [.lit (.bool true)], args := [d1, d2, d3] }
  | _ => none }
def zoneOverRow : OpenClaim := { program := "ytjbdljolpkkhcaa", sum := "074c9e7f2d4a68619b9a35f4ee852a78e11604869ceb7e93821c9cf0ee656ab3", func := "oculus/oculuslaw05.ZoneOver", spec := "zoneOver", unfollowed := true, recurses := true, apart := false }
def ZoneOverSaid : Prop := zoneOverRow.holds Try.pinned (OpenSpec.ofChange zoneOverSpec)

/-- ITS FALSE NEIGHBOUR: 'it returns false'. Refute it at one input. -/
def zoneOverWrong : ChangeSpec := { name := "zoneOver", fn := fun _ => fun
  | [d1, d2, d3] => { results := [.lit (.bool false)], args := [d1, d2, d3] }
  | _ => none }
def ZoneOverWrongFalsely : Prop := zoneOverRow.holds Try.pinned (OpenSpec.ofChange zoneOverWrong)

/-- 'oculuslaw19.FnameTells': WHATEVER THE INPUT: true; the input reads as it did. -/
def fnameTellsSpec : ChangeSpec := { name := "fnameTells", fn := fun _ => fun
  | [d1, d2, d3] => { results := [.lit (.bool true)], args := [d1, d2, d3] }
  | _ => none }
def fnameTellsRow : OpenClaim := { program := "ytjbdljolpkkhcaa", sum := "074c9e7f2d4a68619b9a35f4ee852a78e11604869ceb7e93821c9cf0ee656ab3", func := "oculus/oculuslaw19.FnameTells", spec := "fnameTells", inPlace := ["internal/bytealg.IndexByteString", "internal/bytealg.IndexString"], named := ["internal/bytealg.MaxLen"], apart := false }
def FnameTellsSaid : Prop := fnameTellsRow.holds Try.pinned (OpenSpec.ofChange fnameTellsSpec)

/-- ITS FALSE NEIGHBOUR: 'it returns false'. Refute it at one input. -/
def fnameTellsWrong : ChangeSpec := { name := "fnameTells", fn := fun _ => fun
  | [d1, d2, d3] => { results := [.lit (.bool false)], args := [d1, d2, d3] }
  | _ => none }
def FnameTellsWrongFalsely : Prop := fnameTellsRow.holds Try.pinned (OpenSpec.ofChange fnameTellsWrong)

/-- 'oculuslaw19.FnameOwn': WHATEVER THE INPUT: true; the input reads as it did. -/
def fnameOwnSpec : ChangeSpec := { name := "fnameOwn", fn := fun _ => fun
  | [d1, d2] => { results := [.lit (.bool true)], args := [d1, d2] }
  | _ => none }
def fnameOwnRow : OpenClaim := { program := "ytjbdljolpkkhcaa", sum := "074c9e7f2d4a68619b9a35f4ee852a78e11604869ceb7e93821c9cf0ee656ab3", func := "oculus/oculuslaw19.FnameOwn", spec := "fnameOwn", inPlace := ["internal/bytealg.IndexByteString", "internal/bytealg.IndexString"], named := ["internal/bytealg.MaxLen"], apart := false }
def FnameOwnSaid : Prop := fnameOwnRow.holds Try.pinned (OpenSpec.ofChange fnameOwnSpec)

/-- ITS FALSE NEIGHBOUR: 'it returns false'. Refute it at one input. -/
def fnameOwnWrong : ChangeSpec := { name := "fnameOwn", fn := fun _ => fun
  | [d1, d2] => { results := [.lit (.bool false)], args := [d1, d2] }
  | _ => none }
def FnameOwnWrongFalsely : Prop := fnameOwnRow.holds Try.pinned (OpenSpec.ofChange fnameOwnWrong)

/- THE SECOND FORM. 'bulk': how many values and letters a reading holds, each counted each time it is reached (what is shared counts as often as it is met; a slice's spare places count too). A statement '..UptoSaid' is the law's where the arguments, and the package variables that the reading takes, are together of bulk at most 1048576: NARROWER than '..Said'. Prove '..Said' where nothing that the law and all that it calls make is longer than what came in: it says more and counts as full. Else prove '..UptoSaid'. A law counts once. -/
mutual
def uptoBulk {H : Type} : DataW H → Nat
  | .lit (.string bytes) => bytes.length + 1
  | .lit _ => 1
  | .nil => 1
  | .ptr d => uptoBulk d + 1
  | .slice elems spare => uptoBulkAll elems + uptoBulkAll spare + 1
  | .agg parts => uptoBulkAll parts + 1
  | .iface _ d => uptoBulk d + 1
  | .map entries => uptoBulkEntries entries + 1
  | .held _ => 1
def uptoBulkAll {H : Type} : List (DataW H) → Nat
  | [] => 0
  | d :: r => uptoBulk d + uptoBulkAll r
def uptoBulkEntries {H : Type} : List (Lit × DataW H) → Nat
  | [] => 0
  | x :: r => uptoBulkEntry x + uptoBulkEntries r
def uptoBulkEntry {H : Type} : Lit × DataW H → Nat
  | (.string bytes, d) => bytes.length + uptoBulk d + 1
  | (_, d) => uptoBulk d + 1
 end
def uptoSmall : (H : Type) → List (DataW H) → Bool := fun _ ds => decide (uptoBulkAll ds ≤ 1048576)
def OpenSpec.upto (s : _root_.Go.ChangeSpec) : _root_.Go.OpenSpec := { _root_.Go.OpenSpec.ofChange s with cond := some uptoSmall }

/-- 'oculuslaw05.ZoneBehind', WHERE WHAT IT READS IS OF BULK AT MOST 1048576: true; the input reads as it did. -/
def zoneBehindUptoRow : OpenClaim := { program := "ytjbdljolpkkhcaa", sum := "074c9e7f2d4a68619b9a35f4ee852a78e11604869ceb7e93821c9cf0ee656ab3", func := "oculus/oculuslaw05.ZoneBehind", spec := "zoneBehind", unfollowed := true, recurses := true, apart := false, narrowed := true }
def ZoneBehindUptoSaid : Prop := zoneBehindUptoRow.holds Try.pinned (OpenSpec.upto zoneBehindSpec)

/-- 'oculuslaw05.ZoneWrong', WHERE WHAT IT READS IS OF BULK AT MOST 1048576: true; the input reads as it did. -/
def zoneWrongUptoRow : OpenClaim := { program := "ytjbdljolpkkhcaa", sum := "074c9e7f2d4a68619b9a35f4ee852a78e11604869ceb7e93821c9cf0ee656ab3", func := "oculus/oculuslaw05.ZoneWrong", spec := "zoneWrong", unfollowed := true, recurses := true, apart := false, narrowed := true }
def ZoneWrongUptoSaid : Prop := zoneWrongUptoRow.holds Try.pinned (OpenSpec.upto zoneWrongSpec)

/-- 'oculuslaw05.ZoneOver', WHERE WHAT IT READS IS OF BULK AT MOST 1048576: true; the input reads as it did. -/
def zoneOverUptoRow : OpenClaim := { program := "ytjbdljolpkkhcaa", sum := "074c9e7f2d4a68619b9a35f4ee852a78e11604869ceb7e93821c9cf0ee656ab3", func := "oculus/oculuslaw05.ZoneOver", spec := "zoneOver", unfollowed := true, recurses := true, apart := false, narrowed := true }
def ZoneOverUptoSaid : Prop := zoneOverUptoRow.holds Try.pinned (OpenSpec.upto zoneOverSpec)

/-- 'oculuslaw19.FnameTells', WHERE WHAT IT READS IS OF BULK AT MOST 1048576: true; the input reads as it did. -/
def fnameTellsUptoRow : OpenClaim := { program := "ytjbdljolpkkhcaa", sum := "074c9e7f2d4a68619b9a35f4ee852a78e11604869ceb7e93821c9cf0ee656ab3", func := "oculus/oculuslaw19.FnameTells", spec := "fnameTells", inPlace := ["internal/bytealg.IndexByteString", "internal/bytealg.IndexString"], named := ["internal/bytealg.MaxLen"], apart := false, narrowed := true }
def FnameTellsUptoSaid : Prop := fnameTellsUptoRow.holds Try.pinned (OpenSpec.upto fnameTellsSpec)

/-- 'oculuslaw19.FnameOwn', WHERE WHAT IT READS IS OF BULK AT MOST 1048576: true; the input reads as it did. -/
def fnameOwnUptoRow : OpenClaim := { program := "ytjbdljolpkkhcaa", sum := "074c9e7f2d4a68619b9a35f4ee852a78e11604869ceb7e93821c9cf0ee656ab3", func := "oculus/oculuslaw19.FnameOwn", spec := "fnameOwn", inPlace := ["internal/bytealg.IndexByteString", "internal/bytealg.IndexString"], named := ["internal/bytealg.MaxLen"], apart := false, narrowed := true }
def FnameOwnUptoSaid : Prop := fnameOwnUptoRow.holds Try.pinned (OpenSpec.upto fnameOwnSpec)

end Rows
end Go.Proofs.Ytjbdljolpkkhcaa
