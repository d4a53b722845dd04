/- Contracts of the functions that the law FnameTells reaches, and what they answer (a session's own texts, joined; part 0). -/
import Derived.Test.YtjbdljolpkkhcaaWWords
import Derived.Test.YtjbdljolpkkhcaaWLast
import Derived.Test.YtjbdljolpkkhcaaWMore
import Derived.Test.YtjbdljolpkkhcaaProg
import Derived.Below
import Derived.Deep.Draws
import Derived.Deep.AppendLies
import Derived.Maps.AppendAt
import Derived.OwnWalk
import Derived.Laws.BytesArg
import Derived.Laws.MakeOwn
import Derived.Laws.OwnMore
import Derived.Deep.OwnRows
import Derived.Tactics
import Derived.Lib.ConvBytes
import Derived.Laws.Slices
import Derived.WalkKit
import Derived.KernelRfl
import Derived.RowKit3
import Derived.Deep.LoopGhost
import Derived.Deep.QuietTactic
import Derived.BigQuiet
import Derived.WideLaws
import Derived.Deep.DeepCutAuto
import Derived.Deep.CutBlock
import Derived.Deep.RegionHeld3
import Derived.Laws.Rows
import Derived.Lib.AppendStr
import Derived.ArgAppend
import Derived.Laws.IdiomCopy
import Derived.OrdersHeld
import Derived.Laws.BitsLemmas
import Derived.RowKit
import Derived.Test.YtjbdljolpkkhcaaWTab
import Derived.Test.YtjbdljolpkkhcaaWFour
import Derived.Test.YtjbdljolpkkhcaaWQPut
import Derived.Test.YtjbdljolpkkhcaaWApart
import Derived.Test.YtjbdljolpkkhcaaWArr
import Derived.Test.YtjbdljolpkkhcaaWZeros
import Derived.Test.YtjbdljolpkkhcaaWFoot
import Derived.Test.YtjbdljolpkkhcaaWKept
import Derived.Test.YtjbdljolpkkhcaaWShare
import Derived.Test.YtjbdljolpkkhcaaWN
import Derived.Test.YtjbdljolpkkhcaaWFootNe
import Derived.Test.YtjbdljolpkkhcaaWAt
import Derived.Test.YtjbdljolpkkhcaaWEqStruct
import Derived.Test.YtjbdljolpkkhcaaWRepsOne
import Derived.Test.YtjbdljolpkkhcaaWInv
import Derived.Test.YtjbdljolpkkhcaaWInvWords
import Derived.Test.YtjbdljolpkkhcaaWGuard
import Derived.Test.YtjbdljolpkkhcaaWNEv
import Derived.Shelf.Strings.Search1
import Derived.Shelf.Strings.Search2
import Derived.Shelf.Strings.Cut
import Derived.Shelf.LaysM
import Derived.Shelf.Strings.Shaped
/- What holds of a block, or of all that is old, holds where nothing but new blocks and draws came since: found by instances, so that a walk's text need not say how. -/
set_option linter.unusedVariables false
namespace Go.Proofs.YtjbdljolpkkhcaaW.PrintWords
open Go.RowKit
/-- W1 is W0 but for new blocks and draws. -/
class Peel (W0 W1 : World) : Prop where
  blk : ∀ (g : Nat) (o : Obj), W0.heap[g]? = some o → W1.heap[g]? = some o
  bel : ∀ w : World, Below w.heap.size w W0 → Below w.heap.size w W1
instance (priority := high) Peel.self (W : World) : Peel W W := ⟨fun _ _ h => h, fun _ h => h⟩
instance Peel.alloc (W0 W1 : World) (o' : Obj) [h : Peel W0 W1] : Peel W0 (W1.alloc o') := ⟨fun g o hk => blk_alloc (h.blk g o hk) o', fun w hb => below_alloc (h.bel w hb) o'⟩
instance Peel.drewN (W0 W1 : World) (n : Nat) [h : Peel W0 W1] : Peel W0 (W1.drewN n) := ⟨fun g o hk => blk_drewN (h.blk g o hk) n, fun w hb => pw_below_drewN (h.bel w hb) n⟩
instance Peel.drew (W0 W1 : World) [h : Peel W0 W1] : Peel W0 W1.drew := ⟨fun g o hk => blk_drew (h.blk g o hk), fun w hb => below_drew1 (h.bel w hb)⟩
theorem pkx {W0 W1 : World} [h : Peel W0 W1] {g : Nat} {o : Obj} (k : Aside0 (W0.heap[g]? = some o)) : W1.heap[g]? = some o := h.blk _ _ k.out
theorem pbx {W0 W1 w : World} [h : Peel W0 W1] (k : Aside0 (Below w.heap.size w W0)) : Below w.heap.size w W1 := h.bel _ k.out
end Go.Proofs.YtjbdljolpkkhcaaW.PrintWords
namespace Go.Proofs.Ytjbdljolpkkhcaa.X
open Go.RowKit Go.Proofs.YtjbdljolpkkhcaaW.PrintWords Go.Proofs.YtjbdljolpkkhcaaW.PrintLast Go.Proofs.YtjbdljolpkkhcaaW.PrintMore
attribute [local go_sem] max2_int min2_int max_two min_two max_three min_three max_four min_four   -- for this text's walks alone
set_option linter.unusedVariables false
set_option linter.unusedSimpArgs false



def errW : Option Int → Value
  | none => .nilIface
  | some c => .iface 0 (.int .i64 c)
theorem errW_none : errW none = .nilIface := rfl
theorem errW_some (c : Int) : errW (some c) = .iface 0 (.int .i64 c) := rfl

theorem info9 : (Try.prog.info? 9).map (fun i => (i.zero, i.size, i.bytes)) = some (some (.string ⟨#[]⟩), 1, 16) := by kernel_rfl
theorem info24 : (Try.prog.info? 24).map (fun i => (i.zero, i.size, i.bytes)) = some (some (.agg #[(.int .i64 0), (.int .i64 0)]), 2, 16) := by kernel_rfl
-- the values' own types
/-! #### struct type 24 -/
structure S24 where
  f0 : Int
  f1 : Int
def z24 : S24 := ⟨(0 : Int), (0 : Int)⟩
def k24 : Kd S24 := Kd.iso (Kd.pair (Kd.int .i64) (Kd.int .i64)) (fun x : S24 => (x.f0, x.f1))
theorem k24_open {w : World} {x : S24} {cs : List Value} (h : k24.K w x cs) : cs = [.int .i64 x.f0, .int .i64 x.f1] := by
  obtain ⟨_, _, rfl, rfl, rfl⟩ := h
  exact rfl
theorem k24_openM {w : World} {base : Nat} {ok : Nat → Prop} {x : S24} {cs : List Value} (h : k24.M w base ok x cs) : cs = [.int .i64 x.f0, .int .i64 x.f1] := by
  obtain ⟨_, _, rfl, rfl, rfl⟩ := h
  exact rfl
theorem k24_mk (w : World) (x : S24)  : k24.K w x [.int .i64 x.f0, .int .i64 x.f1] := ⟨[.int .i64 x.f0], [.int .i64 x.f1], rfl, rfl, rfl⟩
theorem k24_mkM (w : World) (base : Nat) (ok : Nat → Prop) (x : S24)  : k24.M w base ok x [.int .i64 x.f0, .int .i64 x.f1] := ⟨[.int .i64 x.f0], [.int .i64 x.f1], rfl, rfl, rfl⟩
def rd_T24 (xs : List S24) (i : Int) : S24 := xs.getD i.toNat z24
theorem at_T24 {w : World} {A : Option Addr} {n : Nat} {xs : List S24} (h : Kd.C k24 w A n xs) (i : Int) (h0 : 0 ≤ i) (h1 : i < n) : ∃ ad , A = some ad ∧ w.cell? (ad.add (i.toNat * 2)) = some (.int .i64 (rd_T24 xs i).f0) ∧ w.cell? ⟨(ad.add (i.toNat * 2)).block, (ad.add (i.toNat * 2)).off + 1, none⟩ = some (.int .i64 (rd_T24 xs i).f1) := by
  obtain ⟨ad, c, e, _, hK, hc0⟩ := Kd.C_get h z24 i h0 h1
  have hc : ∀ j u, c[j]? = some u → w.cell? (ad.add (i.toNat * 2 + j)) = some u := hc0
  obtain rfl := k24_open hK
  exact ⟨ad, e, hc 0 _ rfl, by rw [← add_field _ _ 1 (by omega)]; exact hc 1 _ rfl⟩

/-! #### struct type 26 -/
structure S26 where
  f0 : S24
  f1 : S24
def z26 : S26 := ⟨z24, z24⟩
def k26 : Kd S26 := Kd.iso (Kd.pair k24 k24) (fun x : S26 => (x.f0, x.f1))
theorem k26_open {w : World} {x : S26} {cs : List Value} (h : k26.K w x cs) : cs = [.int .i64 x.f0.f0, .int .i64 x.f0.f1, .int .i64 x.f1.f0, .int .i64 x.f1.f1] := by
  obtain ⟨_, _, rfl, s0, s2⟩ := h
  obtain rfl := k24_open s0
  obtain rfl := k24_open s2
  exact rfl
theorem k26_openM {w : World} {base : Nat} {ok : Nat → Prop} {x : S26} {cs : List Value} (h : k26.M w base ok x cs) : cs = [.int .i64 x.f0.f0, .int .i64 x.f0.f1, .int .i64 x.f1.f0, .int .i64 x.f1.f1] := by
  obtain ⟨_, _, rfl, s0, s2⟩ := h
  obtain rfl := k24_openM s0
  obtain rfl := k24_openM s2
  exact rfl
theorem k26_mk (w : World) (x : S26)  : k26.K w x [.int .i64 x.f0.f0, .int .i64 x.f0.f1, .int .i64 x.f1.f0, .int .i64 x.f1.f1] := ⟨[.int .i64 x.f0.f0, .int .i64 x.f0.f1], [.int .i64 x.f1.f0, .int .i64 x.f1.f1], rfl, (k24_mk w x.f0 ), (k24_mk w x.f1 )⟩
theorem k26_mkM (w : World) (base : Nat) (ok : Nat → Prop) (x : S26)  : k26.M w base ok x [.int .i64 x.f0.f0, .int .i64 x.f0.f1, .int .i64 x.f1.f0, .int .i64 x.f1.f1] := ⟨[.int .i64 x.f0.f0, .int .i64 x.f0.f1], [.int .i64 x.f1.f0, .int .i64 x.f1.f1], rfl, (k24_mkM w base ok x.f0 ), (k24_mkM w base ok x.f1 )⟩
def rd_T26 (xs : List S26) (i : Int) : S26 := xs.getD i.toNat z26
theorem at_T26 {w : World} {A : Option Addr} {n : Nat} {xs : List S26} (h : Kd.C k26 w A n xs) (i : Int) (h0 : 0 ≤ i) (h1 : i < n) : ∃ ad , A = some ad ∧ w.cell? (ad.add (i.toNat * 4)) = some (.int .i64 (rd_T26 xs i).f0.f0) ∧ w.cell? ⟨(ad.add (i.toNat * 4)).block, (ad.add (i.toNat * 4)).off + 1, none⟩ = some (.int .i64 (rd_T26 xs i).f0.f1) ∧ w.cell? ⟨(ad.add (i.toNat * 4)).block, (ad.add (i.toNat * 4)).off + 2, none⟩ = some (.int .i64 (rd_T26 xs i).f1.f0) ∧ w.cell? ⟨(ad.add (i.toNat * 4)).block, (ad.add (i.toNat * 4)).off + 3, none⟩ = some (.int .i64 (rd_T26 xs i).f1.f1) := by
  obtain ⟨ad, c, e, _, hK, hc0⟩ := Kd.C_get h z26 i h0 h1
  have hc : ∀ j u, c[j]? = some u → w.cell? (ad.add (i.toNat * 4 + j)) = some u := hc0
  obtain rfl := k26_open hK
  exact ⟨ad, e, hc 0 _ rfl, by rw [← add_field _ _ 1 (by omega)]; exact hc 1 _ rfl, by rw [← add_field _ _ 2 (by omega)]; exact hc 2 _ rfl, by rw [← add_field _ _ 3 (by omega)]; exact hc 3 _ rfl⟩

/-! #### struct type 29 -/
structure S29 where
  f0 : Int
  f1 : Int
def z29 : S29 := ⟨(0 : Int), (0 : Int)⟩
def k29 : Kd S29 := Kd.iso (Kd.pair (Kd.int .i64) (Kd.int .u64)) (fun x : S29 => (x.f0, x.f1))
theorem k29_open {w : World} {x : S29} {cs : List Value} (h : k29.K w x cs) : cs = [.int .i64 x.f0, .int .u64 x.f1] := by
  obtain ⟨_, _, rfl, rfl, rfl⟩ := h
  exact rfl
theorem k29_openM {w : World} {base : Nat} {ok : Nat → Prop} {x : S29} {cs : List Value} (h : k29.M w base ok x cs) : cs = [.int .i64 x.f0, .int .u64 x.f1] := by
  obtain ⟨_, _, rfl, rfl, rfl⟩ := h
  exact rfl
theorem k29_mk (w : World) (x : S29)  : k29.K w x [.int .i64 x.f0, .int .u64 x.f1] := ⟨[.int .i64 x.f0], [.int .u64 x.f1], rfl, rfl, rfl⟩
theorem k29_mkM (w : World) (base : Nat) (ok : Nat → Prop) (x : S29)  : k29.M w base ok x [.int .i64 x.f0, .int .u64 x.f1] := ⟨[.int .i64 x.f0], [.int .u64 x.f1], rfl, rfl, rfl⟩
def rd_T29 (xs : List S29) (i : Int) : S29 := xs.getD i.toNat z29
theorem at_T29 {w : World} {A : Option Addr} {n : Nat} {xs : List S29} (h : Kd.C k29 w A n xs) (i : Int) (h0 : 0 ≤ i) (h1 : i < n) : ∃ ad , A = some ad ∧ w.cell? (ad.add (i.toNat * 2)) = some (.int .i64 (rd_T29 xs i).f0) ∧ w.cell? ⟨(ad.add (i.toNat * 2)).block, (ad.add (i.toNat * 2)).off + 1, none⟩ = some (.int .u64 (rd_T29 xs i).f1) := by
  obtain ⟨ad, c, e, _, hK, hc0⟩ := Kd.C_get h z29 i h0 h1
  have hc : ∀ j u, c[j]? = some u → w.cell? (ad.add (i.toNat * 2 + j)) = some u := hc0
  obtain rfl := k29_open hK
  exact ⟨ad, e, hc 0 _ rfl, by rw [← add_field _ _ 1 (by omega)]; exact hc 1 _ rfl⟩

/-! #### struct type 31 -/
structure S31 where
  f0 : S26
  f1 : S29
def z31 : S31 := ⟨z26, z29⟩
def k31 : Kd S31 := Kd.iso (Kd.pair k26 k29) (fun x : S31 => (x.f0, x.f1))
theorem k31_open {w : World} {x : S31} {cs : List Value} (h : k31.K w x cs) : cs = [.int .i64 x.f0.f0.f0, .int .i64 x.f0.f0.f1, .int .i64 x.f0.f1.f0, .int .i64 x.f0.f1.f1, .int .i64 x.f1.f0, .int .u64 x.f1.f1] := by
  obtain ⟨_, _, rfl, s0, s4⟩ := h
  obtain rfl := k26_open s0
  obtain rfl := k29_open s4
  exact rfl
theorem k31_openM {w : World} {base : Nat} {ok : Nat → Prop} {x : S31} {cs : List Value} (h : k31.M w base ok x cs) : cs = [.int .i64 x.f0.f0.f0, .int .i64 x.f0.f0.f1, .int .i64 x.f0.f1.f0, .int .i64 x.f0.f1.f1, .int .i64 x.f1.f0, .int .u64 x.f1.f1] := by
  obtain ⟨_, _, rfl, s0, s4⟩ := h
  obtain rfl := k26_openM s0
  obtain rfl := k29_openM s4
  exact rfl
theorem k31_mk (w : World) (x : S31)  : k31.K w x [.int .i64 x.f0.f0.f0, .int .i64 x.f0.f0.f1, .int .i64 x.f0.f1.f0, .int .i64 x.f0.f1.f1, .int .i64 x.f1.f0, .int .u64 x.f1.f1] := ⟨[.int .i64 x.f0.f0.f0, .int .i64 x.f0.f0.f1, .int .i64 x.f0.f1.f0, .int .i64 x.f0.f1.f1], [.int .i64 x.f1.f0, .int .u64 x.f1.f1], rfl, (k26_mk w x.f0 ), (k29_mk w x.f1 )⟩
theorem k31_mkM (w : World) (base : Nat) (ok : Nat → Prop) (x : S31)  : k31.M w base ok x [.int .i64 x.f0.f0.f0, .int .i64 x.f0.f0.f1, .int .i64 x.f0.f1.f0, .int .i64 x.f0.f1.f1, .int .i64 x.f1.f0, .int .u64 x.f1.f1] := ⟨[.int .i64 x.f0.f0.f0, .int .i64 x.f0.f0.f1, .int .i64 x.f0.f1.f0, .int .i64 x.f0.f1.f1], [.int .i64 x.f1.f0, .int .u64 x.f1.f1], rfl, (k26_mkM w base ok x.f0 ), (k29_mkM w base ok x.f1 )⟩
def rd_T31 (xs : List S31) (i : Int) : S31 := xs.getD i.toNat z31
theorem at_T31 {w : World} {A : Option Addr} {n : Nat} {xs : List S31} (h : Kd.C k31 w A n xs) (i : Int) (h0 : 0 ≤ i) (h1 : i < n) : ∃ ad , A = some ad ∧ w.cell? (ad.add (i.toNat * 6)) = some (.int .i64 (rd_T31 xs i).f0.f0.f0) ∧ w.cell? ⟨(ad.add (i.toNat * 6)).block, (ad.add (i.toNat * 6)).off + 1, none⟩ = some (.int .i64 (rd_T31 xs i).f0.f0.f1) ∧ w.cell? ⟨(ad.add (i.toNat * 6)).block, (ad.add (i.toNat * 6)).off + 2, none⟩ = some (.int .i64 (rd_T31 xs i).f0.f1.f0) ∧ w.cell? ⟨(ad.add (i.toNat * 6)).block, (ad.add (i.toNat * 6)).off + 3, none⟩ = some (.int .i64 (rd_T31 xs i).f0.f1.f1) ∧ w.cell? ⟨(ad.add (i.toNat * 6)).block, (ad.add (i.toNat * 6)).off + 4, none⟩ = some (.int .i64 (rd_T31 xs i).f1.f0) ∧ w.cell? ⟨(ad.add (i.toNat * 6)).block, (ad.add (i.toNat * 6)).off + 5, none⟩ = some (.int .u64 (rd_T31 xs i).f1.f1) := by
  obtain ⟨ad, c, e, _, hK, hc0⟩ := Kd.C_get h z31 i h0 h1
  have hc : ∀ j u, c[j]? = some u → w.cell? (ad.add (i.toNat * 6 + j)) = some u := hc0
  obtain rfl := k31_open hK
  exact ⟨ad, e, hc 0 _ rfl, by rw [← add_field _ _ 1 (by omega)]; exact hc 1 _ rfl, by rw [← add_field _ _ 2 (by omega)]; exact hc 2 _ rfl, by rw [← add_field _ _ 3 (by omega)]; exact hc 3 _ rfl, by rw [← add_field _ _ 4 (by omega)]; exact hc 4 _ rfl, by rw [← add_field _ _ 5 (by omega)]; exact hc 5 _ rfl⟩

end Go.Proofs.Ytjbdljolpkkhcaa.X
/-
  DERIVED: THE SHELF's CONTRACTS AT THIS DUMP, IN PLAIN WORDS (tools/lay-plain.mjs out of 'TryShelf.lean', which tools/lay-shelf.mjs wrote): THE SAME DECLARATIONS UNDER THE SAME NAMES: 'import', 'namespace', 'open', 'def', 'theorem' AND NOTHING ELSE: no command of the shelf's: FOR A HAND-IN. Each laying: the table of numbers ('.._ren') and one theorem, a field a fact of the dump's own or the kernel's comparison; each contract: ONE APPLICATION.
-/
namespace Go.Proofs
open Go.Shelf
def Try.lays217_ren : Go.Shelf.Ren := ⟨fun | 217 => 56 | 266 => 60 | n => n, fun | 9 => 9 | 5 => 5 | 3 => 3 | n => n, fun | n => n⟩
theorem Try.lays217 : Go.Proofs.Lays.n217 Try.prog Try.lays217_ren := {
  mixed := by kernel_rfl
  f217 := Try.func56.trans (congrArg some (by kernel_rfl))
  f266 := Try.func60.trans (congrArg some (by kernel_rfl))
  t3 := Try.underlying3
  a3 := Try.isAgg3
  z3 := Try.sizeOf3
  v3 := Try.zeroValue3
  t5 := Try.underlying5
  a5 := Try.isAgg5
  z5 := Try.sizeOf5
  v5 := Try.zeroValue5
  t9 := Try.underlying9
  a9 := Try.isAgg9
  z9 := Try.sizeOf9
  v9 := Try.zeroValue9 }
open Go.RowKit Go.Lib in
/-- internal/stringslite.IndexByte (what strings.IndexByte calls): IT RETURNS 'Lib.indexByte s c'; the world is as it was. (LAID: no walk: one application.) -/
theorem Try.stringslite_IndexByte (s : ByteArray) (c : Int) (w : World) :
    Calls Try.prog 56 #[.string s, .int .u8 c] w fun e w' => e = .returned (.int .i64 (Lib.indexByte s.data.toList c.toNat.toUInt8)) ∧ w' = w := Any.stringslite_IndexByte Try.lays217 s c w
def Try.lays224_ren : Go.Shelf.Ren := ⟨fun | 224 => 58 | n => n, fun | 3 => 3 | n => n, fun | n => n⟩
theorem Try.lays224 : Go.Proofs.Lays.n224 Try.prog Try.lays224_ren := {
  mixed := by kernel_rfl
  f224 := Try.func58.trans (congrArg some (by kernel_rfl))
  t3 := Try.underlying3
  a3 := Try.isAgg3
  z3 := Try.sizeOf3
  v3 := Try.zeroValue3 }
open Go.RowKit Go.Lib in
/-- internal/bytealg.Cutover: "Cutover reports the number of failures of IndexByte we should tolerate before switching over to Index. n is the number of bytes processed so far.": on amd64: (n + 16) / 8. (LAID: no walk: one application.) -/
theorem Try.bytealg_Cutover (n : Int) (h0 : 0 ≤ n) (h1 : n < 4611686018427387904) (w : World) :
    Calls Try.prog 58 #[.int .i64 n] w fun e w' => e = .returned (.int .i64 ((n + 16) / 8)) ∧ w' = w := Any.bytealg_Cutover Try.lays224 n h0 h1 w
def Try.lays314_ren : Go.Shelf.Ren := ⟨fun | 314 => 61 | n => n, fun | 9 => 9 | 51 => 80 | 3 => 3 | 4 => 4 | 5 => 5 | 46 => 79 | n => n, fun | n => n⟩
theorem Try.lays314 : Go.Proofs.Lays.n314 Try.prog Try.lays314_ren := {
  mixed := by kernel_rfl
  f314 := Try.func61.trans (congrArg some (by kernel_rfl))
  t3 := Try.underlying3
  a3 := Try.isAgg3
  z3 := Try.sizeOf3
  v3 := Try.zeroValue3
  t4 := Try.underlying4
  a4 := Try.isAgg4
  z4 := Try.sizeOf4
  v4 := Try.zeroValue4
  t5 := Try.underlying5
  a5 := Try.isAgg5
  z5 := Try.sizeOf5
  v5 := Try.zeroValue5
  t9 := Try.underlying9
  a9 := Try.isAgg9
  z9 := Try.sizeOf9
  v9 := Try.zeroValue9
  t46 := Try.underlying79
  a46 := Try.isAgg79
  z46 := Try.sizeOf79
  v46 := Try.zeroValue79
  t51 := Try.underlying80
  a51 := Try.isAgg80
  z51 := Try.sizeOf80
  v51 := Try.zeroValue80 }
open Go.RowKit Go.Lib in
/-- hashStr: "returns the hash and the appropriate multiplicative factor for use in Rabin-Karp algorithm": THE HASH OF ALL OF sep, AND 16777619 ^ len(sep), both in uint32. (LAID: no walk: one application.) -/
theorem Try.bytealg_hashStr (sep : ByteArray) (hs : sep.size < 4294967281) (w : World) :
    Calls Try.prog 61 #[.string sep] w fun e w' => e = .returned (.tuple #[.int .u32 (RK.H sep.data.toList % 4294967296), .int .u32 (16777619 ^ sep.size % 4294967296)]) ∧ w' = w := Any.bytealg_hashStr Try.lays314 sep hs w
def Try.lays267_ren : Go.Shelf.Ren := ⟨fun | 267 => 59 | 314 => 61 | n => n, fun | 9 => 9 | 3 => 3 | 146 => 81 | 51 => 80 | 4 => 4 | 5 => 5 | 46 => 79 | n => n, fun | n => n⟩
theorem Try.lays267 : Go.Proofs.Lays.n267 Try.prog Try.lays267_ren := {
  mixed := by kernel_rfl
  f267 := Try.func59.trans (congrArg some (by kernel_rfl))
  f314 := Try.func61.trans (congrArg some (by kernel_rfl))
  t3 := Try.underlying3
  a3 := Try.isAgg3
  z3 := Try.sizeOf3
  v3 := Try.zeroValue3
  t4 := Try.underlying4
  a4 := Try.isAgg4
  z4 := Try.sizeOf4
  v4 := Try.zeroValue4
  t5 := Try.underlying5
  a5 := Try.isAgg5
  z5 := Try.sizeOf5
  v5 := Try.zeroValue5
  t9 := Try.underlying9
  a9 := Try.isAgg9
  z9 := Try.sizeOf9
  v9 := Try.zeroValue9
  t46 := Try.underlying79
  a46 := Try.isAgg79
  z46 := Try.sizeOf79
  v46 := Try.zeroValue79
  t51 := Try.underlying80
  a51 := Try.isAgg80
  z51 := Try.sizeOf80
  v51 := Try.zeroValue80
  t146 := Try.underlying81
  a146 := Try.isAgg81
  z146 := Try.sizeOf81
  v146 := Try.zeroValue81 }
open Go.RowKit Go.Lib in
theorem Try.bytealg_IndexRabinKarp (s sep : ByteArray) (h1 : 1 ≤ sep.size) (h2 : sep.size ≤ s.size) (hs : s.size < 4294967281) (w : World) :
    Calls Try.prog 59 #[.string s, .string sep] w fun e w' => e = .returned (.int .i64 (Lib.index s.data.toList sep.data.toList)) ∧ w' = w := Any.bytealg_IndexRabinKarp Try.lays267 s sep h1 h2 hs w
def Try.lays219_ren : Go.Shelf.Ren := ⟨fun | 219 => 55 | 217 => 56 | 225 => 57 | 224 => 58 | 267 => 59 | 266 => 60 | 314 => 61 | n => n, fun | 9 => 9 | 3 => 3 | 4 => 4 | 5 => 5 | 46 => 79 | 146 => 81 | 51 => 80 | n => n, fun | 1 => 0 | n => n⟩
theorem Try.lays219 : Go.Proofs.Lays.n219 Try.prog Try.lays219_ren := {
  mixed := by kernel_rfl
  f217 := Try.func56.trans (congrArg some (by kernel_rfl))
  f219 := Try.func55.trans (congrArg some (by kernel_rfl))
  f224 := Try.func58.trans (congrArg some (by kernel_rfl))
  f225 := Try.func57.trans (congrArg some (by kernel_rfl))
  f266 := Try.func60.trans (congrArg some (by kernel_rfl))
  f267 := Try.func59.trans (congrArg some (by kernel_rfl))
  f314 := Try.func61.trans (congrArg some (by kernel_rfl))
  t3 := Try.underlying3
  a3 := Try.isAgg3
  z3 := Try.sizeOf3
  v3 := Try.zeroValue3
  t4 := Try.underlying4
  a4 := Try.isAgg4
  z4 := Try.sizeOf4
  v4 := Try.zeroValue4
  t5 := Try.underlying5
  a5 := Try.isAgg5
  z5 := Try.sizeOf5
  v5 := Try.zeroValue5
  t9 := Try.underlying9
  a9 := Try.isAgg9
  z9 := Try.sizeOf9
  v9 := Try.zeroValue9
  t46 := Try.underlying79
  a46 := Try.isAgg79
  z46 := Try.sizeOf79
  v46 := Try.zeroValue79
  t51 := Try.underlying80
  a51 := Try.isAgg80
  z51 := Try.sizeOf80
  v51 := Try.zeroValue80
  t146 := Try.underlying81
  a146 := Try.isAgg81
  z146 := Try.sizeOf81
  v146 := Try.zeroValue81
  g1 := by kernel_rfl }
open Go.RowKit Go.Lib in
/-- internal/stringslite.Index (what strings.Index calls) AT A substr OF ONE BYTE c: IT RETURNS 'Lib.indexByte s c'; the world is as it was. (LAID: no walk: one application.) -/
theorem Try.stringslite_Index_one (s : ByteArray) (c : UInt8) (w : World) :
    Calls Try.prog 55 #[.string s, .string ⟨#[c]⟩] w fun e w' => e = .returned (.int .i64 (Lib.indexByte s.data.toList c)) ∧ w' = w := Any.stringslite_Index_one Try.lays219 s c w
open Go.RowKit Go.Lib in
/-- internal/stringslite.Index (what strings.Index calls) AT A substr OF WHATEVER LENGTH: IT RETURNS 'Lib.index s substr'; the world is as it was. 'm': what internal/bytealg.MaxLen holds: whatever. (LAID: no walk: one application.) -/
theorem Try.stringslite_Index (s sub : ByteArray) (m : Int) (w : World) (hs : s.size < 4294967281) (hm : w.cell? ⟨0, 0, none⟩ = some (.int .i64 m)) :
    Calls Try.prog 55 #[.string s, .string sub] w fun e w' => e = .returned (.int .i64 (Lib.index s.data.toList sub.data.toList)) ∧ w' = w := Any.stringslite_Index Try.lays219 s sub m w hs hm
def Try.lays220_ren : Go.Shelf.Ren := ⟨fun | 220 => 54 | 219 => 55 | 217 => 56 | 225 => 57 | 224 => 58 | 267 => 59 | 266 => 60 | 314 => 61 | n => n, fun | 9 => 9 | 4 => 4 | 3 => 3 | 5 => 5 | 46 => 79 | 146 => 81 | 51 => 80 | n => n, fun | 1 => 0 | n => n⟩
theorem Try.lays220 : Go.Proofs.Lays.n220 Try.prog Try.lays220_ren := {
  mixed := by kernel_rfl
  f217 := Try.func56.trans (congrArg some (by kernel_rfl))
  f219 := Try.func55.trans (congrArg some (by kernel_rfl))
  f220 := Try.func54.trans (congrArg some (by kernel_rfl))
  f224 := Try.func58.trans (congrArg some (by kernel_rfl))
  f225 := Try.func57.trans (congrArg some (by kernel_rfl))
  f266 := Try.func60.trans (congrArg some (by kernel_rfl))
  f267 := Try.func59.trans (congrArg some (by kernel_rfl))
  f314 := Try.func61.trans (congrArg some (by kernel_rfl))
  t3 := Try.underlying3
  a3 := Try.isAgg3
  z3 := Try.sizeOf3
  v3 := Try.zeroValue3
  t4 := Try.underlying4
  a4 := Try.isAgg4
  z4 := Try.sizeOf4
  v4 := Try.zeroValue4
  t5 := Try.underlying5
  a5 := Try.isAgg5
  z5 := Try.sizeOf5
  v5 := Try.zeroValue5
  t9 := Try.underlying9
  a9 := Try.isAgg9
  z9 := Try.sizeOf9
  v9 := Try.zeroValue9
  t46 := Try.underlying79
  a46 := Try.isAgg79
  z46 := Try.sizeOf79
  v46 := Try.zeroValue79
  t51 := Try.underlying80
  a51 := Try.isAgg80
  z51 := Try.sizeOf80
  v51 := Try.zeroValue80
  t146 := Try.underlying81
  a146 := Try.isAgg81
  z146 := Try.sizeOf81
  v146 := Try.zeroValue81
  g1 := by kernel_rfl }
open Go.RowKit Go.Lib in
/-- internal/stringslite.Cut (what strings.Cut calls): IT RETURNS 'Lib.cut s sep'; the world is as it was but for the count of draws. (LAID: no walk: one application.) -/
theorem Try.stringslite_Cut (s sep : ByteArray) (m : Int) (w : World) (hs : s.size < 4294967281) (hm : w.cell? ⟨0, 0, none⟩ = some (.int .i64 m)) :
    Calls Try.prog 54 #[.string s, .string sep] w fun e w' => e = .returned (.tuple #[.string ⟨(Lib.cut s.data.toList sep.data.toList).1.toArray⟩, .string ⟨(Lib.cut s.data.toList sep.data.toList).2.1.toArray⟩, .bool (Lib.cut s.data.toList sep.data.toList).2.2]) ∧ ∃ n, w' = w.drewN n := Any.stringslite_Cut Try.lays220 s sep m w hs hm
def Try.lays145_ren : Go.Shelf.Ren := ⟨fun | 145 => 50 | 220 => 54 | 219 => 55 | 217 => 56 | 225 => 57 | 224 => 58 | 267 => 59 | 266 => 60 | 314 => 61 | n => n, fun | 9 => 9 | 4 => 4 | 59 => 74 | 3 => 3 | 5 => 5 | 46 => 79 | 146 => 81 | 51 => 80 | n => n, fun | 1 => 0 | n => n⟩
theorem Try.lays145 : Go.Proofs.Lays.n145 Try.prog Try.lays145_ren := {
  mixed := by kernel_rfl
  f145 := Try.func50.trans (congrArg some (by kernel_rfl))
  f217 := Try.func56.trans (congrArg some (by kernel_rfl))
  f219 := Try.func55.trans (congrArg some (by kernel_rfl))
  f220 := Try.func54.trans (congrArg some (by kernel_rfl))
  f224 := Try.func58.trans (congrArg some (by kernel_rfl))
  f225 := Try.func57.trans (congrArg some (by kernel_rfl))
  f266 := Try.func60.trans (congrArg some (by kernel_rfl))
  f267 := Try.func59.trans (congrArg some (by kernel_rfl))
  f314 := Try.func61.trans (congrArg some (by kernel_rfl))
  t3 := Try.underlying3
  a3 := Try.isAgg3
  z3 := Try.sizeOf3
  v3 := Try.zeroValue3
  t4 := Try.underlying4
  a4 := Try.isAgg4
  z4 := Try.sizeOf4
  v4 := Try.zeroValue4
  t5 := Try.underlying5
  a5 := Try.isAgg5
  z5 := Try.sizeOf5
  v5 := Try.zeroValue5
  t9 := Try.underlying9
  a9 := Try.isAgg9
  z9 := Try.sizeOf9
  v9 := Try.zeroValue9
  t46 := Try.underlying79
  a46 := Try.isAgg79
  z46 := Try.sizeOf79
  v46 := Try.zeroValue79
  t51 := Try.underlying80
  a51 := Try.isAgg80
  z51 := Try.sizeOf80
  v51 := Try.zeroValue80
  t59 := Try.underlying74
  a59 := Try.isAgg74
  z59 := Try.sizeOf74
  v59 := Try.zeroValue74
  t146 := Try.underlying81
  a146 := Try.isAgg81
  z146 := Try.sizeOf81
  v146 := Try.zeroValue81
  g1 := by kernel_rfl }
open Go.RowKit Go.Lib in
/-- strings.Cut: "Cut slices s around the first instance of sep, returning the text before and after sep. The found result reports whether sep appears in s. If sep does not appear in s, cut returns s, "", false.": IT RETURNS 'Lib.cut s sep'; the world is as it was but for the count of draws. (LAID: no walk: one application.) -/
theorem Try.strings_Cut (s sep : ByteArray) (m : Int) (w : World) (hs : s.size < 4294967281) (hm : w.cell? ⟨0, 0, none⟩ = some (.int .i64 m)) :
    Calls Try.prog 50 #[.string s, .string sep] w fun e w' => e = .returned (.tuple #[.string ⟨(Lib.cut s.data.toList sep.data.toList).1.toArray⟩, .string ⟨(Lib.cut s.data.toList sep.data.toList).2.1.toArray⟩, .bool (Lib.cut s.data.toList sep.data.toList).2.2]) ∧ ∃ n, w' = w.drewN n := Any.strings_Cut Try.lays145 s sep m w hs hm
def Try.laysM219_ren : Go.Shelf.Ren := ⟨fun | 219 => 55 | 217 => 56 | 225 => 57 | 224 => 58 | 267 => 59 | 266 => 60 | 314 => 61 | n => n, fun | 9 => 9 | 3 => 3 | 4 => 4 | 5 => 5 | 46 => 79 | 146 => 81 | 51 => 80 | n => n, fun | 1 => 0 | n => n⟩
theorem Try.laysM219 : Go.Proofs.LaysM.n219 Try.prog Try.laysM219_ren := {
  mixed := by kernel_rfl
  f217 := Try.func56.trans (congrArg some (by kernel_rfl))
  f219 := Try.func55.trans (congrArg some (by kernel_rfl))
  f224 := Try.func58.trans (congrArg some (by kernel_rfl))
  f225 := Try.func57.trans (congrArg some (by kernel_rfl))
  f266 := Try.func60.trans (congrArg some (by kernel_rfl))
  f267 := Try.func59.trans (congrArg some (by kernel_rfl))
  f314 := Try.func61.trans (congrArg some (by kernel_rfl))
  t3 := Try.underlying3
  a3 := Try.isAgg3
  z3 := Try.sizeOf3
  v3 := Try.zeroValue3
  t4 := Try.underlying4
  a4 := Try.isAgg4
  z4 := Try.sizeOf4
  v4 := Try.zeroValue4
  t5 := Try.underlying5
  a5 := Try.isAgg5
  z5 := Try.sizeOf5
  v5 := Try.zeroValue5
  t9 := Try.underlying9
  a9 := Try.isAgg9
  z9 := Try.sizeOf9
  v9 := Try.zeroValue9
  t46 := Try.underlying79
  a46 := Try.isAgg79
  z46 := Try.sizeOf79
  v46 := Try.zeroValue79
  t51 := Try.underlying80
  a51 := Try.isAgg80
  z51 := Try.sizeOf80
  v51 := Try.zeroValue80
  t146 := Try.underlying81
  a146 := Try.isAgg81
  z146 := Try.sizeOf81
  v146 := Try.zeroValue81
  g1 := by kernel_rfl
  i3 := by kernel_rfl
  i4 := by kernel_rfl
  i5 := by kernel_rfl
  i9 := by kernel_rfl
  i46 := by kernel_rfl
  i51 := by kernel_rfl
  i146 := by kernel_rfl
  m1 := by kernel_rfl
  s1_3 := fun w h => Go.Proofs.cell_of_shapedOpen_int (zero := #[.int .i64 0]) (t := 3) h (of_decide_eq_true (by kernel_rfl)) (by kernel_rfl) rfl (by kernel_rfl) (by kernel_rfl) Try.underlying3 }
open Go.RowKit Go.Lib in
theorem Try.stringslite_Index_shaped (s sub : ByteArray) (w : World) (h : w.ShapedOpen Try.prog) (hs : s.size < 4294967281) :
    Calls Try.prog 55 #[.string s, .string sub] w fun e w' => e = .returned (.int .i64 (Lib.index s.data.toList sub.data.toList)) ∧ w' = w := Any.stringslite_Index_shaped Try.laysM219 s sub w h hs
def Try.laysM220_ren : Go.Shelf.Ren := ⟨fun | 220 => 54 | 219 => 55 | 217 => 56 | 225 => 57 | 224 => 58 | 267 => 59 | 266 => 60 | 314 => 61 | n => n, fun | 9 => 9 | 4 => 4 | 3 => 3 | 5 => 5 | 46 => 79 | 146 => 81 | 51 => 80 | n => n, fun | 1 => 0 | n => n⟩
theorem Try.laysM220 : Go.Proofs.LaysM.n220 Try.prog Try.laysM220_ren := {
  mixed := by kernel_rfl
  f217 := Try.func56.trans (congrArg some (by kernel_rfl))
  f219 := Try.func55.trans (congrArg some (by kernel_rfl))
  f220 := Try.func54.trans (congrArg some (by kernel_rfl))
  f224 := Try.func58.trans (congrArg some (by kernel_rfl))
  f225 := Try.func57.trans (congrArg some (by kernel_rfl))
  f266 := Try.func60.trans (congrArg some (by kernel_rfl))
  f267 := Try.func59.trans (congrArg some (by kernel_rfl))
  f314 := Try.func61.trans (congrArg some (by kernel_rfl))
  t3 := Try.underlying3
  a3 := Try.isAgg3
  z3 := Try.sizeOf3
  v3 := Try.zeroValue3
  t4 := Try.underlying4
  a4 := Try.isAgg4
  z4 := Try.sizeOf4
  v4 := Try.zeroValue4
  t5 := Try.underlying5
  a5 := Try.isAgg5
  z5 := Try.sizeOf5
  v5 := Try.zeroValue5
  t9 := Try.underlying9
  a9 := Try.isAgg9
  z9 := Try.sizeOf9
  v9 := Try.zeroValue9
  t46 := Try.underlying79
  a46 := Try.isAgg79
  z46 := Try.sizeOf79
  v46 := Try.zeroValue79
  t51 := Try.underlying80
  a51 := Try.isAgg80
  z51 := Try.sizeOf80
  v51 := Try.zeroValue80
  t146 := Try.underlying81
  a146 := Try.isAgg81
  z146 := Try.sizeOf81
  v146 := Try.zeroValue81
  g1 := by kernel_rfl
  i3 := by kernel_rfl
  i4 := by kernel_rfl
  i5 := by kernel_rfl
  i9 := by kernel_rfl
  i46 := by kernel_rfl
  i51 := by kernel_rfl
  i146 := by kernel_rfl
  m1 := by kernel_rfl
  s1_3 := fun w h => Go.Proofs.cell_of_shapedOpen_int (zero := #[.int .i64 0]) (t := 3) h (of_decide_eq_true (by kernel_rfl)) (by kernel_rfl) rfl (by kernel_rfl) (by kernel_rfl) Try.underlying3 }
open Go.RowKit Go.Lib in
theorem Try.stringslite_Cut_shaped (s sep : ByteArray) (w : World) (h : w.ShapedOpen Try.prog) (hs : s.size < 4294967281) :
    Calls Try.prog 54 #[.string s, .string sep] w fun e w' => e = .returned (.tuple #[.string ⟨(Lib.cut s.data.toList sep.data.toList).1.toArray⟩, .string ⟨(Lib.cut s.data.toList sep.data.toList).2.1.toArray⟩, .bool (Lib.cut s.data.toList sep.data.toList).2.2]) ∧ ∃ n, w' = w.drewN n := Any.stringslite_Cut_shaped Try.laysM220 s sep w h hs
def Try.laysM145_ren : Go.Shelf.Ren := ⟨fun | 145 => 50 | 220 => 54 | 219 => 55 | 217 => 56 | 225 => 57 | 224 => 58 | 267 => 59 | 266 => 60 | 314 => 61 | n => n, fun | 9 => 9 | 4 => 4 | 59 => 74 | 3 => 3 | 5 => 5 | 46 => 79 | 146 => 81 | 51 => 80 | n => n, fun | 1 => 0 | n => n⟩
theorem Try.laysM145 : Go.Proofs.LaysM.n145 Try.prog Try.laysM145_ren := {
  mixed := by kernel_rfl
  f145 := Try.func50.trans (congrArg some (by kernel_rfl))
  f217 := Try.func56.trans (congrArg some (by kernel_rfl))
  f219 := Try.func55.trans (congrArg some (by kernel_rfl))
  f220 := Try.func54.trans (congrArg some (by kernel_rfl))
  f224 := Try.func58.trans (congrArg some (by kernel_rfl))
  f225 := Try.func57.trans (congrArg some (by kernel_rfl))
  f266 := Try.func60.trans (congrArg some (by kernel_rfl))
  f267 := Try.func59.trans (congrArg some (by kernel_rfl))
  f314 := Try.func61.trans (congrArg some (by kernel_rfl))
  t3 := Try.underlying3
  a3 := Try.isAgg3
  z3 := Try.sizeOf3
  v3 := Try.zeroValue3
  t4 := Try.underlying4
  a4 := Try.isAgg4
  z4 := Try.sizeOf4
  v4 := Try.zeroValue4
  t5 := Try.underlying5
  a5 := Try.isAgg5
  z5 := Try.sizeOf5
  v5 := Try.zeroValue5
  t9 := Try.underlying9
  a9 := Try.isAgg9
  z9 := Try.sizeOf9
  v9 := Try.zeroValue9
  t46 := Try.underlying79
  a46 := Try.isAgg79
  z46 := Try.sizeOf79
  v46 := Try.zeroValue79
  t51 := Try.underlying80
  a51 := Try.isAgg80
  z51 := Try.sizeOf80
  v51 := Try.zeroValue80
  t59 := Try.underlying74
  a59 := Try.isAgg74
  z59 := Try.sizeOf74
  v59 := Try.zeroValue74
  t146 := Try.underlying81
  a146 := Try.isAgg81
  z146 := Try.sizeOf81
  v146 := Try.zeroValue81
  g1 := by kernel_rfl
  i3 := by kernel_rfl
  i4 := by kernel_rfl
  i5 := by kernel_rfl
  i9 := by kernel_rfl
  i46 := by kernel_rfl
  i51 := by kernel_rfl
  i59 := by kernel_rfl
  i146 := by kernel_rfl
  m1 := by kernel_rfl
  s1_3 := fun w h => Go.Proofs.cell_of_shapedOpen_int (zero := #[.int .i64 0]) (t := 3) h (of_decide_eq_true (by kernel_rfl)) (by kernel_rfl) rfl (by kernel_rfl) (by kernel_rfl) Try.underlying3 }
open Go.RowKit Go.Lib in
theorem Try.strings_Cut_shaped (s sep : ByteArray) (w : World) (h : w.ShapedOpen Try.prog) (hs : s.size < 4294967281) :
    Calls Try.prog 50 #[.string s, .string sep] w fun e w' => e = .returned (.tuple #[.string ⟨(Lib.cut s.data.toList sep.data.toList).1.toArray⟩, .string ⟨(Lib.cut s.data.toList sep.data.toList).2.1.toArray⟩, .bool (Lib.cut s.data.toList sep.data.toList).2.2]) ∧ ∃ n, w' = w.drewN n := Any.strings_Cut_shaped Try.laysM145 s sep w h hs
end Go.Proofs
/- The contract, by hand, of internal/stringslite.Index at a needle of one byte: out of the shelf's. -/
set_option linter.unusedVariables false
namespace Go.Proofs.Ytjbdljolpkkhcaa.X
open Go.RowKit Go.Proofs.YtjbdljolpkkhcaaW.PrintWords Go.Proofs.YtjbdljolpkkhcaaW.PrintLast Go.Proofs.YtjbdljolpkkhcaaW.PrintMore
/-- Where a needle of one byte is in a text; of no other needle is anything said. -/
def stringslite_Index.f (a0 : ByteArray) (a1 : ByteArray) : Option Int := if h : a1.size = 1 then some (Lib.indexByte a0.data.toList (a1[0]'(by omega))) else none
theorem stringslite_Index.calls (a0 : ByteArray) (a1 : ByteArray) (r : Int) (w : World) (h : stringslite_Index.f a0 a1 = some r) :
    Calls Try.prog 55 #[.string a0, .string a1] w fun e w' => e = .returned (.int .i64 r) ∧ Drawn0 w w' := by
  unfold stringslite_Index.f at h
  by_cases hs : a1.size = 1
  · rw [dif_pos hs] at h
    obtain rfl := Option.some.inj h
    obtain ⟨⟨l⟩⟩ := a1
    obtain ⟨c, rfl⟩ : ∃ c, l = [c] := by
      match l, hs with
      | [c], _ => exact ⟨c, rfl⟩
    refine (Try.stringslite_Index_one a0 c w).mono ?_
    rintro e w' ⟨rfl, rfl⟩
    exact ⟨rfl, Drawn0.refl _⟩
  · rw [dif_neg hs] at h
    cases h
end Go.Proofs.Ytjbdljolpkkhcaa.X
namespace Go.Proofs.Ytjbdljolpkkhcaa.X
open Go.RowKit Go.Proofs.YtjbdljolpkkhcaaW.PrintWords Go.Proofs.YtjbdljolpkkhcaaW.PrintLast Go.Proofs.YtjbdljolpkkhcaaW.PrintMore
attribute [local go_sem] max2_int min2_int max_two min_two max_three min_three max_four min_four   -- for this text's walks alone
set_option linter.unusedVariables false
set_option linter.unusedSimpArgs false

/-! ### stringslite_Cut: function 54 -/
def stringslite_Cut.f (a0 : ByteArray) (a1 : ByteArray) : Option (ByteArray × ByteArray × Bool) := (stringslite_Index.f a0 a1).bind fun t101 => (if t101 ≥ 0 then (if 0 ≤ t101 then (if t101 ≤ (a0.size : Int) then (if 0 ≤ (wrap64 (t101 + (a1.size : Int))) then (if (wrap64 (t101 + (a1.size : Int))) ≤ (a0.size : Int) then (some (a0.extract 0 (t101 : Int).toNat, a0.extract ((wrap64 (t101 + (a1.size : Int))) : Int).toNat a0.size, true)) else (none)) else (none)) else (none)) else (none)) else (some (a0, (⟨#[]⟩ : ByteArray), false)))
set_option maxHeartbeats 8000000 in
set_option maxRecDepth 100000 in
theorem stringslite_Cut.calls (a0 : ByteArray) (a1 : ByteArray) (r1 : ByteArray) (r2 : ByteArray) (r3 : Bool) (w : World) (h : stringslite_Cut.f a0 a1 = some (r1, r2, r3)) :
    Calls Try.prog 54 #[.string a0, .string a1] w fun e w' => e = .returned (.tuple #[.string r1, .string r2, .bool r3]) ∧ Drawn0 w w' := by
  have H : ((stringslite_Index.f a0 a1).bind fun t101 => (if t101 ≥ 0 then (if 0 ≤ t101 then (if t101 ≤ (a0.size : Int) then (if 0 ≤ (wrap64 (t101 + (a1.size : Int))) then (if (wrap64 (t101 + (a1.size : Int))) ≤ (a0.size : Int) then (some (a0.extract 0 (t101 : Int).toNat, a0.extract ((wrap64 (t101 + (a1.size : Int))) : Int).toNat a0.size, true)) else (none)) else (none)) else (none)) else (none)) else (some (a0, (⟨#[]⟩ : ByteArray), false)))) = some (r1, r2, r3) := h
  clear h
  replace H := Option.bind_eq_some_iff.mp H
  obtain ⟨t101, A30, H⟩ := H
  replace H : (if t101 ≥ 0 then (if 0 ≤ t101 then (if t101 ≤ (a0.size : Int) then (if 0 ≤ (wrap64 (t101 + (a1.size : Int))) then (if (wrap64 (t101 + (a1.size : Int))) ≤ (a0.size : Int) then (some (a0.extract 0 (t101 : Int).toNat, a0.extract ((wrap64 (t101 + (a1.size : Int))) : Int).toNat a0.size, true)) else (none)) else (none)) else (none)) else (none)) else (some (a0, (⟨#[]⟩ : ByteArray), false))) = some (r1, r2, r3) := H
  have A3 := Aside0.mk A30
  clear A30
  by_cases c4 : t101 ≥ 0
  · rw [if_pos c4] at H
    have c4b0 : decide (0 ≤ t101) = true := decide_eq_true c4
    clear c4
    by_cases c5 : 0 ≤ t101
    · rw [if_pos c5] at H
      have c5b0 := eq_true c5
      have c5b1 : decide (0 ≤ t101) = true := decide_eq_true c5
      clear c5
      by_cases c6 : t101 ≤ (a0.size : Int)
      · rw [if_pos c6] at H
        have c6b0 := eq_true c6
        have c6b1 : decide (t101 ≤ (a0.size : Int)) = true := decide_eq_true c6
        clear c6
        obtain ⟨ji7, hji7⟩ : ∃ j_ : Int, (wrap64 (t101 + (a1.size : Int))) = j_ := ⟨_, rfl⟩
        replace H : (if 0 ≤ (ji7) then (if (ji7) ≤ (a0.size : Int) then (some (a0.extract 0 (t101 : Int).toNat, a0.extract ((ji7) : Int).toNat a0.size, true)) else (none)) else (none)) = some (r1, r2, r3) := by first | (rw [hji7] at H; exact H) | (simp only [hji7] at H ⊢; exact H)
        (try rw [hji7] at A3)
        have hji7w : (IntKind.i64.wrap (t101 + (a1.size : Int))) = ji7 := (i64_w _).trans hji7
        by_cases c8 : 0 ≤ (ji7)
        · rw [if_pos c8] at H
          have c8b0 := eq_true c8
          have c8b1 : decide (0 ≤ (ji7)) = true := decide_eq_true c8
          clear c8
          by_cases c9 : (ji7) ≤ (a0.size : Int)
          · rw [if_pos c9] at H
            have c9b0 := eq_true c9
            have c9b1 : decide ((ji7) ≤ (a0.size : Int)) = true := decide_eq_true c9
            clear c9
            simp only [Option.some.injEq, Prod.mk.injEq] at H
            obtain ⟨rfl, rfl, rfl⟩ := H
            go_enter Try.func54, Try.ntmps54
            go_wp2_with (first | (go_at_call 55; (with_reducible refine (stringslite_Index.calls a0 a1 t101 _ A3.out).mono ?_); rintro e w' ⟨rfl, ⟨nd, rfl⟩⟩; (try first | exact ⟨rfl, _, World.drewN_drewN _ _ _⟩ | exact ⟨rfl, _, Eq.trans (World.drewN_drewN _ _ _) (congrArg (World.drewN _) (Nat.add_assoc _ _ _))⟩)))
            repeat (go_quiet (first | (go_at_call 55; (with_reducible refine (stringslite_Index.calls a0 a1 t101 _ A3.out).mono ?_); rintro e w' ⟨rfl, ⟨nd, rfl⟩⟩; (try first | exact ⟨rfl, _, World.drewN_drewN _ _ _⟩ | exact ⟨rfl, _, Eq.trans (World.drewN_drewN _ _ _) (congrArg (World.drewN _) (Nat.add_assoc _ _ _))⟩))); try go_wp2_with (first | (go_at_call 55; (with_reducible refine (stringslite_Index.calls a0 a1 t101 _ A3.out).mono ?_); rintro e w' ⟨rfl, ⟨nd, rfl⟩⟩; (try first | exact ⟨rfl, _, World.drewN_drewN _ _ _⟩ | exact ⟨rfl, _, Eq.trans (World.drewN_drewN _ _ _) (congrArg (World.drewN _) (Nat.add_assoc _ _ _))⟩))))
            go_ret3
            exact ⟨by first | rfl | (simp; done) | (simp only [← hji7] <;> (first | rfl | simp)) | (simp [*]; done), by repeat (first | exact Drawn0.refl _ | apply Drawn0.step)⟩
          · rw [if_neg c9] at H
            exact absurd H (by simp)
        · rw [if_neg c8] at H
          exact absurd H (by simp)
      · rw [if_neg c6] at H
        exact absurd H (by simp)
    · rw [if_neg c5] at H
      exact absurd H (by simp)
  · rw [if_neg c4] at H
    have c4b0 : decide (0 ≤ t101) = false := decide_eq_false c4
    clear c4
    simp only [Option.some.injEq, Prod.mk.injEq] at H
    obtain ⟨rfl, rfl, rfl⟩ := H
    go_enter Try.func54, Try.ntmps54
    go_wp2_with (first | (go_at_call 55; (with_reducible refine (stringslite_Index.calls a0 a1 t101 _ A3.out).mono ?_); rintro e w' ⟨rfl, ⟨nd, rfl⟩⟩; (try first | exact ⟨rfl, _, World.drewN_drewN _ _ _⟩ | exact ⟨rfl, _, Eq.trans (World.drewN_drewN _ _ _) (congrArg (World.drewN _) (Nat.add_assoc _ _ _))⟩)))
    repeat (go_quiet (first | (go_at_call 55; (with_reducible refine (stringslite_Index.calls a0 a1 t101 _ A3.out).mono ?_); rintro e w' ⟨rfl, ⟨nd, rfl⟩⟩; (try first | exact ⟨rfl, _, World.drewN_drewN _ _ _⟩ | exact ⟨rfl, _, Eq.trans (World.drewN_drewN _ _ _) (congrArg (World.drewN _) (Nat.add_assoc _ _ _))⟩))); try go_wp2_with (first | (go_at_call 55; (with_reducible refine (stringslite_Index.calls a0 a1 t101 _ A3.out).mono ?_); rintro e w' ⟨rfl, ⟨nd, rfl⟩⟩; (try first | exact ⟨rfl, _, World.drewN_drewN _ _ _⟩ | exact ⟨rfl, _, Eq.trans (World.drewN_drewN _ _ _) (congrArg (World.drewN _) (Nat.add_assoc _ _ _))⟩))))
    go_ret3
    exact ⟨by first | rfl | (simp; done) | (simp [*]; done), by repeat (first | exact Drawn0.refl _ | apply Drawn0.step)⟩

end Go.Proofs.Ytjbdljolpkkhcaa.X
namespace Go.Proofs.Ytjbdljolpkkhcaa.X
open Go.RowKit Go.Proofs.YtjbdljolpkkhcaaW.PrintWords Go.Proofs.YtjbdljolpkkhcaaW.PrintLast Go.Proofs.YtjbdljolpkkhcaaW.PrintMore
attribute [local go_sem] max2_int min2_int max_two min_two max_three min_three max_four min_four   -- for this text's walks alone
set_option linter.unusedVariables false
set_option linter.unusedSimpArgs false

/-! ### strings_Cut: function 50 -/
def strings_Cut.f (a0 : ByteArray) (a1 : ByteArray) : Option (ByteArray × ByteArray × Bool) := (stringslite_Cut.f a0 a1).bind fun bt101 => (some (bt101.1, bt101.2.1, bt101.2.2))
set_option maxHeartbeats 8000000 in
set_option maxRecDepth 100000 in
theorem strings_Cut.calls (a0 : ByteArray) (a1 : ByteArray) (r1 : ByteArray) (r2 : ByteArray) (r3 : Bool) (w : World) (h : strings_Cut.f a0 a1 = some (r1, r2, r3)) :
    Calls Try.prog 50 #[.string a0, .string a1] w fun e w' => e = .returned (.tuple #[.string r1, .string r2, .bool r3]) ∧ Drawn0 w w' := by
  have H : ((stringslite_Cut.f a0 a1).bind fun bt101 => (some (bt101.1, bt101.2.1, bt101.2.2))) = some (r1, r2, r3) := h
  clear h
  replace H := Option.bind_eq_some_iff.mp H
  obtain ⟨⟨t101, t102, t103⟩, A30, H⟩ := H
  replace H : (some (t101, t102, t103)) = some (r1, r2, r3) := H
  have A3 := Aside0.mk A30
  clear A30
  simp only [Option.some.injEq, Prod.mk.injEq] at H
  obtain ⟨rfl, rfl, rfl⟩ := H
  go_enter Try.func50, Try.ntmps50
  go_wp2_with (first | ((with_reducible refine gate_callee (f := 54) rfl ?_); refine goesL_ (some 9) rfl rfl Try.func54 (by kernel_rfl) rfl #[.string a0, .string a1] rfl (by (try simp only [List.map_toArray, List.map_cons, List.map_nil]); first | done | rfl | (simp only [List.length_drop, List.length_take]; rfl)) ?_; (with_reducible refine (stringslite_Cut.calls a0 a1 t101 t102 t103 _ A3.out).mono ?_); rintro e w' ⟨rfl, ⟨nd, rfl⟩⟩; refine ⟨_, rfl, ?_⟩))
  go_ret3
  exact ⟨by first | rfl | (simp; done) | (simp [*]; done), by repeat (first | exact Drawn0.refl _ | apply Drawn0.step)⟩

end Go.Proofs.Ytjbdljolpkkhcaa.X
namespace Go.Proofs.Ytjbdljolpkkhcaa.X
open Go.RowKit Go.Proofs.YtjbdljolpkkhcaaW.PrintWords Go.Proofs.YtjbdljolpkkhcaaW.PrintLast Go.Proofs.YtjbdljolpkkhcaaW.PrintMore
attribute [local go_sem] max2_int min2_int max_two min_two max_three min_three max_four min_four   -- for this text's walks alone
set_option linter.unusedVariables false
set_option linter.unusedSimpArgs false

/-! ### fname_row: function 42 -/
mutual
def fname_row.j0 : Nat → Int → Bool → Option (ByteArray × ByteArray)
  | 0, _, _ => none
  | k + 1, x0, x14 => if x14 = true then (some ((⟨#[]⟩ : ByteArray), (⟨#[]⟩ : ByteArray))) else ((strings_Cut.f (⟨#[65, 66, 83, 49, 49, 118, 59, 65, 78, 68, 49, 56, 101, 59, 65, 86, 69, 82, 65, 71, 69, 49, 56, 108, 59, 65, 86, 69, 82, 65, 71, 69, 73, 70, 50, 50, 114, 118, 59, 67, 69, 73, 76, 73, 78, 71, 50, 50, 118, 59, 67, 72, 65, 82, 49, 49, 118, 59, 67, 72, 79, 79, 83, 69, 50, 56, 101, 59, 67, 79, 68, 69, 49, 49, 118, 59, 67, 79, 76, 85, 77, 78, 49, 49, 110, 59, 67, 79, 76, 85, 77, 78, 83, 49, 49, 110, 59, 67, 79, 77, 66, 73, 78, 50, 50, 118, 59, 67, 79, 78, 67, 65, 84, 49, 56, 108, 59, 67, 79, 85, 78, 84, 49, 56, 108, 59, 67, 79, 85, 78, 84, 65, 49, 56, 108, 59, 67, 79, 85, 78, 84, 66, 76, 65, 78, 75, 49, 56, 108, 59, 67, 79, 85, 78, 84, 73, 70, 50, 50, 114, 118, 59, 68, 69, 67, 76, 65, 83, 83, 50, 50, 101, 116, 59, 69, 86, 69, 78, 49, 49, 118, 59, 69, 88, 65, 67, 84, 50, 50, 118, 59, 70, 65, 67, 84, 49, 49, 118, 59, 70, 73, 78, 68, 50, 50, 118, 59, 70, 76, 79, 79, 82, 50, 50, 118, 59, 71, 67, 68, 50, 50, 118, 59, 72, 76, 79, 79, 75, 85, 80, 51, 51, 118, 114, 118, 59, 73, 70, 50, 51, 101, 59, 73, 70, 69, 82, 82, 79, 82, 50, 50, 101, 59, 73, 78, 68, 69, 88, 50, 51, 114, 118, 59, 73, 78, 84, 49, 49, 118, 59, 73, 83, 66, 76, 65, 78, 75, 49, 49, 118, 59, 73, 83, 69, 82, 82, 79, 82, 49, 49, 118, 59, 73, 83, 76, 79, 71, 73, 67, 65, 76, 49, 49, 118, 59, 73, 83, 78, 85, 77, 66, 69, 82, 49, 49, 118, 59, 73, 83, 84, 69, 88, 84, 49, 49, 118, 59, 76, 65, 82, 71, 69, 50, 50, 114, 118, 59, 76, 67, 77, 50, 50, 118, 59, 76, 69, 70, 84, 50, 50, 118, 59, 76, 69, 78, 49, 49, 118, 59, 76, 79, 87, 69, 82, 49, 49, 118, 59, 77, 65, 84, 67, 72, 50, 50, 118, 114, 59, 77, 65, 88, 49, 56, 108, 59, 77, 69, 68, 73, 65, 78, 49, 56, 108, 59, 77, 73, 68, 51, 51, 118, 59, 77, 73, 78, 49, 56, 108, 59, 77, 79, 68, 50, 50, 118, 59, 77, 79, 68, 69, 49, 56, 108, 59, 78, 65, 48, 48, 59, 78, 79, 84, 49, 49, 118, 59, 79, 68, 68, 49, 49, 118, 59, 79, 82, 49, 56, 101, 59, 80, 79, 87, 69, 82, 50, 50, 118, 59, 80, 82, 79, 68, 85, 67, 84, 49, 56, 108, 59, 80, 82, 79, 80, 69, 82, 49, 49, 118, 59, 81, 85, 79, 84, 73, 69, 78, 84, 50, 50, 118, 59, 82, 65, 78, 75, 50, 50, 118, 114, 59, 82, 69, 80, 84, 50, 50, 118, 59, 82, 69, 86, 69, 82, 83, 69, 49, 49, 118, 59, 82, 73, 71, 72, 84, 50, 50, 118, 59, 82, 79, 85, 78, 68, 50, 50, 118, 59, 82, 79, 85, 78, 68, 68, 79, 87, 78, 50, 50, 118, 59, 82, 79, 85, 78, 68, 85, 80, 50, 50, 118, 59, 82, 79, 87, 49, 49, 110, 59, 82, 79, 87, 83, 49, 49, 110, 59, 83, 73, 71, 78, 49, 49, 118, 59, 83, 77, 65, 76, 76, 50, 50, 114, 118, 59, 83, 81, 82, 84, 49, 49, 118, 59, 83, 85, 66, 83, 84, 73, 84, 85, 84, 69, 51, 51, 118, 59, 83, 85, 77, 49, 56, 108, 59, 83, 85, 77, 73, 70, 50, 50, 114, 118, 59, 83, 85, 77, 80, 82, 79, 68, 85, 67, 84, 50, 50, 114, 59, 83, 85, 77, 83, 81, 49, 56, 108, 59, 83, 87, 73, 84, 67, 72, 51, 56, 101, 59, 84, 69, 88, 84, 50, 50, 118, 59, 84, 82, 73, 77, 49, 49, 118, 59, 84, 82, 85, 78, 67, 49, 49, 118, 59, 85, 80, 80, 69, 82, 49, 49, 118, 59, 86, 65, 76, 85, 69, 49, 49, 118, 59, 86, 76, 79, 79, 75, 85, 80, 51, 51, 118, 114, 118, 59, 88, 79, 82, 49, 56, 108]⟩ : ByteArray) (⟨#[59]⟩ : ByteArray)).bind fun bt101 => (fname_row.l0 k x0 bt101.1 bt101.2.1 1))
def fname_row.l0 : Nat → Int → ByteArray → ByteArray → Int → Option (ByteArray × ByteArray)
  | 0, _, _, _, _ => none
  | k + 1, x0, x4, x5, x7 => if x7 < x0 then ((strings_Cut.f x5 (⟨#[59]⟩ : ByteArray)).bind fun bt104 => (fname_row.l0 k x0 bt104.1 bt104.2.1 (wrap64 (x7 + 1)))) else (fname_row.l1 k x4 0)
def fname_row.l1 : Nat → ByteArray → Int → Option (ByteArray × ByteArray)
  | 0, _, _ => none
  | k + 1, x4, x8 => if 0 ≤ x8 then (if x8 < (x4.size : Int) then (if (bt x4 x8) ≥ 65 then (fname_row.l1 k x4 (wrap64 (x8 + 1))) else (if x8 ≤ (x4.size : Int) then (some (x4.extract 0 (x8 : Int).toNat, x4.extract (x8 : Int).toNat x4.size)) else (none))) else (none)) else (none)
end
def fname_row.f (k : Nat) (a0 : Int) : Option (ByteArray × ByteArray) := if a0 < 1 then (fname_row.j0 k a0 true) else (fname_row.j0 k a0 (decide (a0 > 78)))
theorem fname_row.mono_l : ∀ k, (∀ y0 y1, LeO (fname_row.j0 k y0 y1) (fname_row.j0 (k + 1) y0 y1)) ∧ (∀ y0 y1 y2 y3, LeO (fname_row.l0 k y0 y1 y2 y3) (fname_row.l0 (k + 1) y0 y1 y2 y3)) ∧ (∀ y0 y1, LeO (fname_row.l1 k y0 y1) (fname_row.l1 (k + 1) y0 y1))
  | 0 => ⟨fun _ _ r h => by simp [fname_row.j0] at h, fun _ _ _ _ r h => by simp [fname_row.l0] at h, fun _ _ r h => by simp [fname_row.l1] at h⟩
  | k + 1 => by
    obtain ⟨ih0, ih1, ih2⟩ := fname_row.mono_l k
    refine ⟨?_, ?_, ?_⟩
    · intro y0 y1
      unfold fname_row.j0
      repeat' first
      | (with_reducible exact ih0 _ _)
      | (with_reducible exact ih1 _ _ _ _)
      | (with_reducible exact ih2 _ _)
      | (with_reducible exact LeO.refl _)
      | (with_reducible exact LeO.none _)
      | (with_reducible refine LeO.ite ?_ ?_)
      | (with_reducible refine LeO.bind ?_ (fun _ => ?_))
      | exact ih0 _ _
      | exact ih1 _ _ _ _
      | exact ih2 _ _
      | exact LeO.none _
      | refine LeO.ite ?_ ?_
      | refine LeO.bind ?_ (fun _ => ?_)
    · intro y0 y1 y2 y3
      unfold fname_row.l0
      repeat' first
      | (with_reducible exact ih0 _ _)
      | (with_reducible exact ih1 _ _ _ _)
      | (with_reducible exact ih2 _ _)
      | (with_reducible exact LeO.refl _)
      | (with_reducible exact LeO.none _)
      | (with_reducible refine LeO.ite ?_ ?_)
      | (with_reducible refine LeO.bind ?_ (fun _ => ?_))
      | exact ih0 _ _
      | exact ih1 _ _ _ _
      | exact ih2 _ _
      | exact LeO.none _
      | refine LeO.ite ?_ ?_
      | refine LeO.bind ?_ (fun _ => ?_)
    · intro y0 y1
      unfold fname_row.l1
      repeat' first
      | (with_reducible exact ih0 _ _)
      | (with_reducible exact ih1 _ _ _ _)
      | (with_reducible exact ih2 _ _)
      | (with_reducible exact LeO.refl _)
      | (with_reducible exact LeO.none _)
      | (with_reducible refine LeO.ite ?_ ?_)
      | (with_reducible refine LeO.bind ?_ (fun _ => ?_))
      | exact ih0 _ _
      | exact ih1 _ _ _ _
      | exact ih2 _ _
      | exact LeO.none _
      | refine LeO.ite ?_ ?_
      | refine LeO.bind ?_ (fun _ => ?_)
theorem fname_row.mono : ∀ a0 k, LeO (fname_row.f k a0) (fname_row.f (k + 1) a0) := by
  intro a0 k
  obtain ⟨ih0, ih1, ih2⟩ := fname_row.mono_l k
  unfold fname_row.f
  repeat' first
      | (with_reducible exact ih0 _ _)
      | (with_reducible exact ih1 _ _ _ _)
      | (with_reducible exact ih2 _ _)
      | (with_reducible exact LeO.refl _)
      | (with_reducible exact LeO.none _)
      | (with_reducible refine LeO.ite ?_ ?_)
      | (with_reducible refine LeO.bind ?_ (fun _ => ?_))
      | exact ih0 _ _
      | exact ih1 _ _ _ _
      | exact ih2 _ _
      | exact LeO.none _
      | refine LeO.ite ?_ ?_
      | refine LeO.bind ?_ (fun _ => ?_)
set_option maxHeartbeats 8000000 in
set_option maxRecDepth 100000 in
theorem fname_row.calls (k : Nat) (a0 : Int) (r1 : ByteArray) (r2 : ByteArray) (w : World) (h : fname_row.f k a0 = some (r1, r2)) :
    Calls Try.prog 42 #[.int .i64 a0] w fun e w' => e = .returned (.tuple #[.string r1, .string r2]) ∧ Drawn0 w w' := by
  have H : (if a0 < 1 then (fname_row.j0 k a0 true) else (fname_row.j0 k a0 (decide (a0 > 78)))) = some (r1, r2) := h
  clear h
  have HC2 := Aside0.mk H
  clear H
  go_enter Try.func42, Try.ntmps42
  go_upto_region 1 with (fail)
  repeat (go_quiet (fail); go_upto_region 1 with (fail))
  go_cut [14] (fun v14 wc => ∃ (kq : Nat) (x14_1 : Bool), v14 = .bool x14_1 ∧ Aside0 (fname_row.j0 kq a0 x14_1 = some (r1, r2)) ∧ Aside0 (kq ≤ k) ∧ Drawn0 w wc)
  case first =>
    have H := HC2.out
    clear HC2
    by_cases c3 : a0 < 1
    · rw [if_pos c3] at H
      have c3b0 : decide (a0 < 1) = true := decide_eq_true c3
      clear c3
      (first | rw [c3b0] | (simp only [i64_w, i32_w]; rw [c3b0]) | skip)
      have H' := Aside0.mk H
      clear H
      go_wp2
      repeat (go_quiet (fail); try go_wp2)
      go_meet
      case rel => exact ⟨_, (true), (by first | rfl | (simp; done) | (simp [*]; done)), H', ⟨by first | omega | exact Nat.le_refl _⟩, by repeat (first | exact Drawn0.refl _ | apply Drawn0.step)⟩
    · rw [if_neg c3] at H
      have c3b0 : decide (a0 < 1) = false := decide_eq_false c3
      clear c3
      (first | rw [c3b0] | (simp only [i64_w, i32_w]; rw [c3b0]) | skip)
      have H' := Aside0.mk H
      clear H
      go_wp2
      repeat (go_quiet (fail); try go_wp2)
      go_meet
      case rel => exact ⟨_, (decide (a0 > 78)), (by first | rfl | (simp; done) | (simp [*]; done)), H', ⟨by first | omega | exact Nat.le_refl _⟩, by repeat (first | exact Drawn0.refl _ | apply Drawn0.step)⟩
  case rest =>
    clear HC2
    try clear p2
    try clear c3
    try clear c3b0
    obtain ⟨kq, x14_1, rfl, HA, HJ1, ⟨mc1, rfl⟩⟩ := hcut
    cases kq with
    | zero => exact absurd HA.out (by simp [fname_row.j0])
    | succ kj1 =>
      have H := HA.out
      clear HA
      simp only [fname_row.j0] at H
      by_cases c4 : x14_1 = true
      · subst c4
        have H1 : (some ((⟨#[]⟩ : ByteArray), (⟨#[]⟩ : ByteArray))) = some (r1, r2) := by rw [if_pos rfl] at H; exact H
        clear H
        have H := H1
        clear H1
        simp only [Option.some.injEq, Prod.mk.injEq] at H
        obtain ⟨rfl, rfl⟩ := H
        go_wp2
        repeat (go_quiet (fail); try go_wp2)
        go_ret2
        exact ⟨by first | rfl | (simp; done) | (simp [*]; done), by repeat (first | exact Drawn0.refl _ | apply Drawn0.step)⟩
      · replace c4 := Bool.eq_false_iff.mpr c4
        subst c4
        have H1 : ((strings_Cut.f (⟨#[65, 66, 83, 49, 49, 118, 59, 65, 78, 68, 49, 56, 101, 59, 65, 86, 69, 82, 65, 71, 69, 49, 56, 108, 59, 65, 86, 69, 82, 65, 71, 69, 73, 70, 50, 50, 114, 118, 59, 67, 69, 73, 76, 73, 78, 71, 50, 50, 118, 59, 67, 72, 65, 82, 49, 49, 118, 59, 67, 72, 79, 79, 83, 69, 50, 56, 101, 59, 67, 79, 68, 69, 49, 49, 118, 59, 67, 79, 76, 85, 77, 78, 49, 49, 110, 59, 67, 79, 76, 85, 77, 78, 83, 49, 49, 110, 59, 67, 79, 77, 66, 73, 78, 50, 50, 118, 59, 67, 79, 78, 67, 65, 84, 49, 56, 108, 59, 67, 79, 85, 78, 84, 49, 56, 108, 59, 67, 79, 85, 78, 84, 65, 49, 56, 108, 59, 67, 79, 85, 78, 84, 66, 76, 65, 78, 75, 49, 56, 108, 59, 67, 79, 85, 78, 84, 73, 70, 50, 50, 114, 118, 59, 68, 69, 67, 76, 65, 83, 83, 50, 50, 101, 116, 59, 69, 86, 69, 78, 49, 49, 118, 59, 69, 88, 65, 67, 84, 50, 50, 118, 59, 70, 65, 67, 84, 49, 49, 118, 59, 70, 73, 78, 68, 50, 50, 118, 59, 70, 76, 79, 79, 82, 50, 50, 118, 59, 71, 67, 68, 50, 50, 118, 59, 72, 76, 79, 79, 75, 85, 80, 51, 51, 118, 114, 118, 59, 73, 70, 50, 51, 101, 59, 73, 70, 69, 82, 82, 79, 82, 50, 50, 101, 59, 73, 78, 68, 69, 88, 50, 51, 114, 118, 59, 73, 78, 84, 49, 49, 118, 59, 73, 83, 66, 76, 65, 78, 75, 49, 49, 118, 59, 73, 83, 69, 82, 82, 79, 82, 49, 49, 118, 59, 73, 83, 76, 79, 71, 73, 67, 65, 76, 49, 49, 118, 59, 73, 83, 78, 85, 77, 66, 69, 82, 49, 49, 118, 59, 73, 83, 84, 69, 88, 84, 49, 49, 118, 59, 76, 65, 82, 71, 69, 50, 50, 114, 118, 59, 76, 67, 77, 50, 50, 118, 59, 76, 69, 70, 84, 50, 50, 118, 59, 76, 69, 78, 49, 49, 118, 59, 76, 79, 87, 69, 82, 49, 49, 118, 59, 77, 65, 84, 67, 72, 50, 50, 118, 114, 59, 77, 65, 88, 49, 56, 108, 59, 77, 69, 68, 73, 65, 78, 49, 56, 108, 59, 77, 73, 68, 51, 51, 118, 59, 77, 73, 78, 49, 56, 108, 59, 77, 79, 68, 50, 50, 118, 59, 77, 79, 68, 69, 49, 56, 108, 59, 78, 65, 48, 48, 59, 78, 79, 84, 49, 49, 118, 59, 79, 68, 68, 49, 49, 118, 59, 79, 82, 49, 56, 101, 59, 80, 79, 87, 69, 82, 50, 50, 118, 59, 80, 82, 79, 68, 85, 67, 84, 49, 56, 108, 59, 80, 82, 79, 80, 69, 82, 49, 49, 118, 59, 81, 85, 79, 84, 73, 69, 78, 84, 50, 50, 118, 59, 82, 65, 78, 75, 50, 50, 118, 114, 59, 82, 69, 80, 84, 50, 50, 118, 59, 82, 69, 86, 69, 82, 83, 69, 49, 49, 118, 59, 82, 73, 71, 72, 84, 50, 50, 118, 59, 82, 79, 85, 78, 68, 50, 50, 118, 59, 82, 79, 85, 78, 68, 68, 79, 87, 78, 50, 50, 118, 59, 82, 79, 85, 78, 68, 85, 80, 50, 50, 118, 59, 82, 79, 87, 49, 49, 110, 59, 82, 79, 87, 83, 49, 49, 110, 59, 83, 73, 71, 78, 49, 49, 118, 59, 83, 77, 65, 76, 76, 50, 50, 114, 118, 59, 83, 81, 82, 84, 49, 49, 118, 59, 83, 85, 66, 83, 84, 73, 84, 85, 84, 69, 51, 51, 118, 59, 83, 85, 77, 49, 56, 108, 59, 83, 85, 77, 73, 70, 50, 50, 114, 118, 59, 83, 85, 77, 80, 82, 79, 68, 85, 67, 84, 50, 50, 114, 59, 83, 85, 77, 83, 81, 49, 56, 108, 59, 83, 87, 73, 84, 67, 72, 51, 56, 101, 59, 84, 69, 88, 84, 50, 50, 118, 59, 84, 82, 73, 77, 49, 49, 118, 59, 84, 82, 85, 78, 67, 49, 49, 118, 59, 85, 80, 80, 69, 82, 49, 49, 118, 59, 86, 65, 76, 85, 69, 49, 49, 118, 59, 86, 76, 79, 79, 75, 85, 80, 51, 51, 118, 114, 118, 59, 88, 79, 82, 49, 56, 108]⟩ : ByteArray) (⟨#[59]⟩ : ByteArray)).bind fun bt101 => (fname_row.l0 kj1 a0 bt101.1 bt101.2.1 1)) = some (r1, r2) := by rw [if_neg (show ¬ (false = true) by decide)] at H; exact H
        clear H
        have H := H1
        clear H1
        replace H := Option.bind_eq_some_iff.mp H
        obtain ⟨⟨t101, t102, t103⟩, A50, H⟩ := H
        replace H : (fname_row.l0 kj1 a0 t101 t102 1) = some (r1, r2) := H
        have A5 := Aside0.mk A50
        clear A50
        have H' := Aside0.mk H
        clear H
        go_wp2_with (first | (go_at_call 50; (with_reducible refine (strings_Cut.calls (⟨#[65, 66, 83, 49, 49, 118, 59, 65, 78, 68, 49, 56, 101, 59, 65, 86, 69, 82, 65, 71, 69, 49, 56, 108, 59, 65, 86, 69, 82, 65, 71, 69, 73, 70, 50, 50, 114, 118, 59, 67, 69, 73, 76, 73, 78, 71, 50, 50, 118, 59, 67, 72, 65, 82, 49, 49, 118, 59, 67, 72, 79, 79, 83, 69, 50, 56, 101, 59, 67, 79, 68, 69, 49, 49, 118, 59, 67, 79, 76, 85, 77, 78, 49, 49, 110, 59, 67, 79, 76, 85, 77, 78, 83, 49, 49, 110, 59, 67, 79, 77, 66, 73, 78, 50, 50, 118, 59, 67, 79, 78, 67, 65, 84, 49, 56, 108, 59, 67, 79, 85, 78, 84, 49, 56, 108, 59, 67, 79, 85, 78, 84, 65, 49, 56, 108, 59, 67, 79, 85, 78, 84, 66, 76, 65, 78, 75, 49, 56, 108, 59, 67, 79, 85, 78, 84, 73, 70, 50, 50, 114, 118, 59, 68, 69, 67, 76, 65, 83, 83, 50, 50, 101, 116, 59, 69, 86, 69, 78, 49, 49, 118, 59, 69, 88, 65, 67, 84, 50, 50, 118, 59, 70, 65, 67, 84, 49, 49, 118, 59, 70, 73, 78, 68, 50, 50, 118, 59, 70, 76, 79, 79, 82, 50, 50, 118, 59, 71, 67, 68, 50, 50, 118, 59, 72, 76, 79, 79, 75, 85, 80, 51, 51, 118, 114, 118, 59, 73, 70, 50, 51, 101, 59, 73, 70, 69, 82, 82, 79, 82, 50, 50, 101, 59, 73, 78, 68, 69, 88, 50, 51, 114, 118, 59, 73, 78, 84, 49, 49, 118, 59, 73, 83, 66, 76, 65, 78, 75, 49, 49, 118, 59, 73, 83, 69, 82, 82, 79, 82, 49, 49, 118, 59, 73, 83, 76, 79, 71, 73, 67, 65, 76, 49, 49, 118, 59, 73, 83, 78, 85, 77, 66, 69, 82, 49, 49, 118, 59, 73, 83, 84, 69, 88, 84, 49, 49, 118, 59, 76, 65, 82, 71, 69, 50, 50, 114, 118, 59, 76, 67, 77, 50, 50, 118, 59, 76, 69, 70, 84, 50, 50, 118, 59, 76, 69, 78, 49, 49, 118, 59, 76, 79, 87, 69, 82, 49, 49, 118, 59, 77, 65, 84, 67, 72, 50, 50, 118, 114, 59, 77, 65, 88, 49, 56, 108, 59, 77, 69, 68, 73, 65, 78, 49, 56, 108, 59, 77, 73, 68, 51, 51, 118, 59, 77, 73, 78, 49, 56, 108, 59, 77, 79, 68, 50, 50, 118, 59, 77, 79, 68, 69, 49, 56, 108, 59, 78, 65, 48, 48, 59, 78, 79, 84, 49, 49, 118, 59, 79, 68, 68, 49, 49, 118, 59, 79, 82, 49, 56, 101, 59, 80, 79, 87, 69, 82, 50, 50, 118, 59, 80, 82, 79, 68, 85, 67, 84, 49, 56, 108, 59, 80, 82, 79, 80, 69, 82, 49, 49, 118, 59, 81, 85, 79, 84, 73, 69, 78, 84, 50, 50, 118, 59, 82, 65, 78, 75, 50, 50, 118, 114, 59, 82, 69, 80, 84, 50, 50, 118, 59, 82, 69, 86, 69, 82, 83, 69, 49, 49, 118, 59, 82, 73, 71, 72, 84, 50, 50, 118, 59, 82, 79, 85, 78, 68, 50, 50, 118, 59, 82, 79, 85, 78, 68, 68, 79, 87, 78, 50, 50, 118, 59, 82, 79, 85, 78, 68, 85, 80, 50, 50, 118, 59, 82, 79, 87, 49, 49, 110, 59, 82, 79, 87, 83, 49, 49, 110, 59, 83, 73, 71, 78, 49, 49, 118, 59, 83, 77, 65, 76, 76, 50, 50, 114, 118, 59, 83, 81, 82, 84, 49, 49, 118, 59, 83, 85, 66, 83, 84, 73, 84, 85, 84, 69, 51, 51, 118, 59, 83, 85, 77, 49, 56, 108, 59, 83, 85, 77, 73, 70, 50, 50, 114, 118, 59, 83, 85, 77, 80, 82, 79, 68, 85, 67, 84, 50, 50, 114, 59, 83, 85, 77, 83, 81, 49, 56, 108, 59, 83, 87, 73, 84, 67, 72, 51, 56, 101, 59, 84, 69, 88, 84, 50, 50, 118, 59, 84, 82, 73, 77, 49, 49, 118, 59, 84, 82, 85, 78, 67, 49, 49, 118, 59, 85, 80, 80, 69, 82, 49, 49, 118, 59, 86, 65, 76, 85, 69, 49, 49, 118, 59, 86, 76, 79, 79, 75, 85, 80, 51, 51, 118, 114, 118, 59, 88, 79, 82, 49, 56, 108]⟩ : ByteArray) (⟨#[59]⟩ : ByteArray) t101 t102 t103 _ A5.out).mono ?_); rintro e w' ⟨rfl, ⟨nd, rfl⟩⟩; (try first | exact ⟨rfl, _, World.drewN_drewN _ _ _⟩ | exact ⟨rfl, _, Eq.trans (World.drewN_drewN _ _ _) (congrArg (World.drewN _) (Nat.add_assoc _ _ _))⟩)))
        repeat (go_quiet (first | (go_at_call 50; (with_reducible refine (strings_Cut.calls (⟨#[65, 66, 83, 49, 49, 118, 59, 65, 78, 68, 49, 56, 101, 59, 65, 86, 69, 82, 65, 71, 69, 49, 56, 108, 59, 65, 86, 69, 82, 65, 71, 69, 73, 70, 50, 50, 114, 118, 59, 67, 69, 73, 76, 73, 78, 71, 50, 50, 118, 59, 67, 72, 65, 82, 49, 49, 118, 59, 67, 72, 79, 79, 83, 69, 50, 56, 101, 59, 67, 79, 68, 69, 49, 49, 118, 59, 67, 79, 76, 85, 77, 78, 49, 49, 110, 59, 67, 79, 76, 85, 77, 78, 83, 49, 49, 110, 59, 67, 79, 77, 66, 73, 78, 50, 50, 118, 59, 67, 79, 78, 67, 65, 84, 49, 56, 108, 59, 67, 79, 85, 78, 84, 49, 56, 108, 59, 67, 79, 85, 78, 84, 65, 49, 56, 108, 59, 67, 79, 85, 78, 84, 66, 76, 65, 78, 75, 49, 56, 108, 59, 67, 79, 85, 78, 84, 73, 70, 50, 50, 114, 118, 59, 68, 69, 67, 76, 65, 83, 83, 50, 50, 101, 116, 59, 69, 86, 69, 78, 49, 49, 118, 59, 69, 88, 65, 67, 84, 50, 50, 118, 59, 70, 65, 67, 84, 49, 49, 118, 59, 70, 73, 78, 68, 50, 50, 118, 59, 70, 76, 79, 79, 82, 50, 50, 118, 59, 71, 67, 68, 50, 50, 118, 59, 72, 76, 79, 79, 75, 85, 80, 51, 51, 118, 114, 118, 59, 73, 70, 50, 51, 101, 59, 73, 70, 69, 82, 82, 79, 82, 50, 50, 101, 59, 73, 78, 68, 69, 88, 50, 51, 114, 118, 59, 73, 78, 84, 49, 49, 118, 59, 73, 83, 66, 76, 65, 78, 75, 49, 49, 118, 59, 73, 83, 69, 82, 82, 79, 82, 49, 49, 118, 59, 73, 83, 76, 79, 71, 73, 67, 65, 76, 49, 49, 118, 59, 73, 83, 78, 85, 77, 66, 69, 82, 49, 49, 118, 59, 73, 83, 84, 69, 88, 84, 49, 49, 118, 59, 76, 65, 82, 71, 69, 50, 50, 114, 118, 59, 76, 67, 77, 50, 50, 118, 59, 76, 69, 70, 84, 50, 50, 118, 59, 76, 69, 78, 49, 49, 118, 59, 76, 79, 87, 69, 82, 49, 49, 118, 59, 77, 65, 84, 67, 72, 50, 50, 118, 114, 59, 77, 65, 88, 49, 56, 108, 59, 77, 69, 68, 73, 65, 78, 49, 56, 108, 59, 77, 73, 68, 51, 51, 118, 59, 77, 73, 78, 49, 56, 108, 59, 77, 79, 68, 50, 50, 118, 59, 77, 79, 68, 69, 49, 56, 108, 59, 78, 65, 48, 48, 59, 78, 79, 84, 49, 49, 118, 59, 79, 68, 68, 49, 49, 118, 59, 79, 82, 49, 56, 101, 59, 80, 79, 87, 69, 82, 50, 50, 118, 59, 80, 82, 79, 68, 85, 67, 84, 49, 56, 108, 59, 80, 82, 79, 80, 69, 82, 49, 49, 118, 59, 81, 85, 79, 84, 73, 69, 78, 84, 50, 50, 118, 59, 82, 65, 78, 75, 50, 50, 118, 114, 59, 82, 69, 80, 84, 50, 50, 118, 59, 82, 69, 86, 69, 82, 83, 69, 49, 49, 118, 59, 82, 73, 71, 72, 84, 50, 50, 118, 59, 82, 79, 85, 78, 68, 50, 50, 118, 59, 82, 79, 85, 78, 68, 68, 79, 87, 78, 50, 50, 118, 59, 82, 79, 85, 78, 68, 85, 80, 50, 50, 118, 59, 82, 79, 87, 49, 49, 110, 59, 82, 79, 87, 83, 49, 49, 110, 59, 83, 73, 71, 78, 49, 49, 118, 59, 83, 77, 65, 76, 76, 50, 50, 114, 118, 59, 83, 81, 82, 84, 49, 49, 118, 59, 83, 85, 66, 83, 84, 73, 84, 85, 84, 69, 51, 51, 118, 59, 83, 85, 77, 49, 56, 108, 59, 83, 85, 77, 73, 70, 50, 50, 114, 118, 59, 83, 85, 77, 80, 82, 79, 68, 85, 67, 84, 50, 50, 114, 59, 83, 85, 77, 83, 81, 49, 56, 108, 59, 83, 87, 73, 84, 67, 72, 51, 56, 101, 59, 84, 69, 88, 84, 50, 50, 118, 59, 84, 82, 73, 77, 49, 49, 118, 59, 84, 82, 85, 78, 67, 49, 49, 118, 59, 85, 80, 80, 69, 82, 49, 49, 118, 59, 86, 65, 76, 85, 69, 49, 49, 118, 59, 86, 76, 79, 79, 75, 85, 80, 51, 51, 118, 114, 118, 59, 88, 79, 82, 49, 56, 108]⟩ : ByteArray) (⟨#[59]⟩ : ByteArray) t101 t102 t103 _ A5.out).mono ?_); rintro e w' ⟨rfl, ⟨nd, rfl⟩⟩; (try first | exact ⟨rfl, _, World.drewN_drewN _ _ _⟩ | exact ⟨rfl, _, Eq.trans (World.drewN_drewN _ _ _) (congrArg (World.drewN _) (Nat.add_assoc _ _ _))⟩))); try go_wp2_with (first | (go_at_call 50; (with_reducible refine (strings_Cut.calls (⟨#[65, 66, 83, 49, 49, 118, 59, 65, 78, 68, 49, 56, 101, 59, 65, 86, 69, 82, 65, 71, 69, 49, 56, 108, 59, 65, 86, 69, 82, 65, 71, 69, 73, 70, 50, 50, 114, 118, 59, 67, 69, 73, 76, 73, 78, 71, 50, 50, 118, 59, 67, 72, 65, 82, 49, 49, 118, 59, 67, 72, 79, 79, 83, 69, 50, 56, 101, 59, 67, 79, 68, 69, 49, 49, 118, 59, 67, 79, 76, 85, 77, 78, 49, 49, 110, 59, 67, 79, 76, 85, 77, 78, 83, 49, 49, 110, 59, 67, 79, 77, 66, 73, 78, 50, 50, 118, 59, 67, 79, 78, 67, 65, 84, 49, 56, 108, 59, 67, 79, 85, 78, 84, 49, 56, 108, 59, 67, 79, 85, 78, 84, 65, 49, 56, 108, 59, 67, 79, 85, 78, 84, 66, 76, 65, 78, 75, 49, 56, 108, 59, 67, 79, 85, 78, 84, 73, 70, 50, 50, 114, 118, 59, 68, 69, 67, 76, 65, 83, 83, 50, 50, 101, 116, 59, 69, 86, 69, 78, 49, 49, 118, 59, 69, 88, 65, 67, 84, 50, 50, 118, 59, 70, 65, 67, 84, 49, 49, 118, 59, 70, 73, 78, 68, 50, 50, 118, 59, 70, 76, 79, 79, 82, 50, 50, 118, 59, 71, 67, 68, 50, 50, 118, 59, 72, 76, 79, 79, 75, 85, 80, 51, 51, 118, 114, 118, 59, 73, 70, 50, 51, 101, 59, 73, 70, 69, 82, 82, 79, 82, 50, 50, 101, 59, 73, 78, 68, 69, 88, 50, 51, 114, 118, 59, 73, 78, 84, 49, 49, 118, 59, 73, 83, 66, 76, 65, 78, 75, 49, 49, 118, 59, 73, 83, 69, 82, 82, 79, 82, 49, 49, 118, 59, 73, 83, 76, 79, 71, 73, 67, 65, 76, 49, 49, 118, 59, 73, 83, 78, 85, 77, 66, 69, 82, 49, 49, 118, 59, 73, 83, 84, 69, 88, 84, 49, 49, 118, 59, 76, 65, 82, 71, 69, 50, 50, 114, 118, 59, 76, 67, 77, 50, 50, 118, 59, 76, 69, 70, 84, 50, 50, 118, 59, 76, 69, 78, 49, 49, 118, 59, 76, 79, 87, 69, 82, 49, 49, 118, 59, 77, 65, 84, 67, 72, 50, 50, 118, 114, 59, 77, 65, 88, 49, 56, 108, 59, 77, 69, 68, 73, 65, 78, 49, 56, 108, 59, 77, 73, 68, 51, 51, 118, 59, 77, 73, 78, 49, 56, 108, 59, 77, 79, 68, 50, 50, 118, 59, 77, 79, 68, 69, 49, 56, 108, 59, 78, 65, 48, 48, 59, 78, 79, 84, 49, 49, 118, 59, 79, 68, 68, 49, 49, 118, 59, 79, 82, 49, 56, 101, 59, 80, 79, 87, 69, 82, 50, 50, 118, 59, 80, 82, 79, 68, 85, 67, 84, 49, 56, 108, 59, 80, 82, 79, 80, 69, 82, 49, 49, 118, 59, 81, 85, 79, 84, 73, 69, 78, 84, 50, 50, 118, 59, 82, 65, 78, 75, 50, 50, 118, 114, 59, 82, 69, 80, 84, 50, 50, 118, 59, 82, 69, 86, 69, 82, 83, 69, 49, 49, 118, 59, 82, 73, 71, 72, 84, 50, 50, 118, 59, 82, 79, 85, 78, 68, 50, 50, 118, 59, 82, 79, 85, 78, 68, 68, 79, 87, 78, 50, 50, 118, 59, 82, 79, 85, 78, 68, 85, 80, 50, 50, 118, 59, 82, 79, 87, 49, 49, 110, 59, 82, 79, 87, 83, 49, 49, 110, 59, 83, 73, 71, 78, 49, 49, 118, 59, 83, 77, 65, 76, 76, 50, 50, 114, 118, 59, 83, 81, 82, 84, 49, 49, 118, 59, 83, 85, 66, 83, 84, 73, 84, 85, 84, 69, 51, 51, 118, 59, 83, 85, 77, 49, 56, 108, 59, 83, 85, 77, 73, 70, 50, 50, 114, 118, 59, 83, 85, 77, 80, 82, 79, 68, 85, 67, 84, 50, 50, 114, 59, 83, 85, 77, 83, 81, 49, 56, 108, 59, 83, 87, 73, 84, 67, 72, 51, 56, 101, 59, 84, 69, 88, 84, 50, 50, 118, 59, 84, 82, 73, 77, 49, 49, 118, 59, 84, 82, 85, 78, 67, 49, 49, 118, 59, 85, 80, 80, 69, 82, 49, 49, 118, 59, 86, 65, 76, 85, 69, 49, 49, 118, 59, 86, 76, 79, 79, 75, 85, 80, 51, 51, 118, 114, 118, 59, 88, 79, 82, 49, 56, 108]⟩ : ByteArray) (⟨#[59]⟩ : ByteArray) t101 t102 t103 _ A5.out).mono ?_); rintro e w' ⟨rfl, ⟨nd, rfl⟩⟩; (try first | exact ⟨rfl, _, World.drewN_drewN _ _ _⟩ | exact ⟨rfl, _, Eq.trans (World.drewN_drewN _ _ _) (congrArg (World.drewN _) (Nat.add_assoc _ _ _))⟩))))
        go_loopg [4, 5, 7] kj1 (fun kq v4 v5 v7 w' => ∃ (x4_2 : ByteArray) (x5_2 : ByteArray) (x7_2 : Int), v4 = .string x4_2 ∧ v5 = .string x5_2 ∧ v7 = .int .i64 x7_2 ∧ Aside0 (fname_row.l0 kq a0 x4_2 x5_2 x7_2 = some (r1, r2)) ∧ Aside0 (kq ≤ kj1) ∧ Drawn0 w w')
        case atStart => exact ⟨(t101), (t102), (1), (by first | rfl | (simp; done) | (simp [*]; done) | (cases t101 <;> simp; done)), (by first | rfl | (simp; done) | (simp [*]; done) | (cases t102 <;> simp; done)), (by first | rfl | (simp; done) | (simp [*]; done)), H', ⟨Nat.le_refl _⟩, by repeat (first | exact Drawn0.refl _ | apply Drawn0.step)⟩
        case round =>
          clear H'
          try clear c1
          try clear p2
          try clear c3
          try clear c3b0
          try clear c4
          try clear p2
          obtain ⟨x4_2, x5_2, x7_2, rfl, rfl, rfl, HA, HK2, ⟨m2, rfl⟩⟩ := hrel
          cases gk with
          | zero => exact absurd HA.out (by simp [fname_row.l0])
          | succ k2 =>
            have H := HA.out
            clear HA
            simp only [fname_row.l0] at H
            by_cases c6 : x7_2 < a0
            · rw [if_pos c6] at H
              have c6b0 : decide (x7_2 < a0) = true := decide_eq_true c6
              clear c6
              replace H := Option.bind_eq_some_iff.mp H
              obtain ⟨⟨t104, t105, t106⟩, A70, H⟩ := H
              replace H : (fname_row.l0 k2 a0 t104 t105 (wrap64 (x7_2 + 1))) = some (r1, r2) := H
              have A7 := Aside0.mk A70
              clear A70
              have H' := Aside0.mk H
              clear H
              go_wp2_with (first | (go_at_call 50; (with_reducible refine (strings_Cut.calls x5_2 (⟨#[59]⟩ : ByteArray) t104 t105 t106 _ A7.out).mono ?_); rintro e w' ⟨rfl, ⟨nd, rfl⟩⟩; (try first | exact ⟨rfl, _, World.drewN_drewN _ _ _⟩ | exact ⟨rfl, _, Eq.trans (World.drewN_drewN _ _ _) (congrArg (World.drewN _) (Nat.add_assoc _ _ _))⟩)))
              repeat (go_quiet (first | (go_at_call 50; (with_reducible refine (strings_Cut.calls x5_2 (⟨#[59]⟩ : ByteArray) t104 t105 t106 _ A7.out).mono ?_); rintro e w' ⟨rfl, ⟨nd, rfl⟩⟩; (try first | exact ⟨rfl, _, World.drewN_drewN _ _ _⟩ | exact ⟨rfl, _, Eq.trans (World.drewN_drewN _ _ _) (congrArg (World.drewN _) (Nat.add_assoc _ _ _))⟩))); try go_wp2_with (first | (go_at_call 50; (with_reducible refine (strings_Cut.calls x5_2 (⟨#[59]⟩ : ByteArray) t104 t105 t106 _ A7.out).mono ?_); rintro e w' ⟨rfl, ⟨nd, rfl⟩⟩; (try first | exact ⟨rfl, _, World.drewN_drewN _ _ _⟩ | exact ⟨rfl, _, Eq.trans (World.drewN_drewN _ _ _) (congrArg (World.drewN _) (Nat.add_assoc _ _ _))⟩))))
              go_roundg k2
              case measure => have := HJ1.out; have := HK2.out; omega
              case rel => exact ⟨(t104), (t105), (wrap64 (x7_2 + 1)), (by first | rfl | (simp; done) | (simp [*]; done) | (cases t104 <;> simp; done)), (by first | rfl | (simp; done) | (simp [*]; done) | (cases t105 <;> simp; done)), (by first | rfl | (simp; done) | (simp [*]; done)), H', ⟨by have := HJ1.out; have := HK2.out; omega⟩, by repeat (first | exact Drawn0.refl _ | apply Drawn0.step)⟩
            · rw [if_neg c6] at H
              have c6b0 : decide (x7_2 < a0) = false := decide_eq_false c6
              clear c6
              have H' := Aside0.mk H
              clear H
              go_wp2
              repeat (go_quiet (fail); try go_wp2)
              go_loopg [8] k2 (fun kq v8 w' => ∃ (x8_3 : Int), v8 = .int .i64 x8_3 ∧ Aside0 (fname_row.l1 kq x4_2 x8_3 = some (r1, r2)) ∧ Aside0 (kq ≤ k2) ∧ Drawn0 w w')
              case atStart => exact ⟨(0), (by first | rfl | (simp; done) | (simp [*]; done)), H', ⟨Nat.le_refl _⟩, by repeat (first | exact Drawn0.refl _ | apply Drawn0.step)⟩
              case round =>
                clear H'
                try clear c1
                try clear p2
                try clear c3
                try clear c3b0
                try clear c4
                try clear c6
                try clear c6b0
                try clear p6
                try clear p2
                obtain ⟨x8_3, rfl, HA, HK3, ⟨m3, rfl⟩⟩ := hrel
                cases gk with
                | zero => exact absurd HA.out (by simp [fname_row.l1])
                | succ k3 =>
                  have H := HA.out
                  clear HA
                  simp only [fname_row.l1] at H
                  by_cases c8 : 0 ≤ x8_3
                  · rw [if_pos c8] at H
                    have c8b0 : decide (0 ≤ x8_3) = true := decide_eq_true c8
                    clear c8
                    by_cases c9 : x8_3 < (x4_2.size : Int)
                    · rw [if_pos c9] at H
                      have c9b0 : decide (x8_3 < (x4_2.size : Int)) = true := decide_eq_true c9
                      clear c9
                      by_cases c11 : (bt x4_2 x8_3) ≥ 65
                      · rw [if_pos c11] at H
                        have c11b0 : decide (65 ≤ (bt x4_2 x8_3)) = true := decide_eq_true c11
                        clear c11
                        have H' := Aside0.mk H
                        clear H
                        have p10 : 0 ≤ (x8_3 : Int) := of_decide_eq_true (by first | (with_reducible assumption) | assumption)
                        have q10 : x8_3 < (x4_2.size : Int) := of_decide_eq_true (by first | (with_reducible assumption) | assumption)
                        have hx10 := bt_at x4_2 x8_3
                        replace p10 := eq_true p10
                        replace q10 := eq_true q10
                        go_wp2
                        repeat (go_quiet (fail); try go_wp2)
                        go_roundg k3
                        case measure => have := HJ1.out; have := HK2.out; have := HK3.out; omega
                        case rel => exact ⟨(wrap64 (x8_3 + 1)), (by first | rfl | (simp; done) | (simp [*]; done)), H', ⟨by have := HJ1.out; have := HK2.out; have := HK3.out; omega⟩, by repeat (first | exact Drawn0.refl _ | apply Drawn0.step)⟩
                      · rw [if_neg c11] at H
                        have c11b0 : decide (65 ≤ (bt x4_2 x8_3)) = false := decide_eq_false c11
                        clear c11
                        have c12b0 := eq_true (of_decide_eq_true (by first | (with_reducible assumption) | assumption) : 0 ≤ x8_3)
                        by_cases c13 : x8_3 ≤ (x4_2.size : Int)
                        · rw [if_pos c13] at H
                          have c13b0 := eq_true c13
                          have c13b1 : decide (x8_3 ≤ (x4_2.size : Int)) = true := decide_eq_true c13
                          clear c13
                          have c14b0 := eq_true (of_decide_eq_true (by first | (with_reducible assumption) | assumption) : 0 ≤ x8_3)
                          have c15b0 := eq_true (of_decide_eq_true (by first | (with_reducible assumption) | assumption) : x8_3 ≤ (x4_2.size : Int))
                          simp only [Option.some.injEq, Prod.mk.injEq] at H
                          obtain ⟨rfl, rfl⟩ := H
                          have p10 : 0 ≤ (x8_3 : Int) := of_decide_eq_true (by first | (with_reducible assumption) | assumption)
                          have q10 : x8_3 < (x4_2.size : Int) := of_decide_eq_true (by first | (with_reducible assumption) | assumption)
                          have hx10 := bt_at x4_2 x8_3
                          replace p10 := eq_true p10
                          replace q10 := eq_true q10
                          go_wp2
                          repeat (go_quiet (fail); try go_wp2)
                          go_ret2
                          exact ⟨by first | rfl | (simp; done) | (simp [*]; done), by repeat (first | exact Drawn0.refl _ | apply Drawn0.step)⟩
                        · rw [if_neg c13] at H
                          exact absurd H (by simp)
                    · rw [if_neg c9] at H
                      exact absurd H (by simp)
                  · rw [if_neg c8] at H
                    exact absurd H (by simp)

end Go.Proofs.Ytjbdljolpkkhcaa.X
namespace Go.Proofs.Ytjbdljolpkkhcaa.X
open Go.RowKit Go.Proofs.YtjbdljolpkkhcaaW.PrintWords Go.Proofs.YtjbdljolpkkhcaaW.PrintLast Go.Proofs.YtjbdljolpkkhcaaW.PrintMore
attribute [local go_sem] max2_int min2_int max_two min_two max_three min_three max_four min_four   -- for this text's walks alone
set_option linter.unusedVariables false
set_option linter.unusedSimpArgs false

/-! ### fname_Number: function 18 -/
def fname_Number.l0 : Nat → ByteArray → Int → Option (Int)
  | 0, _, _ => none
  | k + 1, x0, x3 => if x3 ≤ 78 then ((fname_row.f k x3).bind fun bt101 => (if bt101.1.toList = x0.toList then (some x3) else (fname_Number.l0 k x0 (wrap64 (x3 + 1))))) else (some 0)
def fname_Number.f (k : Nat) (a0 : ByteArray) : Option (Int) := fname_Number.l0 k a0 1
theorem fname_Number.mono_l : ∀ k, (∀ y0 y1, LeO (fname_Number.l0 k y0 y1) (fname_Number.l0 (k + 1) y0 y1))
  | 0 => fun _ _ r h => by simp [fname_Number.l0] at h
  | k + 1 => by
    have ih0 := fname_Number.mono_l k
    · intro y0 y1
      unfold fname_Number.l0
      repeat' first
      | (with_reducible exact ih0 _ _)
      | (with_reducible exact fname_row.mono _ _)
      | (with_reducible exact LeO.refl _)
      | (with_reducible exact LeO.none _)
      | (with_reducible refine LeO.ite ?_ ?_)
      | (with_reducible refine LeO.bind ?_ (fun _ => ?_))
      | exact ih0 _ _
      | exact fname_row.mono _ _
      | exact LeO.none _
      | refine LeO.ite ?_ ?_
      | refine LeO.bind ?_ (fun _ => ?_)
theorem fname_Number.mono : ∀ a0 k, LeO (fname_Number.f k a0) (fname_Number.f (k + 1) a0) := by
  intro a0 k
  have ih0 := fname_Number.mono_l k
  unfold fname_Number.f
  repeat' first
      | (with_reducible exact ih0 _ _)
      | (with_reducible exact fname_row.mono _ _)
      | (with_reducible exact LeO.refl _)
      | (with_reducible exact LeO.none _)
      | (with_reducible refine LeO.ite ?_ ?_)
      | (with_reducible refine LeO.bind ?_ (fun _ => ?_))
      | exact ih0 _ _
      | exact fname_row.mono _ _
      | exact LeO.none _
      | refine LeO.ite ?_ ?_
      | refine LeO.bind ?_ (fun _ => ?_)
set_option maxHeartbeats 8000000 in
set_option maxRecDepth 100000 in
theorem fname_Number.calls (k : Nat) (a0 : ByteArray) (r : Int) (w : World) (h : fname_Number.f k a0 = some r) :
    Calls Try.prog 18 #[.string a0] w fun e w' => e = .returned (.int .i64 r) ∧ Drawn0 w w' := by
  have H : (fname_Number.l0 k a0 1) = some r := h
  clear h
  have H' := Aside0.mk H
  clear H
  go_enter Try.func18, Try.ntmps18
  go_wp2
  go_loopg [3] k (fun kq v3 w' => ∃ (x3_1 : Int), v3 = .int .i64 x3_1 ∧ Aside0 (fname_Number.l0 kq a0 x3_1 = some r) ∧ Aside0 (kq ≤ k) ∧ Drawn0 w w')
  case atStart => exact ⟨(1), (by first | rfl | (simp; done) | (simp [*]; done)), H', ⟨Nat.le_refl _⟩, by repeat (first | exact Drawn0.refl _ | apply Drawn0.step)⟩
  case round =>
    clear H'
    try clear c1
    obtain ⟨x3_1, rfl, HA, HK1, ⟨m1, rfl⟩⟩ := hrel
    cases gk with
    | zero => exact absurd HA.out (by simp [fname_Number.l0])
    | succ k1 =>
      have H := HA.out
      clear HA
      simp only [fname_Number.l0] at H
      by_cases c2 : x3_1 ≤ 78
      · rw [if_pos c2] at H
        have c2b0 : decide (x3_1 ≤ 78) = true := decide_eq_true c2
        clear c2
        replace H := Option.bind_eq_some_iff.mp H
        obtain ⟨⟨t101, t102⟩, A30, H⟩ := H
        replace H : (if t101.toList = a0.toList then (some x3_1) else (fname_Number.l0 k1 a0 (wrap64 (x3_1 + 1)))) = some r := H
        have A3 := Aside0.mk A30
        clear A30
        by_cases c4 : t101.toList = a0.toList
        · rw [if_pos c4] at H
          have c4b0 : (t101.toList == a0.toList) = true := beq_iff_eq.mpr c4
          have c4b1 : (t101.toList != a0.toList) = false := bne_eq_false_iff_eq.mpr c4
          clear c4
          obtain rfl := Option.some.inj H
          go_wp2_with (first | ((with_reducible refine gate_callee (f := 42) rfl ?_); refine goesL_ (some 12) rfl rfl Try.func42 (by kernel_rfl) rfl #[.int .i64 x3_1] rfl (by (try simp only [List.map_toArray, List.map_cons, List.map_nil]); first | done | rfl | (simp only [List.length_drop, List.length_take]; rfl)) ?_; (with_reducible refine (fname_row.calls k1 x3_1 t101 t102 _ A3.out).mono ?_); rintro e w' ⟨rfl, ⟨nd, rfl⟩⟩; refine ⟨_, rfl, ?_⟩))
          go_ret
          exact ⟨by first | rfl | (simp; done) | (simp [*]; done), by repeat (first | exact Drawn0.refl _ | apply Drawn0.step)⟩
        · rw [if_neg c4] at H
          have c4b0 : (t101.toList == a0.toList) = false := beq_eq_false_iff_ne.mpr c4
          have c4b1 : (t101.toList != a0.toList) = true := bne_iff_ne.mpr c4
          have H' := Aside0.mk H
          clear H
          go_wp2_with (first | ((with_reducible refine gate_callee (f := 42) rfl ?_); refine goesL_ (some 12) rfl rfl Try.func42 (by kernel_rfl) rfl #[.int .i64 x3_1] rfl (by (try simp only [List.map_toArray, List.map_cons, List.map_nil]); first | done | rfl | (simp only [List.length_drop, List.length_take]; rfl)) ?_; (with_reducible refine (fname_row.calls k1 x3_1 t101 t102 _ A3.out).mono ?_); rintro e w' ⟨rfl, ⟨nd, rfl⟩⟩; refine ⟨_, rfl, ?_⟩))
          go_roundg k1
          case measure => have := HK1.out; omega
          case rel => exact ⟨(wrap64 (x3_1 + 1)), (by first | rfl | (simp; done) | (simp [*]; done)), H', ⟨by have := HK1.out; omega⟩, by repeat (first | exact Drawn0.refl _ | apply Drawn0.step)⟩
      · rw [if_neg c2] at H
        have c2b0 : decide (x3_1 ≤ 78) = false := decide_eq_false c2
        clear c2
        obtain rfl := Option.some.inj H
        go_wp2
        go_ret
        exact ⟨by first | rfl | (simp; done) | (simp [*]; done), by repeat (first | exact Drawn0.refl _ | apply Drawn0.step)⟩

end Go.Proofs.Ytjbdljolpkkhcaa.X
namespace Go.Proofs.Ytjbdljolpkkhcaa.X
open Go.RowKit Go.Proofs.YtjbdljolpkkhcaaW.PrintWords Go.Proofs.YtjbdljolpkkhcaaW.PrintLast Go.Proofs.YtjbdljolpkkhcaaW.PrintMore
attribute [local go_sem] max2_int min2_int max_two min_two max_three min_three max_four min_four   -- for this text's walks alone
set_option linter.unusedVariables false
set_option linter.unusedSimpArgs false

/-! ### oculusref19_Names: function 43 -/
def oculusref19_Names.f  : Option (List ByteArray) := some (([(⟨#[65, 66, 83]⟩ : ByteArray), (⟨#[65, 78, 68]⟩ : ByteArray), (⟨#[65, 86, 69, 82, 65, 71, 69]⟩ : ByteArray), (⟨#[65, 86, 69, 82, 65, 71, 69, 73, 70]⟩ : ByteArray), (⟨#[67, 69, 73, 76, 73, 78, 71]⟩ : ByteArray), (⟨#[67, 72, 65, 82]⟩ : ByteArray), (⟨#[67, 72, 79, 79, 83, 69]⟩ : ByteArray), (⟨#[67, 79, 68, 69]⟩ : ByteArray), (⟨#[67, 79, 76, 85, 77, 78]⟩ : ByteArray), (⟨#[67, 79, 76, 85, 77, 78, 83]⟩ : ByteArray), (⟨#[67, 79, 77, 66, 73, 78]⟩ : ByteArray), (⟨#[67, 79, 78, 67, 65, 84]⟩ : ByteArray), (⟨#[67, 79, 85, 78, 84]⟩ : ByteArray), (⟨#[67, 79, 85, 78, 84, 65]⟩ : ByteArray), (⟨#[67, 79, 85, 78, 84, 66, 76, 65, 78, 75]⟩ : ByteArray), (⟨#[67, 79, 85, 78, 84, 73, 70]⟩ : ByteArray), (⟨#[68, 69, 67, 76, 65, 83, 83]⟩ : ByteArray), (⟨#[69, 86, 69, 78]⟩ : ByteArray), (⟨#[69, 88, 65, 67, 84]⟩ : ByteArray), (⟨#[70, 65, 67, 84]⟩ : ByteArray), (⟨#[70, 73, 78, 68]⟩ : ByteArray), (⟨#[70, 76, 79, 79, 82]⟩ : ByteArray), (⟨#[71, 67, 68]⟩ : ByteArray), (⟨#[72, 76, 79, 79, 75, 85, 80]⟩ : ByteArray), (⟨#[73, 70]⟩ : ByteArray), (⟨#[73, 70, 69, 82, 82, 79, 82]⟩ : ByteArray), (⟨#[73, 78, 68, 69, 88]⟩ : ByteArray), (⟨#[73, 78, 84]⟩ : ByteArray), (⟨#[73, 83, 66, 76, 65, 78, 75]⟩ : ByteArray), (⟨#[73, 83, 69, 82, 82, 79, 82]⟩ : ByteArray), (⟨#[73, 83, 76, 79, 71, 73, 67, 65, 76]⟩ : ByteArray), (⟨#[73, 83, 78, 85, 77, 66, 69, 82]⟩ : ByteArray), (⟨#[73, 83, 84, 69, 88, 84]⟩ : ByteArray), (⟨#[76, 65, 82, 71, 69]⟩ : ByteArray), (⟨#[76, 67, 77]⟩ : ByteArray), (⟨#[76, 69, 70, 84]⟩ : ByteArray), (⟨#[76, 69, 78]⟩ : ByteArray), (⟨#[76, 79, 87, 69, 82]⟩ : ByteArray), (⟨#[77, 65, 84, 67, 72]⟩ : ByteArray), (⟨#[77, 65, 88]⟩ : ByteArray), (⟨#[77, 69, 68, 73, 65, 78]⟩ : ByteArray), (⟨#[77, 73, 68]⟩ : ByteArray), (⟨#[77, 73, 78]⟩ : ByteArray), (⟨#[77, 79, 68]⟩ : ByteArray), (⟨#[77, 79, 68, 69]⟩ : ByteArray), (⟨#[78, 65]⟩ : ByteArray), (⟨#[78, 79, 84]⟩ : ByteArray), (⟨#[79, 68, 68]⟩ : ByteArray), (⟨#[79, 82]⟩ : ByteArray), (⟨#[80, 79, 87, 69, 82]⟩ : ByteArray), (⟨#[80, 82, 79, 68, 85, 67, 84]⟩ : ByteArray), (⟨#[80, 82, 79, 80, 69, 82]⟩ : ByteArray), (⟨#[81, 85, 79, 84, 73, 69, 78, 84]⟩ : ByteArray), (⟨#[82, 65, 78, 75]⟩ : ByteArray), (⟨#[82, 69, 80, 84]⟩ : ByteArray), (⟨#[82, 69, 86, 69, 82, 83, 69]⟩ : ByteArray), (⟨#[82, 73, 71, 72, 84]⟩ : ByteArray), (⟨#[82, 79, 85, 78, 68]⟩ : ByteArray), (⟨#[82, 79, 85, 78, 68, 68, 79, 87, 78]⟩ : ByteArray), (⟨#[82, 79, 85, 78, 68, 85, 80]⟩ : ByteArray), (⟨#[82, 79, 87]⟩ : ByteArray), (⟨#[82, 79, 87, 83]⟩ : ByteArray), (⟨#[83, 73, 71, 78]⟩ : ByteArray), (⟨#[83, 77, 65, 76, 76]⟩ : ByteArray), (⟨#[83, 81, 82, 84]⟩ : ByteArray), (⟨#[83, 85, 66, 83, 84, 73, 84, 85, 84, 69]⟩ : ByteArray), (⟨#[83, 85, 77]⟩ : ByteArray), (⟨#[83, 85, 77, 73, 70]⟩ : ByteArray), (⟨#[83, 85, 77, 80, 82, 79, 68, 85, 67, 84]⟩ : ByteArray), (⟨#[83, 85, 77, 83, 81]⟩ : ByteArray), (⟨#[83, 87, 73, 84, 67, 72]⟩ : ByteArray), (⟨#[84, 69, 88, 84]⟩ : ByteArray), (⟨#[84, 82, 73, 77]⟩ : ByteArray), (⟨#[84, 82, 85, 78, 67]⟩ : ByteArray), (⟨#[85, 80, 80, 69, 82]⟩ : ByteArray), (⟨#[86, 65, 76, 85, 69]⟩ : ByteArray), (⟨#[86, 76, 79, 79, 75, 85, 80]⟩ : ByteArray), (⟨#[88, 79, 82]⟩ : ByteArray)] : List ByteArray))
set_option maxHeartbeats 8000000 in
set_option maxRecDepth 100000 in
theorem oculusref19_Names.calls  (r : List ByteArray) (w : World) (h : oculusref19_Names.f  = some r) :
    Calls Try.prog 43 #[] w fun e w' => ∃ v0_ : Value, e = .returned (v0_) ∧ Kd.R Kd.string 9 w' w.heap.size (fun _ => True) v0_ r ∧ Below w.heap.size w w' := by
  have HB := Aside0.mk (Below.refl w.heap.size w)
  have H : (some (([(⟨#[65, 66, 83]⟩ : ByteArray), (⟨#[65, 78, 68]⟩ : ByteArray), (⟨#[65, 86, 69, 82, 65, 71, 69]⟩ : ByteArray), (⟨#[65, 86, 69, 82, 65, 71, 69, 73, 70]⟩ : ByteArray), (⟨#[67, 69, 73, 76, 73, 78, 71]⟩ : ByteArray), (⟨#[67, 72, 65, 82]⟩ : ByteArray), (⟨#[67, 72, 79, 79, 83, 69]⟩ : ByteArray), (⟨#[67, 79, 68, 69]⟩ : ByteArray), (⟨#[67, 79, 76, 85, 77, 78]⟩ : ByteArray), (⟨#[67, 79, 76, 85, 77, 78, 83]⟩ : ByteArray), (⟨#[67, 79, 77, 66, 73, 78]⟩ : ByteArray), (⟨#[67, 79, 78, 67, 65, 84]⟩ : ByteArray), (⟨#[67, 79, 85, 78, 84]⟩ : ByteArray), (⟨#[67, 79, 85, 78, 84, 65]⟩ : ByteArray), (⟨#[67, 79, 85, 78, 84, 66, 76, 65, 78, 75]⟩ : ByteArray), (⟨#[67, 79, 85, 78, 84, 73, 70]⟩ : ByteArray), (⟨#[68, 69, 67, 76, 65, 83, 83]⟩ : ByteArray), (⟨#[69, 86, 69, 78]⟩ : ByteArray), (⟨#[69, 88, 65, 67, 84]⟩ : ByteArray), (⟨#[70, 65, 67, 84]⟩ : ByteArray), (⟨#[70, 73, 78, 68]⟩ : ByteArray), (⟨#[70, 76, 79, 79, 82]⟩ : ByteArray), (⟨#[71, 67, 68]⟩ : ByteArray), (⟨#[72, 76, 79, 79, 75, 85, 80]⟩ : ByteArray), (⟨#[73, 70]⟩ : ByteArray), (⟨#[73, 70, 69, 82, 82, 79, 82]⟩ : ByteArray), (⟨#[73, 78, 68, 69, 88]⟩ : ByteArray), (⟨#[73, 78, 84]⟩ : ByteArray), (⟨#[73, 83, 66, 76, 65, 78, 75]⟩ : ByteArray), (⟨#[73, 83, 69, 82, 82, 79, 82]⟩ : ByteArray), (⟨#[73, 83, 76, 79, 71, 73, 67, 65, 76]⟩ : ByteArray), (⟨#[73, 83, 78, 85, 77, 66, 69, 82]⟩ : ByteArray), (⟨#[73, 83, 84, 69, 88, 84]⟩ : ByteArray), (⟨#[76, 65, 82, 71, 69]⟩ : ByteArray), (⟨#[76, 67, 77]⟩ : ByteArray), (⟨#[76, 69, 70, 84]⟩ : ByteArray), (⟨#[76, 69, 78]⟩ : ByteArray), (⟨#[76, 79, 87, 69, 82]⟩ : ByteArray), (⟨#[77, 65, 84, 67, 72]⟩ : ByteArray), (⟨#[77, 65, 88]⟩ : ByteArray), (⟨#[77, 69, 68, 73, 65, 78]⟩ : ByteArray), (⟨#[77, 73, 68]⟩ : ByteArray), (⟨#[77, 73, 78]⟩ : ByteArray), (⟨#[77, 79, 68]⟩ : ByteArray), (⟨#[77, 79, 68, 69]⟩ : ByteArray), (⟨#[78, 65]⟩ : ByteArray), (⟨#[78, 79, 84]⟩ : ByteArray), (⟨#[79, 68, 68]⟩ : ByteArray), (⟨#[79, 82]⟩ : ByteArray), (⟨#[80, 79, 87, 69, 82]⟩ : ByteArray), (⟨#[80, 82, 79, 68, 85, 67, 84]⟩ : ByteArray), (⟨#[80, 82, 79, 80, 69, 82]⟩ : ByteArray), (⟨#[81, 85, 79, 84, 73, 69, 78, 84]⟩ : ByteArray), (⟨#[82, 65, 78, 75]⟩ : ByteArray), (⟨#[82, 69, 80, 84]⟩ : ByteArray), (⟨#[82, 69, 86, 69, 82, 83, 69]⟩ : ByteArray), (⟨#[82, 73, 71, 72, 84]⟩ : ByteArray), (⟨#[82, 79, 85, 78, 68]⟩ : ByteArray), (⟨#[82, 79, 85, 78, 68, 68, 79, 87, 78]⟩ : ByteArray), (⟨#[82, 79, 85, 78, 68, 85, 80]⟩ : ByteArray), (⟨#[82, 79, 87]⟩ : ByteArray), (⟨#[82, 79, 87, 83]⟩ : ByteArray), (⟨#[83, 73, 71, 78]⟩ : ByteArray), (⟨#[83, 77, 65, 76, 76]⟩ : ByteArray), (⟨#[83, 81, 82, 84]⟩ : ByteArray), (⟨#[83, 85, 66, 83, 84, 73, 84, 85, 84, 69]⟩ : ByteArray), (⟨#[83, 85, 77]⟩ : ByteArray), (⟨#[83, 85, 77, 73, 70]⟩ : ByteArray), (⟨#[83, 85, 77, 80, 82, 79, 68, 85, 67, 84]⟩ : ByteArray), (⟨#[83, 85, 77, 83, 81]⟩ : ByteArray), (⟨#[83, 87, 73, 84, 67, 72]⟩ : ByteArray), (⟨#[84, 69, 88, 84]⟩ : ByteArray), (⟨#[84, 82, 73, 77]⟩ : ByteArray), (⟨#[84, 82, 85, 78, 67]⟩ : ByteArray), (⟨#[85, 80, 80, 69, 82]⟩ : ByteArray), (⟨#[86, 65, 76, 85, 69]⟩ : ByteArray), (⟨#[86, 76, 79, 79, 75, 85, 80]⟩ : ByteArray), (⟨#[88, 79, 82]⟩ : ByteArray)] : List ByteArray))) = some r := h
  clear h
  obtain ⟨y101, hy101⟩ : ∃ y_ : List ByteArray, y_ = (([(⟨#[65, 66, 83]⟩ : ByteArray), (⟨#[65, 78, 68]⟩ : ByteArray), (⟨#[65, 86, 69, 82, 65, 71, 69]⟩ : ByteArray), (⟨#[65, 86, 69, 82, 65, 71, 69, 73, 70]⟩ : ByteArray), (⟨#[67, 69, 73, 76, 73, 78, 71]⟩ : ByteArray), (⟨#[67, 72, 65, 82]⟩ : ByteArray), (⟨#[67, 72, 79, 79, 83, 69]⟩ : ByteArray), (⟨#[67, 79, 68, 69]⟩ : ByteArray), (⟨#[67, 79, 76, 85, 77, 78]⟩ : ByteArray), (⟨#[67, 79, 76, 85, 77, 78, 83]⟩ : ByteArray), (⟨#[67, 79, 77, 66, 73, 78]⟩ : ByteArray), (⟨#[67, 79, 78, 67, 65, 84]⟩ : ByteArray), (⟨#[67, 79, 85, 78, 84]⟩ : ByteArray), (⟨#[67, 79, 85, 78, 84, 65]⟩ : ByteArray), (⟨#[67, 79, 85, 78, 84, 66, 76, 65, 78, 75]⟩ : ByteArray), (⟨#[67, 79, 85, 78, 84, 73, 70]⟩ : ByteArray), (⟨#[68, 69, 67, 76, 65, 83, 83]⟩ : ByteArray), (⟨#[69, 86, 69, 78]⟩ : ByteArray), (⟨#[69, 88, 65, 67, 84]⟩ : ByteArray), (⟨#[70, 65, 67, 84]⟩ : ByteArray), (⟨#[70, 73, 78, 68]⟩ : ByteArray), (⟨#[70, 76, 79, 79, 82]⟩ : ByteArray), (⟨#[71, 67, 68]⟩ : ByteArray), (⟨#[72, 76, 79, 79, 75, 85, 80]⟩ : ByteArray), (⟨#[73, 70]⟩ : ByteArray), (⟨#[73, 70, 69, 82, 82, 79, 82]⟩ : ByteArray), (⟨#[73, 78, 68, 69, 88]⟩ : ByteArray), (⟨#[73, 78, 84]⟩ : ByteArray), (⟨#[73, 83, 66, 76, 65, 78, 75]⟩ : ByteArray), (⟨#[73, 83, 69, 82, 82, 79, 82]⟩ : ByteArray), (⟨#[73, 83, 76, 79, 71, 73, 67, 65, 76]⟩ : ByteArray), (⟨#[73, 83, 78, 85, 77, 66, 69, 82]⟩ : ByteArray), (⟨#[73, 83, 84, 69, 88, 84]⟩ : ByteArray), (⟨#[76, 65, 82, 71, 69]⟩ : ByteArray), (⟨#[76, 67, 77]⟩ : ByteArray), (⟨#[76, 69, 70, 84]⟩ : ByteArray), (⟨#[76, 69, 78]⟩ : ByteArray), (⟨#[76, 79, 87, 69, 82]⟩ : ByteArray), (⟨#[77, 65, 84, 67, 72]⟩ : ByteArray), (⟨#[77, 65, 88]⟩ : ByteArray), (⟨#[77, 69, 68, 73, 65, 78]⟩ : ByteArray), (⟨#[77, 73, 68]⟩ : ByteArray), (⟨#[77, 73, 78]⟩ : ByteArray), (⟨#[77, 79, 68]⟩ : ByteArray), (⟨#[77, 79, 68, 69]⟩ : ByteArray), (⟨#[78, 65]⟩ : ByteArray), (⟨#[78, 79, 84]⟩ : ByteArray), (⟨#[79, 68, 68]⟩ : ByteArray), (⟨#[79, 82]⟩ : ByteArray), (⟨#[80, 79, 87, 69, 82]⟩ : ByteArray), (⟨#[80, 82, 79, 68, 85, 67, 84]⟩ : ByteArray), (⟨#[80, 82, 79, 80, 69, 82]⟩ : ByteArray), (⟨#[81, 85, 79, 84, 73, 69, 78, 84]⟩ : ByteArray), (⟨#[82, 65, 78, 75]⟩ : ByteArray), (⟨#[82, 69, 80, 84]⟩ : ByteArray), (⟨#[82, 69, 86, 69, 82, 83, 69]⟩ : ByteArray), (⟨#[82, 73, 71, 72, 84]⟩ : ByteArray), (⟨#[82, 79, 85, 78, 68]⟩ : ByteArray), (⟨#[82, 79, 85, 78, 68, 68, 79, 87, 78]⟩ : ByteArray), (⟨#[82, 79, 85, 78, 68, 85, 80]⟩ : ByteArray), (⟨#[82, 79, 87]⟩ : ByteArray), (⟨#[82, 79, 87, 83]⟩ : ByteArray), (⟨#[83, 73, 71, 78]⟩ : ByteArray), (⟨#[83, 77, 65, 76, 76]⟩ : ByteArray), (⟨#[83, 81, 82, 84]⟩ : ByteArray), (⟨#[83, 85, 66, 83, 84, 73, 84, 85, 84, 69]⟩ : ByteArray), (⟨#[83, 85, 77]⟩ : ByteArray), (⟨#[83, 85, 77, 73, 70]⟩ : ByteArray), (⟨#[83, 85, 77, 80, 82, 79, 68, 85, 67, 84]⟩ : ByteArray), (⟨#[83, 85, 77, 83, 81]⟩ : ByteArray), (⟨#[83, 87, 73, 84, 67, 72]⟩ : ByteArray), (⟨#[84, 69, 88, 84]⟩ : ByteArray), (⟨#[84, 82, 73, 77]⟩ : ByteArray), (⟨#[84, 82, 85, 78, 67]⟩ : ByteArray), (⟨#[85, 80, 80, 69, 82]⟩ : ByteArray), (⟨#[86, 65, 76, 85, 69]⟩ : ByteArray), (⟨#[86, 76, 79, 79, 75, 85, 80]⟩ : ByteArray), (⟨#[88, 79, 82]⟩ : ByteArray)] : List ByteArray)) := ⟨_, rfl⟩
  replace H : (some y101) = some r := by first | (rw [hy101]; with_reducible exact H) | (have H2_ := (Option.bind_some _ _).symm.trans H; rw [hy101]; with_reducible exact H2_) | (have H2_ := (Option.bind_some _ _).symm.trans H; with_reducible exact H2_) | with_reducible exact H | (rw [hy101]; exact H) | exact H
  have Ny101 := Aside0.mk hy101
  clear hy101
  obtain rfl := Option.some.inj H
  go_enter Try.func43, Try.ntmps43
  go_wp2_with (first | ((with_reducible refine gate_dst (N := 1) rfl ?_); refine Kd.R_lit Kd.string _ 9 ?hg (N := 1) ?hd (xs := ([(⟨#[65, 66, 83]⟩ : ByteArray), (⟨#[65, 78, 68]⟩ : ByteArray), (⟨#[65, 86, 69, 82, 65, 71, 69]⟩ : ByteArray), (⟨#[65, 86, 69, 82, 65, 71, 69, 73, 70]⟩ : ByteArray), (⟨#[67, 69, 73, 76, 73, 78, 71]⟩ : ByteArray), (⟨#[67, 72, 65, 82]⟩ : ByteArray), (⟨#[67, 72, 79, 79, 83, 69]⟩ : ByteArray), (⟨#[67, 79, 68, 69]⟩ : ByteArray), (⟨#[67, 79, 76, 85, 77, 78]⟩ : ByteArray), (⟨#[67, 79, 76, 85, 77, 78, 83]⟩ : ByteArray), (⟨#[67, 79, 77, 66, 73, 78]⟩ : ByteArray), (⟨#[67, 79, 78, 67, 65, 84]⟩ : ByteArray), (⟨#[67, 79, 85, 78, 84]⟩ : ByteArray), (⟨#[67, 79, 85, 78, 84, 65]⟩ : ByteArray), (⟨#[67, 79, 85, 78, 84, 66, 76, 65, 78, 75]⟩ : ByteArray), (⟨#[67, 79, 85, 78, 84, 73, 70]⟩ : ByteArray), (⟨#[68, 69, 67, 76, 65, 83, 83]⟩ : ByteArray), (⟨#[69, 86, 69, 78]⟩ : ByteArray), (⟨#[69, 88, 65, 67, 84]⟩ : ByteArray), (⟨#[70, 65, 67, 84]⟩ : ByteArray), (⟨#[70, 73, 78, 68]⟩ : ByteArray), (⟨#[70, 76, 79, 79, 82]⟩ : ByteArray), (⟨#[71, 67, 68]⟩ : ByteArray), (⟨#[72, 76, 79, 79, 75, 85, 80]⟩ : ByteArray), (⟨#[73, 70]⟩ : ByteArray), (⟨#[73, 70, 69, 82, 82, 79, 82]⟩ : ByteArray), (⟨#[73, 78, 68, 69, 88]⟩ : ByteArray), (⟨#[73, 78, 84]⟩ : ByteArray), (⟨#[73, 83, 66, 76, 65, 78, 75]⟩ : ByteArray), (⟨#[73, 83, 69, 82, 82, 79, 82]⟩ : ByteArray), (⟨#[73, 83, 76, 79, 71, 73, 67, 65, 76]⟩ : ByteArray), (⟨#[73, 83, 78, 85, 77, 66, 69, 82]⟩ : ByteArray), (⟨#[73, 83, 84, 69, 88, 84]⟩ : ByteArray), (⟨#[76, 65, 82, 71, 69]⟩ : ByteArray), (⟨#[76, 67, 77]⟩ : ByteArray), (⟨#[76, 69, 70, 84]⟩ : ByteArray), (⟨#[76, 69, 78]⟩ : ByteArray), (⟨#[76, 79, 87, 69, 82]⟩ : ByteArray), (⟨#[77, 65, 84, 67, 72]⟩ : ByteArray), (⟨#[77, 65, 88]⟩ : ByteArray), (⟨#[77, 69, 68, 73, 65, 78]⟩ : ByteArray), (⟨#[77, 73, 68]⟩ : ByteArray), (⟨#[77, 73, 78]⟩ : ByteArray), (⟨#[77, 79, 68]⟩ : ByteArray), (⟨#[77, 79, 68, 69]⟩ : ByteArray), (⟨#[78, 65]⟩ : ByteArray), (⟨#[78, 79, 84]⟩ : ByteArray), (⟨#[79, 68, 68]⟩ : ByteArray), (⟨#[79, 82]⟩ : ByteArray), (⟨#[80, 79, 87, 69, 82]⟩ : ByteArray), (⟨#[80, 82, 79, 68, 85, 67, 84]⟩ : ByteArray), (⟨#[80, 82, 79, 80, 69, 82]⟩ : ByteArray), (⟨#[81, 85, 79, 84, 73, 69, 78, 84]⟩ : ByteArray), (⟨#[82, 65, 78, 75]⟩ : ByteArray), (⟨#[82, 69, 80, 84]⟩ : ByteArray), (⟨#[82, 69, 86, 69, 82, 83, 69]⟩ : ByteArray), (⟨#[82, 73, 71, 72, 84]⟩ : ByteArray), (⟨#[82, 79, 85, 78, 68]⟩ : ByteArray), (⟨#[82, 79, 85, 78, 68, 68, 79, 87, 78]⟩ : ByteArray), (⟨#[82, 79, 85, 78, 68, 85, 80]⟩ : ByteArray), (⟨#[82, 79, 87]⟩ : ByteArray), (⟨#[82, 79, 87, 83]⟩ : ByteArray), (⟨#[83, 73, 71, 78]⟩ : ByteArray), (⟨#[83, 77, 65, 76, 76]⟩ : ByteArray), (⟨#[83, 81, 82, 84]⟩ : ByteArray), (⟨#[83, 85, 66, 83, 84, 73, 84, 85, 84, 69]⟩ : ByteArray), (⟨#[83, 85, 77]⟩ : ByteArray), (⟨#[83, 85, 77, 73, 70]⟩ : ByteArray), (⟨#[83, 85, 77, 80, 82, 79, 68, 85, 67, 84]⟩ : ByteArray), (⟨#[83, 85, 77, 83, 81]⟩ : ByteArray), (⟨#[83, 87, 73, 84, 67, 72]⟩ : ByteArray), (⟨#[84, 69, 88, 84]⟩ : ByteArray), (⟨#[84, 82, 73, 77]⟩ : ByteArray), (⟨#[84, 82, 85, 78, 67]⟩ : ByteArray), (⟨#[85, 80, 80, 69, 82]⟩ : ByteArray), (⟨#[86, 65, 76, 85, 69]⟩ : ByteArray), (⟨#[86, 76, 79, 79, 75, 85, 80]⟩ : ByteArray), (⟨#[88, 79, 82]⟩ : ByteArray)] : List ByteArray)) (inner := [.string (⟨#[65, 66, 83]⟩ : ByteArray), .string (⟨#[65, 78, 68]⟩ : ByteArray), .string (⟨#[65, 86, 69, 82, 65, 71, 69]⟩ : ByteArray), .string (⟨#[65, 86, 69, 82, 65, 71, 69, 73, 70]⟩ : ByteArray), .string (⟨#[67, 69, 73, 76, 73, 78, 71]⟩ : ByteArray), .string (⟨#[67, 72, 65, 82]⟩ : ByteArray), .string (⟨#[67, 72, 79, 79, 83, 69]⟩ : ByteArray), .string (⟨#[67, 79, 68, 69]⟩ : ByteArray), .string (⟨#[67, 79, 76, 85, 77, 78]⟩ : ByteArray), .string (⟨#[67, 79, 76, 85, 77, 78, 83]⟩ : ByteArray), .string (⟨#[67, 79, 77, 66, 73, 78]⟩ : ByteArray), .string (⟨#[67, 79, 78, 67, 65, 84]⟩ : ByteArray), .string (⟨#[67, 79, 85, 78, 84]⟩ : ByteArray), .string (⟨#[67, 79, 85, 78, 84, 65]⟩ : ByteArray), .string (⟨#[67, 79, 85, 78, 84, 66, 76, 65, 78, 75]⟩ : ByteArray), .string (⟨#[67, 79, 85, 78, 84, 73, 70]⟩ : ByteArray), .string (⟨#[68, 69, 67, 76, 65, 83, 83]⟩ : ByteArray), .string (⟨#[69, 86, 69, 78]⟩ : ByteArray), .string (⟨#[69, 88, 65, 67, 84]⟩ : ByteArray), .string (⟨#[70, 65, 67, 84]⟩ : ByteArray), .string (⟨#[70, 73, 78, 68]⟩ : ByteArray), .string (⟨#[70, 76, 79, 79, 82]⟩ : ByteArray), .string (⟨#[71, 67, 68]⟩ : ByteArray), .string (⟨#[72, 76, 79, 79, 75, 85, 80]⟩ : ByteArray), .string (⟨#[73, 70]⟩ : ByteArray), .string (⟨#[73, 70, 69, 82, 82, 79, 82]⟩ : ByteArray), .string (⟨#[73, 78, 68, 69, 88]⟩ : ByteArray), .string (⟨#[73, 78, 84]⟩ : ByteArray), .string (⟨#[73, 83, 66, 76, 65, 78, 75]⟩ : ByteArray), .string (⟨#[73, 83, 69, 82, 82, 79, 82]⟩ : ByteArray), .string (⟨#[73, 83, 76, 79, 71, 73, 67, 65, 76]⟩ : ByteArray), .string (⟨#[73, 83, 78, 85, 77, 66, 69, 82]⟩ : ByteArray), .string (⟨#[73, 83, 84, 69, 88, 84]⟩ : ByteArray), .string (⟨#[76, 65, 82, 71, 69]⟩ : ByteArray), .string (⟨#[76, 67, 77]⟩ : ByteArray), .string (⟨#[76, 69, 70, 84]⟩ : ByteArray), .string (⟨#[76, 69, 78]⟩ : ByteArray), .string (⟨#[76, 79, 87, 69, 82]⟩ : ByteArray), .string (⟨#[77, 65, 84, 67, 72]⟩ : ByteArray), .string (⟨#[77, 65, 88]⟩ : ByteArray), .string (⟨#[77, 69, 68, 73, 65, 78]⟩ : ByteArray), .string (⟨#[77, 73, 68]⟩ : ByteArray), .string (⟨#[77, 73, 78]⟩ : ByteArray), .string (⟨#[77, 79, 68]⟩ : ByteArray), .string (⟨#[77, 79, 68, 69]⟩ : ByteArray), .string (⟨#[78, 65]⟩ : ByteArray), .string (⟨#[78, 79, 84]⟩ : ByteArray), .string (⟨#[79, 68, 68]⟩ : ByteArray), .string (⟨#[79, 82]⟩ : ByteArray), .string (⟨#[80, 79, 87, 69, 82]⟩ : ByteArray), .string (⟨#[80, 82, 79, 68, 85, 67, 84]⟩ : ByteArray), .string (⟨#[80, 82, 79, 80, 69, 82]⟩ : ByteArray), .string (⟨#[81, 85, 79, 84, 73, 69, 78, 84]⟩ : ByteArray), .string (⟨#[82, 65, 78, 75]⟩ : ByteArray), .string (⟨#[82, 69, 80, 84]⟩ : ByteArray), .string (⟨#[82, 69, 86, 69, 82, 83, 69]⟩ : ByteArray), .string (⟨#[82, 73, 71, 72, 84]⟩ : ByteArray), .string (⟨#[82, 79, 85, 78, 68]⟩ : ByteArray), .string (⟨#[82, 79, 85, 78, 68, 68, 79, 87, 78]⟩ : ByteArray), .string (⟨#[82, 79, 85, 78, 68, 85, 80]⟩ : ByteArray), .string (⟨#[82, 79, 87]⟩ : ByteArray), .string (⟨#[82, 79, 87, 83]⟩ : ByteArray), .string (⟨#[83, 73, 71, 78]⟩ : ByteArray), .string (⟨#[83, 77, 65, 76, 76]⟩ : ByteArray), .string (⟨#[83, 81, 82, 84]⟩ : ByteArray), .string (⟨#[83, 85, 66, 83, 84, 73, 84, 85, 84, 69]⟩ : ByteArray), .string (⟨#[83, 85, 77]⟩ : ByteArray), .string (⟨#[83, 85, 77, 73, 70]⟩ : ByteArray), .string (⟨#[83, 85, 77, 80, 82, 79, 68, 85, 67, 84]⟩ : ByteArray), .string (⟨#[83, 85, 77, 83, 81]⟩ : ByteArray), .string (⟨#[83, 87, 73, 84, 67, 72]⟩ : ByteArray), .string (⟨#[84, 69, 88, 84]⟩ : ByteArray), .string (⟨#[84, 82, 73, 77]⟩ : ByteArray), .string (⟨#[84, 82, 85, 78, 67]⟩ : ByteArray), .string (⟨#[85, 80, 80, 69, 82]⟩ : ByteArray), .string (⟨#[86, 65, 76, 85, 69]⟩ : ByteArray), .string (⟨#[86, 76, 79, 79, 75, 85, 80]⟩ : ByteArray), .string (⟨#[88, 79, 82]⟩ : ByteArray)]) (ok := fun _ => True) (okp := fun _ => True) ?hr ?hp (fun _ hk => hk) trivial (Below.refl _ _) (Nat.le_refl _) (by simp) ?_; (case hd => rfl); (case hg => rfl); (case hr => first | (go_simp; done) | (go_simp; rfl)); (case hp => exact (Reps.one (show Kd.M Kd.string _ _ _ (⟨#[65, 66, 83]⟩ : ByteArray) [.string (⟨#[65, 66, 83]⟩ : ByteArray)] from rfl) (Reps.one (show Kd.M Kd.string _ _ _ (⟨#[65, 78, 68]⟩ : ByteArray) [.string (⟨#[65, 78, 68]⟩ : ByteArray)] from rfl) (Reps.one (show Kd.M Kd.string _ _ _ (⟨#[65, 86, 69, 82, 65, 71, 69]⟩ : ByteArray) [.string (⟨#[65, 86, 69, 82, 65, 71, 69]⟩ : ByteArray)] from rfl) (Reps.one (show Kd.M Kd.string _ _ _ (⟨#[65, 86, 69, 82, 65, 71, 69, 73, 70]⟩ : ByteArray) [.string (⟨#[65, 86, 69, 82, 65, 71, 69, 73, 70]⟩ : ByteArray)] from rfl) (Reps.one (show Kd.M Kd.string _ _ _ (⟨#[67, 69, 73, 76, 73, 78, 71]⟩ : ByteArray) [.string (⟨#[67, 69, 73, 76, 73, 78, 71]⟩ : ByteArray)] from rfl) (Reps.one (show Kd.M Kd.string _ _ _ (⟨#[67, 72, 65, 82]⟩ : ByteArray) [.string (⟨#[67, 72, 65, 82]⟩ : ByteArray)] from rfl) (Reps.one (show Kd.M Kd.string _ _ _ (⟨#[67, 72, 79, 79, 83, 69]⟩ : ByteArray) [.string (⟨#[67, 72, 79, 79, 83, 69]⟩ : ByteArray)] from rfl) (Reps.one (show Kd.M Kd.string _ _ _ (⟨#[67, 79, 68, 69]⟩ : ByteArray) [.string (⟨#[67, 79, 68, 69]⟩ : ByteArray)] from rfl) (Reps.one (show Kd.M Kd.string _ _ _ (⟨#[67, 79, 76, 85, 77, 78]⟩ : ByteArray) [.string (⟨#[67, 79, 76, 85, 77, 78]⟩ : ByteArray)] from rfl) (Reps.one (show Kd.M Kd.string _ _ _ (⟨#[67, 79, 76, 85, 77, 78, 83]⟩ : ByteArray) [.string (⟨#[67, 79, 76, 85, 77, 78, 83]⟩ : ByteArray)] from rfl) (Reps.one (show Kd.M Kd.string _ _ _ (⟨#[67, 79, 77, 66, 73, 78]⟩ : ByteArray) [.string (⟨#[67, 79, 77, 66, 73, 78]⟩ : ByteArray)] from rfl) (Reps.one (show Kd.M Kd.string _ _ _ (⟨#[67, 79, 78, 67, 65, 84]⟩ : ByteArray) [.string (⟨#[67, 79, 78, 67, 65, 84]⟩ : ByteArray)] from rfl) (Reps.one (show Kd.M Kd.string _ _ _ (⟨#[67, 79, 85, 78, 84]⟩ : ByteArray) [.string (⟨#[67, 79, 85, 78, 84]⟩ : ByteArray)] from rfl) (Reps.one (show Kd.M Kd.string _ _ _ (⟨#[67, 79, 85, 78, 84, 65]⟩ : ByteArray) [.string (⟨#[67, 79, 85, 78, 84, 65]⟩ : ByteArray)] from rfl) (Reps.one (show Kd.M Kd.string _ _ _ (⟨#[67, 79, 85, 78, 84, 66, 76, 65, 78, 75]⟩ : ByteArray) [.string (⟨#[67, 79, 85, 78, 84, 66, 76, 65, 78, 75]⟩ : ByteArray)] from rfl) (Reps.one (show Kd.M Kd.string _ _ _ (⟨#[67, 79, 85, 78, 84, 73, 70]⟩ : ByteArray) [.string (⟨#[67, 79, 85, 78, 84, 73, 70]⟩ : ByteArray)] from rfl) (Reps.one (show Kd.M Kd.string _ _ _ (⟨#[68, 69, 67, 76, 65, 83, 83]⟩ : ByteArray) [.string (⟨#[68, 69, 67, 76, 65, 83, 83]⟩ : ByteArray)] from rfl) (Reps.one (show Kd.M Kd.string _ _ _ (⟨#[69, 86, 69, 78]⟩ : ByteArray) [.string (⟨#[69, 86, 69, 78]⟩ : ByteArray)] from rfl) (Reps.one (show Kd.M Kd.string _ _ _ (⟨#[69, 88, 65, 67, 84]⟩ : ByteArray) [.string (⟨#[69, 88, 65, 67, 84]⟩ : ByteArray)] from rfl) (Reps.one (show Kd.M Kd.string _ _ _ (⟨#[70, 65, 67, 84]⟩ : ByteArray) [.string (⟨#[70, 65, 67, 84]⟩ : ByteArray)] from rfl) (Reps.one (show Kd.M Kd.string _ _ _ (⟨#[70, 73, 78, 68]⟩ : ByteArray) [.string (⟨#[70, 73, 78, 68]⟩ : ByteArray)] from rfl) (Reps.one (show Kd.M Kd.string _ _ _ (⟨#[70, 76, 79, 79, 82]⟩ : ByteArray) [.string (⟨#[70, 76, 79, 79, 82]⟩ : ByteArray)] from rfl) (Reps.one (show Kd.M Kd.string _ _ _ (⟨#[71, 67, 68]⟩ : ByteArray) [.string (⟨#[71, 67, 68]⟩ : ByteArray)] from rfl) (Reps.one (show Kd.M Kd.string _ _ _ (⟨#[72, 76, 79, 79, 75, 85, 80]⟩ : ByteArray) [.string (⟨#[72, 76, 79, 79, 75, 85, 80]⟩ : ByteArray)] from rfl) (Reps.one (show Kd.M Kd.string _ _ _ (⟨#[73, 70]⟩ : ByteArray) [.string (⟨#[73, 70]⟩ : ByteArray)] from rfl) (Reps.one (show Kd.M Kd.string _ _ _ (⟨#[73, 70, 69, 82, 82, 79, 82]⟩ : ByteArray) [.string (⟨#[73, 70, 69, 82, 82, 79, 82]⟩ : ByteArray)] from rfl) (Reps.one (show Kd.M Kd.string _ _ _ (⟨#[73, 78, 68, 69, 88]⟩ : ByteArray) [.string (⟨#[73, 78, 68, 69, 88]⟩ : ByteArray)] from rfl) (Reps.one (show Kd.M Kd.string _ _ _ (⟨#[73, 78, 84]⟩ : ByteArray) [.string (⟨#[73, 78, 84]⟩ : ByteArray)] from rfl) (Reps.one (show Kd.M Kd.string _ _ _ (⟨#[73, 83, 66, 76, 65, 78, 75]⟩ : ByteArray) [.string (⟨#[73, 83, 66, 76, 65, 78, 75]⟩ : ByteArray)] from rfl) (Reps.one (show Kd.M Kd.string _ _ _ (⟨#[73, 83, 69, 82, 82, 79, 82]⟩ : ByteArray) [.string (⟨#[73, 83, 69, 82, 82, 79, 82]⟩ : ByteArray)] from rfl) (Reps.one (show Kd.M Kd.string _ _ _ (⟨#[73, 83, 76, 79, 71, 73, 67, 65, 76]⟩ : ByteArray) [.string (⟨#[73, 83, 76, 79, 71, 73, 67, 65, 76]⟩ : ByteArray)] from rfl) (Reps.one (show Kd.M Kd.string _ _ _ (⟨#[73, 83, 78, 85, 77, 66, 69, 82]⟩ : ByteArray) [.string (⟨#[73, 83, 78, 85, 77, 66, 69, 82]⟩ : ByteArray)] from rfl) (Reps.one (show Kd.M Kd.string _ _ _ (⟨#[73, 83, 84, 69, 88, 84]⟩ : ByteArray) [.string (⟨#[73, 83, 84, 69, 88, 84]⟩ : ByteArray)] from rfl) (Reps.one (show Kd.M Kd.string _ _ _ (⟨#[76, 65, 82, 71, 69]⟩ : ByteArray) [.string (⟨#[76, 65, 82, 71, 69]⟩ : ByteArray)] from rfl) (Reps.one (show Kd.M Kd.string _ _ _ (⟨#[76, 67, 77]⟩ : ByteArray) [.string (⟨#[76, 67, 77]⟩ : ByteArray)] from rfl) (Reps.one (show Kd.M Kd.string _ _ _ (⟨#[76, 69, 70, 84]⟩ : ByteArray) [.string (⟨#[76, 69, 70, 84]⟩ : ByteArray)] from rfl) (Reps.one (show Kd.M Kd.string _ _ _ (⟨#[76, 69, 78]⟩ : ByteArray) [.string (⟨#[76, 69, 78]⟩ : ByteArray)] from rfl) (Reps.one (show Kd.M Kd.string _ _ _ (⟨#[76, 79, 87, 69, 82]⟩ : ByteArray) [.string (⟨#[76, 79, 87, 69, 82]⟩ : ByteArray)] from rfl) (Reps.one (show Kd.M Kd.string _ _ _ (⟨#[77, 65, 84, 67, 72]⟩ : ByteArray) [.string (⟨#[77, 65, 84, 67, 72]⟩ : ByteArray)] from rfl) (Reps.one (show Kd.M Kd.string _ _ _ (⟨#[77, 65, 88]⟩ : ByteArray) [.string (⟨#[77, 65, 88]⟩ : ByteArray)] from rfl) (Reps.one (show Kd.M Kd.string _ _ _ (⟨#[77, 69, 68, 73, 65, 78]⟩ : ByteArray) [.string (⟨#[77, 69, 68, 73, 65, 78]⟩ : ByteArray)] from rfl) (Reps.one (show Kd.M Kd.string _ _ _ (⟨#[77, 73, 68]⟩ : ByteArray) [.string (⟨#[77, 73, 68]⟩ : ByteArray)] from rfl) (Reps.one (show Kd.M Kd.string _ _ _ (⟨#[77, 73, 78]⟩ : ByteArray) [.string (⟨#[77, 73, 78]⟩ : ByteArray)] from rfl) (Reps.one (show Kd.M Kd.string _ _ _ (⟨#[77, 79, 68]⟩ : ByteArray) [.string (⟨#[77, 79, 68]⟩ : ByteArray)] from rfl) (Reps.one (show Kd.M Kd.string _ _ _ (⟨#[77, 79, 68, 69]⟩ : ByteArray) [.string (⟨#[77, 79, 68, 69]⟩ : ByteArray)] from rfl) (Reps.one (show Kd.M Kd.string _ _ _ (⟨#[78, 65]⟩ : ByteArray) [.string (⟨#[78, 65]⟩ : ByteArray)] from rfl) (Reps.one (show Kd.M Kd.string _ _ _ (⟨#[78, 79, 84]⟩ : ByteArray) [.string (⟨#[78, 79, 84]⟩ : ByteArray)] from rfl) (Reps.one (show Kd.M Kd.string _ _ _ (⟨#[79, 68, 68]⟩ : ByteArray) [.string (⟨#[79, 68, 68]⟩ : ByteArray)] from rfl) (Reps.one (show Kd.M Kd.string _ _ _ (⟨#[79, 82]⟩ : ByteArray) [.string (⟨#[79, 82]⟩ : ByteArray)] from rfl) (Reps.one (show Kd.M Kd.string _ _ _ (⟨#[80, 79, 87, 69, 82]⟩ : ByteArray) [.string (⟨#[80, 79, 87, 69, 82]⟩ : ByteArray)] from rfl) (Reps.one (show Kd.M Kd.string _ _ _ (⟨#[80, 82, 79, 68, 85, 67, 84]⟩ : ByteArray) [.string (⟨#[80, 82, 79, 68, 85, 67, 84]⟩ : ByteArray)] from rfl) (Reps.one (show Kd.M Kd.string _ _ _ (⟨#[80, 82, 79, 80, 69, 82]⟩ : ByteArray) [.string (⟨#[80, 82, 79, 80, 69, 82]⟩ : ByteArray)] from rfl) (Reps.one (show Kd.M Kd.string _ _ _ (⟨#[81, 85, 79, 84, 73, 69, 78, 84]⟩ : ByteArray) [.string (⟨#[81, 85, 79, 84, 73, 69, 78, 84]⟩ : ByteArray)] from rfl) (Reps.one (show Kd.M Kd.string _ _ _ (⟨#[82, 65, 78, 75]⟩ : ByteArray) [.string (⟨#[82, 65, 78, 75]⟩ : ByteArray)] from rfl) (Reps.one (show Kd.M Kd.string _ _ _ (⟨#[82, 69, 80, 84]⟩ : ByteArray) [.string (⟨#[82, 69, 80, 84]⟩ : ByteArray)] from rfl) (Reps.one (show Kd.M Kd.string _ _ _ (⟨#[82, 69, 86, 69, 82, 83, 69]⟩ : ByteArray) [.string (⟨#[82, 69, 86, 69, 82, 83, 69]⟩ : ByteArray)] from rfl) (Reps.one (show Kd.M Kd.string _ _ _ (⟨#[82, 73, 71, 72, 84]⟩ : ByteArray) [.string (⟨#[82, 73, 71, 72, 84]⟩ : ByteArray)] from rfl) (Reps.one (show Kd.M Kd.string _ _ _ (⟨#[82, 79, 85, 78, 68]⟩ : ByteArray) [.string (⟨#[82, 79, 85, 78, 68]⟩ : ByteArray)] from rfl) (Reps.one (show Kd.M Kd.string _ _ _ (⟨#[82, 79, 85, 78, 68, 68, 79, 87, 78]⟩ : ByteArray) [.string (⟨#[82, 79, 85, 78, 68, 68, 79, 87, 78]⟩ : ByteArray)] from rfl) (Reps.one (show Kd.M Kd.string _ _ _ (⟨#[82, 79, 85, 78, 68, 85, 80]⟩ : ByteArray) [.string (⟨#[82, 79, 85, 78, 68, 85, 80]⟩ : ByteArray)] from rfl) (Reps.one (show Kd.M Kd.string _ _ _ (⟨#[82, 79, 87]⟩ : ByteArray) [.string (⟨#[82, 79, 87]⟩ : ByteArray)] from rfl) (Reps.one (show Kd.M Kd.string _ _ _ (⟨#[82, 79, 87, 83]⟩ : ByteArray) [.string (⟨#[82, 79, 87, 83]⟩ : ByteArray)] from rfl) (Reps.one (show Kd.M Kd.string _ _ _ (⟨#[83, 73, 71, 78]⟩ : ByteArray) [.string (⟨#[83, 73, 71, 78]⟩ : ByteArray)] from rfl) (Reps.one (show Kd.M Kd.string _ _ _ (⟨#[83, 77, 65, 76, 76]⟩ : ByteArray) [.string (⟨#[83, 77, 65, 76, 76]⟩ : ByteArray)] from rfl) (Reps.one (show Kd.M Kd.string _ _ _ (⟨#[83, 81, 82, 84]⟩ : ByteArray) [.string (⟨#[83, 81, 82, 84]⟩ : ByteArray)] from rfl) (Reps.one (show Kd.M Kd.string _ _ _ (⟨#[83, 85, 66, 83, 84, 73, 84, 85, 84, 69]⟩ : ByteArray) [.string (⟨#[83, 85, 66, 83, 84, 73, 84, 85, 84, 69]⟩ : ByteArray)] from rfl) (Reps.one (show Kd.M Kd.string _ _ _ (⟨#[83, 85, 77]⟩ : ByteArray) [.string (⟨#[83, 85, 77]⟩ : ByteArray)] from rfl) (Reps.one (show Kd.M Kd.string _ _ _ (⟨#[83, 85, 77, 73, 70]⟩ : ByteArray) [.string (⟨#[83, 85, 77, 73, 70]⟩ : ByteArray)] from rfl) (Reps.one (show Kd.M Kd.string _ _ _ (⟨#[83, 85, 77, 80, 82, 79, 68, 85, 67, 84]⟩ : ByteArray) [.string (⟨#[83, 85, 77, 80, 82, 79, 68, 85, 67, 84]⟩ : ByteArray)] from rfl) (Reps.one (show Kd.M Kd.string _ _ _ (⟨#[83, 85, 77, 83, 81]⟩ : ByteArray) [.string (⟨#[83, 85, 77, 83, 81]⟩ : ByteArray)] from rfl) (Reps.one (show Kd.M Kd.string _ _ _ (⟨#[83, 87, 73, 84, 67, 72]⟩ : ByteArray) [.string (⟨#[83, 87, 73, 84, 67, 72]⟩ : ByteArray)] from rfl) (Reps.one (show Kd.M Kd.string _ _ _ (⟨#[84, 69, 88, 84]⟩ : ByteArray) [.string (⟨#[84, 69, 88, 84]⟩ : ByteArray)] from rfl) (Reps.one (show Kd.M Kd.string _ _ _ (⟨#[84, 82, 73, 77]⟩ : ByteArray) [.string (⟨#[84, 82, 73, 77]⟩ : ByteArray)] from rfl) (Reps.one (show Kd.M Kd.string _ _ _ (⟨#[84, 82, 85, 78, 67]⟩ : ByteArray) [.string (⟨#[84, 82, 85, 78, 67]⟩ : ByteArray)] from rfl) (Reps.one (show Kd.M Kd.string _ _ _ (⟨#[85, 80, 80, 69, 82]⟩ : ByteArray) [.string (⟨#[85, 80, 80, 69, 82]⟩ : ByteArray)] from rfl) (Reps.one (show Kd.M Kd.string _ _ _ (⟨#[86, 65, 76, 85, 69]⟩ : ByteArray) [.string (⟨#[86, 65, 76, 85, 69]⟩ : ByteArray)] from rfl) (Reps.one (show Kd.M Kd.string _ _ _ (⟨#[86, 76, 79, 79, 75, 85, 80]⟩ : ByteArray) [.string (⟨#[86, 76, 79, 79, 75, 85, 80]⟩ : ByteArray)] from rfl) (Reps.one (show Kd.M Kd.string _ _ _ (⟨#[88, 79, 82]⟩ : ByteArray) [.string (⟨#[88, 79, 82]⟩ : ByteArray)] from rfl) (Reps.none _ _)))))))))))))))))))))))))))))))))))))))))))))))))))))))))))))))))))))))))))))))); intro v102 w1 ho2 hb hg_ hnew_; clear hg_ hnew_; (first | rw [← Ny101.out] at ho2 | (simp only [Int.reduceToNat] at ho2; rw [← Ny101.out] at ho2)); have n0_ := Aside0.mk (Kd.R_lower ho2 (below_size (pbx HB))); have n1_ := Aside0.mk (below_step (pbx HB) hb); clear HB; have HO103 := n0_; have HB := n1_; clear n0_ n1_; clear hb ho2))
  go_ret
  exact ⟨_, by first | rfl | (simp [errW_none, errW_some] <;> rfl) | (simp [*, errW_none, errW_some] <;> rfl), by (with_reducible repeat (first | apply Kd.R_alloc | apply Kd.R_drewN | apply Kd.R_drew)); exact HO103.out, pbx HB⟩

end Go.Proofs.Ytjbdljolpkkhcaa.X
namespace Go.Proofs.Ytjbdljolpkkhcaa.X
open Go.RowKit Go.Proofs.YtjbdljolpkkhcaaW.PrintWords Go.Proofs.YtjbdljolpkkhcaaW.PrintLast Go.Proofs.YtjbdljolpkkhcaaW.PrintMore
attribute [local go_sem] max2_int min2_int max_two min_two max_three min_three max_four min_four   -- for this text's walks alone
set_option linter.unusedVariables false
set_option linter.unusedSimpArgs false

/-! ### oculusref19_Find: function 19 -/
def oculusref19_Find.l0 : Nat → ByteArray → List ByteArray → Int → Option (Int)
  | 0, _, _, _ => none
  | k + 1, x0, x3, x4 => if x4 < (x3.length : Int) then (if 0 ≤ x4 then (if (rdOf ByteArray.empty x3 x4).toList = x0.toList then (some (wrap64 (x4 + 1))) else (oculusref19_Find.l0 k x0 x3 (wrap64 (x4 + 1)))) else (none)) else (some 0)
def oculusref19_Find.f (k : Nat) (a0 : ByteArray) : Option (Int) := (oculusref19_Names.f).bind fun t101 => (oculusref19_Find.l0 k a0 t101 0)
theorem oculusref19_Find.mono_l : ∀ k, (∀ y0 y1 y2, LeO (oculusref19_Find.l0 k y0 y1 y2) (oculusref19_Find.l0 (k + 1) y0 y1 y2))
  | 0 => fun _ _ _ r h => by simp [oculusref19_Find.l0] at h
  | k + 1 => by
    have ih0 := oculusref19_Find.mono_l k
    · intro y0 y1 y2
      unfold oculusref19_Find.l0
      repeat' first
      | (with_reducible exact ih0 _ _ _)
      | (with_reducible exact LeO.refl _)
      | (with_reducible exact LeO.none _)
      | (with_reducible refine LeO.ite ?_ ?_)
      | (with_reducible refine LeO.bind ?_ (fun _ => ?_))
      | exact ih0 _ _ _
      | exact LeO.none _
      | refine LeO.ite ?_ ?_
      | refine LeO.bind ?_ (fun _ => ?_)
theorem oculusref19_Find.mono : ∀ a0 k, LeO (oculusref19_Find.f k a0) (oculusref19_Find.f (k + 1) a0) := by
  intro a0 k
  have ih0 := oculusref19_Find.mono_l k
  unfold oculusref19_Find.f
  repeat' first
      | (with_reducible exact ih0 _ _ _)
      | (with_reducible exact LeO.refl _)
      | (with_reducible exact LeO.none _)
      | (with_reducible refine LeO.ite ?_ ?_)
      | (with_reducible refine LeO.bind ?_ (fun _ => ?_))
      | exact ih0 _ _ _
      | exact LeO.none _
      | refine LeO.ite ?_ ?_
      | refine LeO.bind ?_ (fun _ => ?_)
set_option maxHeartbeats 8000000 in
set_option maxRecDepth 100000 in
theorem oculusref19_Find.calls (k : Nat) (a0 : ByteArray) (r : Int) (w : World) (h : oculusref19_Find.f k a0 = some r) :
    Calls Try.prog 19 #[.string a0] w fun e w' => e = .returned (.int .i64 r) ∧ Below w.heap.size w w' := by
  have HB := Aside0.mk (Below.refl w.heap.size w)
  have H : ((oculusref19_Names.f).bind fun t101 => (oculusref19_Find.l0 k a0 t101 0)) = some r := h
  clear h
  replace H := Option.bind_eq_some_iff.mp H
  obtain ⟨t101, A20, H⟩ := H
  replace H : (oculusref19_Find.l0 k a0 t101 0) = some r := H
  have A2 := Aside0.mk A20
  clear A20
  have H' := Aside0.mk H
  clear H
  go_enter Try.func19, Try.ntmps19
  go_wp2_with (first | ((with_reducible refine gate_callee (f := 43) rfl ?_); refine goesL_ (some 5) rfl rfl Try.func43 (by kernel_rfl) rfl #[] rfl (by (try simp only [List.map_toArray, List.map_cons, List.map_nil]); first | done | rfl | (simp only [List.length_drop, List.length_take]; rfl)) ?_; (with_reducible refine (oculusref19_Names.calls  t101 _ A2.out).mono ?_); rintro e w3 ⟨v102, rfl, ho0, hb⟩; refine ⟨_, rfl, ?_⟩; have n0_ := Aside0.mk (Kd.R_lower ho0 (below_size (pbx HB))); have n1_ := Aside0.mk (below_step (pbx HB) hb); clear HB; have HO103 := n0_; have HB := n1_; clear n0_ n1_; (try clear hb); (try clear hb2); (try clear hk); (try clear hi); (try clear ho0)))
  go_loopg [4] k (fun kq v4 w' => ∃ (x4_1 : Int), v4 = .int .i64 x4_1 ∧ Aside0 (oculusref19_Find.l0 kq a0 t101 x4_1 = some r) ∧ Aside0 (kq ≤ k) ∧ Aside0 (Kd.R Kd.string 9 w' w.heap.size (fun _ => True) v102 t101) ∧ Aside0 (Below w.heap.size w w'))
  case atStart => exact ⟨(0), (by first | rfl | (simp; done) | (simp [*]; done)), H', ⟨Nat.le_refl _⟩, ⟨by (with_reducible repeat (first | apply Kd.R_alloc | apply Kd.R_drewN | apply Kd.R_drew)); exact HO103.out⟩, ⟨pbx HB⟩⟩
  case round =>
    clear H'
    try clear c1
    try clear p2
    obtain ⟨x4_1, rfl, HA, HK1, HO_3, HB⟩ := hrel
    cases gk with
    | zero => exact absurd HA.out (by simp [oculusref19_Find.l0])
    | succ k1 =>
      have H := HA.out
      clear HA
      simp only [oculusref19_Find.l0] at H
      by_cases c4 : x4_1 < (t101.length : Int)
      · rw [if_pos c4] at H
        have c4b0 : decide (x4_1 < (t101.length : Int)) = true := decide_eq_true c4
        clear c4
        by_cases c5 : 0 ≤ x4_1
        · rw [if_pos c5] at H
          have c5b0 : decide (0 ≤ x4_1) = true := decide_eq_true c5
          clear c5
          by_cases c6 : (rdOf ByteArray.empty t101 x4_1).toList = a0.toList
          · rw [if_pos c6] at H
            have c6b0 : ((rdOf ByteArray.empty t101 x4_1).toList == a0.toList) = true := beq_iff_eq.mpr c6
            have c6b1 : ((rdOf ByteArray.empty t101 x4_1).toList != a0.toList) = false := bne_eq_false_iff_eq.mpr c6
            clear c6
            obtain rfl := Option.some.inj H
            obtain ⟨Ao7, co7, eo7⟩ := Kd.R_slice HO_3.out
            subst eo7
            have p104 : 0 ≤ (x4_1 : Int) := of_decide_eq_true (by first | (with_reducible assumption) | assumption)
            have q104 : x4_1 < (t101.length : Int) := of_decide_eq_true (by first | (with_reducible assumption) | assumption)
            obtain ⟨ad104, e104, hx104_0⟩ := Kd.at_string (Kd.R_reads' HO_3.out).2.2 x4_1 p104 q104
            cases e104
            replace p104 := eq_true p104
            replace q104 := eq_true q104
            go_wp2
            go_ret
            exact ⟨by first | rfl | (simp [errW_none, errW_some] <;> rfl) | (simp [*, errW_none, errW_some] <;> rfl), pbx HB⟩
          · rw [if_neg c6] at H
            have c6b0 : ((rdOf ByteArray.empty t101 x4_1).toList == a0.toList) = false := beq_eq_false_iff_ne.mpr c6
            have c6b1 : ((rdOf ByteArray.empty t101 x4_1).toList != a0.toList) = true := bne_iff_ne.mpr c6
            have H' := Aside0.mk H
            clear H
            obtain ⟨Ao8, co8, eo8⟩ := Kd.R_slice HO_3.out
            subst eo8
            have p104 : 0 ≤ (x4_1 : Int) := of_decide_eq_true (by first | (with_reducible assumption) | assumption)
            have q104 : x4_1 < (t101.length : Int) := of_decide_eq_true (by first | (with_reducible assumption) | assumption)
            obtain ⟨ad104, e104, hx104_0⟩ := Kd.at_string (Kd.R_reads' HO_3.out).2.2 x4_1 p104 q104
            cases e104
            replace p104 := eq_true p104
            replace q104 := eq_true q104
            go_wp2
            go_roundg k1
            case measure => have := HK1.out; omega
            case rel => exact ⟨(wrap64 (x4_1 + 1)), (by first | rfl | (simp; done) | (simp [*]; done)), H', ⟨by have := HK1.out; omega⟩, ⟨by (with_reducible repeat (first | apply Kd.R_alloc | apply Kd.R_drewN | apply Kd.R_drew)); exact HO_3.out⟩, ⟨pbx HB⟩⟩
        · rw [if_neg c5] at H
          exact absurd H (by simp)
      · rw [if_neg c4] at H
        have c4b0 : decide (x4_1 < (t101.length : Int)) = false := decide_eq_false c4
        clear c4
        obtain rfl := Option.some.inj H
        obtain ⟨Ao9, co9, eo9⟩ := Kd.R_slice HO_3.out
        subst eo9
        go_wp2
        go_ret
        exact ⟨by first | rfl | (simp [errW_none, errW_some] <;> rfl) | (simp [*, errW_none, errW_some] <;> rfl), pbx HB⟩

end Go.Proofs.Ytjbdljolpkkhcaa.X
namespace Go.Proofs.Ytjbdljolpkkhcaa.X
open Go.RowKit Go.Proofs.YtjbdljolpkkhcaaW.PrintWords Go.Proofs.YtjbdljolpkkhcaaW.PrintLast Go.Proofs.YtjbdljolpkkhcaaW.PrintMore
attribute [local go_sem] max2_int min2_int max_two min_two max_three min_three max_four min_four   -- for this text's walks alone
set_option linter.unusedVariables false
set_option linter.unusedSimpArgs false

/-! ### fname_Name: function 20 -/
def fname_Name.f (k : Nat) (a0 : Int) : Option (ByteArray) := (fname_row.f k a0).bind fun bt101 => (some bt101.1)
theorem fname_Name.mono : ∀ a0 k, LeO (fname_Name.f k a0) (fname_Name.f (k + 1) a0) := by
  intro a0 k
  unfold fname_Name.f
  repeat' first
      | (with_reducible exact fname_row.mono _ _)
      | (with_reducible exact LeO.refl _)
      | (with_reducible exact LeO.none _)
      | (with_reducible refine LeO.ite ?_ ?_)
      | (with_reducible refine LeO.bind ?_ (fun _ => ?_))
      | exact fname_row.mono _ _
      | exact LeO.none _
      | refine LeO.ite ?_ ?_
      | refine LeO.bind ?_ (fun _ => ?_)
set_option maxHeartbeats 8000000 in
set_option maxRecDepth 100000 in
theorem fname_Name.calls (k : Nat) (a0 : Int) (r : ByteArray) (w : World) (h : fname_Name.f k a0 = some r) :
    Calls Try.prog 20 #[.int .i64 a0] w fun e w' => e = .returned (.string r) ∧ Drawn0 w w' := by
  have H : ((fname_row.f k a0).bind fun bt101 => (some bt101.1)) = some r := h
  clear h
  replace H := Option.bind_eq_some_iff.mp H
  obtain ⟨⟨t101, t102⟩, A20, H⟩ := H
  replace H : (some t101) = some r := H
  have A2 := Aside0.mk A20
  clear A20
  obtain rfl := Option.some.inj H
  go_enter Try.func20, Try.ntmps20
  go_wp2_with (first | ((with_reducible refine gate_callee (f := 42) rfl ?_); refine goesL_ (some 7) rfl rfl Try.func42 (by kernel_rfl) rfl #[.int .i64 a0] rfl (by (try simp only [List.map_toArray, List.map_cons, List.map_nil]); first | done | rfl | (simp only [List.length_drop, List.length_take]; rfl)) ?_; (with_reducible refine (fname_row.calls k a0 t101 t102 _ A2.out).mono ?_); rintro e w' ⟨rfl, ⟨nd, rfl⟩⟩; refine ⟨_, rfl, ?_⟩))
  go_ret
  exact ⟨by first | rfl | (simp; done) | (simp [*]; done), by repeat (first | exact Drawn0.refl _ | apply Drawn0.step)⟩

end Go.Proofs.Ytjbdljolpkkhcaa.X
namespace Go.Proofs.Ytjbdljolpkkhcaa.X
open Go.RowKit Go.Proofs.YtjbdljolpkkhcaaW.PrintWords Go.Proofs.YtjbdljolpkkhcaaW.PrintLast Go.Proofs.YtjbdljolpkkhcaaW.PrintMore
attribute [local go_sem] max2_int min2_int max_two min_two max_three min_three max_four min_four   -- for this text's walks alone
set_option linter.unusedVariables false
set_option linter.unusedSimpArgs false

/-! ### oculusref19_Name: function 21 -/
def oculusref19_Name.f (a0 : Int) : Option (ByteArray) := if a0 < 1 then (some (⟨#[]⟩ : ByteArray)) else (if a0 > 78 then (some (⟨#[]⟩ : ByteArray)) else ((oculusref19_Names.f).bind fun t101 => (if 0 ≤ (wrap64 (a0 - 1)) then (if (wrap64 (a0 - 1)) < (t101.length : Int) then (some (rdOf ByteArray.empty t101 (wrap64 (a0 - 1)))) else (none)) else (none))))
set_option maxHeartbeats 8000000 in
set_option maxRecDepth 100000 in
theorem oculusref19_Name.calls (a0 : Int) (r : ByteArray) (w : World) (h : oculusref19_Name.f a0 = some r) :
    Calls Try.prog 21 #[.int .i64 a0] w fun e w' => e = .returned (.string r) ∧ Below w.heap.size w w' := by
  have HB := Aside0.mk (Below.refl w.heap.size w)
  have H : (if a0 < 1 then (some (⟨#[]⟩ : ByteArray)) else (if a0 > 78 then (some (⟨#[]⟩ : ByteArray)) else ((oculusref19_Names.f).bind fun t101 => (if 0 ≤ (wrap64 (a0 - 1)) then (if (wrap64 (a0 - 1)) < (t101.length : Int) then (some (rdOf ByteArray.empty t101 (wrap64 (a0 - 1)))) else (none)) else (none))))) = some r := h
  clear h
  by_cases c2 : a0 < 1
  · rw [if_pos c2] at H
    have c2b0 : decide (a0 < 1) = true := decide_eq_true c2
    clear c2
    obtain rfl := Option.some.inj H
    go_enter Try.func21, Try.ntmps21
    go_wp2
    go_ret
    exact ⟨by first | rfl | (simp [errW_none, errW_some] <;> rfl) | (simp [*, errW_none, errW_some] <;> rfl), pbx HB⟩
  · rw [if_neg c2] at H
    have c2b0 : decide (a0 < 1) = false := decide_eq_false c2
    clear c2
    by_cases c3 : a0 > 78
    · rw [if_pos c3] at H
      have c3b0 : decide (78 < a0) = true := decide_eq_true c3
      clear c3
      obtain rfl := Option.some.inj H
      go_enter Try.func21, Try.ntmps21
      go_wp2
      go_ret
      exact ⟨by first | rfl | (simp [errW_none, errW_some] <;> rfl) | (simp [*, errW_none, errW_some] <;> rfl), pbx HB⟩
    · rw [if_neg c3] at H
      have c3b0 : decide (78 < a0) = false := decide_eq_false c3
      clear c3
      replace H := Option.bind_eq_some_iff.mp H
      obtain ⟨t101, A40, H⟩ := H
      replace H : (if 0 ≤ (wrap64 (a0 - 1)) then (if (wrap64 (a0 - 1)) < (t101.length : Int) then (some (rdOf ByteArray.empty t101 (wrap64 (a0 - 1)))) else (none)) else (none)) = some r := H
      have A4 := Aside0.mk A40
      clear A40
      obtain ⟨ji5, hji5⟩ : ∃ j_ : Int, (wrap64 (a0 - 1)) = j_ := ⟨_, rfl⟩
      replace H : (if 0 ≤ (ji5) then (if (ji5) < (t101.length : Int) then (some (rdOf ByteArray.empty t101 (ji5))) else (none)) else (none)) = some r := by first | (rw [hji5] at H; exact H) | (simp only [hji5] at H ⊢; exact H)
      (try rw [hji5] at A4)
      have hji5w : (IntKind.i64.wrap (a0 - 1)) = ji5 := (i64_w _).trans hji5
      by_cases c6 : 0 ≤ (ji5)
      · rw [if_pos c6] at H
        have c6b0 : decide (0 ≤ (ji5)) = true := decide_eq_true c6
        clear c6
        by_cases c7 : (ji5) < (t101.length : Int)
        · rw [if_pos c7] at H
          have c7b0 : decide ((ji5) < (t101.length : Int)) = true := decide_eq_true c7
          clear c7
          obtain rfl := Option.some.inj H
          go_enter Try.func21, Try.ntmps21
          go_wp2_with (first | ((with_reducible refine gate_callee (f := 43) rfl ?_); refine goesL_ (some 9) rfl rfl Try.func43 (by kernel_rfl) rfl #[] rfl (by (try simp only [List.map_toArray, List.map_cons, List.map_nil]); first | done | rfl | (simp only [List.length_drop, List.length_take]; rfl)) ?_; (with_reducible refine (oculusref19_Names.calls  t101 _ A4.out).mono ?_); rintro e w8 ⟨v102, rfl, ho0, hb⟩; refine ⟨_, rfl, ?_⟩; have n0_ := Aside0.mk (Kd.R_lower ho0 (below_size (pbx HB))); have n1_ := Aside0.mk (below_step (pbx HB) hb); clear HB; have HO103 := n0_; have HB := n1_; clear n0_ n1_; (try clear hb); (try clear hb2); (try clear hk); (try clear hi); (try clear ho0); obtain ⟨Ao9, co9, eo9⟩ := Kd.R_slice HO103.out; subst eo9; have p104 : 0 ≤ ((ji5) : Int) := of_decide_eq_true (by first | (with_reducible assumption) | assumption); have q104 : (ji5) < (t101.length : Int) := of_decide_eq_true (by first | (with_reducible assumption) | assumption); obtain ⟨ad104, e104, hx104_0⟩ := Kd.at_string (Kd.R_reads' HO103.out).2.2 (ji5) p104 q104; cases e104; replace p104 := eq_true p104; replace q104 := eq_true q104))
          go_ret
          exact ⟨by first | rfl | (simp [errW_none, errW_some] <;> rfl) | (simp only [← hji5]; first | rfl | (simp [errW_none, errW_some] <;> rfl)) | (simp [*, errW_none, errW_some] <;> rfl), pbx HB⟩
        · rw [if_neg c7] at H
          exact absurd H (by simp)
      · rw [if_neg c6] at H
        exact absurd H (by simp)

end Go.Proofs.Ytjbdljolpkkhcaa.X
namespace Go.Proofs.Ytjbdljolpkkhcaa.X
open Go.RowKit Go.Proofs.YtjbdljolpkkhcaaW.PrintWords Go.Proofs.YtjbdljolpkkhcaaW.PrintLast Go.Proofs.YtjbdljolpkkhcaaW.PrintMore
attribute [local go_sem] max2_int min2_int max_two min_two max_three min_three max_four min_four   -- for this text's walks alone
set_option linter.unusedVariables false
set_option linter.unusedSimpArgs false

/-! ### fname_Fits: function 22 -/
def fname_Fits.f (k : Nat) (a0 : Int) (a1 : Int) : Option (Bool) := (fname_row.f k a0).bind fun bt101 => (if bt101.2.toList = ([] : List UInt8) then (some false) else (if 0 < (bt101.2.size : Int) then (if a1 ≥ (((bt bt101.2 0) - 48) % 256) then (if 1 < (bt101.2.size : Int) then (some (decide (a1 ≤ (((bt bt101.2 1) - 48) % 256)))) else (none)) else (some false)) else (none)))
theorem fname_Fits.mono : ∀ a0 a1 k, LeO (fname_Fits.f k a0 a1) (fname_Fits.f (k + 1) a0 a1) := by
  intro a0 a1 k
  unfold fname_Fits.f
  repeat' first
      | (with_reducible exact fname_row.mono _ _)
      | (with_reducible exact LeO.refl _)
      | (with_reducible exact LeO.none _)
      | (with_reducible refine LeO.ite ?_ ?_)
      | (with_reducible refine LeO.bind ?_ (fun _ => ?_))
      | exact fname_row.mono _ _
      | exact LeO.none _
      | refine LeO.ite ?_ ?_
      | refine LeO.bind ?_ (fun _ => ?_)
set_option maxHeartbeats 8000000 in
set_option maxRecDepth 100000 in
theorem fname_Fits.calls (k : Nat) (a0 : Int) (a1 : Int) (r : Bool) (w : World) (h : fname_Fits.f k a0 a1 = some r) :
    Calls Try.prog 22 #[.int .i64 a0, .int .i64 a1] w fun e w' => e = .returned (.bool r) ∧ Drawn0 w w' := by
  have H : ((fname_row.f k a0).bind fun bt101 => (if bt101.2.toList = ([] : List UInt8) then (some false) else (if 0 < (bt101.2.size : Int) then (if a1 ≥ (((bt bt101.2 0) - 48) % 256) then (if 1 < (bt101.2.size : Int) then (some (decide (a1 ≤ (((bt bt101.2 1) - 48) % 256)))) else (none)) else (some false)) else (none)))) = some r := h
  clear h
  replace H := Option.bind_eq_some_iff.mp H
  obtain ⟨⟨t101, t102⟩, A30, H⟩ := H
  replace H : (if t102.toList = ([] : List UInt8) then (some false) else (if 0 < (t102.size : Int) then (if a1 ≥ (((bt t102 0) - 48) % 256) then (if 1 < (t102.size : Int) then (some (decide (a1 ≤ (((bt t102 1) - 48) % 256)))) else (none)) else (some false)) else (none))) = some r := H
  have A3 := Aside0.mk A30
  clear A30
  by_cases c4 : t102.toList = ([] : List UInt8)
  · rw [if_pos c4] at H
    have c4b0 : (t102.toList == ([] : List UInt8)) = true := beq_iff_eq.mpr c4
    have c4b1 : (t102.toList != ([] : List UInt8)) = false := bne_eq_false_iff_eq.mpr c4
    clear c4
    obtain rfl := Option.some.inj H
    go_enter Try.func22, Try.ntmps22
    go_wp2_with (first | ((with_reducible refine gate_callee (f := 42) rfl ?_); refine goesL_ (some 9) rfl rfl Try.func42 (by kernel_rfl) rfl #[.int .i64 a0] rfl (by (try simp only [List.map_toArray, List.map_cons, List.map_nil]); first | done | rfl | (simp only [List.length_drop, List.length_take]; rfl)) ?_; (with_reducible refine (fname_row.calls k a0 t101 t102 _ A3.out).mono ?_); rintro e w' ⟨rfl, ⟨nd, rfl⟩⟩; refine ⟨_, rfl, ?_⟩))
    go_ret
    exact ⟨by first | rfl | (simp; done) | (simp [*]; done), by repeat (first | exact Drawn0.refl _ | apply Drawn0.step)⟩
  · rw [if_neg c4] at H
    have c4b0 : (t102.toList == ([] : List UInt8)) = false := beq_eq_false_iff_ne.mpr c4
    have c4b1 : (t102.toList != ([] : List UInt8)) = true := bne_iff_ne.mpr c4
    by_cases c5 : 0 < (t102.size : Int)
    · rw [if_pos c5] at H
      have c5b0 : decide (0 < (t102.size : Int)) = true := decide_eq_true c5
      have c5b1 : decide (0 < t102.size) = true := decide_eq_true (by omega)
      clear c5
      by_cases c7 : a1 ≥ (((bt t102 0) - 48) % 256)
      · rw [if_pos c7] at H
        have c7b0 : decide ((((bt t102 0) - 48) % 256) ≤ a1) = true := decide_eq_true c7
        clear c7
        by_cases c8 : 1 < (t102.size : Int)
        · rw [if_pos c8] at H
          have c8b0 : decide (1 < (t102.size : Int)) = true := decide_eq_true c8
          have c8b1 : decide (1 < t102.size) = true := decide_eq_true (by omega)
          clear c8
          obtain rfl := Option.some.inj H
          go_enter Try.func22, Try.ntmps22
          go_wp2_with (first | ((with_reducible refine gate_callee (f := 42) rfl ?_); refine goesL_ (some 9) rfl rfl Try.func42 (by kernel_rfl) rfl #[.int .i64 a0] rfl (by (try simp only [List.map_toArray, List.map_cons, List.map_nil]); first | done | rfl | (simp only [List.length_drop, List.length_take]; rfl)) ?_; (with_reducible refine (fname_row.calls k a0 t101 t102 _ A3.out).mono ?_); rintro e w' ⟨rfl, ⟨nd, rfl⟩⟩; refine ⟨_, rfl, ?_⟩; have p6 : 0 ≤ (0 : Int) := (by omega); have q6 : 0 < t102.size := (by have : (0 : Int) < (t102.size : Int) := of_decide_eq_true (by first | (with_reducible assumption) | assumption); omega); have hx6 : ∀ h : 0 < t102.size, ((t102[0]'h).toNat : Int) = bt t102 0 := bt_at t102 0; clear p6; have qi6 : (0 < (t102.size : Int)) = True := eq_true (of_decide_eq_true (by first | (with_reducible assumption) | assumption)); replace q6 := eq_true q6; have p9 : 0 ≤ (1 : Int) := (by omega); have q9 : 1 < t102.size := (by have : (1 : Int) < (t102.size : Int) := of_decide_eq_true (by first | (with_reducible assumption) | assumption); omega); have hx9 : ∀ h : 1 < t102.size, ((t102[1]'h).toNat : Int) = bt t102 1 := bt_at t102 1; clear p9; have qi9 : (1 < (t102.size : Int)) = True := eq_true (of_decide_eq_true (by first | (with_reducible assumption) | assumption)); replace q9 := eq_true q9))
          go_ret
          exact ⟨by first | rfl | (simp; done) | (simp [*]; done), by repeat (first | exact Drawn0.refl _ | apply Drawn0.step)⟩
        · rw [if_neg c8] at H
          exact absurd H (by simp)
      · rw [if_neg c7] at H
        have c7b0 : decide ((((bt t102 0) - 48) % 256) ≤ a1) = false := decide_eq_false c7
        clear c7
        obtain rfl := Option.some.inj H
        go_enter Try.func22, Try.ntmps22
        go_wp2_with (first | ((with_reducible refine gate_callee (f := 42) rfl ?_); refine goesL_ (some 9) rfl rfl Try.func42 (by kernel_rfl) rfl #[.int .i64 a0] rfl (by (try simp only [List.map_toArray, List.map_cons, List.map_nil]); first | done | rfl | (simp only [List.length_drop, List.length_take]; rfl)) ?_; (with_reducible refine (fname_row.calls k a0 t101 t102 _ A3.out).mono ?_); rintro e w' ⟨rfl, ⟨nd, rfl⟩⟩; refine ⟨_, rfl, ?_⟩; have p6 : 0 ≤ (0 : Int) := (by omega); have q6 : 0 < t102.size := (by have : (0 : Int) < (t102.size : Int) := of_decide_eq_true (by first | (with_reducible assumption) | assumption); omega); have hx6 : ∀ h : 0 < t102.size, ((t102[0]'h).toNat : Int) = bt t102 0 := bt_at t102 0; clear p6; have qi6 : (0 < (t102.size : Int)) = True := eq_true (of_decide_eq_true (by first | (with_reducible assumption) | assumption)); replace q6 := eq_true q6))
        go_ret
        exact ⟨by first | rfl | (simp; done) | (simp [*]; done), by repeat (first | exact Drawn0.refl _ | apply Drawn0.step)⟩
    · rw [if_neg c5] at H
      exact absurd H (by simp)

end Go.Proofs.Ytjbdljolpkkhcaa.X
namespace Go.Proofs.Ytjbdljolpkkhcaa.X
open Go.RowKit Go.Proofs.YtjbdljolpkkhcaaW.PrintWords Go.Proofs.YtjbdljolpkkhcaaW.PrintLast Go.Proofs.YtjbdljolpkkhcaaW.PrintMore
attribute [local go_sem] max2_int min2_int max_two min_two max_three min_three max_four min_four   -- for this text's walks alone
set_option linter.unusedVariables false
set_option linter.unusedSimpArgs false

/-! ### oculusref19_Rows: function 44 -/
def oculusref19_Rows.f  : Option (List ByteArray) := some (([(⟨#[49, 49, 118]⟩ : ByteArray), (⟨#[49, 56, 101]⟩ : ByteArray), (⟨#[49, 56, 108]⟩ : ByteArray), (⟨#[50, 50, 114, 118]⟩ : ByteArray), (⟨#[50, 50, 118]⟩ : ByteArray), (⟨#[49, 49, 118]⟩ : ByteArray), (⟨#[50, 56, 101]⟩ : ByteArray), (⟨#[49, 49, 118]⟩ : ByteArray), (⟨#[49, 49, 110]⟩ : ByteArray), (⟨#[49, 49, 110]⟩ : ByteArray), (⟨#[50, 50, 118]⟩ : ByteArray), (⟨#[49, 56, 108]⟩ : ByteArray), (⟨#[49, 56, 108]⟩ : ByteArray), (⟨#[49, 56, 108]⟩ : ByteArray), (⟨#[49, 56, 108]⟩ : ByteArray), (⟨#[50, 50, 114, 118]⟩ : ByteArray), (⟨#[50, 50, 101, 116]⟩ : ByteArray), (⟨#[49, 49, 118]⟩ : ByteArray), (⟨#[50, 50, 118]⟩ : ByteArray), (⟨#[49, 49, 118]⟩ : ByteArray), (⟨#[50, 50, 118]⟩ : ByteArray), (⟨#[50, 50, 118]⟩ : ByteArray), (⟨#[50, 50, 118]⟩ : ByteArray), (⟨#[51, 51, 118, 114, 118]⟩ : ByteArray), (⟨#[50, 51, 101]⟩ : ByteArray), (⟨#[50, 50, 101]⟩ : ByteArray), (⟨#[50, 51, 114, 118]⟩ : ByteArray), (⟨#[49, 49, 118]⟩ : ByteArray), (⟨#[49, 49, 118]⟩ : ByteArray), (⟨#[49, 49, 118]⟩ : ByteArray), (⟨#[49, 49, 118]⟩ : ByteArray), (⟨#[49, 49, 118]⟩ : ByteArray), (⟨#[49, 49, 118]⟩ : ByteArray), (⟨#[50, 50, 114, 118]⟩ : ByteArray), (⟨#[50, 50, 118]⟩ : ByteArray), (⟨#[50, 50, 118]⟩ : ByteArray), (⟨#[49, 49, 118]⟩ : ByteArray), (⟨#[49, 49, 118]⟩ : ByteArray), (⟨#[50, 50, 118, 114]⟩ : ByteArray), (⟨#[49, 56, 108]⟩ : ByteArray), (⟨#[49, 56, 108]⟩ : ByteArray), (⟨#[51, 51, 118]⟩ : ByteArray), (⟨#[49, 56, 108]⟩ : ByteArray), (⟨#[50, 50, 118]⟩ : ByteArray), (⟨#[49, 56, 108]⟩ : ByteArray), (⟨#[48, 48]⟩ : ByteArray), (⟨#[49, 49, 118]⟩ : ByteArray), (⟨#[49, 49, 118]⟩ : ByteArray), (⟨#[49, 56, 101]⟩ : ByteArray), (⟨#[50, 50, 118]⟩ : ByteArray), (⟨#[49, 56, 108]⟩ : ByteArray), (⟨#[49, 49, 118]⟩ : ByteArray), (⟨#[50, 50, 118]⟩ : ByteArray), (⟨#[50, 50, 118, 114]⟩ : ByteArray), (⟨#[50, 50, 118]⟩ : ByteArray), (⟨#[49, 49, 118]⟩ : ByteArray), (⟨#[50, 50, 118]⟩ : ByteArray), (⟨#[50, 50, 118]⟩ : ByteArray), (⟨#[50, 50, 118]⟩ : ByteArray), (⟨#[50, 50, 118]⟩ : ByteArray), (⟨#[49, 49, 110]⟩ : ByteArray), (⟨#[49, 49, 110]⟩ : ByteArray), (⟨#[49, 49, 118]⟩ : ByteArray), (⟨#[50, 50, 114, 118]⟩ : ByteArray), (⟨#[49, 49, 118]⟩ : ByteArray), (⟨#[51, 51, 118]⟩ : ByteArray), (⟨#[49, 56, 108]⟩ : ByteArray), (⟨#[50, 50, 114, 118]⟩ : ByteArray), (⟨#[50, 50, 114]⟩ : ByteArray), (⟨#[49, 56, 108]⟩ : ByteArray), (⟨#[51, 56, 101]⟩ : ByteArray), (⟨#[50, 50, 118]⟩ : ByteArray), (⟨#[49, 49, 118]⟩ : ByteArray), (⟨#[49, 49, 118]⟩ : ByteArray), (⟨#[49, 49, 118]⟩ : ByteArray), (⟨#[49, 49, 118]⟩ : ByteArray), (⟨#[51, 51, 118, 114, 118]⟩ : ByteArray), (⟨#[49, 56, 108]⟩ : ByteArray)] : List ByteArray))
set_option maxHeartbeats 8000000 in
set_option maxRecDepth 100000 in
theorem oculusref19_Rows.calls  (r : List ByteArray) (w : World) (h : oculusref19_Rows.f  = some r) :
    Calls Try.prog 44 #[] w fun e w' => ∃ v0_ : Value, e = .returned (v0_) ∧ Kd.R Kd.string 9 w' w.heap.size (fun _ => True) v0_ r ∧ Below w.heap.size w w' := by
  have HB := Aside0.mk (Below.refl w.heap.size w)
  have H : (some (([(⟨#[49, 49, 118]⟩ : ByteArray), (⟨#[49, 56, 101]⟩ : ByteArray), (⟨#[49, 56, 108]⟩ : ByteArray), (⟨#[50, 50, 114, 118]⟩ : ByteArray), (⟨#[50, 50, 118]⟩ : ByteArray), (⟨#[49, 49, 118]⟩ : ByteArray), (⟨#[50, 56, 101]⟩ : ByteArray), (⟨#[49, 49, 118]⟩ : ByteArray), (⟨#[49, 49, 110]⟩ : ByteArray), (⟨#[49, 49, 110]⟩ : ByteArray), (⟨#[50, 50, 118]⟩ : ByteArray), (⟨#[49, 56, 108]⟩ : ByteArray), (⟨#[49, 56, 108]⟩ : ByteArray), (⟨#[49, 56, 108]⟩ : ByteArray), (⟨#[49, 56, 108]⟩ : ByteArray), (⟨#[50, 50, 114, 118]⟩ : ByteArray), (⟨#[50, 50, 101, 116]⟩ : ByteArray), (⟨#[49, 49, 118]⟩ : ByteArray), (⟨#[50, 50, 118]⟩ : ByteArray), (⟨#[49, 49, 118]⟩ : ByteArray), (⟨#[50, 50, 118]⟩ : ByteArray), (⟨#[50, 50, 118]⟩ : ByteArray), (⟨#[50, 50, 118]⟩ : ByteArray), (⟨#[51, 51, 118, 114, 118]⟩ : ByteArray), (⟨#[50, 51, 101]⟩ : ByteArray), (⟨#[50, 50, 101]⟩ : ByteArray), (⟨#[50, 51, 114, 118]⟩ : ByteArray), (⟨#[49, 49, 118]⟩ : ByteArray), (⟨#[49, 49, 118]⟩ : ByteArray), (⟨#[49, 49, 118]⟩ : ByteArray), (⟨#[49, 49, 118]⟩ : ByteArray), (⟨#[49, 49, 118]⟩ : ByteArray), (⟨#[49, 49, 118]⟩ : ByteArray), (⟨#[50, 50, 114, 118]⟩ : ByteArray), (⟨#[50, 50, 118]⟩ : ByteArray), (⟨#[50, 50, 118]⟩ : ByteArray), (⟨#[49, 49, 118]⟩ : ByteArray), (⟨#[49, 49, 118]⟩ : ByteArray), (⟨#[50, 50, 118, 114]⟩ : ByteArray), (⟨#[49, 56, 108]⟩ : ByteArray), (⟨#[49, 56, 108]⟩ : ByteArray), (⟨#[51, 51, 118]⟩ : ByteArray), (⟨#[49, 56, 108]⟩ : ByteArray), (⟨#[50, 50, 118]⟩ : ByteArray), (⟨#[49, 56, 108]⟩ : ByteArray), (⟨#[48, 48]⟩ : ByteArray), (⟨#[49, 49, 118]⟩ : ByteArray), (⟨#[49, 49, 118]⟩ : ByteArray), (⟨#[49, 56, 101]⟩ : ByteArray), (⟨#[50, 50, 118]⟩ : ByteArray), (⟨#[49, 56, 108]⟩ : ByteArray), (⟨#[49, 49, 118]⟩ : ByteArray), (⟨#[50, 50, 118]⟩ : ByteArray), (⟨#[50, 50, 118, 114]⟩ : ByteArray), (⟨#[50, 50, 118]⟩ : ByteArray), (⟨#[49, 49, 118]⟩ : ByteArray), (⟨#[50, 50, 118]⟩ : ByteArray), (⟨#[50, 50, 118]⟩ : ByteArray), (⟨#[50, 50, 118]⟩ : ByteArray), (⟨#[50, 50, 118]⟩ : ByteArray), (⟨#[49, 49, 110]⟩ : ByteArray), (⟨#[49, 49, 110]⟩ : ByteArray), (⟨#[49, 49, 118]⟩ : ByteArray), (⟨#[50, 50, 114, 118]⟩ : ByteArray), (⟨#[49, 49, 118]⟩ : ByteArray), (⟨#[51, 51, 118]⟩ : ByteArray), (⟨#[49, 56, 108]⟩ : ByteArray), (⟨#[50, 50, 114, 118]⟩ : ByteArray), (⟨#[50, 50, 114]⟩ : ByteArray), (⟨#[49, 56, 108]⟩ : ByteArray), (⟨#[51, 56, 101]⟩ : ByteArray), (⟨#[50, 50, 118]⟩ : ByteArray), (⟨#[49, 49, 118]⟩ : ByteArray), (⟨#[49, 49, 118]⟩ : ByteArray), (⟨#[49, 49, 118]⟩ : ByteArray), (⟨#[49, 49, 118]⟩ : ByteArray), (⟨#[51, 51, 118, 114, 118]⟩ : ByteArray), (⟨#[49, 56, 108]⟩ : ByteArray)] : List ByteArray))) = some r := h
  clear h
  obtain ⟨y101, hy101⟩ : ∃ y_ : List ByteArray, y_ = (([(⟨#[49, 49, 118]⟩ : ByteArray), (⟨#[49, 56, 101]⟩ : ByteArray), (⟨#[49, 56, 108]⟩ : ByteArray), (⟨#[50, 50, 114, 118]⟩ : ByteArray), (⟨#[50, 50, 118]⟩ : ByteArray), (⟨#[49, 49, 118]⟩ : ByteArray), (⟨#[50, 56, 101]⟩ : ByteArray), (⟨#[49, 49, 118]⟩ : ByteArray), (⟨#[49, 49, 110]⟩ : ByteArray), (⟨#[49, 49, 110]⟩ : ByteArray), (⟨#[50, 50, 118]⟩ : ByteArray), (⟨#[49, 56, 108]⟩ : ByteArray), (⟨#[49, 56, 108]⟩ : ByteArray), (⟨#[49, 56, 108]⟩ : ByteArray), (⟨#[49, 56, 108]⟩ : ByteArray), (⟨#[50, 50, 114, 118]⟩ : ByteArray), (⟨#[50, 50, 101, 116]⟩ : ByteArray), (⟨#[49, 49, 118]⟩ : ByteArray), (⟨#[50, 50, 118]⟩ : ByteArray), (⟨#[49, 49, 118]⟩ : ByteArray), (⟨#[50, 50, 118]⟩ : ByteArray), (⟨#[50, 50, 118]⟩ : ByteArray), (⟨#[50, 50, 118]⟩ : ByteArray), (⟨#[51, 51, 118, 114, 118]⟩ : ByteArray), (⟨#[50, 51, 101]⟩ : ByteArray), (⟨#[50, 50, 101]⟩ : ByteArray), (⟨#[50, 51, 114, 118]⟩ : ByteArray), (⟨#[49, 49, 118]⟩ : ByteArray), (⟨#[49, 49, 118]⟩ : ByteArray), (⟨#[49, 49, 118]⟩ : ByteArray), (⟨#[49, 49, 118]⟩ : ByteArray), (⟨#[49, 49, 118]⟩ : ByteArray), (⟨#[49, 49, 118]⟩ : ByteArray), (⟨#[50, 50, 114, 118]⟩ : ByteArray), (⟨#[50, 50, 118]⟩ : ByteArray), (⟨#[50, 50, 118]⟩ : ByteArray), (⟨#[49, 49, 118]⟩ : ByteArray), (⟨#[49, 49, 118]⟩ : ByteArray), (⟨#[50, 50, 118, 114]⟩ : ByteArray), (⟨#[49, 56, 108]⟩ : ByteArray), (⟨#[49, 56, 108]⟩ : ByteArray), (⟨#[51, 51, 118]⟩ : ByteArray), (⟨#[49, 56, 108]⟩ : ByteArray), (⟨#[50, 50, 118]⟩ : ByteArray), (⟨#[49, 56, 108]⟩ : ByteArray), (⟨#[48, 48]⟩ : ByteArray), (⟨#[49, 49, 118]⟩ : ByteArray), (⟨#[49, 49, 118]⟩ : ByteArray), (⟨#[49, 56, 101]⟩ : ByteArray), (⟨#[50, 50, 118]⟩ : ByteArray), (⟨#[49, 56, 108]⟩ : ByteArray), (⟨#[49, 49, 118]⟩ : ByteArray), (⟨#[50, 50, 118]⟩ : ByteArray), (⟨#[50, 50, 118, 114]⟩ : ByteArray), (⟨#[50, 50, 118]⟩ : ByteArray), (⟨#[49, 49, 118]⟩ : ByteArray), (⟨#[50, 50, 118]⟩ : ByteArray), (⟨#[50, 50, 118]⟩ : ByteArray), (⟨#[50, 50, 118]⟩ : ByteArray), (⟨#[50, 50, 118]⟩ : ByteArray), (⟨#[49, 49, 110]⟩ : ByteArray), (⟨#[49, 49, 110]⟩ : ByteArray), (⟨#[49, 49, 118]⟩ : ByteArray), (⟨#[50, 50, 114, 118]⟩ : ByteArray), (⟨#[49, 49, 118]⟩ : ByteArray), (⟨#[51, 51, 118]⟩ : ByteArray), (⟨#[49, 56, 108]⟩ : ByteArray), (⟨#[50, 50, 114, 118]⟩ : ByteArray), (⟨#[50, 50, 114]⟩ : ByteArray), (⟨#[49, 56, 108]⟩ : ByteArray), (⟨#[51, 56, 101]⟩ : ByteArray), (⟨#[50, 50, 118]⟩ : ByteArray), (⟨#[49, 49, 118]⟩ : ByteArray), (⟨#[49, 49, 118]⟩ : ByteArray), (⟨#[49, 49, 118]⟩ : ByteArray), (⟨#[49, 49, 118]⟩ : ByteArray), (⟨#[51, 51, 118, 114, 118]⟩ : ByteArray), (⟨#[49, 56, 108]⟩ : ByteArray)] : List ByteArray)) := ⟨_, rfl⟩
  replace H : (some y101) = some r := by first | (rw [hy101]; with_reducible exact H) | (have H2_ := (Option.bind_some _ _).symm.trans H; rw [hy101]; with_reducible exact H2_) | (have H2_ := (Option.bind_some _ _).symm.trans H; with_reducible exact H2_) | with_reducible exact H | (rw [hy101]; exact H) | exact H
  have Ny101 := Aside0.mk hy101
  clear hy101
  obtain rfl := Option.some.inj H
  go_enter Try.func44, Try.ntmps44
  go_wp2_with (first | ((with_reducible refine gate_dst (N := 1) rfl ?_); refine Kd.R_lit Kd.string _ 9 ?hg (N := 1) ?hd (xs := ([(⟨#[49, 49, 118]⟩ : ByteArray), (⟨#[49, 56, 101]⟩ : ByteArray), (⟨#[49, 56, 108]⟩ : ByteArray), (⟨#[50, 50, 114, 118]⟩ : ByteArray), (⟨#[50, 50, 118]⟩ : ByteArray), (⟨#[49, 49, 118]⟩ : ByteArray), (⟨#[50, 56, 101]⟩ : ByteArray), (⟨#[49, 49, 118]⟩ : ByteArray), (⟨#[49, 49, 110]⟩ : ByteArray), (⟨#[49, 49, 110]⟩ : ByteArray), (⟨#[50, 50, 118]⟩ : ByteArray), (⟨#[49, 56, 108]⟩ : ByteArray), (⟨#[49, 56, 108]⟩ : ByteArray), (⟨#[49, 56, 108]⟩ : ByteArray), (⟨#[49, 56, 108]⟩ : ByteArray), (⟨#[50, 50, 114, 118]⟩ : ByteArray), (⟨#[50, 50, 101, 116]⟩ : ByteArray), (⟨#[49, 49, 118]⟩ : ByteArray), (⟨#[50, 50, 118]⟩ : ByteArray), (⟨#[49, 49, 118]⟩ : ByteArray), (⟨#[50, 50, 118]⟩ : ByteArray), (⟨#[50, 50, 118]⟩ : ByteArray), (⟨#[50, 50, 118]⟩ : ByteArray), (⟨#[51, 51, 118, 114, 118]⟩ : ByteArray), (⟨#[50, 51, 101]⟩ : ByteArray), (⟨#[50, 50, 101]⟩ : ByteArray), (⟨#[50, 51, 114, 118]⟩ : ByteArray), (⟨#[49, 49, 118]⟩ : ByteArray), (⟨#[49, 49, 118]⟩ : ByteArray), (⟨#[49, 49, 118]⟩ : ByteArray), (⟨#[49, 49, 118]⟩ : ByteArray), (⟨#[49, 49, 118]⟩ : ByteArray), (⟨#[49, 49, 118]⟩ : ByteArray), (⟨#[50, 50, 114, 118]⟩ : ByteArray), (⟨#[50, 50, 118]⟩ : ByteArray), (⟨#[50, 50, 118]⟩ : ByteArray), (⟨#[49, 49, 118]⟩ : ByteArray), (⟨#[49, 49, 118]⟩ : ByteArray), (⟨#[50, 50, 118, 114]⟩ : ByteArray), (⟨#[49, 56, 108]⟩ : ByteArray), (⟨#[49, 56, 108]⟩ : ByteArray), (⟨#[51, 51, 118]⟩ : ByteArray), (⟨#[49, 56, 108]⟩ : ByteArray), (⟨#[50, 50, 118]⟩ : ByteArray), (⟨#[49, 56, 108]⟩ : ByteArray), (⟨#[48, 48]⟩ : ByteArray), (⟨#[49, 49, 118]⟩ : ByteArray), (⟨#[49, 49, 118]⟩ : ByteArray), (⟨#[49, 56, 101]⟩ : ByteArray), (⟨#[50, 50, 118]⟩ : ByteArray), (⟨#[49, 56, 108]⟩ : ByteArray), (⟨#[49, 49, 118]⟩ : ByteArray), (⟨#[50, 50, 118]⟩ : ByteArray), (⟨#[50, 50, 118, 114]⟩ : ByteArray), (⟨#[50, 50, 118]⟩ : ByteArray), (⟨#[49, 49, 118]⟩ : ByteArray), (⟨#[50, 50, 118]⟩ : ByteArray), (⟨#[50, 50, 118]⟩ : ByteArray), (⟨#[50, 50, 118]⟩ : ByteArray), (⟨#[50, 50, 118]⟩ : ByteArray), (⟨#[49, 49, 110]⟩ : ByteArray), (⟨#[49, 49, 110]⟩ : ByteArray), (⟨#[49, 49, 118]⟩ : ByteArray), (⟨#[50, 50, 114, 118]⟩ : ByteArray), (⟨#[49, 49, 118]⟩ : ByteArray), (⟨#[51, 51, 118]⟩ : ByteArray), (⟨#[49, 56, 108]⟩ : ByteArray), (⟨#[50, 50, 114, 118]⟩ : ByteArray), (⟨#[50, 50, 114]⟩ : ByteArray), (⟨#[49, 56, 108]⟩ : ByteArray), (⟨#[51, 56, 101]⟩ : ByteArray), (⟨#[50, 50, 118]⟩ : ByteArray), (⟨#[49, 49, 118]⟩ : ByteArray), (⟨#[49, 49, 118]⟩ : ByteArray), (⟨#[49, 49, 118]⟩ : ByteArray), (⟨#[49, 49, 118]⟩ : ByteArray), (⟨#[51, 51, 118, 114, 118]⟩ : ByteArray), (⟨#[49, 56, 108]⟩ : ByteArray)] : List ByteArray)) (inner := [.string (⟨#[49, 49, 118]⟩ : ByteArray), .string (⟨#[49, 56, 101]⟩ : ByteArray), .string (⟨#[49, 56, 108]⟩ : ByteArray), .string (⟨#[50, 50, 114, 118]⟩ : ByteArray), .string (⟨#[50, 50, 118]⟩ : ByteArray), .string (⟨#[49, 49, 118]⟩ : ByteArray), .string (⟨#[50, 56, 101]⟩ : ByteArray), .string (⟨#[49, 49, 118]⟩ : ByteArray), .string (⟨#[49, 49, 110]⟩ : ByteArray), .string (⟨#[49, 49, 110]⟩ : ByteArray), .string (⟨#[50, 50, 118]⟩ : ByteArray), .string (⟨#[49, 56, 108]⟩ : ByteArray), .string (⟨#[49, 56, 108]⟩ : ByteArray), .string (⟨#[49, 56, 108]⟩ : ByteArray), .string (⟨#[49, 56, 108]⟩ : ByteArray), .string (⟨#[50, 50, 114, 118]⟩ : ByteArray), .string (⟨#[50, 50, 101, 116]⟩ : ByteArray), .string (⟨#[49, 49, 118]⟩ : ByteArray), .string (⟨#[50, 50, 118]⟩ : ByteArray), .string (⟨#[49, 49, 118]⟩ : ByteArray), .string (⟨#[50, 50, 118]⟩ : ByteArray), .string (⟨#[50, 50, 118]⟩ : ByteArray), .string (⟨#[50, 50, 118]⟩ : ByteArray), .string (⟨#[51, 51, 118, 114, 118]⟩ : ByteArray), .string (⟨#[50, 51, 101]⟩ : ByteArray), .string (⟨#[50, 50, 101]⟩ : ByteArray), .string (⟨#[50, 51, 114, 118]⟩ : ByteArray), .string (⟨#[49, 49, 118]⟩ : ByteArray), .string (⟨#[49, 49, 118]⟩ : ByteArray), .string (⟨#[49, 49, 118]⟩ : ByteArray), .string (⟨#[49, 49, 118]⟩ : ByteArray), .string (⟨#[49, 49, 118]⟩ : ByteArray), .string (⟨#[49, 49, 118]⟩ : ByteArray), .string (⟨#[50, 50, 114, 118]⟩ : ByteArray), .string (⟨#[50, 50, 118]⟩ : ByteArray), .string (⟨#[50, 50, 118]⟩ : ByteArray), .string (⟨#[49, 49, 118]⟩ : ByteArray), .string (⟨#[49, 49, 118]⟩ : ByteArray), .string (⟨#[50, 50, 118, 114]⟩ : ByteArray), .string (⟨#[49, 56, 108]⟩ : ByteArray), .string (⟨#[49, 56, 108]⟩ : ByteArray), .string (⟨#[51, 51, 118]⟩ : ByteArray), .string (⟨#[49, 56, 108]⟩ : ByteArray), .string (⟨#[50, 50, 118]⟩ : ByteArray), .string (⟨#[49, 56, 108]⟩ : ByteArray), .string (⟨#[48, 48]⟩ : ByteArray), .string (⟨#[49, 49, 118]⟩ : ByteArray), .string (⟨#[49, 49, 118]⟩ : ByteArray), .string (⟨#[49, 56, 101]⟩ : ByteArray), .string (⟨#[50, 50, 118]⟩ : ByteArray), .string (⟨#[49, 56, 108]⟩ : ByteArray), .string (⟨#[49, 49, 118]⟩ : ByteArray), .string (⟨#[50, 50, 118]⟩ : ByteArray), .string (⟨#[50, 50, 118, 114]⟩ : ByteArray), .string (⟨#[50, 50, 118]⟩ : ByteArray), .string (⟨#[49, 49, 118]⟩ : ByteArray), .string (⟨#[50, 50, 118]⟩ : ByteArray), .string (⟨#[50, 50, 118]⟩ : ByteArray), .string (⟨#[50, 50, 118]⟩ : ByteArray), .string (⟨#[50, 50, 118]⟩ : ByteArray), .string (⟨#[49, 49, 110]⟩ : ByteArray), .string (⟨#[49, 49, 110]⟩ : ByteArray), .string (⟨#[49, 49, 118]⟩ : ByteArray), .string (⟨#[50, 50, 114, 118]⟩ : ByteArray), .string (⟨#[49, 49, 118]⟩ : ByteArray), .string (⟨#[51, 51, 118]⟩ : ByteArray), .string (⟨#[49, 56, 108]⟩ : ByteArray), .string (⟨#[50, 50, 114, 118]⟩ : ByteArray), .string (⟨#[50, 50, 114]⟩ : ByteArray), .string (⟨#[49, 56, 108]⟩ : ByteArray), .string (⟨#[51, 56, 101]⟩ : ByteArray), .string (⟨#[50, 50, 118]⟩ : ByteArray), .string (⟨#[49, 49, 118]⟩ : ByteArray), .string (⟨#[49, 49, 118]⟩ : ByteArray), .string (⟨#[49, 49, 118]⟩ : ByteArray), .string (⟨#[49, 49, 118]⟩ : ByteArray), .string (⟨#[51, 51, 118, 114, 118]⟩ : ByteArray), .string (⟨#[49, 56, 108]⟩ : ByteArray)]) (ok := fun _ => True) (okp := fun _ => True) ?hr ?hp (fun _ hk => hk) trivial (Below.refl _ _) (Nat.le_refl _) (by simp) ?_; (case hd => rfl); (case hg => rfl); (case hr => first | (go_simp; done) | (go_simp; rfl)); (case hp => exact (Reps.one (show Kd.M Kd.string _ _ _ (⟨#[49, 49, 118]⟩ : ByteArray) [.string (⟨#[49, 49, 118]⟩ : ByteArray)] from rfl) (Reps.one (show Kd.M Kd.string _ _ _ (⟨#[49, 56, 101]⟩ : ByteArray) [.string (⟨#[49, 56, 101]⟩ : ByteArray)] from rfl) (Reps.one (show Kd.M Kd.string _ _ _ (⟨#[49, 56, 108]⟩ : ByteArray) [.string (⟨#[49, 56, 108]⟩ : ByteArray)] from rfl) (Reps.one (show Kd.M Kd.string _ _ _ (⟨#[50, 50, 114, 118]⟩ : ByteArray) [.string (⟨#[50, 50, 114, 118]⟩ : ByteArray)] from rfl) (Reps.one (show Kd.M Kd.string _ _ _ (⟨#[50, 50, 118]⟩ : ByteArray) [.string (⟨#[50, 50, 118]⟩ : ByteArray)] from rfl) (Reps.one (show Kd.M Kd.string _ _ _ (⟨#[49, 49, 118]⟩ : ByteArray) [.string (⟨#[49, 49, 118]⟩ : ByteArray)] from rfl) (Reps.one (show Kd.M Kd.string _ _ _ (⟨#[50, 56, 101]⟩ : ByteArray) [.string (⟨#[50, 56, 101]⟩ : ByteArray)] from rfl) (Reps.one (show Kd.M Kd.string _ _ _ (⟨#[49, 49, 118]⟩ : ByteArray) [.string (⟨#[49, 49, 118]⟩ : ByteArray)] from rfl) (Reps.one (show Kd.M Kd.string _ _ _ (⟨#[49, 49, 110]⟩ : ByteArray) [.string (⟨#[49, 49, 110]⟩ : ByteArray)] from rfl) (Reps.one (show Kd.M Kd.string _ _ _ (⟨#[49, 49, 110]⟩ : ByteArray) [.string (⟨#[49, 49, 110]⟩ : ByteArray)] from rfl) (Reps.one (show Kd.M Kd.string _ _ _ (⟨#[50, 50, 118]⟩ : ByteArray) [.string (⟨#[50, 50, 118]⟩ : ByteArray)] from rfl) (Reps.one (show Kd.M Kd.string _ _ _ (⟨#[49, 56, 108]⟩ : ByteArray) [.string (⟨#[49, 56, 108]⟩ : ByteArray)] from rfl) (Reps.one (show Kd.M Kd.string _ _ _ (⟨#[49, 56, 108]⟩ : ByteArray) [.string (⟨#[49, 56, 108]⟩ : ByteArray)] from rfl) (Reps.one (show Kd.M Kd.string _ _ _ (⟨#[49, 56, 108]⟩ : ByteArray) [.string (⟨#[49, 56, 108]⟩ : ByteArray)] from rfl) (Reps.one (show Kd.M Kd.string _ _ _ (⟨#[49, 56, 108]⟩ : ByteArray) [.string (⟨#[49, 56, 108]⟩ : ByteArray)] from rfl) (Reps.one (show Kd.M Kd.string _ _ _ (⟨#[50, 50, 114, 118]⟩ : ByteArray) [.string (⟨#[50, 50, 114, 118]⟩ : ByteArray)] from rfl) (Reps.one (show Kd.M Kd.string _ _ _ (⟨#[50, 50, 101, 116]⟩ : ByteArray) [.string (⟨#[50, 50, 101, 116]⟩ : ByteArray)] from rfl) (Reps.one (show Kd.M Kd.string _ _ _ (⟨#[49, 49, 118]⟩ : ByteArray) [.string (⟨#[49, 49, 118]⟩ : ByteArray)] from rfl) (Reps.one (show Kd.M Kd.string _ _ _ (⟨#[50, 50, 118]⟩ : ByteArray) [.string (⟨#[50, 50, 118]⟩ : ByteArray)] from rfl) (Reps.one (show Kd.M Kd.string _ _ _ (⟨#[49, 49, 118]⟩ : ByteArray) [.string (⟨#[49, 49, 118]⟩ : ByteArray)] from rfl) (Reps.one (show Kd.M Kd.string _ _ _ (⟨#[50, 50, 118]⟩ : ByteArray) [.string (⟨#[50, 50, 118]⟩ : ByteArray)] from rfl) (Reps.one (show Kd.M Kd.string _ _ _ (⟨#[50, 50, 118]⟩ : ByteArray) [.string (⟨#[50, 50, 118]⟩ : ByteArray)] from rfl) (Reps.one (show Kd.M Kd.string _ _ _ (⟨#[50, 50, 118]⟩ : ByteArray) [.string (⟨#[50, 50, 118]⟩ : ByteArray)] from rfl) (Reps.one (show Kd.M Kd.string _ _ _ (⟨#[51, 51, 118, 114, 118]⟩ : ByteArray) [.string (⟨#[51, 51, 118, 114, 118]⟩ : ByteArray)] from rfl) (Reps.one (show Kd.M Kd.string _ _ _ (⟨#[50, 51, 101]⟩ : ByteArray) [.string (⟨#[50, 51, 101]⟩ : ByteArray)] from rfl) (Reps.one (show Kd.M Kd.string _ _ _ (⟨#[50, 50, 101]⟩ : ByteArray) [.string (⟨#[50, 50, 101]⟩ : ByteArray)] from rfl) (Reps.one (show Kd.M Kd.string _ _ _ (⟨#[50, 51, 114, 118]⟩ : ByteArray) [.string (⟨#[50, 51, 114, 118]⟩ : ByteArray)] from rfl) (Reps.one (show Kd.M Kd.string _ _ _ (⟨#[49, 49, 118]⟩ : ByteArray) [.string (⟨#[49, 49, 118]⟩ : ByteArray)] from rfl) (Reps.one (show Kd.M Kd.string _ _ _ (⟨#[49, 49, 118]⟩ : ByteArray) [.string (⟨#[49, 49, 118]⟩ : ByteArray)] from rfl) (Reps.one (show Kd.M Kd.string _ _ _ (⟨#[49, 49, 118]⟩ : ByteArray) [.string (⟨#[49, 49, 118]⟩ : ByteArray)] from rfl) (Reps.one (show Kd.M Kd.string _ _ _ (⟨#[49, 49, 118]⟩ : ByteArray) [.string (⟨#[49, 49, 118]⟩ : ByteArray)] from rfl) (Reps.one (show Kd.M Kd.string _ _ _ (⟨#[49, 49, 118]⟩ : ByteArray) [.string (⟨#[49, 49, 118]⟩ : ByteArray)] from rfl) (Reps.one (show Kd.M Kd.string _ _ _ (⟨#[49, 49, 118]⟩ : ByteArray) [.string (⟨#[49, 49, 118]⟩ : ByteArray)] from rfl) (Reps.one (show Kd.M Kd.string _ _ _ (⟨#[50, 50, 114, 118]⟩ : ByteArray) [.string (⟨#[50, 50, 114, 118]⟩ : ByteArray)] from rfl) (Reps.one (show Kd.M Kd.string _ _ _ (⟨#[50, 50, 118]⟩ : ByteArray) [.string (⟨#[50, 50, 118]⟩ : ByteArray)] from rfl) (Reps.one (show Kd.M Kd.string _ _ _ (⟨#[50, 50, 118]⟩ : ByteArray) [.string (⟨#[50, 50, 118]⟩ : ByteArray)] from rfl) (Reps.one (show Kd.M Kd.string _ _ _ (⟨#[49, 49, 118]⟩ : ByteArray) [.string (⟨#[49, 49, 118]⟩ : ByteArray)] from rfl) (Reps.one (show Kd.M Kd.string _ _ _ (⟨#[49, 49, 118]⟩ : ByteArray) [.string (⟨#[49, 49, 118]⟩ : ByteArray)] from rfl) (Reps.one (show Kd.M Kd.string _ _ _ (⟨#[50, 50, 118, 114]⟩ : ByteArray) [.string (⟨#[50, 50, 118, 114]⟩ : ByteArray)] from rfl) (Reps.one (show Kd.M Kd.string _ _ _ (⟨#[49, 56, 108]⟩ : ByteArray) [.string (⟨#[49, 56, 108]⟩ : ByteArray)] from rfl) (Reps.one (show Kd.M Kd.string _ _ _ (⟨#[49, 56, 108]⟩ : ByteArray) [.string (⟨#[49, 56, 108]⟩ : ByteArray)] from rfl) (Reps.one (show Kd.M Kd.string _ _ _ (⟨#[51, 51, 118]⟩ : ByteArray) [.string (⟨#[51, 51, 118]⟩ : ByteArray)] from rfl) (Reps.one (show Kd.M Kd.string _ _ _ (⟨#[49, 56, 108]⟩ : ByteArray) [.string (⟨#[49, 56, 108]⟩ : ByteArray)] from rfl) (Reps.one (show Kd.M Kd.string _ _ _ (⟨#[50, 50, 118]⟩ : ByteArray) [.string (⟨#[50, 50, 118]⟩ : ByteArray)] from rfl) (Reps.one (show Kd.M Kd.string _ _ _ (⟨#[49, 56, 108]⟩ : ByteArray) [.string (⟨#[49, 56, 108]⟩ : ByteArray)] from rfl) (Reps.one (show Kd.M Kd.string _ _ _ (⟨#[48, 48]⟩ : ByteArray) [.string (⟨#[48, 48]⟩ : ByteArray)] from rfl) (Reps.one (show Kd.M Kd.string _ _ _ (⟨#[49, 49, 118]⟩ : ByteArray) [.string (⟨#[49, 49, 118]⟩ : ByteArray)] from rfl) (Reps.one (show Kd.M Kd.string _ _ _ (⟨#[49, 49, 118]⟩ : ByteArray) [.string (⟨#[49, 49, 118]⟩ : ByteArray)] from rfl) (Reps.one (show Kd.M Kd.string _ _ _ (⟨#[49, 56, 101]⟩ : ByteArray) [.string (⟨#[49, 56, 101]⟩ : ByteArray)] from rfl) (Reps.one (show Kd.M Kd.string _ _ _ (⟨#[50, 50, 118]⟩ : ByteArray) [.string (⟨#[50, 50, 118]⟩ : ByteArray)] from rfl) (Reps.one (show Kd.M Kd.string _ _ _ (⟨#[49, 56, 108]⟩ : ByteArray) [.string (⟨#[49, 56, 108]⟩ : ByteArray)] from rfl) (Reps.one (show Kd.M Kd.string _ _ _ (⟨#[49, 49, 118]⟩ : ByteArray) [.string (⟨#[49, 49, 118]⟩ : ByteArray)] from rfl) (Reps.one (show Kd.M Kd.string _ _ _ (⟨#[50, 50, 118]⟩ : ByteArray) [.string (⟨#[50, 50, 118]⟩ : ByteArray)] from rfl) (Reps.one (show Kd.M Kd.string _ _ _ (⟨#[50, 50, 118, 114]⟩ : ByteArray) [.string (⟨#[50, 50, 118, 114]⟩ : ByteArray)] from rfl) (Reps.one (show Kd.M Kd.string _ _ _ (⟨#[50, 50, 118]⟩ : ByteArray) [.string (⟨#[50, 50, 118]⟩ : ByteArray)] from rfl) (Reps.one (show Kd.M Kd.string _ _ _ (⟨#[49, 49, 118]⟩ : ByteArray) [.string (⟨#[49, 49, 118]⟩ : ByteArray)] from rfl) (Reps.one (show Kd.M Kd.string _ _ _ (⟨#[50, 50, 118]⟩ : ByteArray) [.string (⟨#[50, 50, 118]⟩ : ByteArray)] from rfl) (Reps.one (show Kd.M Kd.string _ _ _ (⟨#[50, 50, 118]⟩ : ByteArray) [.string (⟨#[50, 50, 118]⟩ : ByteArray)] from rfl) (Reps.one (show Kd.M Kd.string _ _ _ (⟨#[50, 50, 118]⟩ : ByteArray) [.string (⟨#[50, 50, 118]⟩ : ByteArray)] from rfl) (Reps.one (show Kd.M Kd.string _ _ _ (⟨#[50, 50, 118]⟩ : ByteArray) [.string (⟨#[50, 50, 118]⟩ : ByteArray)] from rfl) (Reps.one (show Kd.M Kd.string _ _ _ (⟨#[49, 49, 110]⟩ : ByteArray) [.string (⟨#[49, 49, 110]⟩ : ByteArray)] from rfl) (Reps.one (show Kd.M Kd.string _ _ _ (⟨#[49, 49, 110]⟩ : ByteArray) [.string (⟨#[49, 49, 110]⟩ : ByteArray)] from rfl) (Reps.one (show Kd.M Kd.string _ _ _ (⟨#[49, 49, 118]⟩ : ByteArray) [.string (⟨#[49, 49, 118]⟩ : ByteArray)] from rfl) (Reps.one (show Kd.M Kd.string _ _ _ (⟨#[50, 50, 114, 118]⟩ : ByteArray) [.string (⟨#[50, 50, 114, 118]⟩ : ByteArray)] from rfl) (Reps.one (show Kd.M Kd.string _ _ _ (⟨#[49, 49, 118]⟩ : ByteArray) [.string (⟨#[49, 49, 118]⟩ : ByteArray)] from rfl) (Reps.one (show Kd.M Kd.string _ _ _ (⟨#[51, 51, 118]⟩ : ByteArray) [.string (⟨#[51, 51, 118]⟩ : ByteArray)] from rfl) (Reps.one (show Kd.M Kd.string _ _ _ (⟨#[49, 56, 108]⟩ : ByteArray) [.string (⟨#[49, 56, 108]⟩ : ByteArray)] from rfl) (Reps.one (show Kd.M Kd.string _ _ _ (⟨#[50, 50, 114, 118]⟩ : ByteArray) [.string (⟨#[50, 50, 114, 118]⟩ : ByteArray)] from rfl) (Reps.one (show Kd.M Kd.string _ _ _ (⟨#[50, 50, 114]⟩ : ByteArray) [.string (⟨#[50, 50, 114]⟩ : ByteArray)] from rfl) (Reps.one (show Kd.M Kd.string _ _ _ (⟨#[49, 56, 108]⟩ : ByteArray) [.string (⟨#[49, 56, 108]⟩ : ByteArray)] from rfl) (Reps.one (show Kd.M Kd.string _ _ _ (⟨#[51, 56, 101]⟩ : ByteArray) [.string (⟨#[51, 56, 101]⟩ : ByteArray)] from rfl) (Reps.one (show Kd.M Kd.string _ _ _ (⟨#[50, 50, 118]⟩ : ByteArray) [.string (⟨#[50, 50, 118]⟩ : ByteArray)] from rfl) (Reps.one (show Kd.M Kd.string _ _ _ (⟨#[49, 49, 118]⟩ : ByteArray) [.string (⟨#[49, 49, 118]⟩ : ByteArray)] from rfl) (Reps.one (show Kd.M Kd.string _ _ _ (⟨#[49, 49, 118]⟩ : ByteArray) [.string (⟨#[49, 49, 118]⟩ : ByteArray)] from rfl) (Reps.one (show Kd.M Kd.string _ _ _ (⟨#[49, 49, 118]⟩ : ByteArray) [.string (⟨#[49, 49, 118]⟩ : ByteArray)] from rfl) (Reps.one (show Kd.M Kd.string _ _ _ (⟨#[49, 49, 118]⟩ : ByteArray) [.string (⟨#[49, 49, 118]⟩ : ByteArray)] from rfl) (Reps.one (show Kd.M Kd.string _ _ _ (⟨#[51, 51, 118, 114, 118]⟩ : ByteArray) [.string (⟨#[51, 51, 118, 114, 118]⟩ : ByteArray)] from rfl) (Reps.one (show Kd.M Kd.string _ _ _ (⟨#[49, 56, 108]⟩ : ByteArray) [.string (⟨#[49, 56, 108]⟩ : ByteArray)] from rfl) (Reps.none _ _)))))))))))))))))))))))))))))))))))))))))))))))))))))))))))))))))))))))))))))))); intro v102 w1 ho2 hb hg_ hnew_; clear hg_ hnew_; (first | rw [← Ny101.out] at ho2 | (simp only [Int.reduceToNat] at ho2; rw [← Ny101.out] at ho2)); have n0_ := Aside0.mk (Kd.R_lower ho2 (below_size (pbx HB))); have n1_ := Aside0.mk (below_step (pbx HB) hb); clear HB; have HO103 := n0_; have HB := n1_; clear n0_ n1_; clear hb ho2))
  go_ret
  exact ⟨_, by first | rfl | (simp [errW_none, errW_some] <;> rfl) | (simp [*, errW_none, errW_some] <;> rfl), by (with_reducible repeat (first | apply Kd.R_alloc | apply Kd.R_drewN | apply Kd.R_drew)); exact HO103.out, pbx HB⟩

end Go.Proofs.Ytjbdljolpkkhcaa.X
