/- Contracts of the functions that the law RunesSplit reaches, and what they answer (a session's own texts, joined; part 0). -/
import Derived.Test.YtlchgkoafabapaaWWords
import Derived.Test.YtlchgkoafabapaaWLast
import Derived.Test.YtlchgkoafabapaaWMore
import Derived.Test.YtlchgkoafabapaaProg
import Derived.Below
import Derived.Deep.Draws
import Derived.Deep.AppendLies
import Derived.Maps.AppendAt
import Derived.OwnWalk
import Derived.Laws.BytesArg
import Derived.Laws.MakeOwn
import Derived.Laws.OwnMore
import Derived.Deep.OwnRows
import Derived.Tactics
import Derived.Lib.ConvBytes
import Derived.Laws.Slices
import Derived.WalkKit
import Derived.KernelRfl
import Derived.RowKit3
import Derived.Deep.LoopGhost
import Derived.Deep.QuietTactic
import Derived.BigQuiet
import Derived.WideLaws
import Derived.Deep.DeepCutAuto
import Derived.Deep.CutBlock
import Derived.Deep.RegionHeld3
import Derived.Laws.Rows
import Derived.Lib.AppendStr
import Derived.ArgAppend
import Derived.Laws.IdiomCopy
import Derived.OrdersHeld
import Derived.Laws.BitsLemmas
import Derived.RowKit
import Derived.Test.YtlchgkoafabapaaWTab
import Derived.Test.YtlchgkoafabapaaWFour
import Derived.Test.YtlchgkoafabapaaWQPut
import Derived.Test.YtlchgkoafabapaaWApart
import Derived.Test.YtlchgkoafabapaaWArr
import Derived.Test.YtlchgkoafabapaaWZeros
import Derived.Test.YtlchgkoafabapaaWFoot
import Derived.Test.YtlchgkoafabapaaWKept
import Derived.Test.YtlchgkoafabapaaWShare
import Derived.Test.YtlchgkoafabapaaWN
import Derived.Test.YtlchgkoafabapaaWFootNe
import Derived.Test.YtlchgkoafabapaaWAt
import Derived.Test.YtlchgkoafabapaaWEqStruct
import Derived.Test.YtlchgkoafabapaaWRepsOne
import Derived.Test.YtlchgkoafabapaaWInv
import Derived.Test.YtlchgkoafabapaaWInvWords
import Derived.Test.YtlchgkoafabapaaWGuard
import Derived.Test.YtlchgkoafabapaaWNEv
import Derived.Laws.RangeAny
import Derived.Lib.OthersKept
import Derived.Lib.Hide
import Derived.Deep.Slices
import Derived.ChangeArms
import Derived.SizedLaws
import Derived.OpenShut
import Derived.Laws.BitsAllLaws
import Derived.Lib.Strings
import Derived.Lib.IndexBytes
/- What holds of a block, or of all that is old, holds where nothing but new blocks and draws came since: found by instances, so that a walk's text need not say how. -/
set_option linter.unusedVariables false
namespace Go.Proofs.YtlchgkoafabapaaW.PrintWords
open Go.RowKit
/-- W1 is W0 but for new blocks and draws. -/
class Peel (W0 W1 : World) : Prop where
  blk : ∀ (g : Nat) (o : Obj), W0.heap[g]? = some o → W1.heap[g]? = some o
  bel : ∀ w : World, Below w.heap.size w W0 → Below w.heap.size w W1
instance (priority := high) Peel.self (W : World) : Peel W W := ⟨fun _ _ h => h, fun _ h => h⟩
instance Peel.alloc (W0 W1 : World) (o' : Obj) [h : Peel W0 W1] : Peel W0 (W1.alloc o') := ⟨fun g o hk => blk_alloc (h.blk g o hk) o', fun w hb => below_alloc (h.bel w hb) o'⟩
instance Peel.drewN (W0 W1 : World) (n : Nat) [h : Peel W0 W1] : Peel W0 (W1.drewN n) := ⟨fun g o hk => blk_drewN (h.blk g o hk) n, fun w hb => pw_below_drewN (h.bel w hb) n⟩
instance Peel.drew (W0 W1 : World) [h : Peel W0 W1] : Peel W0 W1.drew := ⟨fun g o hk => blk_drew (h.blk g o hk), fun w hb => below_drew1 (h.bel w hb)⟩
theorem pkx {W0 W1 : World} [h : Peel W0 W1] {g : Nat} {o : Obj} (k : Aside0 (W0.heap[g]? = some o)) : W1.heap[g]? = some o := h.blk _ _ k.out
theorem pbx {W0 W1 w : World} [h : Peel W0 W1] (k : Aside0 (Below w.heap.size w W0)) : Below w.heap.size w W1 := h.bel _ k.out
end Go.Proofs.YtlchgkoafabapaaW.PrintWords
namespace Go.Proofs.Ytlchgkoafabapaa.X
open Go.RowKit Go.Proofs.YtlchgkoafabapaaW.PrintWords Go.Proofs.YtlchgkoafabapaaW.PrintLast Go.Proofs.YtlchgkoafabapaaW.PrintMore
attribute [local go_sem] max2_int min2_int max_two min_two max_three min_three max_four min_four   -- for this text's walks alone
set_option linter.unusedVariables false
set_option linter.unusedSimpArgs false



def errW : Option Int → Value
  | none => .nilIface
  | some c => .iface 0 (.int .i64 c)
theorem errW_none : errW none = .nilIface := rfl
theorem errW_some (c : Int) : errW (some c) = .iface 0 (.int .i64 c) := rfl

theorem info3 : (Try.prog.info? 3).map (fun i => (i.zero, i.size, i.bytes)) = some (some (.int .i64 0), 1, 8) := by kernel_rfl
theorem info4 : (Try.prog.info? 4).map (fun i => (i.zero, i.size, i.bytes)) = some (some (.bool false), 1, 1) := by kernel_rfl
theorem info9 : (Try.prog.info? 9).map (fun i => (i.zero, i.size, i.bytes)) = some (some (.string ⟨#[]⟩), 1, 16) := by kernel_rfl
theorem info49 : (Try.prog.info? 49).map (fun i => (i.zero, i.size, i.bytes)) = some (some (.agg #[(.string ⟨#[]⟩), (.int .i64 0), (.int .u64 0), (.int .i64 0), (.int .u64 0)]), 5, 48) := by kernel_rfl
theorem info61 : (Try.prog.info? 61).map (fun i => (i.zero, i.size, i.bytes)) = some (some (.agg #[(.int .i64 0), (.int .u64 0), (.int .i64 0)]), 3, 24) := by kernel_rfl
theorem info93 : (Try.prog.info? 93).map (fun i => (i.zero, i.size, i.bytes)) = some (some (.agg #[(.string ⟨#[]⟩), (.int .i64 0), (.int .u64 0)]), 3, 32) := by kernel_rfl
-- the values' own types
/-! #### struct type 26 -/
structure S26 where
  f0 : Int
  f1 : Int
def z26 : S26 := ⟨(0 : Int), (0 : Int)⟩
def k26 : Kd S26 := Kd.iso (Kd.pair (Kd.int .i64) (Kd.int .u64)) (fun x : S26 => (x.f0, x.f1))
theorem k26_open {w : World} {x : S26} {cs : List Value} (h : k26.K w x cs) : cs = [.int .i64 x.f0, .int .u64 x.f1] := by
  obtain ⟨_, _, rfl, rfl, rfl⟩ := h
  exact rfl
theorem k26_openM {w : World} {base : Nat} {ok : Nat → Prop} {x : S26} {cs : List Value} (h : k26.M w base ok x cs) : cs = [.int .i64 x.f0, .int .u64 x.f1] := by
  obtain ⟨_, _, rfl, rfl, rfl⟩ := h
  exact rfl
theorem k26_mk (w : World) (x : S26)  : k26.K w x [.int .i64 x.f0, .int .u64 x.f1] := ⟨[.int .i64 x.f0], [.int .u64 x.f1], rfl, rfl, rfl⟩
theorem k26_mkM (w : World) (base : Nat) (ok : Nat → Prop) (x : S26)  : k26.M w base ok x [.int .i64 x.f0, .int .u64 x.f1] := ⟨[.int .i64 x.f0], [.int .u64 x.f1], rfl, rfl, rfl⟩
def rd_T26 (xs : List S26) (i : Int) : S26 := xs.getD i.toNat z26
theorem at_T26 {w : World} {A : Option Addr} {n : Nat} {xs : List S26} (h : Kd.C k26 w A n xs) (i : Int) (h0 : 0 ≤ i) (h1 : i < n) : ∃ ad , A = some ad ∧ w.cell? (ad.add (i.toNat * 2)) = some (.int .i64 (rd_T26 xs i).f0) ∧ w.cell? ⟨(ad.add (i.toNat * 2)).block, (ad.add (i.toNat * 2)).off + 1, none⟩ = some (.int .u64 (rd_T26 xs i).f1) := by
  obtain ⟨ad, c, e, _, hK, hc0⟩ := Kd.C_get h z26 i h0 h1
  have hc : ∀ j u, c[j]? = some u → w.cell? (ad.add (i.toNat * 2 + j)) = some u := hc0
  obtain rfl := k26_open hK
  exact ⟨ad, e, hc 0 _ rfl, by rw [← add_field _ _ 1 (by omega)]; exact hc 1 _ rfl⟩

/-! #### struct type 49 -/
structure S49 where
  f0 : ByteArray
  f1 : S26
  f2 : S26
def z49 : S49 := ⟨(⟨#[]⟩ : ByteArray), z26, z26⟩
def k49 : Kd S49 := Kd.iso (Kd.pair Kd.string (Kd.pair k26 k26)) (fun x : S49 => (x.f0, x.f1, x.f2))
theorem k49_open {w : World} {x : S49} {cs : List Value} (h : k49.K w x cs) : cs = [.string x.f0, .int .i64 x.f1.f0, .int .u64 x.f1.f1, .int .i64 x.f2.f0, .int .u64 x.f2.f1] := by
  obtain ⟨_, _, rfl, rfl, ⟨_, _, rfl, s1, s3⟩⟩ := h
  obtain rfl := k26_open s1
  obtain rfl := k26_open s3
  exact rfl
theorem k49_openM {w : World} {base : Nat} {ok : Nat → Prop} {x : S49} {cs : List Value} (h : k49.M w base ok x cs) : cs = [.string x.f0, .int .i64 x.f1.f0, .int .u64 x.f1.f1, .int .i64 x.f2.f0, .int .u64 x.f2.f1] := by
  obtain ⟨_, _, rfl, rfl, ⟨_, _, rfl, s1, s3⟩⟩ := h
  obtain rfl := k26_openM s1
  obtain rfl := k26_openM s3
  exact rfl
theorem k49_mk (w : World) (x : S49)  : k49.K w x [.string x.f0, .int .i64 x.f1.f0, .int .u64 x.f1.f1, .int .i64 x.f2.f0, .int .u64 x.f2.f1] := ⟨[.string x.f0], [.int .i64 x.f1.f0, .int .u64 x.f1.f1, .int .i64 x.f2.f0, .int .u64 x.f2.f1], rfl, rfl, ⟨[.int .i64 x.f1.f0, .int .u64 x.f1.f1], [.int .i64 x.f2.f0, .int .u64 x.f2.f1], rfl, (k26_mk w x.f1 ), (k26_mk w x.f2 )⟩⟩
theorem k49_mkM (w : World) (base : Nat) (ok : Nat → Prop) (x : S49)  : k49.M w base ok x [.string x.f0, .int .i64 x.f1.f0, .int .u64 x.f1.f1, .int .i64 x.f2.f0, .int .u64 x.f2.f1] := ⟨[.string x.f0], [.int .i64 x.f1.f0, .int .u64 x.f1.f1, .int .i64 x.f2.f0, .int .u64 x.f2.f1], rfl, rfl, ⟨[.int .i64 x.f1.f0, .int .u64 x.f1.f1], [.int .i64 x.f2.f0, .int .u64 x.f2.f1], rfl, (k26_mkM w base ok x.f1 ), (k26_mkM w base ok x.f2 )⟩⟩
def rd_T49 (xs : List S49) (i : Int) : S49 := xs.getD i.toNat z49
theorem at_T49 {w : World} {A : Option Addr} {n : Nat} {xs : List S49} (h : Kd.C k49 w A n xs) (i : Int) (h0 : 0 ≤ i) (h1 : i < n) : ∃ ad , A = some ad ∧ w.cell? (ad.add (i.toNat * 5)) = some (.string (rd_T49 xs i).f0) ∧ w.cell? ⟨(ad.add (i.toNat * 5)).block, (ad.add (i.toNat * 5)).off + 1, none⟩ = some (.int .i64 (rd_T49 xs i).f1.f0) ∧ w.cell? ⟨(ad.add (i.toNat * 5)).block, (ad.add (i.toNat * 5)).off + 2, none⟩ = some (.int .u64 (rd_T49 xs i).f1.f1) ∧ w.cell? ⟨(ad.add (i.toNat * 5)).block, (ad.add (i.toNat * 5)).off + 3, none⟩ = some (.int .i64 (rd_T49 xs i).f2.f0) ∧ w.cell? ⟨(ad.add (i.toNat * 5)).block, (ad.add (i.toNat * 5)).off + 4, none⟩ = some (.int .u64 (rd_T49 xs i).f2.f1) := by
  obtain ⟨ad, c, e, _, hK, hc0⟩ := Kd.C_get h z49 i h0 h1
  have hc : ∀ j u, c[j]? = some u → w.cell? (ad.add (i.toNat * 5 + j)) = some u := hc0
  obtain rfl := k49_open hK
  exact ⟨ad, e, hc 0 _ rfl, by rw [← add_field _ _ 1 (by omega)]; exact hc 1 _ rfl, by rw [← add_field _ _ 2 (by omega)]; exact hc 2 _ rfl, by rw [← add_field _ _ 3 (by omega)]; exact hc 3 _ rfl, by rw [← add_field _ _ 4 (by omega)]; exact hc 4 _ rfl⟩

/-! #### struct type 23 -/
structure S23 where
  f0 : Int
  f1 : Int
  f2 : ByteArray
def z23 : S23 := ⟨(0 : Int), (0 : Int), (⟨#[]⟩ : ByteArray)⟩
def k23 : Kd S23 := Kd.iso (Kd.pair (Kd.int .i64) (Kd.pair (Kd.int .i64) Kd.string)) (fun x : S23 => (x.f0, x.f1, x.f2))
theorem k23_open {w : World} {x : S23} {cs : List Value} (h : k23.K w x cs) : cs = [.int .i64 x.f0, .int .i64 x.f1, .string x.f2] := by
  obtain ⟨_, _, rfl, rfl, ⟨_, _, rfl, rfl, rfl⟩⟩ := h
  exact rfl
theorem k23_openM {w : World} {base : Nat} {ok : Nat → Prop} {x : S23} {cs : List Value} (h : k23.M w base ok x cs) : cs = [.int .i64 x.f0, .int .i64 x.f1, .string x.f2] := by
  obtain ⟨_, _, rfl, rfl, ⟨_, _, rfl, rfl, rfl⟩⟩ := h
  exact rfl
theorem k23_mk (w : World) (x : S23)  : k23.K w x [.int .i64 x.f0, .int .i64 x.f1, .string x.f2] := ⟨[.int .i64 x.f0], [.int .i64 x.f1, .string x.f2], rfl, rfl, ⟨[.int .i64 x.f1], [.string x.f2], rfl, rfl, rfl⟩⟩
theorem k23_mkM (w : World) (base : Nat) (ok : Nat → Prop) (x : S23)  : k23.M w base ok x [.int .i64 x.f0, .int .i64 x.f1, .string x.f2] := ⟨[.int .i64 x.f0], [.int .i64 x.f1, .string x.f2], rfl, rfl, ⟨[.int .i64 x.f1], [.string x.f2], rfl, rfl, rfl⟩⟩
def rd_T23 (xs : List S23) (i : Int) : S23 := xs.getD i.toNat z23
theorem at_T23 {w : World} {A : Option Addr} {n : Nat} {xs : List S23} (h : Kd.C k23 w A n xs) (i : Int) (h0 : 0 ≤ i) (h1 : i < n) : ∃ ad , A = some ad ∧ w.cell? (ad.add (i.toNat * 3)) = some (.int .i64 (rd_T23 xs i).f0) ∧ w.cell? ⟨(ad.add (i.toNat * 3)).block, (ad.add (i.toNat * 3)).off + 1, none⟩ = some (.int .i64 (rd_T23 xs i).f1) ∧ w.cell? ⟨(ad.add (i.toNat * 3)).block, (ad.add (i.toNat * 3)).off + 2, none⟩ = some (.string (rd_T23 xs i).f2) := by
  obtain ⟨ad, c, e, _, hK, hc0⟩ := Kd.C_get h z23 i h0 h1
  have hc : ∀ j u, c[j]? = some u → w.cell? (ad.add (i.toNat * 3 + j)) = some u := hc0
  obtain rfl := k23_open hK
  exact ⟨ad, e, hc 0 _ rfl, by rw [← add_field _ _ 1 (by omega)]; exact hc 1 _ rfl, by rw [← add_field _ _ 2 (by omega)]; exact hc 2 _ rfl⟩

/-! #### struct type 28 -/
structure S28 where
  f0 : S23
  f1 : S26
def z28 : S28 := ⟨z23, z26⟩
def k28 : Kd S28 := Kd.iso (Kd.pair k23 k26) (fun x : S28 => (x.f0, x.f1))
theorem k28_open {w : World} {x : S28} {cs : List Value} (h : k28.K w x cs) : cs = [.int .i64 x.f0.f0, .int .i64 x.f0.f1, .string x.f0.f2, .int .i64 x.f1.f0, .int .u64 x.f1.f1] := by
  obtain ⟨_, _, rfl, s0, s3⟩ := h
  obtain rfl := k23_open s0
  obtain rfl := k26_open s3
  exact rfl
theorem k28_openM {w : World} {base : Nat} {ok : Nat → Prop} {x : S28} {cs : List Value} (h : k28.M w base ok x cs) : cs = [.int .i64 x.f0.f0, .int .i64 x.f0.f1, .string x.f0.f2, .int .i64 x.f1.f0, .int .u64 x.f1.f1] := by
  obtain ⟨_, _, rfl, s0, s3⟩ := h
  obtain rfl := k23_openM s0
  obtain rfl := k26_openM s3
  exact rfl
theorem k28_mk (w : World) (x : S28)  : k28.K w x [.int .i64 x.f0.f0, .int .i64 x.f0.f1, .string x.f0.f2, .int .i64 x.f1.f0, .int .u64 x.f1.f1] := ⟨[.int .i64 x.f0.f0, .int .i64 x.f0.f1, .string x.f0.f2], [.int .i64 x.f1.f0, .int .u64 x.f1.f1], rfl, (k23_mk w x.f0 ), (k26_mk w x.f1 )⟩
theorem k28_mkM (w : World) (base : Nat) (ok : Nat → Prop) (x : S28)  : k28.M w base ok x [.int .i64 x.f0.f0, .int .i64 x.f0.f1, .string x.f0.f2, .int .i64 x.f1.f0, .int .u64 x.f1.f1] := ⟨[.int .i64 x.f0.f0, .int .i64 x.f0.f1, .string x.f0.f2], [.int .i64 x.f1.f0, .int .u64 x.f1.f1], rfl, (k23_mkM w base ok x.f0 ), (k26_mkM w base ok x.f1 )⟩
def rd_T28 (xs : List S28) (i : Int) : S28 := xs.getD i.toNat z28
theorem at_T28 {w : World} {A : Option Addr} {n : Nat} {xs : List S28} (h : Kd.C k28 w A n xs) (i : Int) (h0 : 0 ≤ i) (h1 : i < n) : ∃ ad , A = some ad ∧ w.cell? (ad.add (i.toNat * 5)) = some (.int .i64 (rd_T28 xs i).f0.f0) ∧ w.cell? ⟨(ad.add (i.toNat * 5)).block, (ad.add (i.toNat * 5)).off + 1, none⟩ = some (.int .i64 (rd_T28 xs i).f0.f1) ∧ w.cell? ⟨(ad.add (i.toNat * 5)).block, (ad.add (i.toNat * 5)).off + 2, none⟩ = some (.string (rd_T28 xs i).f0.f2) ∧ w.cell? ⟨(ad.add (i.toNat * 5)).block, (ad.add (i.toNat * 5)).off + 3, none⟩ = some (.int .i64 (rd_T28 xs i).f1.f0) ∧ w.cell? ⟨(ad.add (i.toNat * 5)).block, (ad.add (i.toNat * 5)).off + 4, none⟩ = some (.int .u64 (rd_T28 xs i).f1.f1) := by
  obtain ⟨ad, c, e, _, hK, hc0⟩ := Kd.C_get h z28 i h0 h1
  have hc : ∀ j u, c[j]? = some u → w.cell? (ad.add (i.toNat * 5 + j)) = some u := hc0
  obtain rfl := k28_open hK
  exact ⟨ad, e, hc 0 _ rfl, by rw [← add_field _ _ 1 (by omega)]; exact hc 1 _ rfl, by rw [← add_field _ _ 2 (by omega)]; exact hc 2 _ rfl, by rw [← add_field _ _ 3 (by omega)]; exact hc 3 _ rfl, by rw [← add_field _ _ 4 (by omega)]; exact hc 4 _ rfl⟩

/-! #### struct type 29 -/
structure S29 where
  f0 : S26
  f1 : S26
def z29 : S29 := ⟨z26, z26⟩
def k29 : Kd S29 := Kd.iso (Kd.pair k26 k26) (fun x : S29 => (x.f0, x.f1))
theorem k29_open {w : World} {x : S29} {cs : List Value} (h : k29.K w x cs) : cs = [.int .i64 x.f0.f0, .int .u64 x.f0.f1, .int .i64 x.f1.f0, .int .u64 x.f1.f1] := by
  obtain ⟨_, _, rfl, s0, s2⟩ := h
  obtain rfl := k26_open s0
  obtain rfl := k26_open s2
  exact rfl
theorem k29_openM {w : World} {base : Nat} {ok : Nat → Prop} {x : S29} {cs : List Value} (h : k29.M w base ok x cs) : cs = [.int .i64 x.f0.f0, .int .u64 x.f0.f1, .int .i64 x.f1.f0, .int .u64 x.f1.f1] := by
  obtain ⟨_, _, rfl, s0, s2⟩ := h
  obtain rfl := k26_openM s0
  obtain rfl := k26_openM s2
  exact rfl
theorem k29_mk (w : World) (x : S29)  : k29.K w x [.int .i64 x.f0.f0, .int .u64 x.f0.f1, .int .i64 x.f1.f0, .int .u64 x.f1.f1] := ⟨[.int .i64 x.f0.f0, .int .u64 x.f0.f1], [.int .i64 x.f1.f0, .int .u64 x.f1.f1], rfl, (k26_mk w x.f0 ), (k26_mk w x.f1 )⟩
theorem k29_mkM (w : World) (base : Nat) (ok : Nat → Prop) (x : S29)  : k29.M w base ok x [.int .i64 x.f0.f0, .int .u64 x.f0.f1, .int .i64 x.f1.f0, .int .u64 x.f1.f1] := ⟨[.int .i64 x.f0.f0, .int .u64 x.f0.f1], [.int .i64 x.f1.f0, .int .u64 x.f1.f1], rfl, (k26_mkM w base ok x.f0 ), (k26_mkM w base ok x.f1 )⟩
def rd_T29 (xs : List S29) (i : Int) : S29 := xs.getD i.toNat z29
theorem at_T29 {w : World} {A : Option Addr} {n : Nat} {xs : List S29} (h : Kd.C k29 w A n xs) (i : Int) (h0 : 0 ≤ i) (h1 : i < n) : ∃ ad , A = some ad ∧ w.cell? (ad.add (i.toNat * 4)) = some (.int .i64 (rd_T29 xs i).f0.f0) ∧ w.cell? ⟨(ad.add (i.toNat * 4)).block, (ad.add (i.toNat * 4)).off + 1, none⟩ = some (.int .u64 (rd_T29 xs i).f0.f1) ∧ w.cell? ⟨(ad.add (i.toNat * 4)).block, (ad.add (i.toNat * 4)).off + 2, none⟩ = some (.int .i64 (rd_T29 xs i).f1.f0) ∧ w.cell? ⟨(ad.add (i.toNat * 4)).block, (ad.add (i.toNat * 4)).off + 3, none⟩ = some (.int .u64 (rd_T29 xs i).f1.f1) := by
  obtain ⟨ad, c, e, _, hK, hc0⟩ := Kd.C_get h z29 i h0 h1
  have hc : ∀ j u, c[j]? = some u → w.cell? (ad.add (i.toNat * 4 + j)) = some u := hc0
  obtain rfl := k29_open hK
  exact ⟨ad, e, hc 0 _ rfl, by rw [← add_field _ _ 1 (by omega)]; exact hc 1 _ rfl, by rw [← add_field _ _ 2 (by omega)]; exact hc 2 _ rfl, by rw [← add_field _ _ 3 (by omega)]; exact hc 3 _ rfl⟩

def rd_L8 (xs : List (List S49)) (i : Int) : (List S49) := xs.getD i.toNat ([] : List S49)
theorem at_L8 {w : World} {A : Option Addr} {n : Nat} {xs : List (List S49)} (h : Kd.C (Kd.slice 49 k49) w A n xs) (i : Int) (h0 : 0 ≤ i) (h1 : i < n) : ∃ ad A0 c0, A = some ad ∧ w.cell? (ad.add i.toNat) = some (.slice A0 (rd_L8 xs i).length c0) ∧ (rd_L8 xs i).length ≤ c0 ∧ k49.C w A0 (rd_L8 xs i).length (rd_L8 xs i) := by
  obtain ⟨ad, c, e, _, hK, hc0⟩ := Kd.C_get h ([] : List S49) i h0 h1
  have hc : ∀ j u, c[j]? = some u → w.cell? (ad.add (i.toNat * 1 + j)) = some u := hc0
  obtain ⟨A0, c0, rfl, l0, g0⟩ := hK
  exact ⟨ad, A0, c0, e, by have hq := hc 0 _ rfl; rwa [Nat.mul_one, Nat.add_zero] at hq, l0, g0⟩

/-! #### struct type 32 -/
structure S32 where
  f0 : ByteArray
  f1 : (List S49)
def z32 : S32 := ⟨(⟨#[]⟩ : ByteArray), ([] : List S49)⟩
def k32 : Kd S32 := Kd.iso (Kd.pair Kd.string (Kd.slice 49 k49)) (fun x : S32 => (x.f0, x.f1))
theorem k32_open {w : World} {x : S32} {cs : List Value} (h : k32.K w x cs) : ∃ A1 c1, cs = [.string x.f0, .slice A1 x.f1.length c1] ∧ x.f1.length ≤ c1 ∧ k49.C w A1 x.f1.length x.f1 := by
  obtain ⟨_, _, rfl, rfl, ⟨A1, c1, rfl, l1, g1⟩⟩ := h
  exact ⟨A1, c1, rfl, l1, g1⟩
theorem k32_openM {w : World} {base : Nat} {ok : Nat → Prop} {x : S32} {cs : List Value} (h : k32.M w base ok x cs) : ∃ v1, cs = [.string x.f0, v1] ∧ k49.R 49 w base ok v1 x.f1 := by
  obtain ⟨_, _, rfl, rfl, ⟨v1, rfl, g1⟩⟩ := h
  exact ⟨v1, rfl, g1⟩
theorem k32_mk (w : World) (x : S32) {A1 : Option Addr} {c1 : Nat} (l1 : x.f1.length ≤ c1) (g1 : k49.C w A1 x.f1.length x.f1) : k32.K w x [.string x.f0, .slice A1 x.f1.length c1] := ⟨[.string x.f0], [.slice A1 x.f1.length c1], rfl, rfl, ⟨A1, c1, rfl, l1, g1⟩⟩
theorem k32_mkM (w : World) (base : Nat) (ok : Nat → Prop) (x : S32) {v1 : Value} (g1 : k49.R 49 w base ok v1 x.f1) : k32.M w base ok x [.string x.f0, v1] := ⟨[.string x.f0], [v1], rfl, rfl, ⟨v1, rfl, g1⟩⟩
def rd_T32 (xs : List S32) (i : Int) : S32 := xs.getD i.toNat z32
theorem at_T32 {w : World} {A : Option Addr} {n : Nat} {xs : List S32} (h : Kd.C k32 w A n xs) (i : Int) (h0 : 0 ≤ i) (h1 : i < n) : ∃ ad A1 c1, A = some ad ∧ w.cell? (ad.add (i.toNat * 2)) = some (.string (rd_T32 xs i).f0) ∧ w.cell? ⟨(ad.add (i.toNat * 2)).block, (ad.add (i.toNat * 2)).off + 1, none⟩ = some (.slice A1 (rd_T32 xs i).f1.length c1) ∧ (rd_T32 xs i).f1.length ≤ c1 ∧ k49.C w A1 (rd_T32 xs i).f1.length (rd_T32 xs i).f1 := by
  obtain ⟨ad, c, e, _, hK, hc0⟩ := Kd.C_get h z32 i h0 h1
  have hc : ∀ j u, c[j]? = some u → w.cell? (ad.add (i.toNat * 2 + j)) = some u := hc0
  obtain ⟨A1, c1, rfl, l1, g1⟩ := k32_open hK
  exact ⟨ad, A1, c1, e, hc 0 _ rfl, by rw [← add_field _ _ 1 (by omega)]; exact hc 1 _ rfl, l1, g1⟩

/-! #### struct type 105 -/
structure S105 where
  f0 : S26
  f1 : Int
def z105 : S105 := ⟨z26, (0 : Int)⟩
def k105 : Kd S105 := Kd.iso (Kd.pair k26 (Kd.int .i64)) (fun x : S105 => (x.f0, x.f1))
theorem k105_open {w : World} {x : S105} {cs : List Value} (h : k105.K w x cs) : cs = [.int .i64 x.f0.f0, .int .u64 x.f0.f1, .int .i64 x.f1] := by
  obtain ⟨_, _, rfl, s0, rfl⟩ := h
  obtain rfl := k26_open s0
  exact rfl
theorem k105_openM {w : World} {base : Nat} {ok : Nat → Prop} {x : S105} {cs : List Value} (h : k105.M w base ok x cs) : cs = [.int .i64 x.f0.f0, .int .u64 x.f0.f1, .int .i64 x.f1] := by
  obtain ⟨_, _, rfl, s0, rfl⟩ := h
  obtain rfl := k26_openM s0
  exact rfl
theorem k105_mk (w : World) (x : S105)  : k105.K w x [.int .i64 x.f0.f0, .int .u64 x.f0.f1, .int .i64 x.f1] := ⟨[.int .i64 x.f0.f0, .int .u64 x.f0.f1], [.int .i64 x.f1], rfl, (k26_mk w x.f0 ), rfl⟩
theorem k105_mkM (w : World) (base : Nat) (ok : Nat → Prop) (x : S105)  : k105.M w base ok x [.int .i64 x.f0.f0, .int .u64 x.f0.f1, .int .i64 x.f1] := ⟨[.int .i64 x.f0.f0, .int .u64 x.f0.f1], [.int .i64 x.f1], rfl, (k26_mkM w base ok x.f0 ), rfl⟩
def rd_T105 (xs : List S105) (i : Int) : S105 := xs.getD i.toNat z105
theorem at_T105 {w : World} {A : Option Addr} {n : Nat} {xs : List S105} (h : Kd.C k105 w A n xs) (i : Int) (h0 : 0 ≤ i) (h1 : i < n) : ∃ ad , A = some ad ∧ w.cell? (ad.add (i.toNat * 3)) = some (.int .i64 (rd_T105 xs i).f0.f0) ∧ w.cell? ⟨(ad.add (i.toNat * 3)).block, (ad.add (i.toNat * 3)).off + 1, none⟩ = some (.int .u64 (rd_T105 xs i).f0.f1) ∧ w.cell? ⟨(ad.add (i.toNat * 3)).block, (ad.add (i.toNat * 3)).off + 2, none⟩ = some (.int .i64 (rd_T105 xs i).f1) := by
  obtain ⟨ad, c, e, _, hK, hc0⟩ := Kd.C_get h z105 i h0 h1
  have hc : ∀ j u, c[j]? = some u → w.cell? (ad.add (i.toNat * 3 + j)) = some u := hc0
  obtain rfl := k105_open hK
  exact ⟨ad, e, hc 0 _ rfl, by rw [← add_field _ _ 1 (by omega)]; exact hc 1 _ rfl, by rw [← add_field _ _ 2 (by omega)]; exact hc 2 _ rfl⟩

/-! #### struct type 61 -/
structure S61 where
  f0 : S26
  f1 : Int
def z61 : S61 := ⟨z26, (0 : Int)⟩
def k61 : Kd S61 := Kd.iso (Kd.pair k26 (Kd.int .i64)) (fun x : S61 => (x.f0, x.f1))
theorem k61_open {w : World} {x : S61} {cs : List Value} (h : k61.K w x cs) : cs = [.int .i64 x.f0.f0, .int .u64 x.f0.f1, .int .i64 x.f1] := by
  obtain ⟨_, _, rfl, s0, rfl⟩ := h
  obtain rfl := k26_open s0
  exact rfl
theorem k61_openM {w : World} {base : Nat} {ok : Nat → Prop} {x : S61} {cs : List Value} (h : k61.M w base ok x cs) : cs = [.int .i64 x.f0.f0, .int .u64 x.f0.f1, .int .i64 x.f1] := by
  obtain ⟨_, _, rfl, s0, rfl⟩ := h
  obtain rfl := k26_openM s0
  exact rfl
theorem k61_mk (w : World) (x : S61)  : k61.K w x [.int .i64 x.f0.f0, .int .u64 x.f0.f1, .int .i64 x.f1] := ⟨[.int .i64 x.f0.f0, .int .u64 x.f0.f1], [.int .i64 x.f1], rfl, (k26_mk w x.f0 ), rfl⟩
theorem k61_mkM (w : World) (base : Nat) (ok : Nat → Prop) (x : S61)  : k61.M w base ok x [.int .i64 x.f0.f0, .int .u64 x.f0.f1, .int .i64 x.f1] := ⟨[.int .i64 x.f0.f0, .int .u64 x.f0.f1], [.int .i64 x.f1], rfl, (k26_mkM w base ok x.f0 ), rfl⟩
def rd_T61 (xs : List S61) (i : Int) : S61 := xs.getD i.toNat z61
theorem at_T61 {w : World} {A : Option Addr} {n : Nat} {xs : List S61} (h : Kd.C k61 w A n xs) (i : Int) (h0 : 0 ≤ i) (h1 : i < n) : ∃ ad , A = some ad ∧ w.cell? (ad.add (i.toNat * 3)) = some (.int .i64 (rd_T61 xs i).f0.f0) ∧ w.cell? ⟨(ad.add (i.toNat * 3)).block, (ad.add (i.toNat * 3)).off + 1, none⟩ = some (.int .u64 (rd_T61 xs i).f0.f1) ∧ w.cell? ⟨(ad.add (i.toNat * 3)).block, (ad.add (i.toNat * 3)).off + 2, none⟩ = some (.int .i64 (rd_T61 xs i).f1) := by
  obtain ⟨ad, c, e, _, hK, hc0⟩ := Kd.C_get h z61 i h0 h1
  have hc : ∀ j u, c[j]? = some u → w.cell? (ad.add (i.toNat * 3 + j)) = some u := hc0
  obtain rfl := k61_open hK
  exact ⟨ad, e, hc 0 _ rfl, by rw [← add_field _ _ 1 (by omega)]; exact hc 1 _ rfl, by rw [← add_field _ _ 2 (by omega)]; exact hc 2 _ rfl⟩

/-! #### struct type 52 -/
structure S52 where
  f0 : Int
  f1 : Int
def z52 : S52 := ⟨(0 : Int), (0 : Int)⟩
def k52 : Kd S52 := Kd.iso (Kd.pair (Kd.int .i64) (Kd.int .i64)) (fun x : S52 => (x.f0, x.f1))
theorem k52_open {w : World} {x : S52} {cs : List Value} (h : k52.K w x cs) : cs = [.int .i64 x.f0, .int .i64 x.f1] := by
  obtain ⟨_, _, rfl, rfl, rfl⟩ := h
  exact rfl
theorem k52_openM {w : World} {base : Nat} {ok : Nat → Prop} {x : S52} {cs : List Value} (h : k52.M w base ok x cs) : cs = [.int .i64 x.f0, .int .i64 x.f1] := by
  obtain ⟨_, _, rfl, rfl, rfl⟩ := h
  exact rfl
theorem k52_mk (w : World) (x : S52)  : k52.K w x [.int .i64 x.f0, .int .i64 x.f1] := ⟨[.int .i64 x.f0], [.int .i64 x.f1], rfl, rfl, rfl⟩
theorem k52_mkM (w : World) (base : Nat) (ok : Nat → Prop) (x : S52)  : k52.M w base ok x [.int .i64 x.f0, .int .i64 x.f1] := ⟨[.int .i64 x.f0], [.int .i64 x.f1], rfl, rfl, rfl⟩
def rd_T52 (xs : List S52) (i : Int) : S52 := xs.getD i.toNat z52
theorem at_T52 {w : World} {A : Option Addr} {n : Nat} {xs : List S52} (h : Kd.C k52 w A n xs) (i : Int) (h0 : 0 ≤ i) (h1 : i < n) : ∃ ad , A = some ad ∧ w.cell? (ad.add (i.toNat * 2)) = some (.int .i64 (rd_T52 xs i).f0) ∧ w.cell? ⟨(ad.add (i.toNat * 2)).block, (ad.add (i.toNat * 2)).off + 1, none⟩ = some (.int .i64 (rd_T52 xs i).f1) := by
  obtain ⟨ad, c, e, _, hK, hc0⟩ := Kd.C_get h z52 i h0 h1
  have hc : ∀ j u, c[j]? = some u → w.cell? (ad.add (i.toNat * 2 + j)) = some u := hc0
  obtain rfl := k52_open hK
  exact ⟨ad, e, hc 0 _ rfl, by rw [← add_field _ _ 1 (by omega)]; exact hc 1 _ rfl⟩

/-! #### struct type 93 -/
structure S93 where
  f0 : ByteArray
  f1 : S26
def z93 : S93 := ⟨(⟨#[]⟩ : ByteArray), z26⟩
def k93 : Kd S93 := Kd.iso (Kd.pair Kd.string k26) (fun x : S93 => (x.f0, x.f1))
theorem k93_open {w : World} {x : S93} {cs : List Value} (h : k93.K w x cs) : cs = [.string x.f0, .int .i64 x.f1.f0, .int .u64 x.f1.f1] := by
  obtain ⟨_, _, rfl, rfl, s1⟩ := h
  obtain rfl := k26_open s1
  exact rfl
theorem k93_openM {w : World} {base : Nat} {ok : Nat → Prop} {x : S93} {cs : List Value} (h : k93.M w base ok x cs) : cs = [.string x.f0, .int .i64 x.f1.f0, .int .u64 x.f1.f1] := by
  obtain ⟨_, _, rfl, rfl, s1⟩ := h
  obtain rfl := k26_openM s1
  exact rfl
theorem k93_mk (w : World) (x : S93)  : k93.K w x [.string x.f0, .int .i64 x.f1.f0, .int .u64 x.f1.f1] := ⟨[.string x.f0], [.int .i64 x.f1.f0, .int .u64 x.f1.f1], rfl, rfl, (k26_mk w x.f1 )⟩
theorem k93_mkM (w : World) (base : Nat) (ok : Nat → Prop) (x : S93)  : k93.M w base ok x [.string x.f0, .int .i64 x.f1.f0, .int .u64 x.f1.f1] := ⟨[.string x.f0], [.int .i64 x.f1.f0, .int .u64 x.f1.f1], rfl, rfl, (k26_mkM w base ok x.f1 )⟩
def rd_T93 (xs : List S93) (i : Int) : S93 := xs.getD i.toNat z93
theorem at_T93 {w : World} {A : Option Addr} {n : Nat} {xs : List S93} (h : Kd.C k93 w A n xs) (i : Int) (h0 : 0 ≤ i) (h1 : i < n) : ∃ ad , A = some ad ∧ w.cell? (ad.add (i.toNat * 3)) = some (.string (rd_T93 xs i).f0) ∧ w.cell? ⟨(ad.add (i.toNat * 3)).block, (ad.add (i.toNat * 3)).off + 1, none⟩ = some (.int .i64 (rd_T93 xs i).f1.f0) ∧ w.cell? ⟨(ad.add (i.toNat * 3)).block, (ad.add (i.toNat * 3)).off + 2, none⟩ = some (.int .u64 (rd_T93 xs i).f1.f1) := by
  obtain ⟨ad, c, e, _, hK, hc0⟩ := Kd.C_get h z93 i h0 h1
  have hc : ∀ j u, c[j]? = some u → w.cell? (ad.add (i.toNat * 3 + j)) = some u := hc0
  obtain rfl := k93_open hK
  exact ⟨ad, e, hc 0 _ rfl, by rw [← add_field _ _ 1 (by omega)]; exact hc 1 _ rfl, by rw [← add_field _ _ 2 (by omega)]; exact hc 2 _ rfl⟩

/-! #### struct type 78 -/
structure S78 where
  f0 : S26
  f1 : S26
  f2 : S26
def z78 : S78 := ⟨z26, z26, z26⟩
def k78 : Kd S78 := Kd.iso (Kd.pair k26 (Kd.pair k26 k26)) (fun x : S78 => (x.f0, x.f1, x.f2))
theorem k78_open {w : World} {x : S78} {cs : List Value} (h : k78.K w x cs) : cs = [.int .i64 x.f0.f0, .int .u64 x.f0.f1, .int .i64 x.f1.f0, .int .u64 x.f1.f1, .int .i64 x.f2.f0, .int .u64 x.f2.f1] := by
  obtain ⟨_, _, rfl, s0, ⟨_, _, rfl, s2, s4⟩⟩ := h
  obtain rfl := k26_open s0
  obtain rfl := k26_open s2
  obtain rfl := k26_open s4
  exact rfl
theorem k78_openM {w : World} {base : Nat} {ok : Nat → Prop} {x : S78} {cs : List Value} (h : k78.M w base ok x cs) : cs = [.int .i64 x.f0.f0, .int .u64 x.f0.f1, .int .i64 x.f1.f0, .int .u64 x.f1.f1, .int .i64 x.f2.f0, .int .u64 x.f2.f1] := by
  obtain ⟨_, _, rfl, s0, ⟨_, _, rfl, s2, s4⟩⟩ := h
  obtain rfl := k26_openM s0
  obtain rfl := k26_openM s2
  obtain rfl := k26_openM s4
  exact rfl
theorem k78_mk (w : World) (x : S78)  : k78.K w x [.int .i64 x.f0.f0, .int .u64 x.f0.f1, .int .i64 x.f1.f0, .int .u64 x.f1.f1, .int .i64 x.f2.f0, .int .u64 x.f2.f1] := ⟨[.int .i64 x.f0.f0, .int .u64 x.f0.f1], [.int .i64 x.f1.f0, .int .u64 x.f1.f1, .int .i64 x.f2.f0, .int .u64 x.f2.f1], rfl, (k26_mk w x.f0 ), ⟨[.int .i64 x.f1.f0, .int .u64 x.f1.f1], [.int .i64 x.f2.f0, .int .u64 x.f2.f1], rfl, (k26_mk w x.f1 ), (k26_mk w x.f2 )⟩⟩
theorem k78_mkM (w : World) (base : Nat) (ok : Nat → Prop) (x : S78)  : k78.M w base ok x [.int .i64 x.f0.f0, .int .u64 x.f0.f1, .int .i64 x.f1.f0, .int .u64 x.f1.f1, .int .i64 x.f2.f0, .int .u64 x.f2.f1] := ⟨[.int .i64 x.f0.f0, .int .u64 x.f0.f1], [.int .i64 x.f1.f0, .int .u64 x.f1.f1, .int .i64 x.f2.f0, .int .u64 x.f2.f1], rfl, (k26_mkM w base ok x.f0 ), ⟨[.int .i64 x.f1.f0, .int .u64 x.f1.f1], [.int .i64 x.f2.f0, .int .u64 x.f2.f1], rfl, (k26_mkM w base ok x.f1 ), (k26_mkM w base ok x.f2 )⟩⟩
def rd_T78 (xs : List S78) (i : Int) : S78 := xs.getD i.toNat z78
theorem at_T78 {w : World} {A : Option Addr} {n : Nat} {xs : List S78} (h : Kd.C k78 w A n xs) (i : Int) (h0 : 0 ≤ i) (h1 : i < n) : ∃ ad , A = some ad ∧ w.cell? (ad.add (i.toNat * 6)) = some (.int .i64 (rd_T78 xs i).f0.f0) ∧ w.cell? ⟨(ad.add (i.toNat * 6)).block, (ad.add (i.toNat * 6)).off + 1, none⟩ = some (.int .u64 (rd_T78 xs i).f0.f1) ∧ w.cell? ⟨(ad.add (i.toNat * 6)).block, (ad.add (i.toNat * 6)).off + 2, none⟩ = some (.int .i64 (rd_T78 xs i).f1.f0) ∧ w.cell? ⟨(ad.add (i.toNat * 6)).block, (ad.add (i.toNat * 6)).off + 3, none⟩ = some (.int .u64 (rd_T78 xs i).f1.f1) ∧ w.cell? ⟨(ad.add (i.toNat * 6)).block, (ad.add (i.toNat * 6)).off + 4, none⟩ = some (.int .i64 (rd_T78 xs i).f2.f0) ∧ w.cell? ⟨(ad.add (i.toNat * 6)).block, (ad.add (i.toNat * 6)).off + 5, none⟩ = some (.int .u64 (rd_T78 xs i).f2.f1) := by
  obtain ⟨ad, c, e, _, hK, hc0⟩ := Kd.C_get h z78 i h0 h1
  have hc : ∀ j u, c[j]? = some u → w.cell? (ad.add (i.toNat * 6 + j)) = some u := hc0
  obtain rfl := k78_open hK
  exact ⟨ad, e, hc 0 _ rfl, by rw [← add_field _ _ 1 (by omega)]; exact hc 1 _ rfl, by rw [← add_field _ _ 2 (by omega)]; exact hc 2 _ rfl, by rw [← add_field _ _ 3 (by omega)]; exact hc 3 _ rfl, by rw [← add_field _ _ 4 (by omega)]; exact hc 4 _ rfl, by rw [← add_field _ _ 5 (by omega)]; exact hc 5 _ rfl⟩

end Go.Proofs.Ytlchgkoafabapaa.X
/- Contracts, by hand, of the functions of runes that range over a text: whatever the text. -/
set_option linter.unusedVariables false
set_option linter.unusedSimpArgs false
namespace Go.Proofs.Ytlchgkoafabapaa.X
open Go.RowKit Go.Proofs.YtlchgkoafabapaaW.PrintWords Go.Proofs.YtlchgkoafabapaaW.PrintLast Go.Proofs.YtlchgkoafabapaaW.PrintMore
/-- The places at which runes begin, from one on. -/
def posF (s : ByteArray) : Nat → Nat → List Nat
  | 0, _ => []
  | f + 1, pos => if pos < s.size then pos :: posF s f (pos + (Utf8.decode s pos).2) else []
def runeP (s : ByteArray) : List Nat := posF s s.size 0
theorem wid_pos (s : ByteArray) (pos : Nat) (h : pos < s.size) : 1 ≤ (Utf8.decode s pos).2 := by
  by_cases ha : (s[pos]'h).toNat < 128
  · rw [decode_ascii s pos h ha]
    exact Nat.le_refl _
  · exact (decode_high s pos h (by omega)).2
theorem posF_end (s : ByteArray) (f pos : Nat) (h : ¬ pos < s.size) : posF s f pos = [] := by
  cases f with
  | zero => rfl
  | succ f => simp [posF, h]
theorem posF_more (s : ByteArray) : ∀ (f g pos : Nat), s.size ≤ pos + f → s.size ≤ pos + g → posF s f pos = posF s g pos := by
  intro f
  induction f with
  | zero =>
    intro g pos hf hg
    rw [posF_end s 0 pos (by omega), posF_end s g pos (by omega)]
  | succ f ih =>
    intro g pos hf hg
    by_cases h : pos < s.size
    · obtain ⟨g, rfl⟩ : ∃ m, g = m + 1 := ⟨g - 1, by omega⟩
      have hw := wid_pos s pos h
      simp only [posF, if_pos h]
      rw [ih g _ (by omega) (by omega)]
    · rw [posF_end s _ pos h, posF_end s _ pos h]
theorem iter_below (w : World) (s : ByteArray) (p : Nat) : Below w.heap.size w (w.iter s p) := by
  have := (Below.refl w.heap.size w).alloc (Nat.le_refl _) (.stringIter s p)
  exact this

def runes_Count.f (a0 : ByteArray) : Option Int := if a0.size ≤ 4611686018427387904 then some ((runeP a0).length : Int) else none
set_option maxHeartbeats 1000000 in
theorem runes_Count.calls (a0 : ByteArray) (r : Int) (w : World) (h : runes_Count.f a0 = some r) :
    Calls Try.prog 28 #[.string a0] w fun e w' => e = .returned (.int .i64 r) ∧ Below w.heap.size w w' := by
  unfold runes_Count.f at h
  have hs : a0.size ≤ 4611686018427387904 := by
    by_cases hs : a0.size ≤ 4611686018427387904
    · exact hs
    · rw [if_neg hs] at h; cases h
  rw [if_pos hs] at h
  obtain rfl := Option.some.inj h
  clear h
  go_enter Try.func28, Try.ntmps28
  go_wp2
  go_loopw [3] (fun v wr => ∃ (pos fuel n : Nat), v = .int .i64 n ∧ wr.heap[w.heap.size]? = some (.stringIter a0 pos) ∧ Below w.heap.size w wr ∧ n + (posF a0 fuel pos).length = (runeP a0).length ∧ a0.size ≤ pos + fuel ∧ n ≤ pos) (fun _ wr => a0.size - wr.iterPos w.heap.size)
  case atStart =>
    exact ⟨0, a0.size, 0, rfl, World.iter_heap w a0 0, iter_below w a0 0, by simp [runeP], by omega, by omega⟩
  case round =>
    obtain ⟨pos, fuel, n, rfl, hit, hbw, hn, hfu, hnp⟩ := hrel
    have HN := Aside0.mk hn
    clear hn
    have hsz : w.heap.size < wr.heap.size := (Array.getElem?_eq_some_iff.1 hit).1
    by_cases hp : pos < a0.size
    · have hnx : ∀ ty, (Instr.next (.pointer (some ⟨w.heap.size, 0, none⟩)) true ty).run Try.prog wr = _ := fun ty => Lib.run_next_any_at wr w.heap.size a0 pos ty hit hp
      have hwd := wid_pos a0 pos hp
      have hd1 := decode_le a0 pos
      have hit2 := Lib.iterAt_heap wr w.heap.size a0 pos (pos + (Utf8.decode a0 pos).2) hit
      have hbw2 := Lib.below_iterAt hbw (k := w.heap.size) (by omega) a0 (pos + (Utf8.decode a0 pos).2)
      obtain ⟨f, rfl⟩ : ∃ f, fuel = f + 1 := ⟨fuel - 1, by omega⟩
      have HI := Aside0.mk hit
      have HI2 := Aside0.mk hit2
      have HB2 := Aside0.mk hbw2
      clear hit hit2 hbw2
      go_wp2
      go_roundw
      case rel =>
        refine ⟨pos + (Utf8.decode a0 pos).2, f, n + 1, by go_num, HI2.out, HB2.out, ?_, by omega, by omega⟩
        have := HN.out
        simp only [posF, if_pos hp, List.length_cons] at this
        omega
      case measure =>
        have e1 : wr.iterPos w.heap.size = pos := by simp only [World.iterPos, HI.out]
        have e2 : (wr.iterAt w.heap.size a0 (pos + (Utf8.decode a0 pos).2)).iterPos w.heap.size = pos + (Utf8.decode a0 pos).2 := by simp only [World.iterPos, HI2.out]
        rw [e1, e2]
        omega
    · have hnx : ∀ ty, (Instr.next (.pointer (some ⟨w.heap.size, 0, none⟩)) true ty).run Try.prog wr = _ := fun ty => Lib.run_next_end_at wr w.heap.size a0 pos ty hit hp
      go_wp2
      go_ret
      have e := HN.out
      rw [posF_end a0 fuel pos hp] at e
      simp only [List.length_nil, Nat.add_zero] at e
      subst e
      exact ⟨rfl, hbw⟩

def runes_at.f (a0 : ByteArray) (a1 : Int) : Option Int := if a0.size ≤ 4611686018427387904 ∧ a1 ≤ 9223372036854775807 then some (((runeP a0).getD a1.toNat a0.size : Nat) : Int) else none
set_option maxHeartbeats 1000000 in
theorem runes_at.calls (a0 : ByteArray) (a1 : Int) (r : Int) (w : World) (h : runes_at.f a0 a1 = some r) :
    Calls Try.prog 69 #[.string a0, .int .i64 a1] w fun e w' => e = .returned (.int .i64 r) ∧ Below w.heap.size w w' := by
  unfold runes_at.f at h
  have hs : a0.size ≤ 4611686018427387904 ∧ a1 ≤ 9223372036854775807 := by
    by_cases hs : a0.size ≤ 4611686018427387904 ∧ a1 ≤ 9223372036854775807
    · exact hs
    · rw [if_neg hs] at h; cases h
  rw [if_pos hs] at h
  obtain rfl := Option.some.inj h
  clear h
  obtain ⟨hs, ha1⟩ := hs
  go_enter Try.func69, Try.ntmps69
  go_wp2
  go_loopw [1] (fun v wr => ∃ (pos fuel : Nat) (n : Int), v = .int .i64 n ∧ wr.heap[w.heap.size]? = some (.stringIter a0 pos) ∧ Below w.heap.size w wr ∧ (posF a0 fuel pos).getD n.toNat a0.size = (runeP a0).getD a1.toNat a0.size ∧ a0.size ≤ pos + fuel ∧ n ≤ a1) (fun _ wr => a0.size - wr.iterPos w.heap.size)
  case atStart =>
    exact ⟨0, a0.size, a1, rfl, World.iter_heap w a0 0, iter_below w a0 0, rfl, by omega, Int.le_refl _⟩
  case round =>
    obtain ⟨pos, fuel, n, rfl, hit, hbw, hn, hfu, hna⟩ := hrel
    have HN := Aside0.mk hn
    clear hn
    have hsz : w.heap.size < wr.heap.size := (Array.getElem?_eq_some_iff.1 hit).1
    by_cases hp : pos < a0.size
    · have hnx : ∀ ty, (Instr.next (.pointer (some ⟨w.heap.size, 0, none⟩)) true ty).run Try.prog wr = _ := fun ty => Lib.run_next_any_at wr w.heap.size a0 pos ty hit hp
      have hwd := wid_pos a0 pos hp
      have hd1 := decode_le a0 pos
      have hit2 := Lib.iterAt_heap wr w.heap.size a0 pos (pos + (Utf8.decode a0 pos).2) hit
      have hbw2 := Lib.below_iterAt hbw (k := w.heap.size) (by omega) a0 (pos + (Utf8.decode a0 pos).2)
      obtain ⟨f, rfl⟩ : ∃ f, fuel = f + 1 := ⟨fuel - 1, by omega⟩
      have HI := Aside0.mk hit
      have HI2 := Aside0.mk hit2
      have HB2 := Aside0.mk hbw2
      clear hit hit2 hbw2
      have hpost := HN.out
      simp only [posF, if_pos hp] at hpost
      have HP := Aside0.mk hpost
      clear hpost
      by_cases hle : n ≤ 0
      · have hd : decide (n ≤ 0) = true := decide_eq_true hle
        go_wp2
        go_ret
        have e := HP.out
        rw [show n.toNat = 0 by omega] at e
        simp only [List.getD_cons_zero] at e
        exact ⟨by rw [← e]; rfl, HB2.out⟩
      · have hd : decide (n ≤ 0) = false := decide_eq_false hle
        go_wp2
        go_roundw
        case rel =>
          refine ⟨pos + (Utf8.decode a0 pos).2, f, n - 1, by first | rfl | go_num, HI2.out, HB2.out, ?_, by omega, by omega⟩
          have e := HP.out
          rw [show n.toNat = (n - 1).toNat + 1 by omega] at e
          simpa using e
        case measure =>
          have e1 : wr.iterPos w.heap.size = pos := by simp only [World.iterPos, HI.out]
          have e2 : (wr.iterAt w.heap.size a0 (pos + (Utf8.decode a0 pos).2)).iterPos w.heap.size = pos + (Utf8.decode a0 pos).2 := by simp only [World.iterPos, HI2.out]
          rw [e1, e2]
          omega
    · have hnx : ∀ ty, (Instr.next (.pointer (some ⟨w.heap.size, 0, none⟩)) true ty).run Try.prog wr = _ := fun ty => Lib.run_next_end_at wr w.heap.size a0 pos ty hit hp
      go_wp2
      go_ret
      have e := HN.out
      rw [posF_end a0 fuel pos hp] at e
      simp only [List.getD_nil] at e
      exact ⟨by rw [← e]; rfl, hbw⟩
end Go.Proofs.Ytlchgkoafabapaa.X
namespace Go.Proofs.Ytlchgkoafabapaa.X
open Go.RowKit Go.Proofs.YtlchgkoafabapaaW.PrintWords Go.Proofs.YtlchgkoafabapaaW.PrintLast Go.Proofs.YtlchgkoafabapaaW.PrintMore
attribute [local go_sem] max2_int min2_int max_two min_two max_three min_three max_four min_four   -- for this text's walks alone
set_option linter.unusedVariables false
set_option linter.unusedSimpArgs false

/-! ### runes_Left: function 30 -/
def runes_Left.f (a0 : ByteArray) (a1 : Int) : Option (ByteArray) := (runes_at.f a0 a1).bind fun t101 => (if 0 ≤ t101 then (if t101 ≤ (a0.size : Int) then (some (a0.extract 0 (t101 : Int).toNat)) else (none)) else (none))
set_option maxHeartbeats 8000000 in
set_option maxRecDepth 100000 in
theorem runes_Left.calls (a0 : ByteArray) (a1 : Int) (r : ByteArray) (w : World) (h : runes_Left.f a0 a1 = some r) :
    Calls Try.prog 30 #[.string a0, .int .i64 a1] w fun e w' => e = .returned (.string r) ∧ Below w.heap.size w w' := by
  have HB := Aside0.mk (Below.refl w.heap.size w)
  have H : ((runes_at.f a0 a1).bind fun t101 => (if 0 ≤ t101 then (if t101 ≤ (a0.size : Int) then (some (a0.extract 0 (t101 : Int).toNat)) else (none)) else (none))) = some r := h
  clear h
  replace H := Option.bind_eq_some_iff.mp H
  obtain ⟨t101, A30, H⟩ := H
  replace H : (if 0 ≤ t101 then (if t101 ≤ (a0.size : Int) then (some (a0.extract 0 (t101 : Int).toNat)) else (none)) else (none)) = some r := H
  have A3 := Aside0.mk A30
  clear A30
  by_cases c4 : 0 ≤ t101
  · rw [if_pos c4] at H
    have c4b0 := eq_true c4
    have c4b1 : decide (0 ≤ t101) = true := decide_eq_true c4
    clear c4
    by_cases c5 : t101 ≤ (a0.size : Int)
    · rw [if_pos c5] at H
      have c5b0 := eq_true c5
      have c5b1 : decide (t101 ≤ (a0.size : Int)) = true := decide_eq_true c5
      clear c5
      obtain rfl := Option.some.inj H
      go_enter Try.func30, Try.ntmps30
      go_wp2_with (first | ((with_reducible refine gate_callee (f := 69) rfl ?_); refine goesL_ (some 8) rfl rfl Try.func69 (by kernel_rfl) rfl #[.string a0, .int .i64 a1] rfl (by (try simp only [List.map_toArray, List.map_cons, List.map_nil]); first | done | rfl | (simp only [List.length_drop, List.length_take]; rfl)) ?_; (with_reducible refine (runes_at.calls a0 a1 t101 _ A3.out).mono ?_); rintro e w6 ⟨rfl, hb⟩; refine ⟨_, rfl, ?_⟩; replace HB := Aside0.mk (below_step (pbx HB) hb); (try clear hb); (try clear hb2); (try clear hk); (try clear hi)))
      go_ret
      exact ⟨by first | rfl | (simp [errW_none, errW_some] <;> rfl) | (simp [*, errW_none, errW_some] <;> rfl), pbx HB⟩
    · rw [if_neg c5] at H
      exact absurd H (by simp)
  · rw [if_neg c4] at H
    exact absurd H (by simp)

end Go.Proofs.Ytlchgkoafabapaa.X
namespace Go.Proofs.Ytlchgkoafabapaa.X
open Go.RowKit Go.Proofs.YtlchgkoafabapaaW.PrintWords Go.Proofs.YtlchgkoafabapaaW.PrintLast Go.Proofs.YtlchgkoafabapaaW.PrintMore
attribute [local go_sem] max2_int min2_int max_two min_two max_three min_three max_four min_four   -- for this text's walks alone
set_option linter.unusedVariables false
set_option linter.unusedSimpArgs false

/-! ### runes_Right: function 32 -/
def runes_Right.f (a0 : ByteArray) (a1 : Int) : Option (ByteArray) := if a1 < 1 then (some (⟨#[]⟩ : ByteArray)) else ((runes_Count.f a0).bind fun t101 => ((runes_at.f a0 (mx (wrap64 (t101 - a1)) 0)).bind fun t102 => (if 0 ≤ t102 then (if t102 ≤ (a0.size : Int) then (some (a0.extract (t102 : Int).toNat a0.size)) else (none)) else (none))))
set_option maxHeartbeats 8000000 in
set_option maxRecDepth 100000 in
theorem runes_Right.calls (a0 : ByteArray) (a1 : Int) (r : ByteArray) (w : World) (h : runes_Right.f a0 a1 = some r) :
    Calls Try.prog 32 #[.string a0, .int .i64 a1] w fun e w' => e = .returned (.string r) ∧ Below w.heap.size w w' := by
  have HB := Aside0.mk (Below.refl w.heap.size w)
  have H : (if a1 < 1 then (some (⟨#[]⟩ : ByteArray)) else ((runes_Count.f a0).bind fun t101 => ((runes_at.f a0 (mx (wrap64 (t101 - a1)) 0)).bind fun t102 => (if 0 ≤ t102 then (if t102 ≤ (a0.size : Int) then (some (a0.extract (t102 : Int).toNat a0.size)) else (none)) else (none))))) = some r := h
  clear h
  by_cases c3 : a1 < 1
  · rw [if_pos c3] at H
    have c3b0 : decide (a1 < 1) = true := decide_eq_true c3
    clear c3
    obtain rfl := Option.some.inj H
    go_enter Try.func32, Try.ntmps32
    go_wp2
    go_ret
    exact ⟨by first | rfl | (simp [errW_none, errW_some] <;> rfl) | (simp [*, errW_none, errW_some] <;> rfl), pbx HB⟩
  · rw [if_neg c3] at H
    have c3b0 : decide (a1 < 1) = false := decide_eq_false c3
    clear c3
    replace H := Option.bind_eq_some_iff.mp H
    obtain ⟨t101, A40, H⟩ := H
    replace H : ((runes_at.f a0 (mx (wrap64 (t101 - a1)) 0)).bind fun t102 => (if 0 ≤ t102 then (if t102 ≤ (a0.size : Int) then (some (a0.extract (t102 : Int).toNat a0.size)) else (none)) else (none))) = some r := H
    have A4 := Aside0.mk A40
    clear A40
    obtain ⟨ji5, hji5⟩ : ∃ j_ : Int, (mx (wrap64 (t101 - a1)) 0) = j_ := ⟨_, rfl⟩
    replace H : ((runes_at.f a0 (ji5)).bind fun t102 => (if 0 ≤ t102 then (if t102 ≤ (a0.size : Int) then (some (a0.extract (t102 : Int).toNat a0.size)) else (none)) else (none))) = some r := by first | (rw [hji5] at H; exact H) | (simp only [hji5] at H ⊢; exact H)
    (try rw [hji5] at A4)
    (try (have hji5l : 0 ≤ ji5 := by (rw [← hji5]; unfold mx; (repeat' split) <;> omega)))
    (try (have hji5m : 0 ≤ ji5 := by omega))
    have hji5_ : (if (wrap64 (t101 - a1)) < 0 then 0 else (wrap64 (t101 - a1))) = ji5 := hji5
    replace H := Option.bind_eq_some_iff.mp H
    obtain ⟨t102, A60, H⟩ := H
    replace H : (if 0 ≤ t102 then (if t102 ≤ (a0.size : Int) then (some (a0.extract (t102 : Int).toNat a0.size)) else (none)) else (none)) = some r := H
    have A6 := Aside0.mk A60
    clear A60
    by_cases c7 : 0 ≤ t102
    · rw [if_pos c7] at H
      have c7b0 := eq_true c7
      have c7b1 : decide (0 ≤ t102) = true := decide_eq_true c7
      clear c7
      by_cases c8 : t102 ≤ (a0.size : Int)
      · rw [if_pos c8] at H
        have c8b0 := eq_true c8
        have c8b1 : decide (t102 ≤ (a0.size : Int)) = true := decide_eq_true c8
        clear c8
        obtain rfl := Option.some.inj H
        go_enter Try.func32, Try.ntmps32
        go_wp2_with (first | ((with_reducible refine gate_callee (f := 28) rfl ?_); refine goesL_ (some 10) rfl rfl Try.func28 (by kernel_rfl) rfl #[.string a0] rfl (by (try simp only [List.map_toArray, List.map_cons, List.map_nil]); first | done | rfl | (simp only [List.length_drop, List.length_take]; rfl)) ?_; (with_reducible refine (runes_Count.calls a0 t101 _ A4.out).mono ?_); rintro e w9 ⟨rfl, hb⟩; refine ⟨_, rfl, ?_⟩; replace HB := Aside0.mk (below_step (pbx HB) hb); (try clear hb); (try clear hb2); (try clear hk); (try clear hi)) | ((with_reducible refine gate_callee (f := 69) rfl ?_); refine goesL_ (some 14) rfl rfl Try.func69 (by kernel_rfl) rfl #[.string a0, .int .i64 ji5] rfl (by (try simp only [List.map_toArray, List.map_cons, List.map_nil]); first | done | (simp only [hji5]; rfl) | rfl | (simp only [List.length_drop, List.length_take]; rfl)) ?_; (with_reducible refine (runes_at.calls a0 ji5 t102 _ A6.out).mono ?_); rintro e w10 ⟨rfl, hb⟩; refine ⟨_, rfl, ?_⟩; replace HB := Aside0.mk (below_step (pbx HB) hb); (try clear hb); (try clear hb2); (try clear hk); (try clear hi)))
        go_ret
        exact ⟨by first | rfl | (simp [errW_none, errW_some] <;> rfl) | (simp only [← hji5]; first | rfl | (simp [errW_none, errW_some] <;> rfl)) | (simp [*, errW_none, errW_some] <;> rfl), pbx HB⟩
      · rw [if_neg c8] at H
        exact absurd H (by simp)
    · rw [if_neg c7] at H
      exact absurd H (by simp)

end Go.Proofs.Ytlchgkoafabapaa.X
namespace Go.Proofs.Ytlchgkoafabapaa.X
open Go.RowKit Go.Proofs.YtlchgkoafabapaaW.PrintWords Go.Proofs.YtlchgkoafabapaaW.PrintLast Go.Proofs.YtlchgkoafabapaaW.PrintMore
attribute [local go_sem] max2_int min2_int max_two min_two max_three min_three max_four min_four   -- for this text's walks alone
set_option linter.unusedVariables false
set_option linter.unusedSimpArgs false

/-! ### runes_Mid: function 34 -/
def runes_Mid.f (a0 : ByteArray) (a1 : Int) (a2 : Int) : Option (ByteArray) := if a1 < 0 then (some (⟨#[]⟩ : ByteArray)) else ((runes_at.f a0 a1).bind fun t101 => (if 0 ≤ t101 then (if t101 ≤ (a0.size : Int) then ((runes_Left.f (a0.extract (t101 : Int).toNat a0.size) a2).bind fun t102 => (some t102)) else (none)) else (none)))
set_option maxHeartbeats 8000000 in
set_option maxRecDepth 100000 in
theorem runes_Mid.calls (a0 : ByteArray) (a1 : Int) (a2 : Int) (r : ByteArray) (w : World) (h : runes_Mid.f a0 a1 a2 = some r) :
    Calls Try.prog 34 #[.string a0, .int .i64 a1, .int .i64 a2] w fun e w' => e = .returned (.string r) ∧ Below w.heap.size w w' := by
  have HB := Aside0.mk (Below.refl w.heap.size w)
  have H : (if a1 < 0 then (some (⟨#[]⟩ : ByteArray)) else ((runes_at.f a0 a1).bind fun t101 => (if 0 ≤ t101 then (if t101 ≤ (a0.size : Int) then ((runes_Left.f (a0.extract (t101 : Int).toNat a0.size) a2).bind fun t102 => (some t102)) else (none)) else (none)))) = some r := h
  clear h
  by_cases c4 : a1 < 0
  · rw [if_pos c4] at H
    have c4b0 : decide (a1 < 0) = true := decide_eq_true c4
    clear c4
    obtain rfl := Option.some.inj H
    go_enter Try.func34, Try.ntmps34
    go_wp2
    go_ret
    exact ⟨by first | rfl | (simp [errW_none, errW_some] <;> rfl) | (simp [*, errW_none, errW_some] <;> rfl), pbx HB⟩
  · rw [if_neg c4] at H
    have c4b0 : decide (a1 < 0) = false := decide_eq_false c4
    clear c4
    replace H := Option.bind_eq_some_iff.mp H
    obtain ⟨t101, A50, H⟩ := H
    replace H : (if 0 ≤ t101 then (if t101 ≤ (a0.size : Int) then ((runes_Left.f (a0.extract (t101 : Int).toNat a0.size) a2).bind fun t102 => (some t102)) else (none)) else (none)) = some r := H
    have A5 := Aside0.mk A50
    clear A50
    by_cases c6 : 0 ≤ t101
    · rw [if_pos c6] at H
      have c6b0 := eq_true c6
      have c6b1 : decide (0 ≤ t101) = true := decide_eq_true c6
      clear c6
      by_cases c7 : t101 ≤ (a0.size : Int)
      · rw [if_pos c7] at H
        have c7b0 := eq_true c7
        have c7b1 : decide (t101 ≤ (a0.size : Int)) = true := decide_eq_true c7
        clear c7
        replace H := Option.bind_eq_some_iff.mp H
        obtain ⟨t102, A80, H⟩ := H
        replace H : (some t102) = some r := H
        have A8 := Aside0.mk A80
        clear A80
        obtain rfl := Option.some.inj H
        go_enter Try.func34, Try.ntmps34
        go_wp2_with (first | ((with_reducible refine gate_callee (f := 69) rfl ?_); refine goesL_ (some 12) rfl rfl Try.func69 (by kernel_rfl) rfl #[.string a0, .int .i64 a1] rfl (by (try simp only [List.map_toArray, List.map_cons, List.map_nil]); first | done | rfl | (simp only [List.length_drop, List.length_take]; rfl)) ?_; (with_reducible refine (runes_at.calls a0 a1 t101 _ A5.out).mono ?_); rintro e w9 ⟨rfl, hb⟩; refine ⟨_, rfl, ?_⟩; replace HB := Aside0.mk (below_step (pbx HB) hb); (try clear hb); (try clear hb2); (try clear hk); (try clear hi)) | ((with_reducible refine gate_callee (f := 30) rfl ?_); refine goesL_ (some 15) rfl rfl Try.func30 (by kernel_rfl) rfl #[.string (a0.extract (t101 : Int).toNat a0.size), .int .i64 a2] rfl (by (try simp only [List.map_toArray, List.map_cons, List.map_nil]); first | done | rfl | (simp only [List.length_drop, List.length_take]; rfl)) ?_; (with_reducible refine (runes_Left.calls (a0.extract (t101 : Int).toNat a0.size) a2 t102 _ A8.out).mono ?_); rintro e w10 ⟨rfl, hb⟩; refine ⟨_, rfl, ?_⟩; replace HB := Aside0.mk (below_step (pbx HB) hb); (try clear hb); (try clear hb2); (try clear hk); (try clear hi)))
        go_ret
        exact ⟨by first | rfl | (simp [errW_none, errW_some] <;> rfl) | (simp [*, errW_none, errW_some] <;> rfl), pbx HB⟩
      · rw [if_neg c7] at H
        exact absurd H (by simp)
    · rw [if_neg c6] at H
      exact absurd H (by simp)

end Go.Proofs.Ytlchgkoafabapaa.X
namespace Go.Proofs.Ytlchgkoafabapaa.X
open Go.RowKit Go.Proofs.YtlchgkoafabapaaW.PrintWords Go.Proofs.YtlchgkoafabapaaW.PrintLast Go.Proofs.YtlchgkoafabapaaW.PrintMore
attribute [local go_sem] max2_int min2_int max_two min_two max_three min_three max_four min_four   -- for this text's walks alone
set_option linter.unusedVariables false
set_option linter.unusedSimpArgs false

/-! ### utf8_ValidRune: function 81 -/
def utf8_ValidRune.j0 : Nat → Int → Bool → Option (Bool)
  | 0, _, _ => none
  | k + 1, x0, x3 => if x3 = true then (some true) else (if 57343 < x0 then (if x0 ≤ 1114111 then (some true) else (some false)) else (some false))
def utf8_ValidRune.f (k : Nat) (a0 : Int) : Option (Bool) := if 0 ≤ a0 then (utf8_ValidRune.j0 k a0 (decide (a0 < 55296))) else (utf8_ValidRune.j0 k a0 false)
theorem utf8_ValidRune.mono_l : ∀ k, (∀ y0 y1, LeO (utf8_ValidRune.j0 k y0 y1) (utf8_ValidRune.j0 (k + 1) y0 y1))
  | 0 => fun _ _ r h => by simp [utf8_ValidRune.j0] at h
  | k + 1 => by
    have ih0 := utf8_ValidRune.mono_l k
    · intro y0 y1
      unfold utf8_ValidRune.j0
      repeat' first
      | (with_reducible exact ih0 _ _)
      | (with_reducible exact LeO.refl _)
      | (with_reducible exact LeO.none _)
      | (with_reducible refine LeO.ite ?_ ?_)
      | (with_reducible refine LeO.bind ?_ (fun _ => ?_))
      | exact ih0 _ _
      | exact LeO.none _
      | refine LeO.ite ?_ ?_
      | refine LeO.bind ?_ (fun _ => ?_)
theorem utf8_ValidRune.mono : ∀ a0 k, LeO (utf8_ValidRune.f k a0) (utf8_ValidRune.f (k + 1) a0) := by
  intro a0 k
  have ih0 := utf8_ValidRune.mono_l k
  unfold utf8_ValidRune.f
  repeat' first
      | (with_reducible exact ih0 _ _)
      | (with_reducible exact LeO.refl _)
      | (with_reducible exact LeO.none _)
      | (with_reducible refine LeO.ite ?_ ?_)
      | (with_reducible refine LeO.bind ?_ (fun _ => ?_))
      | exact ih0 _ _
      | exact LeO.none _
      | refine LeO.ite ?_ ?_
      | refine LeO.bind ?_ (fun _ => ?_)
set_option maxHeartbeats 8000000 in
set_option maxRecDepth 100000 in
theorem utf8_ValidRune.calls (k : Nat) (a0 : Int) (r : Bool) (w : World) (h : utf8_ValidRune.f k a0 = some r) :
    Calls Try.prog 81 #[.int .i32 a0] w fun e w' => e = .returned (.bool r) ∧ Drawn0 w w' := by
  have H : (if 0 ≤ a0 then (utf8_ValidRune.j0 k a0 (decide (a0 < 55296))) else (utf8_ValidRune.j0 k a0 false)) = some r := h
  clear h
  have HC2 := Aside0.mk H
  clear H
  go_enter Try.func81, Try.ntmps81
  go_upto_region 1 with (fail)
  go_cut [3] (fun v3 wc => ∃ (kq : Nat) (x3_1 : Bool), v3 = .bool x3_1 ∧ Aside0 (utf8_ValidRune.j0 kq a0 x3_1 = some r) ∧ Aside0 (kq ≤ k) ∧ Drawn0 w wc)
  case first =>
    have H := HC2.out
    clear HC2
    by_cases c3 : 0 ≤ a0
    · rw [if_pos c3] at H
      have c3b0 : decide (0 ≤ a0) = true := decide_eq_true c3
      clear c3
      (first | rw [c3b0] | (simp only [i64_w, i32_w]; rw [c3b0]) | skip)
      have H' := Aside0.mk H
      clear H
      go_wp2
      go_meet
      case rel => exact ⟨_, (decide (a0 < 55296)), (by first | rfl | (simp; done) | (simp [*]; done)), H', ⟨by first | omega | exact Nat.le_refl _⟩, by repeat (first | exact Drawn0.refl _ | apply Drawn0.step)⟩
    · rw [if_neg c3] at H
      have c3b0 : decide (0 ≤ a0) = false := decide_eq_false c3
      clear c3
      (first | rw [c3b0] | (simp only [i64_w, i32_w]; rw [c3b0]) | skip)
      have H' := Aside0.mk H
      clear H
      go_wp2
      go_meet
      case rel => exact ⟨_, (false), (by first | rfl | (simp; done) | (simp [*]; done)), H', ⟨by first | omega | exact Nat.le_refl _⟩, by repeat (first | exact Drawn0.refl _ | apply Drawn0.step)⟩
  case rest =>
    clear HC2
    try clear p2
    try clear c3
    try clear c3b0
    obtain ⟨kq, x3_1, rfl, HA, HJ1, ⟨mc1, rfl⟩⟩ := hcut
    cases kq with
    | zero => exact absurd HA.out (by simp [utf8_ValidRune.j0])
    | succ kj1 =>
      have H := HA.out
      clear HA
      simp only [utf8_ValidRune.j0] at H
      by_cases c4 : x3_1 = true
      · subst c4
        have H1 : (some true) = some r := by rw [if_pos rfl] at H; exact H
        clear H
        have H := H1
        clear H1
        obtain rfl := Option.some.inj H
        go_wp2
        go_ret
        exact ⟨by first | rfl | (simp; done) | (simp [*]; done), by repeat (first | exact Drawn0.refl _ | apply Drawn0.step)⟩
      · replace c4 := Bool.eq_false_iff.mpr c4
        subst c4
        have H1 : (if 57343 < a0 then (if a0 ≤ 1114111 then (some true) else (some false)) else (some false)) = some r := by rw [if_neg (show ¬ (false = true) by decide)] at H; exact H
        clear H
        have H := H1
        clear H1
        by_cases c5 : 57343 < a0
        · rw [if_pos c5] at H
          have c5b0 : decide (57343 < a0) = true := decide_eq_true c5
          clear c5
          by_cases c6 : a0 ≤ 1114111
          · rw [if_pos c6] at H
            have c6b0 : decide (a0 ≤ 1114111) = true := decide_eq_true c6
            clear c6
            obtain rfl := Option.some.inj H
            go_wp2
            go_ret
            exact ⟨by first | rfl | (simp; done) | (simp [*]; done), by repeat (first | exact Drawn0.refl _ | apply Drawn0.step)⟩
          · rw [if_neg c6] at H
            have c6b0 : decide (a0 ≤ 1114111) = false := decide_eq_false c6
            clear c6
            obtain rfl := Option.some.inj H
            go_wp2
            go_ret
            exact ⟨by first | rfl | (simp; done) | (simp [*]; done), by repeat (first | exact Drawn0.refl _ | apply Drawn0.step)⟩
        · rw [if_neg c5] at H
          have c5b0 : decide (57343 < a0) = false := decide_eq_false c5
          clear c5
          obtain rfl := Option.some.inj H
          go_wp2
          go_ret
          exact ⟨by first | rfl | (simp; done) | (simp [*]; done), by repeat (first | exact Drawn0.refl _ | apply Drawn0.step)⟩

end Go.Proofs.Ytlchgkoafabapaa.X
namespace Go.Proofs.Ytlchgkoafabapaa.X
open Go.RowKit Go.Proofs.YtlchgkoafabapaaW.PrintWords Go.Proofs.YtlchgkoafabapaaW.PrintLast Go.Proofs.YtlchgkoafabapaaW.PrintMore
attribute [local go_sem] max2_int min2_int max_two min_two max_three min_three max_four min_four   -- for this text's walks alone
set_option linter.unusedVariables false
set_option linter.unusedSimpArgs false

/-! ### runes_Single: function 67 -/
def runes_Single.f (k : Nat) (a0 : Int) : Option (ByteArray × Bool) := if a0 < 1 then (some ((⟨#[]⟩ : ByteArray), false)) else (if a0 > 1114111 then (some ((⟨#[]⟩ : ByteArray), false)) else ((utf8_ValidRune.f k (wrap32 (a0))).bind fun t101 => (if t101 = true then (some (Utf8.encode (wrap32 (a0)), true)) else (some ((⟨#[]⟩ : ByteArray), false)))))
theorem runes_Single.mono : ∀ a0 k, LeO (runes_Single.f k a0) (runes_Single.f (k + 1) a0) := by
  intro a0 k
  unfold runes_Single.f
  repeat' first
      | (with_reducible exact utf8_ValidRune.mono _ _)
      | (with_reducible exact LeO.refl _)
      | (with_reducible exact LeO.none _)
      | (with_reducible refine LeO.ite ?_ ?_)
      | (with_reducible refine LeO.bind ?_ (fun _ => ?_))
      | exact utf8_ValidRune.mono _ _
      | exact LeO.none _
      | refine LeO.ite ?_ ?_
      | refine LeO.bind ?_ (fun _ => ?_)
set_option maxHeartbeats 8000000 in
set_option maxRecDepth 100000 in
theorem runes_Single.calls (k : Nat) (a0 : Int) (r1 : ByteArray) (r2 : Bool) (w : World) (h : runes_Single.f k a0 = some (r1, r2)) :
    Calls Try.prog 67 #[.int .i64 a0] w fun e w' => e = .returned (.tuple #[.string r1, .bool r2]) ∧ Drawn0 w w' := by
  have H : (if a0 < 1 then (some ((⟨#[]⟩ : ByteArray), false)) else (if a0 > 1114111 then (some ((⟨#[]⟩ : ByteArray), false)) else ((utf8_ValidRune.f k (wrap32 (a0))).bind fun t101 => (if t101 = true then (some (Utf8.encode (wrap32 (a0)), true)) else (some ((⟨#[]⟩ : ByteArray), false)))))) = some (r1, r2) := h
  clear h
  by_cases c2 : a0 < 1
  · rw [if_pos c2] at H
    have c2b0 : decide (a0 < 1) = true := decide_eq_true c2
    clear c2
    simp only [Option.some.injEq, Prod.mk.injEq] at H
    obtain ⟨rfl, rfl⟩ := H
    go_enter Try.func67, Try.ntmps67
    go_wp2
    go_ret2
    exact ⟨by first | rfl | (simp; done) | (simp [*]; done), by repeat (first | exact Drawn0.refl _ | apply Drawn0.step)⟩
  · rw [if_neg c2] at H
    have c2b0 : decide (a0 < 1) = false := decide_eq_false c2
    clear c2
    by_cases c3 : a0 > 1114111
    · rw [if_pos c3] at H
      have c3b0 : decide (1114111 < a0) = true := decide_eq_true c3
      clear c3
      simp only [Option.some.injEq, Prod.mk.injEq] at H
      obtain ⟨rfl, rfl⟩ := H
      go_enter Try.func67, Try.ntmps67
      go_wp2
      go_ret2
      exact ⟨by first | rfl | (simp; done) | (simp [*]; done), by repeat (first | exact Drawn0.refl _ | apply Drawn0.step)⟩
    · rw [if_neg c3] at H
      have c3b0 : decide (1114111 < a0) = false := decide_eq_false c3
      clear c3
      replace H := Option.bind_eq_some_iff.mp H
      obtain ⟨t101, A40, H⟩ := H
      replace H : (if t101 = true then (some (Utf8.encode (wrap32 (a0)), true)) else (some ((⟨#[]⟩ : ByteArray), false))) = some (r1, r2) := H
      have A4 := Aside0.mk A40
      clear A40
      by_cases c5 : t101 = true
      · subst c5
        have H1 : (some (Utf8.encode (wrap32 (a0)), true)) = some (r1, r2) := by rw [if_pos rfl] at H; exact H
        clear H
        have H := H1
        clear H1
        simp only [Option.some.injEq, Prod.mk.injEq] at H
        obtain ⟨rfl, rfl⟩ := H
        go_enter Try.func67, Try.ntmps67
        go_wp2_with (first | (go_at_call 81; (with_reducible refine (utf8_ValidRune.calls k (wrap32 (a0)) true _ A4.out).mono ?_); rintro e w' ⟨rfl, ⟨nd, rfl⟩⟩))
        go_ret2
        exact ⟨by first | rfl | (simp; done) | (simp [*]; done), by repeat (first | exact Drawn0.refl _ | apply Drawn0.step)⟩
      · replace c5 := Bool.eq_false_iff.mpr c5
        subst c5
        have H1 : (some ((⟨#[]⟩ : ByteArray), false)) = some (r1, r2) := by rw [if_neg (show ¬ (false = true) by decide)] at H; exact H
        clear H
        have H := H1
        clear H1
        simp only [Option.some.injEq, Prod.mk.injEq] at H
        obtain ⟨rfl, rfl⟩ := H
        go_enter Try.func67, Try.ntmps67
        go_wp2_with (first | (go_at_call 81; (with_reducible refine (utf8_ValidRune.calls k (wrap32 (a0)) false _ A4.out).mono ?_); rintro e w' ⟨rfl, ⟨nd, rfl⟩⟩))
        go_ret2
        exact ⟨by first | rfl | (simp; done) | (simp [*]; done), by repeat (first | exact Drawn0.refl _ | apply Drawn0.step)⟩

end Go.Proofs.Ytlchgkoafabapaa.X
namespace Go.Proofs.Ytlchgkoafabapaa.X
open Go.RowKit Go.Proofs.YtlchgkoafabapaaW.PrintWords Go.Proofs.YtlchgkoafabapaaW.PrintLast Go.Proofs.YtlchgkoafabapaaW.PrintMore
attribute [local go_sem] max2_int min2_int max_two min_two max_three min_three max_four min_four   -- for this text's walks alone
set_option linter.unusedVariables false
set_option linter.unusedSimpArgs false

/-! ### stringslite_HasPrefix: function 82 -/
def stringslite_HasPrefix.f (a0 : ByteArray) (a1 : ByteArray) : Option (Bool) := if (a0.size : Int) ≥ (a1.size : Int) then (if 0 ≤ (a1.size : Int) then (if (a1.size : Int) ≤ (a0.size : Int) then (some ((a0.extract 0 a1.size).toList == a1.toList)) else (none)) else (none)) else (some false)
set_option maxHeartbeats 8000000 in
set_option maxRecDepth 100000 in
theorem stringslite_HasPrefix.calls (a0 : ByteArray) (a1 : ByteArray) (r : Bool) (w : World) (h : stringslite_HasPrefix.f a0 a1 = some r) :
    Calls Try.prog 82 #[.string a0, .string a1] w fun e w' => e = .returned (.bool r) ∧ Drawn0 w w' := by
  have H : (if (a0.size : Int) ≥ (a1.size : Int) then (if 0 ≤ (a1.size : Int) then (if (a1.size : Int) ≤ (a0.size : Int) then (some ((a0.extract 0 a1.size).toList == a1.toList)) else (none)) else (none)) else (some false)) = some r := h
  clear h
  by_cases c3 : (a0.size : Int) ≥ (a1.size : Int)
  · rw [if_pos c3] at H
    have c3b0 : decide ((a1.size : Int) ≤ (a0.size : Int)) = true := decide_eq_true c3
    have c3b1 : decide (a1.size ≤ a0.size) = true := decide_eq_true (Int.ofNat_le.mp c3)
    clear c3
    by_cases c4 : 0 ≤ (a1.size : Int)
    · rw [if_pos c4] at H
      have c4b0 := eq_true c4
      have c4b1 : decide (0 ≤ (a1.size : Int)) = true := decide_eq_true c4
      clear c4
      by_cases c5 : (a1.size : Int) ≤ (a0.size : Int)
      · rw [if_pos c5] at H
        have c5b0 := eq_true c5
        have c5b1 : decide ((a1.size : Int) ≤ (a0.size : Int)) = true := decide_eq_true c5
        clear c5
        obtain rfl := Option.some.inj H
        go_enter Try.func82, Try.ntmps82
        go_wp2
        go_ret
        exact ⟨by first | rfl | (simp; done) | (simp [*]; done), by repeat (first | exact Drawn0.refl _ | apply Drawn0.step)⟩
      · rw [if_neg c5] at H
        exact absurd H (by simp)
    · rw [if_neg c4] at H
      exact absurd H (by simp)
  · rw [if_neg c3] at H
    have c3b0 : decide ((a1.size : Int) ≤ (a0.size : Int)) = false := decide_eq_false c3
    have c3b1 : decide (a1.size ≤ a0.size) = false := decide_eq_false (fun h => c3 (Int.ofNat_le.mpr h))
    clear c3
    obtain rfl := Option.some.inj H
    go_enter Try.func82, Try.ntmps82
    go_wp2
    go_ret
    exact ⟨by first | rfl | (simp; done) | (simp [*]; done), by repeat (first | exact Drawn0.refl _ | apply Drawn0.step)⟩

end Go.Proofs.Ytlchgkoafabapaa.X
namespace Go.Proofs.Ytlchgkoafabapaa.X
open Go.RowKit Go.Proofs.YtlchgkoafabapaaW.PrintWords Go.Proofs.YtlchgkoafabapaaW.PrintLast Go.Proofs.YtlchgkoafabapaaW.PrintMore
attribute [local go_sem] max2_int min2_int max_two min_two max_three min_three max_four min_four   -- for this text's walks alone
set_option linter.unusedVariables false
set_option linter.unusedSimpArgs false

/-! ### strings_HasPrefix: function 71 -/
def strings_HasPrefix.f (a0 : ByteArray) (a1 : ByteArray) : Option (Bool) := (stringslite_HasPrefix.f a0 a1).bind fun t101 => (some t101)
set_option maxHeartbeats 8000000 in
set_option maxRecDepth 100000 in
theorem strings_HasPrefix.calls (a0 : ByteArray) (a1 : ByteArray) (r : Bool) (w : World) (h : strings_HasPrefix.f a0 a1 = some r) :
    Calls Try.prog 71 #[.string a0, .string a1] w fun e w' => e = .returned (.bool r) ∧ Drawn0 w w' := by
  have H : ((stringslite_HasPrefix.f a0 a1).bind fun t101 => (some t101)) = some r := h
  clear h
  replace H := Option.bind_eq_some_iff.mp H
  obtain ⟨t101, A30, H⟩ := H
  replace H : (some t101) = some r := H
  have A3 := Aside0.mk A30
  clear A30
  obtain rfl := Option.some.inj H
  go_enter Try.func71, Try.ntmps71
  go_wp2_with (first | ((with_reducible refine gate_callee (f := 82) rfl ?_); refine goesL_ (some 7) rfl rfl Try.func82 (by kernel_rfl) rfl #[.string a0, .string a1] rfl (by (try simp only [List.map_toArray, List.map_cons, List.map_nil]); first | done | rfl | (simp only [List.length_drop, List.length_take]; rfl)) ?_; (with_reducible refine (stringslite_HasPrefix.calls a0 a1 t101 _ A3.out).mono ?_); rintro e w' ⟨rfl, ⟨nd, rfl⟩⟩; refine ⟨_, rfl, ?_⟩))
  go_ret
  exact ⟨by first | rfl | (simp; done) | (simp [*]; done), by repeat (first | exact Drawn0.refl _ | apply Drawn0.step)⟩

end Go.Proofs.Ytlchgkoafabapaa.X
/- Contracts, by hand, of runes.Find, runes.First and runes.Single: whatever the text. -/
set_option linter.unusedVariables false
set_option linter.unusedSimpArgs false
namespace Go.Proofs.Ytlchgkoafabapaa.X
open Go.RowKit Go.Proofs.YtlchgkoafabapaaW.PrintWords Go.Proofs.YtlchgkoafabapaaW.PrintLast Go.Proofs.YtlchgkoafabapaaW.PrintMore
def hp (s p : ByteArray) : Bool := decide (strings_HasPrefix.f s p = some true)
theorem hp_some (s p : ByteArray) : strings_HasPrefix.f s p = some (hp s p) := by
  have : ∃ b, strings_HasPrefix.f s p = some b := by
    unfold strings_HasPrefix.f stringslite_HasPrefix.f
    by_cases h : (s.size : Int) ≥ (p.size : Int)
    · rw [if_pos h, if_pos (by omega), if_pos (by omega)]; exact ⟨_, rfl⟩
    · rw [if_neg h]; exact ⟨_, rfl⟩
  obtain ⟨b, hb⟩ := this
  unfold hp
  rw [hb]
  cases b <;> simp
def fnd (d t : ByteArray) : Nat → List Nat → Int × Bool
  | _, [] => (0, false)
  | n, p :: ps => if hp (t.extract p t.size) d = true then ((n : Int), true) else fnd d t (n + 1) ps
def runes_Find.f (a0 : ByteArray) (a1 : ByteArray) : Option (Int × Bool) := if a1.size ≤ 4611686018427387904 then (if a0.toList = ([] : List UInt8) then some (0, true) else some (fnd a0 a1 0 (runeP a1))) else none
theorem drewN_at (w : World) (n k : Nat) : (w.drewN n).heap[k]? = w.heap[k]? := rfl
theorem below_drewN {n : Nat} {w w' : World} (h : Below n w w') (m : Nat) : Below n w (w'.drewN m) := by
  have := (Drawn0.refl w').step m
  exact h.trans ⟨rfl, rfl, rfl, Nat.le_refl _, fun _ _ => rfl⟩
set_option maxHeartbeats 2000000 in
theorem runes_Find.calls (a0 : ByteArray) (a1 : ByteArray) (r1 : Int) (r2 : Bool) (w : World) (h : runes_Find.f a0 a1 = some (r1, r2)) :
    Calls Try.prog 35 #[.string a0, .string a1] w fun e w' => e = .returned (.tuple #[.int .i64 r1, .bool r2]) ∧ Below w.heap.size w w' := by
  unfold runes_Find.f at h
  have hs : a1.size ≤ 4611686018427387904 := by
    by_cases hs : a1.size ≤ 4611686018427387904
    · exact hs
    · rw [if_neg hs] at h; cases h
  rw [if_pos hs] at h
  by_cases he : a0.toList = ([] : List UInt8)
  · rw [if_pos he] at h
    simp only [Option.some.injEq, Prod.mk.injEq] at h
    obtain ⟨rfl, rfl⟩ := h
    have c1 : (a0.toList == ([] : List UInt8)) = true := by rw [he]; rfl
    go_enter Try.func35, Try.ntmps35
    go_wp2
    go_ret2
    exact ⟨by first | rfl | (simp; done) | (simp [*]; done), Below.refl _ _⟩
  · rw [if_neg he] at h
    have h := Option.some.inj h
    have c1 : (a0.toList == ([] : List UInt8)) = false := beq_eq_false_iff_ne.2 he
    go_enter Try.func35, Try.ntmps35
    go_wp2
    go_loopw [6] (fun v wr => ∃ (pos fuel n : Nat), v = .int .i64 n ∧ wr.heap[w.heap.size]? = some (.stringIter a1 pos) ∧ Below w.heap.size w wr ∧ fnd a0 a1 n (posF a1 fuel pos) = (r1, r2) ∧ a1.size ≤ pos + fuel ∧ n ≤ pos) (fun _ wr => a1.size - wr.iterPos w.heap.size)
    case atStart =>
      exact ⟨0, a1.size, 0, rfl, World.iter_heap w a1 0, iter_below w a1 0, h, by omega, by omega⟩
    case round =>
      obtain ⟨pos, fuel, n, rfl, hit, hbw, hn, hfu, hnp⟩ := hrel
      have HN := Aside0.mk hn
      clear hn
      have hsz : w.heap.size < wr.heap.size := (Array.getElem?_eq_some_iff.1 hit).1
      by_cases hp_ : pos < a1.size
      · have hnx : ∀ ty, (Instr.next (.pointer (some ⟨w.heap.size, 0, none⟩)) true ty).run Try.prog wr = _ := fun ty => Lib.run_next_any_at wr w.heap.size a1 pos ty hit hp_
        have hwd := wid_pos a1 pos hp_
        have hd1 := decode_le a1 pos
        have hit2 := Lib.iterAt_heap wr w.heap.size a1 pos (pos + (Utf8.decode a1 pos).2) hit
        have hbw2 := Lib.below_iterAt hbw (k := w.heap.size) (by omega) a1 (pos + (Utf8.decode a1 pos).2)
        obtain ⟨f, rfl⟩ : ∃ f, fuel = f + 1 := ⟨fuel - 1, by omega⟩
        have HI := Aside0.mk hit
        have HI2 := Aside0.mk hit2
        have HB2 := Aside0.mk hbw2
        clear hit hit2 hbw2
        have hpost := HN.out
        simp only [posF, if_pos hp_, fnd] at hpost
        have A3 := Aside0.mk (hp_some (a1.extract pos a1.size) a0)
        cases hq : hp (a1.extract pos a1.size) a0 with
        | true =>
          rw [hq] at A3 hpost
          simp only [if_true, Prod.mk.injEq] at hpost
          obtain ⟨rfl, rfl⟩ := hpost
          go_wp2_with (first | (go_at_call 71; (with_reducible refine (strings_HasPrefix.calls (a1.extract pos a1.size) a0 true _ A3.out).mono ?_); rintro e w' ⟨rfl, ⟨nd, rfl⟩⟩; (try first | exact ⟨rfl, _, World.drewN_drewN _ _ _⟩ | exact ⟨rfl, _, Eq.trans (World.drewN_drewN _ _ _) (congrArg (World.drewN _) (Nat.add_assoc _ _ _))⟩)))
          go_ret2
          exact ⟨by first | rfl | (simp; done) | (simp [*]; done), by first | exact HB2.out | (repeat (first | exact HB2.out | apply below_drewN))⟩
        | false =>
          rw [hq] at A3 hpost
          simp only [Bool.false_eq_true, if_false] at hpost
          have HP := Aside0.mk hpost
          clear hpost
          go_wp2_with (first | (go_at_call 71; (with_reducible refine (strings_HasPrefix.calls (a1.extract pos a1.size) a0 false _ A3.out).mono ?_); rintro e w' ⟨rfl, ⟨nd, rfl⟩⟩; (try first | exact ⟨rfl, _, World.drewN_drewN _ _ _⟩ | exact ⟨rfl, _, Eq.trans (World.drewN_drewN _ _ _) (congrArg (World.drewN _) (Nat.add_assoc _ _ _))⟩)))
          go_roundw
          case rel =>
            refine ⟨pos + (Utf8.decode a1 pos).2, f, n + 1, by first | rfl | go_num, ?_, ?_, HP.out, by omega, by omega⟩
            · first | exact HI2.out | (simp only [drewN_at]; exact HI2.out)
            · first | exact HB2.out | (repeat (first | exact HB2.out | apply below_drewN))
          case measure =>
            have e1 : wr.iterPos w.heap.size = pos := by simp only [World.iterPos, HI.out]
            have e2 : (wr.iterAt w.heap.size a1 (pos + (Utf8.decode a1 pos).2)).iterPos w.heap.size = pos + (Utf8.decode a1 pos).2 := by simp only [World.iterPos, HI2.out]
            have e3 : ∀ m, ((wr.iterAt w.heap.size a1 (pos + (Utf8.decode a1 pos).2)).drewN m).iterPos w.heap.size = pos + (Utf8.decode a1 pos).2 := by intro m; simp only [World.iterPos, drewN_at, HI2.out]
            first | (rw [e1, e2]; omega) | (rw [e1, e3]; omega)
      · have hnx : ∀ ty, (Instr.next (.pointer (some ⟨w.heap.size, 0, none⟩)) true ty).run Try.prog wr = _ := fun ty => Lib.run_next_end_at wr w.heap.size a1 pos ty hit hp_
        have e := HN.out
        rw [posF_end a1 fuel pos hp_] at e
        simp only [fnd, Prod.mk.injEq] at e
        obtain ⟨rfl, rfl⟩ := e
        go_wp2
        go_ret2
        exact ⟨by first | rfl | (simp; done) | (simp [*]; done), hbw⟩

def runes_First.f (a0 : ByteArray) : Option (Int × Bool) := if 0 < a0.size then some (((Utf8.decode a0 0).1 : Int), true) else some (0, false)
set_option maxHeartbeats 2000000 in
theorem runes_First.calls (a0 : ByteArray) (r1 : Int) (r2 : Bool) (w : World) (h : runes_First.f a0 = some (r1, r2)) :
    Calls Try.prog 66 #[.string a0] w fun e w' => e = .returned (.tuple #[.int .i32 r1, .bool r2]) ∧ Below w.heap.size w w' := by
  unfold runes_First.f at h
  go_enter Try.func66, Try.ntmps66
  go_wp2
  go_loopw [] (fun wr => wr.heap[w.heap.size]? = some (.stringIter a0 0) ∧ Below w.heap.size w wr) (fun wr => 0)
  case atStart =>
    exact ⟨World.iter_heap w a0 0, iter_below w a0 0⟩
  case round =>
    obtain ⟨hit, hbw⟩ := hrel
    by_cases hp_ : 0 < a0.size
    · rw [if_pos hp_] at h
      simp only [Option.some.injEq, Prod.mk.injEq] at h
      obtain ⟨rfl, rfl⟩ := h
      have hnx : ∀ ty, (Instr.next (.pointer (some ⟨w.heap.size, 0, none⟩)) true ty).run Try.prog wr = _ := fun ty => Lib.run_next_any_at wr w.heap.size a0 0 ty hit hp_
      have hsz : w.heap.size < wr.heap.size := (Array.getElem?_eq_some_iff.1 hit).1
      have hd1 := decode_le a0 0
      have hbw2 := Lib.below_iterAt hbw (k := w.heap.size) (by omega) a0 (0 + (Utf8.decode a0 0).2)
      go_wp2
      go_ret2
      exact ⟨by first | rfl | (simp; done) | (simp [*]; done), by simpa using hbw2⟩
    · rw [if_neg hp_] at h
      simp only [Option.some.injEq, Prod.mk.injEq] at h
      obtain ⟨rfl, rfl⟩ := h
      have hnx : ∀ ty, (Instr.next (.pointer (some ⟨w.heap.size, 0, none⟩)) true ty).run Try.prog wr = _ := fun ty => Lib.run_next_end_at wr w.heap.size a0 0 ty hit hp_
      go_wp2
      go_ret2
      exact ⟨by first | rfl | (simp; done) | (simp [*]; done), hbw⟩
end Go.Proofs.Ytlchgkoafabapaa.X
namespace Go.Proofs.Ytlchgkoafabapaa.X
open Go.RowKit Go.Proofs.YtlchgkoafabapaaW.PrintWords Go.Proofs.YtlchgkoafabapaaW.PrintLast Go.Proofs.YtlchgkoafabapaaW.PrintMore
attribute [local go_sem] max2_int min2_int max_two min_two max_three min_three max_four min_four   -- for this text's walks alone
set_option linter.unusedVariables false
set_option linter.unusedSimpArgs false

/-! ### oculuslaw13_alive: function 27 -/
def oculuslaw13_alive.f (k : Nat)  : Option (Bool) := (runes_Find.f (⟨#[255]⟩ : ByteArray) (⟨#[97, 195, 169, 255, 122]⟩ : ByteArray)).bind fun bt101 => ((runes_First.f (⟨#[226, 130, 172, 120]⟩ : ByteArray)).bind fun bt103 => ((runes_Single.f k 8364).bind fun bt105 => ((runes_Count.f (⟨#[97, 195, 169, 255, 122]⟩ : ByteArray)).bind fun t107 => (if t107 = 4 then ((runes_Left.f (⟨#[97, 195, 169, 255, 122]⟩ : ByteArray) 2).bind fun t108 => (if t108.toList = ([97, 195, 169] : List UInt8) then ((runes_Right.f (⟨#[97, 195, 169, 255, 122]⟩ : ByteArray) 1).bind fun t109 => (if t109.toList = ([122] : List UInt8) then ((runes_Mid.f (⟨#[97, 195, 169, 255, 122]⟩ : ByteArray) 1 2).bind fun t110 => (if t110.toList = ([195, 169, 255] : List UInt8) then (if bt101.2 = true then (if bt101.1 = 2 then (if bt103.2 = true then (if bt103.1 = 8364 then (if bt105.2 = true then (some (bt105.1.toList == ([226, 130, 172] : List UInt8))) else (none)) else (none)) else (none)) else (none)) else (none)) else (none))) else (none))) else (none))) else (none)))))
theorem oculuslaw13_alive.mono : ∀ k, LeO (oculuslaw13_alive.f k ) (oculuslaw13_alive.f (k + 1) ) := by
  intro  k
  unfold oculuslaw13_alive.f
  repeat' first
      | (with_reducible exact runes_Single.mono _ _)
      | (with_reducible exact LeO.refl _)
      | (with_reducible exact LeO.none _)
      | (with_reducible refine LeO.ite ?_ ?_)
      | (with_reducible refine LeO.bind ?_ (fun _ => ?_))
      | exact runes_Single.mono _ _
      | exact LeO.none _
      | refine LeO.ite ?_ ?_
      | refine LeO.bind ?_ (fun _ => ?_)
set_option maxHeartbeats 8000000 in
set_option maxRecDepth 100000 in
theorem oculuslaw13_alive.calls (k : Nat)  (r : Bool) (w : World) (h : oculuslaw13_alive.f k  = some r) :
    Calls Try.prog 27 #[] w fun e w' => e = .returned (.bool r) ∧ Below w.heap.size w w' := by
  have HB := Aside0.mk (Below.refl w.heap.size w)
  have H : ((runes_Find.f (⟨#[255]⟩ : ByteArray) (⟨#[97, 195, 169, 255, 122]⟩ : ByteArray)).bind fun bt101 => ((runes_First.f (⟨#[226, 130, 172, 120]⟩ : ByteArray)).bind fun bt103 => ((runes_Single.f k 8364).bind fun bt105 => ((runes_Count.f (⟨#[97, 195, 169, 255, 122]⟩ : ByteArray)).bind fun t107 => (if t107 = 4 then ((runes_Left.f (⟨#[97, 195, 169, 255, 122]⟩ : ByteArray) 2).bind fun t108 => (if t108.toList = ([97, 195, 169] : List UInt8) then ((runes_Right.f (⟨#[97, 195, 169, 255, 122]⟩ : ByteArray) 1).bind fun t109 => (if t109.toList = ([122] : List UInt8) then ((runes_Mid.f (⟨#[97, 195, 169, 255, 122]⟩ : ByteArray) 1 2).bind fun t110 => (if t110.toList = ([195, 169, 255] : List UInt8) then (if bt101.2 = true then (if bt101.1 = 2 then (if bt103.2 = true then (if bt103.1 = 8364 then (if bt105.2 = true then (some (bt105.1.toList == ([226, 130, 172] : List UInt8))) else (none)) else (none)) else (none)) else (none)) else (none)) else (none))) else (none))) else (none))) else (none)))))) = some r := h
  clear h
  replace H := Option.bind_eq_some_iff.mp H
  obtain ⟨⟨t101, t102⟩, A10, H⟩ := H
  replace H : ((runes_First.f (⟨#[226, 130, 172, 120]⟩ : ByteArray)).bind fun bt103 => ((runes_Single.f k 8364).bind fun bt105 => ((runes_Count.f (⟨#[97, 195, 169, 255, 122]⟩ : ByteArray)).bind fun t107 => (if t107 = 4 then ((runes_Left.f (⟨#[97, 195, 169, 255, 122]⟩ : ByteArray) 2).bind fun t108 => (if t108.toList = ([97, 195, 169] : List UInt8) then ((runes_Right.f (⟨#[97, 195, 169, 255, 122]⟩ : ByteArray) 1).bind fun t109 => (if t109.toList = ([122] : List UInt8) then ((runes_Mid.f (⟨#[97, 195, 169, 255, 122]⟩ : ByteArray) 1 2).bind fun t110 => (if t110.toList = ([195, 169, 255] : List UInt8) then (if t102 = true then (if t101 = 2 then (if bt103.2 = true then (if bt103.1 = 8364 then (if bt105.2 = true then (some (bt105.1.toList == ([226, 130, 172] : List UInt8))) else (none)) else (none)) else (none)) else (none)) else (none)) else (none))) else (none))) else (none))) else (none))))) = some r := H
  have A1 := Aside0.mk A10
  clear A10
  replace H := Option.bind_eq_some_iff.mp H
  obtain ⟨⟨t103, t104⟩, A20, H⟩ := H
  replace H : ((runes_Single.f k 8364).bind fun bt105 => ((runes_Count.f (⟨#[97, 195, 169, 255, 122]⟩ : ByteArray)).bind fun t107 => (if t107 = 4 then ((runes_Left.f (⟨#[97, 195, 169, 255, 122]⟩ : ByteArray) 2).bind fun t108 => (if t108.toList = ([97, 195, 169] : List UInt8) then ((runes_Right.f (⟨#[97, 195, 169, 255, 122]⟩ : ByteArray) 1).bind fun t109 => (if t109.toList = ([122] : List UInt8) then ((runes_Mid.f (⟨#[97, 195, 169, 255, 122]⟩ : ByteArray) 1 2).bind fun t110 => (if t110.toList = ([195, 169, 255] : List UInt8) then (if t102 = true then (if t101 = 2 then (if t104 = true then (if t103 = 8364 then (if bt105.2 = true then (some (bt105.1.toList == ([226, 130, 172] : List UInt8))) else (none)) else (none)) else (none)) else (none)) else (none)) else (none))) else (none))) else (none))) else (none)))) = some r := H
  have A2 := Aside0.mk A20
  clear A20
  replace H := Option.bind_eq_some_iff.mp H
  obtain ⟨⟨t105, t106⟩, A30, H⟩ := H
  replace H : ((runes_Count.f (⟨#[97, 195, 169, 255, 122]⟩ : ByteArray)).bind fun t107 => (if t107 = 4 then ((runes_Left.f (⟨#[97, 195, 169, 255, 122]⟩ : ByteArray) 2).bind fun t108 => (if t108.toList = ([97, 195, 169] : List UInt8) then ((runes_Right.f (⟨#[97, 195, 169, 255, 122]⟩ : ByteArray) 1).bind fun t109 => (if t109.toList = ([122] : List UInt8) then ((runes_Mid.f (⟨#[97, 195, 169, 255, 122]⟩ : ByteArray) 1 2).bind fun t110 => (if t110.toList = ([195, 169, 255] : List UInt8) then (if t102 = true then (if t101 = 2 then (if t104 = true then (if t103 = 8364 then (if t106 = true then (some (t105.toList == ([226, 130, 172] : List UInt8))) else (none)) else (none)) else (none)) else (none)) else (none)) else (none))) else (none))) else (none))) else (none))) = some r := H
  have A3 := Aside0.mk A30
  clear A30
  replace H := Option.bind_eq_some_iff.mp H
  obtain ⟨t107, A40, H⟩ := H
  replace H : (if t107 = 4 then ((runes_Left.f (⟨#[97, 195, 169, 255, 122]⟩ : ByteArray) 2).bind fun t108 => (if t108.toList = ([97, 195, 169] : List UInt8) then ((runes_Right.f (⟨#[97, 195, 169, 255, 122]⟩ : ByteArray) 1).bind fun t109 => (if t109.toList = ([122] : List UInt8) then ((runes_Mid.f (⟨#[97, 195, 169, 255, 122]⟩ : ByteArray) 1 2).bind fun t110 => (if t110.toList = ([195, 169, 255] : List UInt8) then (if t102 = true then (if t101 = 2 then (if t104 = true then (if t103 = 8364 then (if t106 = true then (some (t105.toList == ([226, 130, 172] : List UInt8))) else (none)) else (none)) else (none)) else (none)) else (none)) else (none))) else (none))) else (none))) else (none)) = some r := H
  have A4 := Aside0.mk A40
  clear A40
  by_cases c5 : t107 = 4
  · rw [if_pos c5] at H
    have c5b0 : (t107 == 4) = true := beq_iff_eq.mpr c5
    have c5b1 : (t107 != 4) = false := bne_eq_false_iff_eq.mpr c5
    clear c5
    replace H := Option.bind_eq_some_iff.mp H
    obtain ⟨t108, A60, H⟩ := H
    replace H : (if t108.toList = ([97, 195, 169] : List UInt8) then ((runes_Right.f (⟨#[97, 195, 169, 255, 122]⟩ : ByteArray) 1).bind fun t109 => (if t109.toList = ([122] : List UInt8) then ((runes_Mid.f (⟨#[97, 195, 169, 255, 122]⟩ : ByteArray) 1 2).bind fun t110 => (if t110.toList = ([195, 169, 255] : List UInt8) then (if t102 = true then (if t101 = 2 then (if t104 = true then (if t103 = 8364 then (if t106 = true then (some (t105.toList == ([226, 130, 172] : List UInt8))) else (none)) else (none)) else (none)) else (none)) else (none)) else (none))) else (none))) else (none)) = some r := H
    have A6 := Aside0.mk A60
    clear A60
    by_cases c7 : t108.toList = ([97, 195, 169] : List UInt8)
    · rw [if_pos c7] at H
      have c7b0 : (t108.toList == ([97, 195, 169] : List UInt8)) = true := beq_iff_eq.mpr c7
      have c7b1 : (t108.toList != ([97, 195, 169] : List UInt8)) = false := bne_eq_false_iff_eq.mpr c7
      clear c7
      replace H := Option.bind_eq_some_iff.mp H
      obtain ⟨t109, A80, H⟩ := H
      replace H : (if t109.toList = ([122] : List UInt8) then ((runes_Mid.f (⟨#[97, 195, 169, 255, 122]⟩ : ByteArray) 1 2).bind fun t110 => (if t110.toList = ([195, 169, 255] : List UInt8) then (if t102 = true then (if t101 = 2 then (if t104 = true then (if t103 = 8364 then (if t106 = true then (some (t105.toList == ([226, 130, 172] : List UInt8))) else (none)) else (none)) else (none)) else (none)) else (none)) else (none))) else (none)) = some r := H
      have A8 := Aside0.mk A80
      clear A80
      by_cases c9 : t109.toList = ([122] : List UInt8)
      · rw [if_pos c9] at H
        have c9b0 : (t109.toList == ([122] : List UInt8)) = true := beq_iff_eq.mpr c9
        have c9b1 : (t109.toList != ([122] : List UInt8)) = false := bne_eq_false_iff_eq.mpr c9
        clear c9
        replace H := Option.bind_eq_some_iff.mp H
        obtain ⟨t110, A100, H⟩ := H
        replace H : (if t110.toList = ([195, 169, 255] : List UInt8) then (if t102 = true then (if t101 = 2 then (if t104 = true then (if t103 = 8364 then (if t106 = true then (some (t105.toList == ([226, 130, 172] : List UInt8))) else (none)) else (none)) else (none)) else (none)) else (none)) else (none)) = some r := H
        have A10 := Aside0.mk A100
        clear A100
        by_cases c11 : t110.toList = ([195, 169, 255] : List UInt8)
        · rw [if_pos c11] at H
          have c11b0 : (t110.toList == ([195, 169, 255] : List UInt8)) = true := beq_iff_eq.mpr c11
          have c11b1 : (t110.toList != ([195, 169, 255] : List UInt8)) = false := bne_eq_false_iff_eq.mpr c11
          clear c11
          by_cases c12 : t102 = true
          · subst c12
            have H1 : (if t101 = 2 then (if t104 = true then (if t103 = 8364 then (if t106 = true then (some (t105.toList == ([226, 130, 172] : List UInt8))) else (none)) else (none)) else (none)) else (none)) = some r := by rw [if_pos rfl] at H; exact H
            clear H
            have H := H1
            clear H1
            by_cases c13 : t101 = 2
            · rw [if_pos c13] at H
              have c13b0 : (t101 == 2) = true := beq_iff_eq.mpr c13
              have c13b1 : (t101 != 2) = false := bne_eq_false_iff_eq.mpr c13
              clear c13
              by_cases c14 : t104 = true
              · subst c14
                have H1 : (if t103 = 8364 then (if t106 = true then (some (t105.toList == ([226, 130, 172] : List UInt8))) else (none)) else (none)) = some r := by rw [if_pos rfl] at H; exact H
                clear H
                have H := H1
                clear H1
                by_cases c15 : t103 = 8364
                · rw [if_pos c15] at H
                  have c15b0 : (t103 == 8364) = true := beq_iff_eq.mpr c15
                  have c15b1 : (t103 != 8364) = false := bne_eq_false_iff_eq.mpr c15
                  clear c15
                  by_cases c16 : t106 = true
                  · subst c16
                    have H1 : (some (t105.toList == ([226, 130, 172] : List UInt8))) = some r := by rw [if_pos rfl] at H; exact H
                    clear H
                    have H := H1
                    clear H1
                    obtain rfl := Option.some.inj H
                    go_enter Try.func27, Try.ntmps27
                    go_wp2_with (first | ((with_reducible refine gate_callee (f := 35) rfl ?_); refine goesL_ (some 10) rfl rfl Try.func35 (by kernel_rfl) rfl #[.string (⟨#[255]⟩ : ByteArray), .string (⟨#[97, 195, 169, 255, 122]⟩ : ByteArray)] rfl (by (try simp only [List.map_toArray, List.map_cons, List.map_nil]); first | done | rfl | (simp only [List.length_drop, List.length_take]; rfl)) ?_; (with_reducible refine (runes_Find.calls (⟨#[255]⟩ : ByteArray) (⟨#[97, 195, 169, 255, 122]⟩ : ByteArray) t101 true _ A1.out).mono ?_); rintro e w17 ⟨rfl, hb⟩; refine ⟨_, rfl, ?_⟩; replace HB := Aside0.mk (below_step (pbx HB) hb); (try clear hb); (try clear hb2); (try clear hk); (try clear hi)) | ((with_reducible refine gate_callee (f := 66) rfl ?_); refine goesL_ (some 14) rfl rfl Try.func66 (by kernel_rfl) rfl #[.string (⟨#[226, 130, 172, 120]⟩ : ByteArray)] rfl (by (try simp only [List.map_toArray, List.map_cons, List.map_nil]); first | done | rfl | (simp only [List.length_drop, List.length_take]; rfl)) ?_; (with_reducible refine (runes_First.calls (⟨#[226, 130, 172, 120]⟩ : ByteArray) t103 true _ A2.out).mono ?_); rintro e w18 ⟨rfl, hb⟩; refine ⟨_, rfl, ?_⟩; replace HB := Aside0.mk (below_step (pbx HB) hb); (try clear hb); (try clear hb2); (try clear hk); (try clear hi)) | ((with_reducible refine gate_callee (f := 67) rfl ?_); refine goesL_ (some 18) rfl rfl Try.func67 (by kernel_rfl) rfl #[.int .i64 8364] rfl (by (try simp only [List.map_toArray, List.map_cons, List.map_nil]); first | done | rfl | (simp only [List.length_drop, List.length_take]; rfl)) ?_; (with_reducible refine (runes_Single.calls k 8364 t105 true _ A3.out).mono ?_); rintro e w' ⟨rfl, ⟨nd, rfl⟩⟩; refine ⟨_, rfl, ?_⟩) | ((with_reducible refine gate_callee (f := 28) rfl ?_); refine goesL_ (some 22) rfl rfl Try.func28 (by kernel_rfl) rfl #[.string (⟨#[97, 195, 169, 255, 122]⟩ : ByteArray)] rfl (by (try simp only [List.map_toArray, List.map_cons, List.map_nil]); first | done | rfl | (simp only [List.length_drop, List.length_take]; rfl)) ?_; (with_reducible refine (runes_Count.calls (⟨#[97, 195, 169, 255, 122]⟩ : ByteArray) t107 _ A4.out).mono ?_); rintro e w19 ⟨rfl, hb⟩; refine ⟨_, rfl, ?_⟩; replace HB := Aside0.mk (below_step (pbx HB) hb); (try clear hb); (try clear hb2); (try clear hk); (try clear hi)) | (go_at_call 30; (with_reducible refine (runes_Left.calls (⟨#[97, 195, 169, 255, 122]⟩ : ByteArray) 2 t108 _ A6.out).mono ?_); rintro e w20 ⟨rfl, hb⟩; replace HB := Aside0.mk (below_step (pbx HB) hb); (try clear hb); (try clear hb2); (try clear hk); (try clear hi)) | (go_at_call 32; (with_reducible refine (runes_Right.calls (⟨#[97, 195, 169, 255, 122]⟩ : ByteArray) 1 t109 _ A8.out).mono ?_); rintro e w21 ⟨rfl, hb⟩; replace HB := Aside0.mk (below_step (pbx HB) hb); (try clear hb); (try clear hb2); (try clear hk); (try clear hi)) | (go_at_call 34; (with_reducible refine (runes_Mid.calls (⟨#[97, 195, 169, 255, 122]⟩ : ByteArray) 1 2 t110 _ A10.out).mono ?_); rintro e w22 ⟨rfl, hb⟩; replace HB := Aside0.mk (below_step (pbx HB) hb); (try clear hb); (try clear hb2); (try clear hk); (try clear hi)))
                    go_ret
                    exact ⟨by first | rfl | (simp [errW_none, errW_some] <;> rfl) | (simp [*, errW_none, errW_some] <;> rfl), pbx HB⟩
                  · replace c16 := Bool.eq_false_iff.mpr c16
                    subst c16
                    have H1 : (none) = some r := by rw [if_neg (show ¬ (false = true) by decide)] at H; exact H
                    clear H
                    have H := H1
                    clear H1
                    exact absurd H (by simp)
                · rw [if_neg c15] at H
                  exact absurd H (by simp)
              · replace c14 := Bool.eq_false_iff.mpr c14
                subst c14
                have H1 : (none) = some r := by rw [if_neg (show ¬ (false = true) by decide)] at H; exact H
                clear H
                have H := H1
                clear H1
                exact absurd H (by simp)
            · rw [if_neg c13] at H
              exact absurd H (by simp)
          · replace c12 := Bool.eq_false_iff.mpr c12
            subst c12
            have H1 : (none) = some r := by rw [if_neg (show ¬ (false = true) by decide)] at H; exact H
            clear H
            have H := H1
            clear H1
            exact absurd H (by simp)
        · rw [if_neg c11] at H
          exact absurd H (by simp)
      · rw [if_neg c9] at H
        exact absurd H (by simp)
    · rw [if_neg c7] at H
      exact absurd H (by simp)
  · rw [if_neg c5] at H
    exact absurd H (by simp)

end Go.Proofs.Ytlchgkoafabapaa.X
namespace Go.Proofs.Ytlchgkoafabapaa.X
open Go.RowKit Go.Proofs.YtlchgkoafabapaaW.PrintWords Go.Proofs.YtlchgkoafabapaaW.PrintLast Go.Proofs.YtlchgkoafabapaaW.PrintMore
attribute [local go_sem] max2_int min2_int max_two min_two max_three min_three max_four min_four   -- for this text's walks alone
set_option linter.unusedVariables false
set_option linter.unusedSimpArgs false

/-! ### oculuslaw13_RunesSplit: function 7 -/
def oculuslaw13_RunesSplit.f (k : Nat) (a0 : ByteArray) (a1 : Int) : Option (Bool) := if (a0.size : Int) > 600 then ((oculuslaw13_alive.f k).bind fun t101 => (some t101)) else ((runes_Count.f a0).bind fun t102 => ((runes_Left.f a0 (mn (mx a1 0) t102)).bind fun t103 => ((runes_Right.f a0 (wrap64 (t102 - (mn (mx a1 0) t102)))).bind fun t104 => (if t103.size + t104.size ≤ 9223372036854775807 then (if (t103 ++ t104).toList = a0.toList then ((runes_Count.f t103).bind fun t105 => (if t105 = (mn (mx a1 0) t102) then ((runes_Count.f t104).bind fun t106 => (if t106 = (wrap64 (t102 - (mn (mx a1 0) t102))) then ((runes_Mid.f a0 (mn (mx a1 0) t102) t102).bind fun t107 => (if t107.toList = t104.toList then ((oculuslaw13_alive.f k).bind fun t108 => (some t108)) else (none))) else (none))) else (none))) else (none)) else (none)))))
theorem oculuslaw13_RunesSplit.mono : ∀ a0 a1 k, LeO (oculuslaw13_RunesSplit.f k a0 a1) (oculuslaw13_RunesSplit.f (k + 1) a0 a1) := by
  intro a0 a1 k
  unfold oculuslaw13_RunesSplit.f
  repeat' first
      | (with_reducible exact oculuslaw13_alive.mono _)
      | (with_reducible exact LeO.refl _)
      | (with_reducible exact LeO.none _)
      | (with_reducible refine LeO.ite ?_ ?_)
      | (with_reducible refine LeO.bind ?_ (fun _ => ?_))
      | exact oculuslaw13_alive.mono _
      | exact LeO.none _
      | refine LeO.ite ?_ ?_
      | refine LeO.bind ?_ (fun _ => ?_)
set_option maxHeartbeats 8000000 in
set_option maxRecDepth 100000 in
theorem oculuslaw13_RunesSplit.calls (k : Nat) (a0 : ByteArray) (a1 : Int) (r : Bool) (w : World) (h : oculuslaw13_RunesSplit.f k a0 a1 = some r) :
    Calls Try.prog 7 #[.string a0, .int .i64 a1] w fun e w' => e = .returned (.bool r) ∧ Below w.heap.size w w' := by
  have HB := Aside0.mk (Below.refl w.heap.size w)
  have H : (if (a0.size : Int) > 600 then ((oculuslaw13_alive.f k).bind fun t101 => (some t101)) else ((runes_Count.f a0).bind fun t102 => ((runes_Left.f a0 (mn (mx a1 0) t102)).bind fun t103 => ((runes_Right.f a0 (wrap64 (t102 - (mn (mx a1 0) t102)))).bind fun t104 => (if t103.size + t104.size ≤ 9223372036854775807 then (if (t103 ++ t104).toList = a0.toList then ((runes_Count.f t103).bind fun t105 => (if t105 = (mn (mx a1 0) t102) then ((runes_Count.f t104).bind fun t106 => (if t106 = (wrap64 (t102 - (mn (mx a1 0) t102))) then ((runes_Mid.f a0 (mn (mx a1 0) t102) t102).bind fun t107 => (if t107.toList = t104.toList then ((oculuslaw13_alive.f k).bind fun t108 => (some t108)) else (none))) else (none))) else (none))) else (none)) else (none)))))) = some r := h
  clear h
  by_cases c3 : (a0.size : Int) > 600
  · rw [if_pos c3] at H
    have c3b0 : decide (600 < (a0.size : Int)) = true := decide_eq_true c3
    have c3b1 : decide (600 < a0.size) = true := decide_eq_true (by omega)
    clear c3
    replace H := Option.bind_eq_some_iff.mp H
    obtain ⟨t101, A40, H⟩ := H
    replace H : (some t101) = some r := H
    have A4 := Aside0.mk A40
    clear A40
    obtain rfl := Option.some.inj H
    go_enter Try.func7, Try.ntmps7
    go_wp2_with (first | ((with_reducible refine gate_callee (f := 27) rfl ?_); refine goesL_ (some 12) rfl rfl Try.func27 (by kernel_rfl) rfl #[] rfl (by (try simp only [List.map_toArray, List.map_cons, List.map_nil]); first | done | rfl | (simp only [List.length_drop, List.length_take]; rfl)) ?_; (with_reducible refine (oculuslaw13_alive.calls k  t101 _ A4.out).mono ?_); rintro e w5 ⟨rfl, hb⟩; refine ⟨_, rfl, ?_⟩; replace HB := Aside0.mk (below_step (pbx HB) hb); (try clear hb); (try clear hb2); (try clear hk); (try clear hi)))
    go_ret
    exact ⟨by first | rfl | (simp [errW_none, errW_some] <;> rfl) | (simp [*, errW_none, errW_some] <;> rfl), pbx HB⟩
  · rw [if_neg c3] at H
    have c3b0 : decide (600 < (a0.size : Int)) = false := decide_eq_false c3
    have c3b1 : decide (600 < a0.size) = false := decide_eq_false (by omega)
    clear c3
    replace H := Option.bind_eq_some_iff.mp H
    obtain ⟨t102, A60, H⟩ := H
    replace H : ((runes_Left.f a0 (mn (mx a1 0) t102)).bind fun t103 => ((runes_Right.f a0 (wrap64 (t102 - (mn (mx a1 0) t102)))).bind fun t104 => (if t103.size + t104.size ≤ 9223372036854775807 then (if (t103 ++ t104).toList = a0.toList then ((runes_Count.f t103).bind fun t105 => (if t105 = (mn (mx a1 0) t102) then ((runes_Count.f t104).bind fun t106 => (if t106 = (wrap64 (t102 - (mn (mx a1 0) t102))) then ((runes_Mid.f a0 (mn (mx a1 0) t102) t102).bind fun t107 => (if t107.toList = t104.toList then ((oculuslaw13_alive.f k).bind fun t108 => (some t108)) else (none))) else (none))) else (none))) else (none)) else (none)))) = some r := H
    have A6 := Aside0.mk A60
    clear A60
    obtain ⟨ji7, hji7⟩ : ∃ j_ : Int, (mx a1 0) = j_ := ⟨_, rfl⟩
    replace H : ((runes_Left.f a0 (mn (ji7) t102)).bind fun t103 => ((runes_Right.f a0 (wrap64 (t102 - (mn (ji7) t102)))).bind fun t104 => (if t103.size + t104.size ≤ 9223372036854775807 then (if (t103 ++ t104).toList = a0.toList then ((runes_Count.f t103).bind fun t105 => (if t105 = (mn (ji7) t102) then ((runes_Count.f t104).bind fun t106 => (if t106 = (wrap64 (t102 - (mn (ji7) t102))) then ((runes_Mid.f a0 (mn (ji7) t102) t102).bind fun t107 => (if t107.toList = t104.toList then ((oculuslaw13_alive.f k).bind fun t108 => (some t108)) else (none))) else (none))) else (none))) else (none)) else (none)))) = some r := by first | (rw [hji7] at H; exact H) | (simp only [hji7] at H ⊢; exact H)
    (try rw [hji7] at A6)
    (try (have hji7l : 0 ≤ ji7 := by (rw [← hji7]; unfold mx; (repeat' split) <;> omega)))
    (try (have hji7m : 0 ≤ ji7 := by omega))
    have hji7_ : (if a1 < 0 then 0 else a1) = ji7 := hji7
    obtain ⟨ji8, hji8⟩ : ∃ j_ : Int, (mn (ji7) t102) = j_ := ⟨_, rfl⟩
    replace H : ((runes_Left.f a0 (ji8)).bind fun t103 => ((runes_Right.f a0 (wrap64 (t102 - (ji8)))).bind fun t104 => (if t103.size + t104.size ≤ 9223372036854775807 then (if (t103 ++ t104).toList = a0.toList then ((runes_Count.f t103).bind fun t105 => (if t105 = (ji8) then ((runes_Count.f t104).bind fun t106 => (if t106 = (wrap64 (t102 - (ji8))) then ((runes_Mid.f a0 (ji8) t102).bind fun t107 => (if t107.toList = t104.toList then ((oculuslaw13_alive.f k).bind fun t108 => (some t108)) else (none))) else (none))) else (none))) else (none)) else (none)))) = some r := by first | (rw [hji8] at H; exact H) | (simp only [hji8] at H ⊢; exact H)
    (try rw [hji8] at A6)
    have hji8_ : (if t102 < (ji7) then t102 else (ji7)) = ji8 := hji8
    replace H := Option.bind_eq_some_iff.mp H
    obtain ⟨t103, A90, H⟩ := H
    replace H : ((runes_Right.f a0 (wrap64 (t102 - (ji8)))).bind fun t104 => (if t103.size + t104.size ≤ 9223372036854775807 then (if (t103 ++ t104).toList = a0.toList then ((runes_Count.f t103).bind fun t105 => (if t105 = (ji8) then ((runes_Count.f t104).bind fun t106 => (if t106 = (wrap64 (t102 - (ji8))) then ((runes_Mid.f a0 (ji8) t102).bind fun t107 => (if t107.toList = t104.toList then ((oculuslaw13_alive.f k).bind fun t108 => (some t108)) else (none))) else (none))) else (none))) else (none)) else (none))) = some r := H
    have A9 := Aside0.mk A90
    clear A90
    replace H := Option.bind_eq_some_iff.mp H
    obtain ⟨t104, A100, H⟩ := H
    replace H : (if t103.size + t104.size ≤ 9223372036854775807 then (if (t103 ++ t104).toList = a0.toList then ((runes_Count.f t103).bind fun t105 => (if t105 = (ji8) then ((runes_Count.f t104).bind fun t106 => (if t106 = (wrap64 (t102 - (ji8))) then ((runes_Mid.f a0 (ji8) t102).bind fun t107 => (if t107.toList = t104.toList then ((oculuslaw13_alive.f k).bind fun t108 => (some t108)) else (none))) else (none))) else (none))) else (none)) else (none)) = some r := H
    have A10 := Aside0.mk A100
    clear A100
    by_cases c11 : t103.size + t104.size ≤ 9223372036854775807
    · rw [if_pos c11] at H
      have c11b0 := eq_true c11
      have c11b1 : decide (t103.size + t104.size ≤ 9223372036854775807) = true := decide_eq_true c11
      try have c11b2 : (9223372036854775807 < t103.size + t104.size) = False := eq_false (Nat.not_lt.2 c11)
      by_cases c12 : (t103 ++ t104).toList = a0.toList
      · rw [if_pos c12] at H
        have c12b0 : ((t103 ++ t104).toList == a0.toList) = true := beq_iff_eq.mpr c12
        have c12b1 : ((t103 ++ t104).toList != a0.toList) = false := bne_eq_false_iff_eq.mpr c12
        clear c12
        replace H := Option.bind_eq_some_iff.mp H
        obtain ⟨t105, A130, H⟩ := H
        replace H : (if t105 = (ji8) then ((runes_Count.f t104).bind fun t106 => (if t106 = (wrap64 (t102 - (ji8))) then ((runes_Mid.f a0 (ji8) t102).bind fun t107 => (if t107.toList = t104.toList then ((oculuslaw13_alive.f k).bind fun t108 => (some t108)) else (none))) else (none))) else (none)) = some r := H
        have A13 := Aside0.mk A130
        clear A130
        by_cases c14 : t105 = (ji8)
        · rw [if_pos c14] at H
          have c14b0 : (t105 == (ji8)) = true := beq_iff_eq.mpr c14
          have c14b1 : (t105 != (ji8)) = false := bne_eq_false_iff_eq.mpr c14
          clear c14
          replace H := Option.bind_eq_some_iff.mp H
          obtain ⟨t106, A150, H⟩ := H
          replace H : (if t106 = (wrap64 (t102 - (ji8))) then ((runes_Mid.f a0 (ji8) t102).bind fun t107 => (if t107.toList = t104.toList then ((oculuslaw13_alive.f k).bind fun t108 => (some t108)) else (none))) else (none)) = some r := H
          have A15 := Aside0.mk A150
          clear A150
          by_cases c16 : t106 = (wrap64 (t102 - (ji8)))
          · rw [if_pos c16] at H
            have c16b0 : (t106 == (wrap64 (t102 - (ji8)))) = true := beq_iff_eq.mpr c16
            have c16b1 : (t106 != (wrap64 (t102 - (ji8)))) = false := bne_eq_false_iff_eq.mpr c16
            clear c16
            replace H := Option.bind_eq_some_iff.mp H
            obtain ⟨t107, A170, H⟩ := H
            replace H : (if t107.toList = t104.toList then ((oculuslaw13_alive.f k).bind fun t108 => (some t108)) else (none)) = some r := H
            have A17 := Aside0.mk A170
            clear A170
            by_cases c18 : t107.toList = t104.toList
            · rw [if_pos c18] at H
              have c18b0 : (t107.toList == t104.toList) = true := beq_iff_eq.mpr c18
              have c18b1 : (t107.toList != t104.toList) = false := bne_eq_false_iff_eq.mpr c18
              clear c18
              replace H := Option.bind_eq_some_iff.mp H
              obtain ⟨t108, A190, H⟩ := H
              replace H : (some t108) = some r := H
              have A19 := Aside0.mk A190
              clear A190
              obtain rfl := Option.some.inj H
              go_enter Try.func7, Try.ntmps7
              go_wp2_with (first | ((with_reducible refine gate_callee (f := 28) rfl ?_); refine goesL_ (some 14) rfl rfl Try.func28 (by kernel_rfl) rfl #[.string a0] rfl (by (try simp only [List.map_toArray, List.map_cons, List.map_nil]); first | done | rfl | (simp only [List.length_drop, List.length_take]; rfl)) ?_; (with_reducible refine (runes_Count.calls a0 t102 _ A6.out).mono ?_); rintro e w20 ⟨rfl, hb⟩; refine ⟨_, rfl, ?_⟩; replace HB := Aside0.mk (below_step (pbx HB) hb); (try clear hb); (try clear hb2); (try clear hk); (try clear hi)) | ((with_reducible refine gate_callee (f := 30) rfl ?_); refine goesL_ (some 21) rfl rfl Try.func30 (by kernel_rfl) rfl #[.string a0, .int .i64 ji8] rfl (by (try simp only [List.map_toArray, List.map_cons, List.map_nil]); first | done | (simp only [hji8]; rfl) | rfl | (simp only [List.length_drop, List.length_take]; rfl)) ?_; (with_reducible refine (runes_Left.calls a0 ji8 t103 _ A9.out).mono ?_); rintro e w21 ⟨rfl, hb⟩; refine ⟨_, rfl, ?_⟩; replace HB := Aside0.mk (below_step (pbx HB) hb); (try clear hb); (try clear hb2); (try clear hk); (try clear hi)) | ((with_reducible refine gate_callee (f := 32) rfl ?_); refine goesL_ (some 26) rfl rfl Try.func32 (by kernel_rfl) rfl #[.string a0, .int .i64 (wrap64 (t102 - (ji8)))] rfl (by (try simp only [List.map_toArray, List.map_cons, List.map_nil]); first | done | (simp only [hji8]; rfl) | rfl | (simp only [List.length_drop, List.length_take]; rfl)) ?_; (with_reducible refine (runes_Right.calls a0 (wrap64 (t102 - (ji8))) t104 _ A10.out).mono ?_); rintro e w22 ⟨rfl, hb⟩; refine ⟨_, rfl, ?_⟩; replace HB := Aside0.mk (below_step (pbx HB) hb); (try clear hb); (try clear hb2); (try clear hk); (try clear hi)) | (go_at_call 28; (with_reducible refine (runes_Count.calls t103 t105 _ A13.out).mono ?_); rintro e w23 ⟨rfl, hb⟩; replace HB := Aside0.mk (below_step (pbx HB) hb); (try clear hb); (try clear hb2); (try clear hk); (try clear hi)) | (go_at_call 28; (with_reducible refine (runes_Count.calls t104 t106 _ A15.out).mono ?_); rintro e w24 ⟨rfl, hb⟩; replace HB := Aside0.mk (below_step (pbx HB) hb); (try clear hb); (try clear hb2); (try clear hk); (try clear hi)) | (go_at_call 34; (with_reducible refine (runes_Mid.calls a0 ji8 t102 t107 _ A17.out).mono ?_); rintro e w25 ⟨rfl, hb⟩; replace HB := Aside0.mk (below_step (pbx HB) hb); (try clear hb); (try clear hb2); (try clear hk); (try clear hi)) | (go_at_call 27; (with_reducible refine (oculuslaw13_alive.calls k  t108 _ A19.out).mono ?_); rintro e w26 ⟨rfl, hb⟩; replace HB := Aside0.mk (below_step (pbx HB) hb); (try clear hb); (try clear hb2); (try clear hk); (try clear hi)))
              go_ret
              exact ⟨by first | rfl | (simp [errW_none, errW_some] <;> rfl) | (simp only [← hji7, ← hji8]; first | rfl | (simp [errW_none, errW_some] <;> rfl)) | (simp [*, errW_none, errW_some] <;> rfl), pbx HB⟩
            · rw [if_neg c18] at H
              exact absurd H (by simp)
          · rw [if_neg c16] at H
            exact absurd H (by simp)
        · rw [if_neg c14] at H
          exact absurd H (by simp)
      · rw [if_neg c12] at H
        exact absurd H (by simp)
    · rw [if_neg c11] at H
      exact absurd H (by simp)

/-- THE ONE PURE STATEMENT of oculuslaw13_RunesSplit: yours. -/
def oculuslaw13_RunesSplit.Pure : Prop := ∀ (a0 : ByteArray) (a1 : Int), a0.size ≤ 140737488351232 → (Lit.int .i64 a1).wf = true → ∃ k, oculuslaw13_RunesSplit.f k a0 a1 = some true
theorem oculuslaw13_RunesSplit.walk (P : oculuslaw13_RunesSplit.Pure) (a0 : ByteArray) (a1 : Int) (w : World) (w0 : a0.size ≤ 140737488351232) (w1 : (Lit.int .i64 a1).wf = true) :
    Calls Try.prog 7 #[.string a0, .int .i64 a1] w fun e w' => e = .returned (.bool true) ∧ Below w.heap.size w w' := by
  obtain ⟨k, h⟩ := P a0 a1 w0 w1
  refine (oculuslaw13_RunesSplit.calls k a0 a1 true w h).mono ?_
  rintro e w' ⟨rfl, hd⟩
  exact ⟨rfl, hd⟩

end Go.Proofs.Ytlchgkoafabapaa.X
/- A general opening of a row's arguments: what a value of a type reads as, as a term of a kind 'Kd', with the bounds that the row's reach gives. -/
set_option linter.unusedVariables false
set_option linter.unusedSimpArgs false
namespace Go.Proofs.Ytlchgkoafabapaa.Opn
open Go.ChangeShapes Go.WideShapes Go.RowKit Go.Proofs.YtlchgkoafabapaaW.PrintWords

/-- Whatever is read at type t is a cell row of some a of kind d that is good. -/
def Opens {α : Type} (P : Program) (t : TypeId) (d : Kd α) (good : α → Prop) : Prop :=
  ∀ {H : Type} {enc : TypeId × Value → H} {w : World} {base : Nat} {spare : Nat → Bool} {held : Bool} {fuel : Nat} {cs : List Value} {x : DataW H × List MemPlace},
    DataW.trod enc P w base spare held fuel t cs = some x → (∀ m ∈ x.1.weights P t, m ≤ reachBytes) → ∃ a, d.K w a cs ∧ good a

theorem Opens.imp {α : Type} {P : Program} {t : TypeId} {d : Kd α} {good good' : α → Prop} (h : Opens P t d good) (hg : ∀ a, good a → good' a) : Opens P t d good' := by
  intro H enc w base spare held fuel cs x hx hw
  obtain ⟨a, ha, hga⟩ := h hx hw
  exact ⟨a, ha, hg a hga⟩

theorem opens_int {P : Program} {t : TypeId} {k : IntKind} (ht : P.underlying t = some (.int k)) : Opens P t (Kd.int k) (fun n => (Lit.int k n).wf = true) := by
  intro H enc w base spare held fuel cs x hx _
  obtain ⟨n, rfl, rfl, hn⟩ := DataW.trod_int ht hx
  exact ⟨n, rfl, hn⟩
theorem opens_bool {P : Program} {t : TypeId} (ht : P.underlying t = some .bool) : Opens P t Kd.bool (fun _ => True) := by
  intro H enc w base spare held fuel cs x hx _
  obtain ⟨n, rfl, rfl⟩ := DataW.trod_bool ht hx
  exact ⟨n, rfl, trivial⟩
theorem opens_string {P : Program} {t : TypeId} (ht : P.underlying t = some .string) : Opens P t Kd.string (fun s => s.size ≤ reachBytes) := by
  intro H enc w base spare held fuel cs x hx hw
  obtain ⟨s, rfl, rfl, _⟩ := DataW.trod_string ht hx
  refine ⟨s, rfl, ?_⟩
  have := hw s.data.toList.length (by simp [DataW.weights])
  simpa using this

theorem weightsAll_mem {H : Type} {P : Program} {e : TypeId} : ∀ {l : List (DataW H)} {d : DataW H}, d ∈ l → ∀ m ∈ d.weights P e, m ∈ DataW.weightsAll P e l
  | d0 :: l, d, hd, m, hm => by
    simp only [DataW.weightsAll, List.mem_append]
    rcases List.mem_cons.1 hd with rfl | hd
    · exact Or.inl hm
    · exact Or.inr (weightsAll_mem hd m hm)
  | [], _, hd, _, _ => by simp at hd

/-- A slice of whatever elements. -/
theorem opens_slice {α : Type} {P : Program} {t e : TypeId} {d : Kd α} {good : α → Prop} (ht : P.underlying t = some (.slice e)) (hc : P.cellsOf e = d.sz) {B : Nat} (hB : P.bytesOf e = B) (z : α) (h : Opens P e d good) :
    Opens P t (Kd.slice e d) (fun xs => (∀ x ∈ xs, good x) ∧ xs.length * B ≤ reachBytes) := by
  intro H enc w base spare held fuel cs x hx hw
  rcases Go.Deep.open_slice ht hx with ⟨rfl, rfl⟩ | ⟨a, len, cap, m, n, D, Pl, rfl, hb, hl, hm, hmm, rfl, hel⟩
  · exact ⟨[], ⟨none, 0, rfl, Nat.le_refl _, rfl, by simp, fun h0 => absurd h0 (by simp)⟩, by simp, by simp⟩
  · have hlm : len ≤ m := by rw [hmm]; split <;> omega
    have hmx : len ≤ 9223372036854775807 := by unfold maxLen at hm; omega
    have hw' : ∀ i, i < len → ∀ q ∈ (D i).weights P e, q ≤ reachBytes := by
      intro i hi q hq
      refine hw q ?_
      simp only [DataW.weights, ht]
      refine List.mem_cons_of_mem _ (List.mem_append.2 (Or.inl ?_))
      exact weightsAll_mem (d := D i) (List.mem_map.2 ⟨i, List.mem_range.2 hi, rfl⟩) q hq
    have hB' : len * B ≤ reachBytes := by
      have h0 := hw ((((List.range len).map D).length + ((List.range (m - len)).map fun j => D (len + j)).length) * P.bytesOf e) (by simp only [DataW.weights, ht]; exact List.mem_cons_self ..)
      rw [hB] at h0
      simp only [List.length_map, List.length_range] at h0
      exact Nat.le_trans (Nat.mul_le_mul_right B (by omega)) h0
    have key : ∀ i, i < len → ∃ y : α × List Value, d.K w y.1 y.2 ∧ good y.1 ∧ w.cells? base (a.add (i * P.cellsOf e)) (P.cellsOf e) = some y.2 := by
      intro i hi
      obtain ⟨cs', h1, h2⟩ := hel i (by omega)
      obtain ⟨y, h3, h4⟩ := h h2 (hw' i hi)
      exact ⟨(y, cs'), h3, h4, h1⟩
    haveI : Inhabited (α × List Value) := ⟨(z, [])⟩
    obtain ⟨F, hF⟩ := Go.Deep.choose_lt key
    refine ⟨(List.range len).map fun i => (F i).1, ⟨some a, cap, by simp, by simpa using hl, by simp, by simpa using hmx, fun h0 => ⟨a, rfl, ?_⟩⟩, ?_, by simpa using hB'⟩
    · intro j p hj
      have hjl : j < len := by
        have := (List.getElem?_eq_some_iff.1 hj).1
        simpa using this
      have hp : p = (F j).1 := by
        rw [List.getElem?_map, List.getElem?_range hjl] at hj
        simpa using hj.symm
      subst hp
      obtain ⟨h1, h2, h3⟩ := hF j hjl
      obtain ⟨_, hlen, hcell⟩ := World.cells?_some h3
      refine ⟨(F j).2, by rw [hlen, hc], h1, fun i u hu => ?_⟩
      have hi : i < P.cellsOf e := by
        have := (List.getElem?_eq_some_iff.1 hu).1
        omega
      have := hcell i hi
      rw [Go.Deep.add_add] at this
      rw [← hc, this, hu]
    · intro x hx
      obtain ⟨i, hi, rfl⟩ := List.mem_map.1 hx
      exact (hF i (List.mem_range.1 hi)).2.1

/-- The fields from one place on. -/
def OpensTail {α : Type} (P : Program) (fs : List Field) (o len : Nat) (d : Kd α) (good : α → Prop) : Prop :=
  ∀ {H : Type} {enc : TypeId × Value → H} {w : World} {base : Nat} {spare : Nat → Bool} {held : Bool} {n : Nat} {cs : List Value} {xs : List (DataW H × List MemPlace)},
    cs.length = len → xs.length = fs.length →
    (∀ (i : Nat) (f : Field), fs[i]? = some f → DataW.trod enc P w base spare held n f.type ((cs.drop f.offset).take (P.cellsOf f.type)) = xs[i]?) →
    (∀ m ∈ DataW.weightsEach P (fs.map (·.type)) (xs.map (·.1)), m ≤ reachBytes) → ∃ a, d.K w a (cs.drop o) ∧ good a

theorem tail_one {α : Type} {P : Program} {f : Field} {o len : Nat} {d : Kd α} {good : α → Prop} (ho : f.offset = o) (hl : len ≤ o + P.cellsOf f.type) (h : Opens P f.type d good) : OpensTail P [f] o len d good := by
  intro H enc w base spare held n cs xs hcs hxs hall hw
  obtain ⟨x, rfl⟩ : ∃ x, xs = [x] := by
    match xs, hxs with
    | [x], _ => exact ⟨x, rfl⟩
  have h0 := hall 0 f rfl
  rw [ho, List.take_of_length_le (by rw [List.length_drop]; omega)] at h0
  exact h h0 (fun m hm => hw m (by simp only [List.map_cons, List.map_nil, DataW.weightsEach, List.mem_append]; exact Or.inl hm))
theorem tail_cons {α β : Type} {P : Program} {f : Field} {fs : List Field} {o o' len : Nat} {a : Kd α} {b : Kd β} {ga : α → Prop} {gb : β → Prop} (ho : f.offset = o) (ho' : o' = o + P.cellsOf f.type)
    (h : Opens P f.type a ga) (ht : OpensTail P fs o' len b gb) : OpensTail P (f :: fs) o len (Kd.pair a b) (fun x => ga x.1 ∧ gb x.2) := by
  intro H enc w base spare held n cs xs hcs hxs hall hw
  obtain ⟨x, xs, rfl⟩ : ∃ x r, xs = x :: r := by
    match xs, hxs with
    | x :: r, _ => exact ⟨x, r, rfl⟩
  have h0 := hall 0 f rfl
  rw [ho] at h0
  obtain ⟨y, hy, hgy⟩ := h h0 (fun m hm => hw m (by simp only [List.map_cons, DataW.weightsEach, List.mem_append]; exact Or.inl hm))
  obtain ⟨z, hz, hgz⟩ := ht (xs := xs) hcs (by simpa using hxs) (fun i g hg => by simpa using hall (i + 1) g (by simpa using hg))
    (fun m hm => hw m (by simp only [List.map_cons, DataW.weightsEach, List.mem_append]; exact Or.inr hm))
  refine ⟨(y, z), ⟨(cs.drop o).take (P.cellsOf f.type), cs.drop o', ?_, hy, hz⟩, hgy, hgz⟩
  rw [ho', ← List.drop_drop, List.take_append_drop]
/-- A struct: its fields one behind the other. -/
theorem opens_struct {α β : Type} {P : Program} {t : TypeId} {fs : Array Field} {len : Nat} {d : Kd α} {good : α → Prop} (ht : P.underlying t = some (.struct fs)) (hl : P.cellsOf t = len) (h : OpensTail P fs.toList 0 len d good) (f : β → α) (g : α → β) (hfg : ∀ a, f (g a) = a) :
    Opens P t (Kd.iso d f) (fun x => good (f x)) := by
  intro H enc w base spare held fuel cs x hx hw
  obtain ⟨xs, n, rfl, rfl, hcs, hxs, hall⟩ := DataW.trod_struct ht hx
  obtain ⟨a, ha, hga⟩ := h (xs := xs) (hcs.trans hl) (by simpa using hxs) (fun i f hf => hall i f (by simpa using hf)) (fun m hm => hw m (by simp only [DataW.weights, ht]; exact hm))
  refine ⟨g a, ?_, by show good (f (g a)); rw [hfg]; exact hga⟩
  show d.K w (f (g a)) cs
  rw [hfg]
  simpa using ha
/-- A struct of one field. -/
theorem Opens.iso {α β : Type} {P : Program} {t : TypeId} {d : Kd α} {good : α → Prop} (h : Opens P t d good) (f : β → α) (g : α → β) (hfg : ∀ a, f (g a) = a) : Opens P t (Kd.iso d f) (fun x => good (f x)) := by
  intro H enc w base spare held fuel cs x hx hw
  obtain ⟨a, ha, hga⟩ := h hx hw
  refine ⟨g a, ?_, by show good (f (g a)); rw [hfg]; exact hga⟩
  show d.K w (f (g a)) cs
  rw [hfg]
  exact ha
/-- Arrays of two, and of three, as structs of so many fields. -/
theorem opens_array2 {α β : Type} {P : Program} {t e : TypeId} {d : Kd α} {good : α → Prop} (ht : P.underlying t = some (.array 2 e)) {len c : Nat} (hl : P.cellsOf t = len) (hc : P.cellsOf e = c) (hlen : len = 2 * c) (h : Opens P e d good) (f : β → α × α) (g : α × α → β) (hfg : ∀ a, f (g a) = a) :
    Opens P t (Kd.iso (Kd.pair d d) f) (fun x => good (f x).1 ∧ good (f x).2) := by
  intro H enc w base spare held fuel cs x hx hw
  obtain ⟨xs, n, rfl, rfl, hcs, hxs, hall⟩ := DataW.trod_array ht hx
  obtain ⟨x0, x1, rfl⟩ : ∃ a b, xs = [a, b] := by
    match xs, hxs with
    | [a, b], _ => exact ⟨a, b, rfl⟩
  have hw' : ∀ m ∈ DataW.weightsAll P e [x0.1, x1.1], m ≤ reachBytes := fun m hm => hw m (by simp only [DataW.weights, ht]; exact hm)
  have h0 := hall 0 (by omega)
  have h1 := hall 1 (by omega)
  rw [hc] at h0 h1
  obtain ⟨a0, k0, g0⟩ := h h0 (fun m hm => hw' m (weightsAll_mem (by simp) m hm))
  obtain ⟨a1, k1, g1⟩ := h h1 (fun m hm => hw' m (weightsAll_mem (by simp) m hm))
  refine ⟨g (a0, a1), ?_, by show good (f (g (a0, a1))).1 ∧ good (f (g (a0, a1))).2; rw [hfg]; exact ⟨g0, g1⟩⟩
  show (Kd.pair d d).K w (f (g (a0, a1))) cs
  rw [hfg]
  refine ⟨_, _, ?_, k0, k1⟩
  rw [Nat.zero_mul, List.drop_zero, Nat.one_mul, List.take_of_length_le (l := cs.drop c) (by rw [List.length_drop]; omega), List.take_append_drop]
theorem opens_array3 {α β : Type} {P : Program} {t e : TypeId} {d : Kd α} {good : α → Prop} (ht : P.underlying t = some (.array 3 e)) {len c : Nat} (hl : P.cellsOf t = len) (hc : P.cellsOf e = c) (hlen : len = 3 * c) (h : Opens P e d good) (f : β → α × α × α) (g : α × α × α → β) (hfg : ∀ a, f (g a) = a) :
    Opens P t (Kd.iso (Kd.pair d (Kd.pair d d)) f) (fun x => good (f x).1 ∧ good (f x).2.1 ∧ good (f x).2.2) := by
  intro H enc w base spare held fuel cs x hx hw
  obtain ⟨xs, n, rfl, rfl, hcs, hxs, hall⟩ := DataW.trod_array ht hx
  obtain ⟨x0, x1, x2, rfl⟩ : ∃ a b c, xs = [a, b, c] := by
    match xs, hxs with
    | [a, b, c], _ => exact ⟨a, b, c, rfl⟩
  have hw' : ∀ m ∈ DataW.weightsAll P e [x0.1, x1.1, x2.1], m ≤ reachBytes := fun m hm => hw m (by simp only [DataW.weights, ht]; exact hm)
  have h0 := hall 0 (by omega)
  have h1 := hall 1 (by omega)
  have h2 := hall 2 (by omega)
  rw [hc] at h0 h1 h2
  obtain ⟨a0, k0, g0⟩ := h h0 (fun m hm => hw' m (weightsAll_mem (by simp) m hm))
  obtain ⟨a1, k1, g1⟩ := h h1 (fun m hm => hw' m (weightsAll_mem (by simp) m hm))
  obtain ⟨a2, k2, g2⟩ := h h2 (fun m hm => hw' m (weightsAll_mem (by simp) m hm))
  refine ⟨g (a0, a1, a2), ?_, by show good (f (g (a0, a1, a2))).1 ∧ good (f (g (a0, a1, a2))).2.1 ∧ good (f (g (a0, a1, a2))).2.2; rw [hfg]; exact ⟨g0, g1, g2⟩⟩
  show (Kd.pair d (Kd.pair d d)).K w (f (g (a0, a1, a2))) cs
  rw [hfg]
  refine ⟨_, _, ?_, k0, _, _, rfl, k1, k2⟩
  rw [Nat.zero_mul, List.drop_zero, Nat.one_mul, List.take_of_length_le (l := cs.drop (2 * c)) (by rw [List.length_drop]; omega)]
  rw [show 2 * c = c + c by omega, ← List.drop_drop, List.take_append_drop, List.take_append_drop]
theorem okWide_array {P : Program} {w : World} {r : Reach} {b0 : Nat} {t e : TypeId} {n : Nat} {v : Value} (hs : P.underlying t = some (.array n e)) (hv : Value.okWide P w r b0 t v) : ∃ cs, v = .agg cs ∧ cs.size = P.cellsOf t := by
  unfold Value.okWide at hv
  rw [hs] at hv
  obtain ⟨cs, h1, h2, _⟩ := hv
  exact ⟨cs, h1, h2⟩
end Go.Proofs.Ytlchgkoafabapaa.Opn
/- The openings of the arguments of the law RunesSplit, and its pure statement. -/
set_option linter.unusedVariables false
namespace Go.Proofs.Ytlchgkoafabapaa.X
open Go.RowKit Go.Proofs.YtlchgkoafabapaaW.PrintWords Go.Proofs.YtlchgkoafabapaaW.PrintLast Go.Proofs.YtlchgkoafabapaaW.PrintMore Go.Proofs.Ytlchgkoafabapaa.Opn
/-- What is left: a statement over numbers and lists alone. -/
def oculuslaw13_RunesSplit.PureX : Prop := ∀ (a0 : ByteArray) (a1 : Int), (a0.size ≤ reachBytes) → ((Lit.int .i64 a1).wf = true) → ∃ k, oculuslaw13_RunesSplit.f k a0 a1 = some true
end Go.Proofs.Ytlchgkoafabapaa.X
/- Plain facts on whole numbers, bits and lists that the pure statements use. -/
set_option linter.unusedVariables false
set_option linter.unusedSimpArgs false
namespace Go.Proofs.Ytlchgkoafabapaa.X
open Go.RowKit Go.Proofs.YtlchgkoafabapaaW.PrintWords Go.Proofs.YtlchgkoafabapaaW.PrintLast Go.Proofs.YtlchgkoafabapaaW.PrintMore

theorem wf_i64 {x : Int} (h : (Lit.int .i64 x).wf = true) : -9223372036854775808 ≤ x ∧ x ≤ 9223372036854775807 := by
  simp only [Lit.wf, IntKind.min, IntKind.max, IntKind.signed, IntKind.bits, Bool.and_eq_true, decide_eq_true_eq, if_true] at h
  omega
theorem wf_u64 {x : Int} (h : (Lit.int .u64 x).wf = true) : 0 ≤ x ∧ x < 18446744073709551616 := by
  simp [Lit.wf, IntKind.min, IntKind.max, IntKind.signed, IntKind.bits] at h
  omega
theorem wf_nat {x : Int} (h : (Lit.int .u64 x).wf = true) : ∃ n : Nat, x = (n : Int) ∧ n < 18446744073709551616 := by
  obtain ⟨h1, h2⟩ := wf_u64 h
  exact ⟨x.toNat, by omega, by omega⟩
theorem w64 {x : Int} (h0 : -9223372036854775808 ≤ x) (h1 : x ≤ 9223372036854775807) : wrap64 x = x := by unfold wrap64; omega
theorem w64s {i n : Nat} (h : i < n) (hn : n ≤ 9223372036854775807) : wrap64 ((i : Int) + 1) = ((i + 1 : Nat) : Int) := by unfold wrap64; omega

/-! Ev: with enough rounds. -/
theorem ev_now {α : Type} (r : α) : Ev (fun _ : Nat => some r) r := Ev.now r
theorem ev_some {α : Type} {g : Nat → Option α} {r : α} (h : ∀ k, g k = some r) : Ev g r := ⟨0, fun k _ => h k⟩
theorem ev_ite {α : Type} {c : Prop} [Decidable c] {f g : Nat → Option α} {r : α} (h1 : c → Ev f r) (h2 : ¬ c → Ev g r) : Ev (fun k => if c then f k else g k) r := by
  by_cases h : c
  · simp only [if_pos h]; exact h1 h
  · simp only [if_neg h]; exact h2 h
theorem ev_pos {α : Type} {c : Prop} [Decidable c] {f g : Nat → Option α} {r : α} (h : c) (h1 : Ev f r) : Ev (fun k => if c then f k else g k) r := by simp only [if_pos h]; exact h1
theorem ev_neg {α : Type} {c : Prop} [Decidable c] {f g : Nat → Option α} {r : α} (h : ¬ c) (h1 : Ev g r) : Ev (fun k => if c then f k else g k) r := by simp only [if_neg h]; exact h1
theorem ev_bind {α β : Type} {g : Nat → Option α} {f : Nat → α → Option β} {a : α} {r : β} (h : Ev g a) (k : Ev (fun n => f n a) r) : Ev (fun n => (g n).bind (f n)) r := Ev.bind h k
theorem ev_bsome {α β : Type} {x : α} {f : Nat → α → Option β} {r : β} (k : Ev (fun n => f n x) r) : Ev (fun n => (some x).bind (f n)) r := k

/-! Bits. -/
theorem mod_pow_succ (x i : Nat) : x % 2 ^ (i + 1) = x % 2 ^ i + 2 ^ i * (x.testBit i).toNat := by
  rw [Nat.pow_succ, Nat.mod_mul, Nat.testBit_eq_decide_div_mod_eq]
  have := Nat.mod_two_eq_zero_or_one (x / 2 ^ i)
  rcases this with h | h <;> simp [h]
theorem and_compl (a b : Nat) (ha : a < 2 ^ 64) (hb : b < 2 ^ 64) : (a &&& (18446744073709551615 - b) = 0) ↔ (a &&& b = a) := by
  have e : 18446744073709551615 - b = 2 ^ 64 - (b + 1) := by omega
  rw [e]
  constructor
  · intro h
    apply Nat.eq_of_testBit_eq
    intro i
    have := congrArg (fun n => Nat.testBit n i) h
    simp only [Nat.testBit_and, Nat.testBit_two_pow_sub_succ hb, Nat.zero_testBit] at this
    rw [Nat.testBit_and]
    by_cases hi : i < 64
    · simp [hi] at this
      cases h1 : a.testBit i <;> simp_all
    · have : a.testBit i = false := Nat.testBit_lt_two_pow (Nat.lt_of_lt_of_le ha (Nat.pow_le_pow_right (by omega) (by omega)))
      simp [this]
  · intro h
    apply Nat.eq_of_testBit_eq
    intro i
    have := congrArg (fun n => Nat.testBit n i) h
    simp only [Nat.testBit_and] at this
    rw [Nat.testBit_and, Nat.testBit_two_pow_sub_succ hb, Nat.zero_testBit]
    cases h1 : a.testBit i <;> simp_all
theorem within_iff (a b : Nat) (ha : a < 18446744073709551616) (hb : b < 18446744073709551616) : (Go.bits .andNot .u64 (a : Int) (b : Int) == 0) = decide (a &&& b = a) := by
  rw [u64_andNot _ _ (by omega) (by omega) (by omega) (by omega)]
  rw [Bool.eq_iff_iff]
  simp only [Int.toNat_natCast, beq_iff_eq, decide_eq_true_eq]
  rw [← and_compl a b ha hb]
  omega
end Go.Proofs.Ytlchgkoafabapaa.X
/- Plain facts on texts as lists of bytes. -/
set_option linter.unusedVariables false
set_option linter.unusedSimpArgs false
namespace Go.Proofs.Ytlchgkoafabapaa.X
open Go.RowKit Go.Proofs.YtlchgkoafabapaaW.PrintWords Go.Proofs.YtlchgkoafabapaaW.PrintLast Go.Proofs.YtlchgkoafabapaaW.PrintMore
/-- A text's bytes; the text of bytes. -/
def by_ (s : ByteArray) : List UInt8 := s.data.toList
def tx (l : List UInt8) : ByteArray := ⟨l.toArray⟩
theorem by_tx (l : List UInt8) : by_ (tx l) = l := by simp [by_, tx]
theorem tx_by (s : ByteArray) : tx (by_ s) = s := by
  obtain ⟨⟨l⟩⟩ := s
  rfl
theorem by_inj {s t : ByteArray} (h : by_ s = by_ t) : s = t := by rw [← tx_by s, ← tx_by t, h]
theorem toList_by (s : ByteArray) : s.toList = by_ s := ByteArray.toList_eq s
theorem size_by (s : ByteArray) : s.size = (by_ s).length := by
  obtain ⟨⟨l⟩⟩ := s
  rfl
theorem size_tx (l : List UInt8) : (tx l).size = l.length := by rw [size_by, by_tx]
theorem toList_inj {s t : ByteArray} : s.toList = t.toList ↔ s = t := by
  rw [toList_by, toList_by]
  exact ⟨by_inj, fun h => by rw [h]⟩
theorem by_extract (s : ByteArray) (a b : Nat) : by_ (s.extract a b) = ((by_ s).drop a).take (b - a) := Go.Lib.extract_data s a b
theorem by_head (s : ByteArray) (b : Nat) : by_ (s.extract 0 b) = (by_ s).take b := by rw [by_extract]; simp
theorem by_tail (s : ByteArray) (a : Nat) : by_ (s.extract a s.size) = (by_ s).drop a := by
  rw [by_extract, List.take_of_length_le]
  rw [List.length_drop, size_by]
  exact Nat.le_refl _
theorem ext_head (s : ByteArray) (b : Nat) : s.extract 0 b = tx ((by_ s).take b) := by_inj (by rw [by_head, by_tx])
theorem ext_tail (s : ByteArray) (a : Nat) : s.extract a s.size = tx ((by_ s).drop a) := by_inj (by rw [by_tail, by_tx])
theorem ext_mid (s : ByteArray) (a b : Nat) : s.extract a b = tx (((by_ s).drop a).take (b - a)) := by_inj (by rw [by_extract, by_tx])
theorem by_append (s t : ByteArray) : by_ (s ++ t) = by_ s ++ by_ t := by
  obtain ⟨⟨l⟩⟩ := s
  obtain ⟨⟨m⟩⟩ := t
  simp [by_, ByteArray.data_append]
theorem tx_append (l m : List UInt8) : tx l ++ tx m = tx (l ++ m) := by_inj (by rw [by_append, by_tx, by_tx, by_tx])
theorem bt_by (s : ByteArray) (i : Nat) (h : i < (by_ s).length) : bt s (i : Int) = ((by_ s)[i].toNat : Int) := by
  obtain ⟨⟨l⟩⟩ := s
  have h' : (i : Int).toNat < (⟨⟨l⟩⟩ : ByteArray).size := by rw [Int.toNat_natCast]; exact h
  unfold bt
  rw [dif_pos h']
  simp only [Int.toNat_natCast]
  rfl
theorem bt_tx (l : List UInt8) (i : Nat) (h : i < l.length) : bt (tx l) (i : Int) = (l[i].toNat : Int) := by
  rw [bt_by (tx l) i (by rw [by_tx]; exact h)]
  simp only [by_tx]
theorem bt_tx0 (c : UInt8) (l : List UInt8) : bt (tx (c :: l)) 0 = (c.toNat : Int) := bt_tx (c :: l) 0 (by simp)
theorem u8_lt (c : UInt8) : c.toNat < 256 := c.toNat_lt
theorem u8_inj {a b : UInt8} (h : a.toNat = b.toNat) : a = b := UInt8.toNat_inj.1 h
end Go.Proofs.Ytlchgkoafabapaa.X
