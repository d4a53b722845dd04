/- Contracts of the functions that the law PolicyReads reaches, and what they answer (a session's own texts, joined; part 1). -/
import Derived.Test.YtbboanfggaknjaaGreatDoorProg
import Derived.Below
import Derived.Deep.Draws
import Derived.Deep.AppendLies
import Derived.Maps.AppendAt
import Derived.OwnWalk
import Derived.Laws.BytesArg
import Derived.Laws.MakeOwn
import Derived.Laws.OwnMore
import Derived.Deep.OwnRows
import Derived.Tactics
import Derived.Lib.ConvBytes
import Derived.Laws.Slices
import Derived.WalkKit
import Derived.KernelRfl
import Derived.RowKit3
import Derived.Deep.LoopGhost
import Derived.Deep.QuietTactic
import Derived.BigQuiet
import Derived.WideLaws
import Derived.Deep.DeepCutAuto
import Derived.Deep.CutBlock
import Derived.Deep.RegionHeld3
import Derived.Laws.Rows
import Derived.Lib.AppendStr
import Derived.ArgAppend
import Derived.Laws.IdiomCopy
import Derived.OrdersHeld
import Derived.Laws.BitsLemmas
import Derived.RowKit
import Derived.Lib.LaidTab
import Derived.Lib.ItoaNum
import Derived.Laws.BitsAllLaws
import Derived.Lib.Strings
import Derived.Lib.IndexBytes
import Derived.Shelf.Strings.Builder1
import Derived.Shelf.Strings.Builder2
import Derived.Shelf.Strings.BuilderF
import Derived.Shelf.Strings.BuilderK
import Derived.Shelf.Utf8.RuneCount
import Derived.Shelf.Strings.Builder2Cap
import Derived.Shelf.Strconv.Itoa0
import Derived.Shelf.Strconv.Itoa1
import Derived.Shelf.LaysM
import Derived.Shelf.Strconv.Itoa2
import Derived.Shelf.Strconv.Itoa3
import Derived.Shelf.Strings.Search1
import Derived.Shelf.Strings.Search2
import Derived.Shelf.Strings.Search3
import Derived.Shelf.Strings.Cut
import Derived.Shelf.Strings.Count
import Derived.Shelf.Strings.Shaped
import Derived.Shelf.Strings.Split
import Derived.Shelf.Strings.SplitShaped
import Derived.Shelf.Unicode.Decode
import Derived.Shelf.Strings.RuneCount
import Derived.Shelf.Strings.Explode
import Derived.Shelf.Unicode.DecodeSlow
import Derived.Shelf.Unicode.DecodeAny
import Derived.Shelf.Strings.BuilderCap
import Derived.Shelf.Strings.SplitCore
import Derived.Lib.SplitLaws
import Derived.Test.YtbboanfggaknjaaGreatDoorBPolicyReads0
set_option maxHeartbeats 8000000
set_option maxRecDepth 100000
/- What holds of a block, or of all that is old, holds where nothing but new blocks and draws came since: found by instances, so that a walk's text need not say how. -/
set_option linter.unusedVariables false
namespace Go.Proofs.YtbboanfggaknjaaGreatDoorW.PrintWords
open Go.RowKit Go.Proofs.YtbboanfggaknjaaGreatDoorW.PrintLast Go.Proofs.YtbboanfggaknjaaGreatDoorW.PrintMore
class Peel (W0 W1 : World) : Prop where
 blk : ∀ (g : Nat) (o : Obj), W0.heap[g]? = some o → W1.heap[g]? = some o
 bel : ∀ w : World, Below w.heap.size w W0 → Below w.heap.size w W1
instance (priority := high) Peel.self (W : World) : Peel W W := ⟨fun _ _ h => h, fun _ h => h⟩
instance Peel.alloc (W0 W1 : World) (o' : Obj) [h : Peel W0 W1] : Peel W0 (W1.alloc o') := ⟨fun g o hk => blk_alloc (h.blk g o hk) o', fun w hb => below_alloc (h.bel w hb) o'⟩
instance Peel.drewN (W0 W1 : World) (n : Nat) [h : Peel W0 W1] : Peel W0 (W1.drewN n) := ⟨fun g o hk => blk_drewN (h.blk g o hk) n, fun w hb => pw_below_drewN (h.bel w hb) n⟩
instance Peel.drew (W0 W1 : World) [h : Peel W0 W1] : Peel W0 W1.drew := ⟨fun g o hk => blk_drew (h.blk g o hk), fun w hb => below_drew1 (h.bel w hb)⟩
theorem pkx {W0 W1 : World} [h : Peel W0 W1] {g : Nat} {o : Obj} (k : Aside0 (W0.heap[g]? = some o)) : W1.heap[g]? = some o := h.blk _ _ k.out
theorem pbx {W0 W1 w : World} [h : Peel W0 W1] (k : Aside0 (Below w.heap.size w W0)) : Below w.heap.size w W1 := h.bel _ k.out
end Go.Proofs.YtbboanfggaknjaaGreatDoorW.PrintWords
namespace Go.Proofs.YtbboanfggaknjaaGreatDoor.X
open Go.RowKit Go.Proofs.YtbboanfggaknjaaGreatDoorW.PrintWords Go.Proofs.YtbboanfggaknjaaGreatDoorW.PrintLast Go.Proofs.YtbboanfggaknjaaGreatDoorW.PrintMore
attribute [local go_sem] max2_int min2_int max_two min_two max_three min_three max_four min_four   -- for this text's walks alone
set_option linter.unusedVariables false
set_option linter.unusedSimpArgs false
def errW : Option Int → Value
 | none => .nilIface
 | some c => .iface 0 (.int .i64 c)
theorem errW_none : errW none = .nilIface := rfl
theorem errW_some (c : Int) : errW (some c) = .iface 0 (.int .i64 c) := rfl
theorem info3 : (Tryz.prog.info? 3).map (fun i => (i.zero, i.size, i.bytes)) = some (some (.int .i64 0), 1, 8) := by kernel_rfl
theorem info9 : (Tryz.prog.info? 9).map (fun i => (i.zero, i.size, i.bytes)) = some (some (.string ⟨#[]⟩), 1, 16) := by kernel_rfl
theorem info62 : (Tryz.prog.info? 62).map (fun i => (i.zero, i.size, i.bytes)) = some (some (.agg #[(.string ⟨#[]⟩), (.int .i64 0), (.int .u64 0)]), 3, 32) := by kernel_rfl
-- the values' own types
structure S39 where
 f0 : Int
 f1 : Int
def z39 : S39 := ⟨(0 : Int), (0 : Int)⟩
def k39 : Kd S39 := Kd.iso (Kd.pair (Kd.int .i64) (Kd.int .i64)) (fun x : S39 => (x.f0, x.f1))
theorem k39_open {w : World} {x : S39} {cs : List Value} (h : k39.K w x cs) : cs = [.int .i64 x.f0, .int .i64 x.f1] := by
 obtain ⟨_, _, rfl, rfl, rfl⟩ := h
 exact rfl
theorem k39_mkM (w : World) (base : Nat) (ok : Nat → Prop) (x : S39)  : k39.M w base ok x [.int .i64 x.f0, .int .i64 x.f1] := ⟨[.int .i64 x.f0], [.int .i64 x.f1], rfl, rfl, rfl⟩
structure S55 where
 f0 : S39
 f1 : S39
def z55 : S55 := ⟨z39, z39⟩
def k55 : Kd S55 := Kd.iso (Kd.pair k39 k39) (fun x : S55 => (x.f0, x.f1))
theorem k55_open {w : World} {x : S55} {cs : List Value} (h : k55.K w x cs) : cs = [.int .i64 x.f0.f0, .int .i64 x.f0.f1, .int .i64 x.f1.f0, .int .i64 x.f1.f1] := by
 obtain ⟨_, _, rfl, s0, s2⟩ := h
 obtain rfl := k39_open s0
 obtain rfl := k39_open s2
 exact rfl
theorem k55_mkM (w : World) (base : Nat) (ok : Nat → Prop) (x : S55)  : k55.M w base ok x [.int .i64 x.f0.f0, .int .i64 x.f0.f1, .int .i64 x.f1.f0, .int .i64 x.f1.f1] := ⟨[.int .i64 x.f0.f0, .int .i64 x.f0.f1], [.int .i64 x.f1.f0, .int .i64 x.f1.f1], rfl, (k39_mkM w base ok x.f0 ), (k39_mkM w base ok x.f1 )⟩
structure S58 where
 f0 : Int
 f1 : Int
def z58 : S58 := ⟨(0 : Int), (0 : Int)⟩
def k58 : Kd S58 := Kd.iso (Kd.pair (Kd.int .i64) (Kd.int .u64)) (fun x : S58 => (x.f0, x.f1))
theorem k58_open {w : World} {x : S58} {cs : List Value} (h : k58.K w x cs) : cs = [.int .i64 x.f0, .int .u64 x.f1] := by
 obtain ⟨_, _, rfl, rfl, rfl⟩ := h
 exact rfl
theorem k58_mkM (w : World) (base : Nat) (ok : Nat → Prop) (x : S58)  : k58.M w base ok x [.int .i64 x.f0, .int .u64 x.f1] := ⟨[.int .i64 x.f0], [.int .u64 x.f1], rfl, rfl, rfl⟩
structure S60 where
 f0 : S55
 f1 : S58
def z60 : S60 := ⟨z55, z58⟩
def k60 : Kd S60 := Kd.iso (Kd.pair k55 k58) (fun x : S60 => (x.f0, x.f1))
theorem k60_open {w : World} {x : S60} {cs : List Value} (h : k60.K w x cs) : cs = [.int .i64 x.f0.f0.f0, .int .i64 x.f0.f0.f1, .int .i64 x.f0.f1.f0, .int .i64 x.f0.f1.f1, .int .i64 x.f1.f0, .int .u64 x.f1.f1] := by
 obtain ⟨_, _, rfl, s0, s4⟩ := h
 obtain rfl := k55_open s0
 obtain rfl := k58_open s4
 exact rfl
theorem k60_mkM (w : World) (base : Nat) (ok : Nat → Prop) (x : S60)  : k60.M w base ok x [.int .i64 x.f0.f0.f0, .int .i64 x.f0.f0.f1, .int .i64 x.f0.f1.f0, .int .i64 x.f0.f1.f1, .int .i64 x.f1.f0, .int .u64 x.f1.f1] := ⟨[.int .i64 x.f0.f0.f0, .int .i64 x.f0.f0.f1, .int .i64 x.f0.f1.f0, .int .i64 x.f0.f1.f1], [.int .i64 x.f1.f0, .int .u64 x.f1.f1], rfl, (k55_mkM w base ok x.f0 ), (k58_mkM w base ok x.f1 )⟩
def rd_T60 (xs : List S60) (i : Int) : S60 := xs.getD i.toNat z60
theorem at_T60 {w : World} {A : Option Addr} {n : Nat} {xs : List S60} (h : Kd.C k60 w A n xs) (i : Int) (h0 : 0 ≤ i) (h1 : i < n) : ∃ ad , A = some ad ∧ w.cell? (ad.add (i.toNat * 6)) = some (.int .i64 (rd_T60 xs i).f0.f0.f0) ∧ w.cell? ⟨(ad.add (i.toNat * 6)).block, (ad.add (i.toNat * 6)).off + 1, none⟩ = some (.int .i64 (rd_T60 xs i).f0.f0.f1) ∧ w.cell? ⟨(ad.add (i.toNat * 6)).block, (ad.add (i.toNat * 6)).off + 2, none⟩ = some (.int .i64 (rd_T60 xs i).f0.f1.f0) ∧ w.cell? ⟨(ad.add (i.toNat * 6)).block, (ad.add (i.toNat * 6)).off + 3, none⟩ = some (.int .i64 (rd_T60 xs i).f0.f1.f1) ∧ w.cell? ⟨(ad.add (i.toNat * 6)).block, (ad.add (i.toNat * 6)).off + 4, none⟩ = some (.int .i64 (rd_T60 xs i).f1.f0) ∧ w.cell? ⟨(ad.add (i.toNat * 6)).block, (ad.add (i.toNat * 6)).off + 5, none⟩ = some (.int .u64 (rd_T60 xs i).f1.f1) := by
 obtain ⟨ad, c, e, _, hK, hc0⟩ := Kd.C_get h z60 i h0 h1
 have hc : ∀ j u, c[j]? = some u → w.cell? (ad.add (i.toNat * 6 + j)) = some u := hc0
 obtain rfl := k60_open hK
 exact ⟨ad, e, hc 0 _ rfl, by rw [← add_field _ _ 1 (by omega)]; exact hc 1 _ rfl, by rw [← add_field _ _ 2 (by omega)]; exact hc 2 _ rfl, by rw [← add_field _ _ 3 (by omega)]; exact hc 3 _ rfl, by rw [← add_field _ _ 4 (by omega)]; exact hc 4 _ rfl, by rw [← add_field _ _ 5 (by omega)]; exact hc 5 _ rfl⟩
structure S62 where
 f0 : ByteArray
 f1 : S58
def z62 : S62 := ⟨(⟨#[]⟩ : ByteArray), z58⟩
def k62 : Kd S62 := Kd.iso (Kd.pair Kd.string k58) (fun x : S62 => (x.f0, x.f1))
theorem k62_open {w : World} {x : S62} {cs : List Value} (h : k62.K w x cs) : cs = [.string x.f0, .int .i64 x.f1.f0, .int .u64 x.f1.f1] := by
 obtain ⟨_, _, rfl, rfl, s1⟩ := h
 obtain rfl := k58_open s1
 exact rfl
theorem k62_mkM (w : World) (base : Nat) (ok : Nat → Prop) (x : S62)  : k62.M w base ok x [.string x.f0, .int .i64 x.f1.f0, .int .u64 x.f1.f1] := ⟨[.string x.f0], [.int .i64 x.f1.f0, .int .u64 x.f1.f1], rfl, rfl, (k58_mkM w base ok x.f1 )⟩
def rd_T62 (xs : List S62) (i : Int) : S62 := xs.getD i.toNat z62
theorem at_T62 {w : World} {A : Option Addr} {n : Nat} {xs : List S62} (h : Kd.C k62 w A n xs) (i : Int) (h0 : 0 ≤ i) (h1 : i < n) : ∃ ad , A = some ad ∧ w.cell? (ad.add (i.toNat * 3)) = some (.string (rd_T62 xs i).f0) ∧ w.cell? ⟨(ad.add (i.toNat * 3)).block, (ad.add (i.toNat * 3)).off + 1, none⟩ = some (.int .i64 (rd_T62 xs i).f1.f0) ∧ w.cell? ⟨(ad.add (i.toNat * 3)).block, (ad.add (i.toNat * 3)).off + 2, none⟩ = some (.int .u64 (rd_T62 xs i).f1.f1) := by
 obtain ⟨ad, c, e, _, hK, hc0⟩ := Kd.C_get h z62 i h0 h1
 have hc : ∀ j u, c[j]? = some u → w.cell? (ad.add (i.toNat * 3 + j)) = some u := hc0
 obtain rfl := k62_open hK
 exact ⟨ad, e, hc 0 _ rfl, by rw [← add_field _ _ 1 (by omega)]; exact hc 1 _ rfl, by rw [← add_field _ _ 2 (by omega)]; exact hc 2 _ rfl⟩
structure S64 where
 f0 : ByteArray
 f1 : S58
 f2 : S58
def z64 : S64 := ⟨(⟨#[]⟩ : ByteArray), z58, z58⟩
def k64 : Kd S64 := Kd.iso (Kd.pair Kd.string (Kd.pair k58 k58)) (fun x : S64 => (x.f0, x.f1, x.f2))
theorem k64_open {w : World} {x : S64} {cs : List Value} (h : k64.K w x cs) : cs = [.string x.f0, .int .i64 x.f1.f0, .int .u64 x.f1.f1, .int .i64 x.f2.f0, .int .u64 x.f2.f1] := by
 obtain ⟨_, _, rfl, rfl, ⟨_, _, rfl, s1, s3⟩⟩ := h
 obtain rfl := k58_open s1
 obtain rfl := k58_open s3
 exact rfl
theorem k64_mkM (w : World) (base : Nat) (ok : Nat → Prop) (x : S64)  : k64.M w base ok x [.string x.f0, .int .i64 x.f1.f0, .int .u64 x.f1.f1, .int .i64 x.f2.f0, .int .u64 x.f2.f1] := ⟨[.string x.f0], [.int .i64 x.f1.f0, .int .u64 x.f1.f1, .int .i64 x.f2.f0, .int .u64 x.f2.f1], rfl, rfl, ⟨[.int .i64 x.f1.f0, .int .u64 x.f1.f1], [.int .i64 x.f2.f0, .int .u64 x.f2.f1], rfl, (k58_mkM w base ok x.f1 ), (k58_mkM w base ok x.f2 )⟩⟩
def rd_T64 (xs : List S64) (i : Int) : S64 := xs.getD i.toNat z64
theorem at_T64 {w : World} {A : Option Addr} {n : Nat} {xs : List S64} (h : Kd.C k64 w A n xs) (i : Int) (h0 : 0 ≤ i) (h1 : i < n) : ∃ ad , A = some ad ∧ w.cell? (ad.add (i.toNat * 5)) = some (.string (rd_T64 xs i).f0) ∧ w.cell? ⟨(ad.add (i.toNat * 5)).block, (ad.add (i.toNat * 5)).off + 1, none⟩ = some (.int .i64 (rd_T64 xs i).f1.f0) ∧ w.cell? ⟨(ad.add (i.toNat * 5)).block, (ad.add (i.toNat * 5)).off + 2, none⟩ = some (.int .u64 (rd_T64 xs i).f1.f1) ∧ w.cell? ⟨(ad.add (i.toNat * 5)).block, (ad.add (i.toNat * 5)).off + 3, none⟩ = some (.int .i64 (rd_T64 xs i).f2.f0) ∧ w.cell? ⟨(ad.add (i.toNat * 5)).block, (ad.add (i.toNat * 5)).off + 4, none⟩ = some (.int .u64 (rd_T64 xs i).f2.f1) := by
 obtain ⟨ad, c, e, _, hK, hc0⟩ := Kd.C_get h z64 i h0 h1
 have hc : ∀ j u, c[j]? = some u → w.cell? (ad.add (i.toNat * 5 + j)) = some u := hc0
 obtain rfl := k64_open hK
 exact ⟨ad, e, hc 0 _ rfl, by rw [← add_field _ _ 1 (by omega)]; exact hc 1 _ rfl, by rw [← add_field _ _ 2 (by omega)]; exact hc 2 _ rfl, by rw [← add_field _ _ 3 (by omega)]; exact hc 3 _ rfl, by rw [← add_field _ _ 4 (by omega)]; exact hc 4 _ rfl⟩
end Go.Proofs.YtbboanfggaknjaaGreatDoor.X
/- The tables that the library reads: a world that holds them, and what follows it. -/
set_option linter.unusedVariables false
namespace Go.Proofs.YtbboanfggaknjaaGreatDoor.X
open Go.RowKit Go.Proofs.YtbboanfggaknjaaGreatDoorW.PrintWords Go.Proofs.YtbboanfggaknjaaGreatDoorW.PrintLast Go.Proofs.YtbboanfggaknjaaGreatDoorW.PrintMore
def bru64 : List Int := [0, 1, 56, 2, 57, 49, 28, 3, 61, 58, 42, 50, 38, 29, 17, 4, 62, 47, 59, 36, 45, 43, 51, 22, 53, 39, 33, 30, 24, 18, 12, 5, 63, 55, 48, 27, 60, 41, 37, 16, 46, 35, 44, 21, 52, 32, 23, 11, 54, 26, 40, 15, 34, 20, 31, 10, 25, 14, 19, 9, 13, 8, 7, 6]
structure Tab (w : World) : Prop where
 pow : Lib.TabIs Tryz.prog w "internal/strconv.uint64pow10" .u64 Lib.pow10Tab
 bru : Lib.TabIs Tryz.prog w "math/bits.deBruijn64tab" .u8 bru64
theorem tabIs_below {w w' : World} {n : String} {k : IntKind} {zs : List Int} (h : Lib.TabIs Tryz.prog w n k zs) (hb : Below w.heap.size w w') : Lib.TabIs Tryz.prog w' n k zs := by
 unfold Lib.TabIs World.var? at *
 obtain ⟨g, hg, h⟩ := Option.bind_eq_some_iff.1 h
 rw [hg, Option.bind_some]
 have hlt : g < w.heap.size := by
  rcases Nat.lt_or_ge g w.heap.size with hh | hh
  ·exact hh
  ·rw [Array.getElem?_eq_none hh] at h; simp at h
 rw [hb.block g hlt]
 exact h
theorem Tab.below {w w' : World} (h : Tab w) (hb : Below w.heap.size w w') : Tab w' := ⟨tabIs_below h.pow hb, tabIs_below h.bru hb⟩
theorem tb_ {w w' : World} (hb : Below w.heap.size w w') (h : Aside0 (Tab w)) : Aside0 (Tab w') := ⟨h.out.below hb⟩
end Go.Proofs.YtbboanfggaknjaaGreatDoor.X
/- Plain facts on whole numbers, bits and lists that the pure statements use. -/
set_option linter.unusedVariables false
set_option linter.unusedSimpArgs false
namespace Go.Proofs.YtbboanfggaknjaaGreatDoor.X
open Go.RowKit Go.Proofs.YtbboanfggaknjaaGreatDoorW.PrintWords Go.Proofs.YtbboanfggaknjaaGreatDoorW.PrintLast Go.Proofs.YtbboanfggaknjaaGreatDoorW.PrintMore
theorem w64 {x : Int} (h0 : -9223372036854775808 ≤ x) (h1 : x ≤ 9223372036854775807) : wrap64 x = x := by unfold wrap64; omega
theorem w64s {i n : Nat} (h : i < n) (hn : n ≤ 9223372036854775807) : wrap64 ((i : Int) + 1) = ((i + 1 : Nat) : Int) := by unfold wrap64; omega
theorem ev_some {α : Type} {g : Nat → Option α} {r : α} (h : ∀ k, g k = some r) : Ev g r := ⟨0, fun k _ => h k⟩
theorem ev_ite {α : Type} {c : Prop} [Decidable c] {f g : Nat → Option α} {r : α} (h1 : c → Ev f r) (h2 : ¬ c → Ev g r) : Ev (fun k => if c then f k else g k) r := by
 by_cases h : c
 ·simp only [if_pos h]; exact h1 h
 ·simp only [if_neg h]; exact h2 h
theorem ev_pos {α : Type} {c : Prop} [Decidable c] {f g : Nat → Option α} {r : α} (h : c) (h1 : Ev f r) : Ev (fun k => if c then f k else g k) r := by simp only [if_pos h]; exact h1
theorem ev_neg {α : Type} {c : Prop} [Decidable c] {f g : Nat → Option α} {r : α} (h : ¬ c) (h1 : Ev g r) : Ev (fun k => if c then f k else g k) r := by simp only [if_neg h]; exact h1
theorem ev_bind {α β : Type} {g : Nat → Option α} {f : Nat → α → Option β} {a : α} {r : β} (h : Ev g a) (k : Ev (fun n => f n a) r) : Ev (fun n => (g n).bind (f n)) r := Ev.bind h k
theorem ev_bsome {α β : Type} {x : α} {f : Nat → α → Option β} {r : β} (k : Ev (fun n => f n x) r) : Ev (fun n => (some x).bind (f n)) r := k
theorem mod_pow_succ (x i : Nat) : x % 2 ^ (i + 1) = x % 2 ^ i + 2 ^ i * (x.testBit i).toNat := by
 rw [Nat.pow_succ, Nat.mod_mul, Nat.testBit_eq_decide_div_mod_eq]
 have := Nat.mod_two_eq_zero_or_one (x / 2 ^ i)
 rcases this with h | h <;> simp [h]
end Go.Proofs.YtbboanfggaknjaaGreatDoor.X
/- Plain facts on texts as lists of bytes. -/
set_option linter.unusedVariables false
set_option linter.unusedSimpArgs false
namespace Go.Proofs.YtbboanfggaknjaaGreatDoor.X
open Go.RowKit Go.Proofs.YtbboanfggaknjaaGreatDoorW.PrintWords Go.Proofs.YtbboanfggaknjaaGreatDoorW.PrintLast Go.Proofs.YtbboanfggaknjaaGreatDoorW.PrintMore
def by_ (s : ByteArray) : List UInt8 := s.data.toList
def tx (l : List UInt8) : ByteArray := ⟨l.toArray⟩
theorem by_tx (l : List UInt8) : by_ (tx l) = l := by simp [by_, tx]
theorem tx_by (s : ByteArray) : tx (by_ s) = s := by
 obtain ⟨⟨l⟩⟩ := s
 rfl
theorem by_inj {s t : ByteArray} (h : by_ s = by_ t) : s = t := by rw [← tx_by s, ← tx_by t, h]
theorem toList_by (s : ByteArray) : s.toList = by_ s := ByteArray.toList_eq s
theorem size_by (s : ByteArray) : s.size = (by_ s).length := by
 obtain ⟨⟨l⟩⟩ := s
 rfl
theorem size_tx (l : List UInt8) : (tx l).size = l.length := by rw [size_by, by_tx]
theorem toList_inj {s t : ByteArray} : s.toList = t.toList ↔ s = t := by
 rw [toList_by, toList_by]
 exact ⟨by_inj, fun h => by rw [h]⟩
theorem by_extract (s : ByteArray) (a b : Nat) : by_ (s.extract a b) = ((by_ s).drop a).take (b - a) := Go.Lib.extract_data s a b
theorem by_head (s : ByteArray) (b : Nat) : by_ (s.extract 0 b) = (by_ s).take b := by rw [by_extract]; simp
theorem by_tail (s : ByteArray) (a : Nat) : by_ (s.extract a s.size) = (by_ s).drop a := by
 rw [by_extract, List.take_of_length_le]
 rw [List.length_drop, size_by]
 exact Nat.le_refl _
theorem ext_head (s : ByteArray) (b : Nat) : s.extract 0 b = tx ((by_ s).take b) := by_inj (by rw [by_head, by_tx])
theorem ext_tail (s : ByteArray) (a : Nat) : s.extract a s.size = tx ((by_ s).drop a) := by_inj (by rw [by_tail, by_tx])
theorem ext_mid (s : ByteArray) (a b : Nat) : s.extract a b = tx (((by_ s).drop a).take (b - a)) := by_inj (by rw [by_extract, by_tx])
theorem by_append (s t : ByteArray) : by_ (s ++ t) = by_ s ++ by_ t := by
 obtain ⟨⟨l⟩⟩ := s
 obtain ⟨⟨m⟩⟩ := t
 simp [by_, ByteArray.data_append]
theorem tx_append (l m : List UInt8) : tx l ++ tx m = tx (l ++ m) := by_inj (by rw [by_append, by_tx, by_tx, by_tx])
theorem bt_by (s : ByteArray) (i : Nat) (h : i < (by_ s).length) : bt s (i : Int) = ((by_ s)[i].toNat : Int) := by
 obtain ⟨⟨l⟩⟩ := s
 have h' : (i : Int).toNat < (⟨⟨l⟩⟩ : ByteArray).size := by rw [Int.toNat_natCast]; exact h
 unfold bt
 rw [dif_pos h']
 simp only [Int.toNat_natCast]
 rfl
theorem bt_tx (l : List UInt8) (i : Nat) (h : i < l.length) : bt (tx l) (i : Int) = (l[i].toNat : Int) := by
 rw [bt_by (tx l) i (by rw [by_tx]; exact h)]
 simp only [by_tx]
theorem bt_tx0 (c : UInt8) (l : List UInt8) : bt (tx (c :: l)) 0 = (c.toNat : Int) := bt_tx (c :: l) 0 (by simp)
theorem u8_lt (c : UInt8) : c.toNat < 256 := c.toNat_lt
theorem u8_inj {a b : UInt8} (h : a.toNat = b.toNat) : a = b := UInt8.toNat_inj.1 h
end Go.Proofs.YtbboanfggaknjaaGreatDoor.X
namespace Go.Proofs.YtbboanfggaknjaaGreatDoor.X
open Go.RowKit Go.Proofs.YtbboanfggaknjaaGreatDoorW.PrintWords
abbrev T_ : Bool := true
abbrev F_ : Bool := false
theorem hl_ {W0 W1 : World} [Peel W0 W1] {g gb : Nat} {o : Obj} (k : Aside0 (W0.heap[g]? = some o)) (hg : gb = W1.heap.size) : Aside0 (g ≠ gb) := ⟨by rw [hg]; exact Nat.ne_of_lt (blk_lt (pkx k))⟩
theorem hr_ {W0 W1 : World} [Peel W0 W1] {g gb : Nat} {o : Obj} (k : Aside0 (W0.heap[g]? = some o)) (hg : gb = W1.heap.size) : Aside0 (gb ≠ g) := ⟨by rw [hg]; exact Nat.ne_of_gt (blk_lt (pkx k))⟩
theorem hs_ {W0 W1 w : World} [Peel W0 W1] {gb : Nat} (k : Aside0 (Below w.heap.size w W0)) (hg : gb = W1.heap.size) : Aside0 (w.heap.size ≤ gb) := ⟨by rw [hg]; exact below_size (pbx k)⟩
abbrev T : Bool := true
abbrev F : Bool := false
def m_ : Nat → Nat → List Bool
  | 0, _ => []
  | n + 1, x => (x % 2 == 1) :: m_ n (x / 2)
theorem bb_ {W0 W1 W2 : World} [h : Peel W0 W1] {g : Nat} {o : Obj} (k : Aside0 (W0.heap[g]? = some o)) (hb : Below W1.heap.size W1 W2) : Aside0 (W2.heap[g]? = some o) := Aside0.mk (blk_below (pkx k) hb)
theorem bs_ {W0 W1 W2 w : World} [h : Peel W0 W1] (k : Aside0 (Below w.heap.size w W0)) (hb : Below W1.heap.size W1 W2) : Aside0 (Below w.heap.size w W2) := Aside0.mk (below_step (pbx k) hb)
theorem bc_ {w : World} {g : Nat} {t : TypeId} {cs : Array Value} {v : Value} (h : Aside0 (w.heap[g]? = some (.cells cs t (0, 0)))) (i : Nat) (e : cs[i]? = some v) : w.cell? ⟨g, i, none⟩ = some v := (blk_cell h.out i).trans e
theorem q_ : (∀ (a : Act) (v : Value), a.put none v = a) ∧ (∀ (a : Act) (t : Tmp) (v : Value), a.put (some t) v = { a with tmps := a.tmps.setIfInBounds t v }) ∧ (∀ (l : List Value) (i : Nat) (v : Value), l.toArray.setIfInBounds i v = (l.set i v).toArray) ∧ (∀ (a b : Value) (l : List Value), (a :: l).set 0 b = b :: l) ∧ (∀ (a b : Value) (l : List Value) (n : Nat), (a :: l).set (n + 1) b = a :: l.set n b) := ⟨fun _ _ => rfl, fun _ _ _ => rfl, fun _ _ _ => List.setIfInBounds_toArray .., fun _ _ _ => rfl, fun _ _ _ _ => rfl⟩
end Go.Proofs.YtbboanfggaknjaaGreatDoor.X
namespace Go.Proofs.YtbboanfggaknjaaGreatDoor.X
open Go.RowKit Go.Proofs.YtbboanfggaknjaaGreatDoorW.PrintWords Go.Proofs.YtbboanfggaknjaaGreatDoorW.PrintLast Go.Proofs.YtbboanfggaknjaaGreatDoorW.PrintMore
class PO (W0 : outParam World) (W1 : World) : Prop where
  of : ∀ (g : Nat) (o : Obj), W0.heap[g]? = some o → W1.heap[g]? = some o
instance (priority := low) PO.self (W : World) : PO W W := ⟨fun _ _ h => h⟩
instance PO.alloc (W0 W1 : World) (o9 : Obj) [h : PO W0 W1] : PO W0 (W1.alloc o9) := ⟨fun g o k => blk_alloc (h.of g o k) o9⟩
instance PO.drewN (W0 W1 : World) (n : Nat) [h : PO W0 W1] : PO W0 (W1.drewN n) := ⟨fun g o k => blk_drewN (h.of g o k) n⟩
instance PO.drew (W0 W1 : World) [h : PO W0 W1] : PO W0 W1.drew := ⟨fun g o k => blk_drew (h.of g o k)⟩
theorem pf_ {W W1 : World} {g : Nat} {cs : Array Value} {t : TypeId} {p : Addr} {v : Value} [h : PO (W.setCell p v) W1] (k : W.heap[g]? = some (.cells cs t (0, 0))) (hne : g ≠ p.block) : W1.heap[g]? = some (.cells cs t (0, 0)) := h.of _ _ (blk_far k hne v)
theorem pp_ {W W1 : World} {g : Nat} {cs cs2 : Array Value} {t : TypeId} {v : Value} (i : Nat) [h : PO (W.setCell ⟨g, i, none⟩ v) W1] (k : W.heap[g]? = some (.cells cs t (0, 0))) (e : cs.setIfInBounds i v = cs2) : W1.heap[g]? = some (.cells cs2 t (0, 0)) := h.of _ _ (blk_put k i v e)
theorem gL_ {P : Program} {ops : Array Oper} {Q : Exit → Act → World → Prop} {rest : List Oper} {oi : Oper} {a : Act} {w : World} (N : Option Tmp) (hd : oi.dst = N) (hg : oi.guard = none) {f : FuncId} {fn : Func} {asx : Array Operand} {ts : Array TypeId} (hf : P.funcs[f]? = some fn) (hb : fn.body.isSome = true) (args : Array Value) (hop : oi.op = .call { callee := .value (.func f), args := asx, argTypes := ts })
    (h : Calls P f args w fun e w9 => ∃ v, e = .returned v ∧ wpList P ops Q rest (a.put N v) w9) (hname : (fn.name == "runtime.NumGoroutine") = false := by kernel_rfl) (hargs : asx.map a.eval = args := by (try simp only [List.map_toArray, List.map_cons, List.map_nil]); first | done | rfl | (simp only [List.length_drop, List.length_take]; rfl)) : wpList P ops Q (oi :: rest) a w := goesL_ N hd hg hf hname hb args hop hargs h
theorem be_ {P : Program} {ops : Array Oper} {Q : Exit → Act → World → Prop} {rest : List Oper} {o : Oper} {a : Act} {W : World} {N : Tmp} {cs : Array Value} {t : TypeId} (h : ∀ g, g = W.heap.size → ∀ w1, w1.heap[g]? = some (.cells cs t (0, 0)) → Below W.heap.size W w1 → wpList P ops Q rest (a.put o.dst (.pointer (some ⟨g, 0, none⟩))) w1) (hgd : o.guard = none := by rfl) (hd : o.dst = some N := by rfl) (hrun : (execOp a.eval o).run P W = .ok (.value (.pointer (some ⟨W.heap.size, 0, none⟩))) (W.alloc (.cells cs t (0, 0))) := by first | (go_simp; done) | (go_simp; rfl)) : wpList P ops Q (o :: rest) a W := box_event hgd hd hrun h
end Go.Proofs.YtbboanfggaknjaaGreatDoor.X
namespace Go.Proofs.YtbboanfggaknjaaGreatDoor.X
open Go.RowKit Go.Proofs.YtbboanfggaknjaaGreatDoorW.PrintWords Go.Proofs.YtbboanfggaknjaaGreatDoorW.PrintLast Go.Proofs.YtbboanfggaknjaaGreatDoorW.PrintMore
theorem z2_ {w : World} {g : Nat} {t : TypeId} {a0 a1 : Value} (h : Aside0 (w.heap[g]? = some (.cells #[a0, a1] t (0, 0)))) : w.cell? ⟨g, 0, none⟩ = some a0 ∧ w.cell? ⟨g, 1, none⟩ = some a1 ∧ w.frozen? ⟨g, 0, none⟩ = false ∧ w.frozen? ⟨g, 1, none⟩ = false := ⟨bc_ h 0 rfl, bc_ h 1 rfl, blk_frozen h.out 0, blk_frozen h.out 1⟩
theorem z3_ {w : World} {g : Nat} {t : TypeId} {a0 a1 a2 : Value} (h : Aside0 (w.heap[g]? = some (.cells #[a0, a1, a2] t (0, 0)))) : w.cell? ⟨g, 0, none⟩ = some a0 ∧ w.cell? ⟨g, 1, none⟩ = some a1 ∧ w.cell? ⟨g, 2, none⟩ = some a2 ∧ w.frozen? ⟨g, 0, none⟩ = false ∧ w.frozen? ⟨g, 1, none⟩ = false ∧ w.frozen? ⟨g, 2, none⟩ = false := ⟨bc_ h 0 rfl, bc_ h 1 rfl, bc_ h 2 rfl, blk_frozen h.out 0, blk_frozen h.out 1, blk_frozen h.out 2⟩
theorem z4_ {w : World} {g : Nat} {t : TypeId} {a0 a1 a2 a3 : Value} (h : Aside0 (w.heap[g]? = some (.cells #[a0, a1, a2, a3] t (0, 0)))) : w.cell? ⟨g, 0, none⟩ = some a0 ∧ w.cell? ⟨g, 1, none⟩ = some a1 ∧ w.cell? ⟨g, 2, none⟩ = some a2 ∧ w.cell? ⟨g, 3, none⟩ = some a3 ∧ w.frozen? ⟨g, 0, none⟩ = false ∧ w.frozen? ⟨g, 1, none⟩ = false ∧ w.frozen? ⟨g, 2, none⟩ = false ∧ w.frozen? ⟨g, 3, none⟩ = false := ⟨bc_ h 0 rfl, bc_ h 1 rfl, bc_ h 2 rfl, bc_ h 3 rfl, blk_frozen h.out 0, blk_frozen h.out 1, blk_frozen h.out 2, blk_frozen h.out 3⟩
theorem z5_ {w : World} {g : Nat} {t : TypeId} {a0 a1 a2 a3 a4 : Value} (h : Aside0 (w.heap[g]? = some (.cells #[a0, a1, a2, a3, a4] t (0, 0)))) : w.cell? ⟨g, 0, none⟩ = some a0 ∧ w.cell? ⟨g, 1, none⟩ = some a1 ∧ w.cell? ⟨g, 2, none⟩ = some a2 ∧ w.cell? ⟨g, 3, none⟩ = some a3 ∧ w.cell? ⟨g, 4, none⟩ = some a4 ∧ w.frozen? ⟨g, 0, none⟩ = false ∧ w.frozen? ⟨g, 1, none⟩ = false ∧ w.frozen? ⟨g, 2, none⟩ = false ∧ w.frozen? ⟨g, 3, none⟩ = false ∧ w.frozen? ⟨g, 4, none⟩ = false := ⟨bc_ h 0 rfl, bc_ h 1 rfl, bc_ h 2 rfl, bc_ h 3 rfl, bc_ h 4 rfl, blk_frozen h.out 0, blk_frozen h.out 1, blk_frozen h.out 2, blk_frozen h.out 3, blk_frozen h.out 4⟩
theorem z6_ {w : World} {g : Nat} {t : TypeId} {a0 a1 a2 a3 a4 a5 : Value} (h : Aside0 (w.heap[g]? = some (.cells #[a0, a1, a2, a3, a4, a5] t (0, 0)))) : w.cell? ⟨g, 0, none⟩ = some a0 ∧ w.cell? ⟨g, 1, none⟩ = some a1 ∧ w.cell? ⟨g, 2, none⟩ = some a2 ∧ w.cell? ⟨g, 3, none⟩ = some a3 ∧ w.cell? ⟨g, 4, none⟩ = some a4 ∧ w.cell? ⟨g, 5, none⟩ = some a5 ∧ w.frozen? ⟨g, 0, none⟩ = false ∧ w.frozen? ⟨g, 1, none⟩ = false ∧ w.frozen? ⟨g, 2, none⟩ = false ∧ w.frozen? ⟨g, 3, none⟩ = false ∧ w.frozen? ⟨g, 4, none⟩ = false ∧ w.frozen? ⟨g, 5, none⟩ = false := ⟨bc_ h 0 rfl, bc_ h 1 rfl, bc_ h 2 rfl, bc_ h 3 rfl, bc_ h 4 rfl, bc_ h 5 rfl, blk_frozen h.out 0, blk_frozen h.out 1, blk_frozen h.out 2, blk_frozen h.out 3, blk_frozen h.out 4, blk_frozen h.out 5⟩
theorem e1_ {α : Type} [BEq α] [LawfulBEq α] {a b : α} (h : a = b) : (a == b) = true ∧ (a != b) = false := ⟨beq_iff_eq.mpr h, bne_eq_false_iff_eq.mpr h⟩
theorem e0_ {α : Type} [BEq α] [LawfulBEq α] {a b : α} (h : ¬ a = b) : (a == b) = false ∧ (a != b) = true := ⟨beq_eq_false_iff_ne.mpr h, bne_iff_ne.mpr h⟩
theorem bo_ {α β : Type} {x : Option α} {f : α → Option β} {r : β} (h : x.bind f = some r) : ∃ t, Aside0 (x = some t) ∧ f t = some r := by obtain ⟨t, a, b⟩ := Option.bind_eq_some_iff.mp h; exact ⟨t, ⟨a⟩, b⟩
theorem it_ {α : Type} {c : Prop} [i : Decidable c] {a b r : α} (h : (if c then a else b) = r) (hc : c := by first | rfl | trivial) : a = r := by rw [if_pos hc] at h; exact h
theorem ie_ {α : Type} {c : Prop} [i : Decidable c] {a b r : α} (h : (if c then a else b) = r) (hc : ¬ c := by decide) : b = r := by rw [if_neg hc] at h; exact h
theorem le_ {a b : Nat} (h : a ≤ b := by first | omega | exact Nat.le_refl _) : Aside0 (a ≤ b) := ⟨h⟩
theorem sq_ {p : Prop} (h : p := by first | rfl | (simp; done) | (simp [*]; done)) : p := h
theorem fi_ {p q : Prop} (h : q) (k : p := by first | rfl | (simp [errW_none, errW_some] <;> rfl) | (simp [*, errW_none, errW_some] <;> rfl)) : p ∧ q := ⟨k, h⟩
theorem A_ {p : Prop} (h : p) : Aside0 p := ⟨h⟩
theorem ao_ {md : _} {ops : _} {T : _} {l l' : Array Bool} {i : Nat} (hT : Aside0 (rtab md ops = T)) (h : anyT T l.toList l'.toList i = true := by kernel_rfl) : anyB md ops l l' i = true := any_of hT.out h
theorem oo_ {md : _} {ops : _} {T : _} {l l' : Array Bool} {i : Nat} (hT : Aside0 (rtab md ops = T)) (h : (readyT T.2 l.toList == [i] && l.toList.set i true == l'.toList) = true := by kernel_rfl) : readyB md ops l l' i = true := one_of hT.out h
theorem tw_ {md : _} {ops : _} {T : _} {ds : _} {B : List Nat} {l l' : Array Bool} {i : Nat} (hT : Aside0 (rtab md ops = T)) (hB : Aside0 (waitsOk T.2 B = true)) (h : takeW T B ds l.toList l'.toList i = true := by kernel_rfl) : takeB md ops ds l l' i = true := take_ofW hT.out hB.out h
theorem as_ {p : Prop} (h : p := by first | (with_reducible assumption) | assumption) : p := h
theorem mo_ {p : Prop} (h : p := by with_reducible repeat' first | apply ih0 | apply ih1 | apply ih2 | apply ih3 | apply ih4 | apply ih5 | apply ih6 | apply ih7 | apply ih8 | apply ih9 | apply m0 | apply m1 | apply m2 | apply m3 | apply m4 | apply m5 | apply m6 | apply m7 | apply m8 | apply m9 | exact LeO.refl _ | exact LeO.none _ | refine LeO.ite ?_ ?_ | refine LeO.bind ?_ (fun _ => ?_)) : p := h
theorem bl_ {p : Prop} (h : p := by repeat (first | (with_reducible first | exact HB.out | apply below_alloc | apply pw_below_drewN | apply below_drew1) | (with_reducible refine below_set ?_ ?_; rotate_left; exact Aside0.out (by assumption)) | exact HB.out)) : p := h
theorem ha_ {p : Prop} (h : p := by (try simp only [List.map_toArray, List.map_cons, List.map_nil]); first | done | rfl | (simp only [List.length_drop, List.length_take]; rfl)) : p := h
theorem gd_ {P : Program} {ops : Array Oper} {Q : Exit → Act → World → Prop} {o : Oper} {rest : List Oper} {a : Act} {W : World} (N : Tmp) (h : wpList P ops Q (o :: rest) a W) (_hd : o.dst = some N := by rfl) : wpList P ops Q (o :: rest) a W := h
theorem dr_ {p : Prop} (h : p := by repeat (first | exact Drawn0.refl _ | apply Drawn0.step)) : p := h
inductive Ch : World → World → Prop
  | self (W : World) : Ch W W
  | alloc {W0 W1 : World} (o : Obj) : Ch W0 W1 → Ch W0 (W1.alloc o)
  | drewN {W0 W1 : World} (n : Nat) : Ch W0 W1 → Ch W0 (W1.drewN n)
  | drew {W0 W1 : World} : Ch W0 W1 → Ch W0 W1.drew
class CH (W0 : outParam World) (W1 : World) : Prop where
  c : Ch W0 W1
instance (priority := low) CH.self (W : World) : CH W W := ⟨.self W⟩
instance CH.alloc (W0 W1 : World) (o : Obj) [h : CH W0 W1] : CH W0 (W1.alloc o) := ⟨.alloc o h.c⟩
instance CH.drewN (W0 W1 : World) (n : Nat) [h : CH W0 W1] : CH W0 (W1.drewN n) := ⟨.drewN n h.c⟩
instance CH.drew (W0 W1 : World) [h : CH W0 W1] : CH W0 W1.drew := ⟨.drew h.c⟩
theorem ra_ {α : Type} {d : Kd α} {e : Nat} {W0 W1 : World} {base : Nat} {ok : Nat → Prop} {v : Value} {xs : List α} [c : CH W0 W1] (h : Kd.R d e W0 base ok v xs) : Kd.R d e W1 base ok v xs := by
  have := c.c; clear c; induction this with
  | self => exact h
  | alloc o _ ih => exact Kd.R_alloc ih o
  | drewN n _ ih => exact Kd.R_drewN ih n
  | drew _ ih => exact Kd.R_drew ih
theorem ca_ {α : Type} {d : Kd α} {W0 W1 : World} {A : Option Addr} {n : Nat} {xs : List α} [c : CH W0 W1] (h : Kd.C d W0 A n xs) : Kd.C d W1 A n xs := by
  have := c.c; clear c; induction this with
  | self => exact h
  | alloc o _ ih => exact Kd.C_alloc ih o
  | drewN n _ ih => exact Kd.C_drewN ih n
  | drew _ ih => exact Kd.C_drew ih
end Go.Proofs.YtbboanfggaknjaaGreatDoor.X
namespace Go.Proofs.YtbboanfggaknjaaGreatDoor.X
open Go.RowKit Go.Proofs.YtbboanfggaknjaaGreatDoorW.PrintWords Go.Proofs.YtbboanfggaknjaaGreatDoorW.PrintLast Go.Proofs.YtbboanfggaknjaaGreatDoorW.PrintMore
attribute [local go_sem] max2_int min2_int max_two min_two max_three min_three max_four min_four
set_option linter.unusedVariables false
set_option linter.unusedSimpArgs false
mutual
def addr_Number.j0 : Nat → ByteArray → Bool → Option (Int × Bool)
 | 0, _, _ => none
 | k + 1, x0, x18 => if x18 = true then (some (0, false)) else (addr_Number.l0 k x0 0 (x0.size : Int) 0)
def addr_Number.l0 : Nat → ByteArray → Int → Int → Int → Option (Int × Bool)
 | 0, _, _, _, _ => none
 | k + 1, x0, x4, x20, x21 => if x21 < x20 then (if 0 ≤ x21 then (if x21 < (x0.size : Int) then (if (bt x0 x21) < 48 then (some (0, false)) else (if (bt x0 x21) > 57 then (some (0, false)) else (addr_Number.l0 k x0 (wrap64 ((wrap64 (x4 * 10)) + (((bt x0 x21) - 48) % 256))) x20 (wrap64 (x21 + 1))))) else (none)) else (none)) else (some (wrap64 (x4 - 1), true))
end
def addr_Number.f (k : Nat) (a0 : ByteArray) : Option (Int × Bool) := if (a0.size : Int) < 1 then (addr_Number.j0 k a0 true) else (if (a0.size : Int) > 3 then (addr_Number.j0 k a0 true) else (if 0 < (a0.size : Int) then (addr_Number.j0 k a0 ((bt a0 0) == 48)) else (none)))
theorem addr_Number.calls (k : Nat) (a0 : ByteArray) (r1 : Int) (r2 : Bool) (w : World) (h : addr_Number.f k a0 = some (r1, r2)) :
  Calls Tryz.prog 26 #[.string a0] w fun e w' => e = .returned (.tuple #[.int .i64 r1, .bool r2]) ∧ Drawn0 w w' := by
 have H : (if (a0.size : Int) < 1 then (addr_Number.j0 k a0 true) else (if (a0.size : Int) > 3 then (addr_Number.j0 k a0 true) else (if 0 < (a0.size : Int) then (addr_Number.j0 k a0 ((bt a0 0) == 48)) else (none)))) = some (r1, r2) := h
 clear h; have HC2 := A_ H; clear H
 go_enter Tryz.func26, Tryz.ntmps26
 go_upto_region 1 with (fail)
 go_cut [18] (fun v18 wc => ∃ (kq : Nat) (x18_1 : Bool), v18 = .bool x18_1 ∧ Aside0 (addr_Number.j0 kq a0 x18_1 = some (r1, r2)) ∧ Aside0 (kq ≤ k) ∧ Drawn0 w wc)
 case first =>
  have H := HC2.out; clear HC2
  by_cases c3 : (a0.size : Int) < 1
  ·rw [if_pos c3] at H; have c3b0 := decide_eq_true c3; have c3b1 : decide (a0.size < 1) = true := decide_eq_true (by omega); clear c3; (first | rw [c3b0] | (simp only [i64_w, i32_w]; rw [c3b0]) | skip)
   have H' := A_ H
   clear H
   go_wp2
   go_meet
   case rel => exact ⟨_, (true), sq_, H', le_, dr_⟩
  ·rw [if_neg c3] at H; have c3b0 := decide_eq_false c3; have c3b1 : decide (a0.size < 1) = false := decide_eq_false (by omega); clear c3; (first | rw [c3b0] | (simp only [i64_w, i32_w]; rw [c3b0]) | skip)
   by_cases c4 : (a0.size : Int) > 3
   ·rw [if_pos c4] at H; have c4b0 := decide_eq_true c4; have c4b1 : decide (3 < a0.size) = true := decide_eq_true (by omega); clear c4
    have H' := A_ H
    clear H
    go_wp2
    go_meet
    case rel => exact ⟨_, (true), sq_, H', le_, dr_⟩
   ·rw [if_neg c4] at H; have c4b0 := decide_eq_false c4; have c4b1 : decide (3 < a0.size) = false := decide_eq_false (by omega); clear c4
    by_cases c5 : 0 < (a0.size : Int)
    ·rw [if_pos c5] at H; have c5b0 := decide_eq_true c5; have c5b1 : decide (0 < a0.size) = true := decide_eq_true (by omega); clear c5
     have H' := A_ H
     clear H
     have p6 : 0 ≤ (0 : Int) := (by omega)
     have q6 : 0 < a0.size := (by have : (0 : Int) < (a0.size : Int) := of_decide_eq_true as_; omega)
     have hx6 : ∀ h : 0 < a0.size, ((a0[0]'h).toNat : Int) = bt a0 0 := bt_at a0 0
     clear p6; have qi6 : (0 < (a0.size : Int)) = True := eq_true (of_decide_eq_true as_); replace q6 := eq_true q6
     go_wp2
     go_meet
     case rel => exact ⟨_, (((bt a0 0) == 48)), sq_, H', le_, dr_⟩
    ·rw [if_neg c5] at H
     exact absurd H (by simp)
 case rest =>
  clear HC2; obtain ⟨kq, x18_1, rfl, HA, HJ1, ⟨mc1, rfl⟩⟩ := hcut
  cases kq with
  | zero => exact absurd HA.out (by simp [addr_Number.j0])
  | succ kj1 =>
   have H := HA.out; clear HA
   simp only [addr_Number.j0] at H
   by_cases c7 : x18_1 = true
   ·subst c7
    replace H := it_ H
    simp only [Option.some.injEq, Prod.mk.injEq] at H
    obtain ⟨rfl, rfl⟩ := H
    go_wp2
    go_ret2
    exact ⟨by first | rfl | (simp; done) | (simp [*]; done), dr_⟩
   ·replace c7 := Bool.eq_false_iff.mpr c7; subst c7
    replace H := ie_ H
    have H' := A_ H
    clear H
    go_wp2
    go_loopg [4, 21] kj1 (fun kq v4 v21 w' => ∃ (x4_2 : Int) (x21_2 : Int), v4 = .int .i64 x4_2 ∧ v21 = .int .i64 x21_2 ∧ Aside0 (addr_Number.l0 kq a0 x4_2 (a0.size : Int) x21_2 = some (r1, r2)) ∧ Aside0 (kq ≤ kj1) ∧ Drawn0 w w')
    case atStart => exact ⟨(0), (0), sq_, sq_, H', ⟨Nat.le_refl _⟩, dr_⟩
    case round =>
     clear H'; (try clear c7); obtain ⟨x4_2, x21_2, rfl, rfl, HA, HK2, ⟨m2, rfl⟩⟩ := hrel
     cases gk with
     | zero => exact absurd HA.out (by simp [addr_Number.l0])
     | succ k2 =>
      have H := HA.out; clear HA
      simp only [addr_Number.l0] at H
      by_cases c8 : x21_2 < (a0.size : Int)
      ·rw [if_pos c8] at H; have c8b0 := decide_eq_true c8; clear c8
       by_cases c9 : 0 ≤ x21_2
       ·rw [if_pos c9] at H; have c9b0 := decide_eq_true c9; clear c9
        by_cases c10 : x21_2 < (a0.size : Int)
        ·rw [if_pos c10] at H; have c10b0 := decide_eq_true c10; clear c10
         by_cases c12 : (bt a0 x21_2) < 48
         ·rw [if_pos c12] at H; have c12b0 := decide_eq_true c12; clear c12
          simp only [Option.some.injEq, Prod.mk.injEq] at H
          obtain ⟨rfl, rfl⟩ := H
          have p11 : 0 ≤ (x21_2 : Int) := of_decide_eq_true as_
          have q11 : x21_2 < (a0.size : Int) := of_decide_eq_true as_
          have hx11 := bt_at a0 x21_2; replace p11 := eq_true p11; replace q11 := eq_true q11
          go_wp2
          go_ret2
          exact ⟨by first | rfl | (simp; done) | (simp [*]; done), dr_⟩
         ·rw [if_neg c12] at H; have c12b0 := decide_eq_false c12; clear c12
          by_cases c14 : (bt a0 x21_2) > 57
          ·rw [if_pos c14] at H; have c14b0 := decide_eq_true c14; clear c14
           simp only [Option.some.injEq, Prod.mk.injEq] at H
           obtain ⟨rfl, rfl⟩ := H
           have p11 : 0 ≤ (x21_2 : Int) := of_decide_eq_true as_
           have q11 : x21_2 < (a0.size : Int) := of_decide_eq_true as_
           have hx11 := bt_at a0 x21_2; replace p11 := eq_true p11; replace q11 := eq_true q11
           have p13 : 0 ≤ (x21_2 : Int) := of_decide_eq_true as_
           have q13 : x21_2 < (a0.size : Int) := of_decide_eq_true as_
           have hx13 := bt_at a0 x21_2; replace p13 := eq_true p13; replace q13 := eq_true q13
           go_wp2
           go_ret2
           exact ⟨by first | rfl | (simp; done) | (simp [*]; done), dr_⟩
          ·rw [if_neg c14] at H; have c14b0 := decide_eq_false c14; clear c14
           have H' := A_ H
           clear H
           have p11 : 0 ≤ (x21_2 : Int) := of_decide_eq_true as_
           have q11 : x21_2 < (a0.size : Int) := of_decide_eq_true as_
           have hx11 := bt_at a0 x21_2; replace p11 := eq_true p11; replace q11 := eq_true q11
           have p13 : 0 ≤ (x21_2 : Int) := of_decide_eq_true as_
           have q13 : x21_2 < (a0.size : Int) := of_decide_eq_true as_
           have hx13 := bt_at a0 x21_2; replace p13 := eq_true p13; replace q13 := eq_true q13
           have p15 : 0 ≤ (x21_2 : Int) := of_decide_eq_true as_
           have q15 : x21_2 < (a0.size : Int) := of_decide_eq_true as_
           have hx15 := bt_at a0 x21_2; replace p15 := eq_true p15; replace q15 := eq_true q15
           go_wp2
           go_roundg k2
           case measure => have := HJ1.out; have := HK2.out; omega
           case rel => exact ⟨(wrap64 ((wrap64 (x4_2 * 10)) + (((bt a0 x21_2) - 48) % 256))), (wrap64 (x21_2 + 1)), sq_, sq_, H', ⟨by have := HJ1.out; have := HK2.out; omega⟩, dr_⟩
        ·rw [if_neg c10] at H
         exact absurd H (by simp)
       ·rw [if_neg c9] at H
        exact absurd H (by simp)
      ·rw [if_neg c8] at H; have c8b0 := decide_eq_false c8; clear c8
       simp only [Option.some.injEq, Prod.mk.injEq] at H
       obtain ⟨rfl, rfl⟩ := H
       go_wp2
       go_ret2
       exact ⟨by first | rfl | (simp; done) | (simp [*]; done), dr_⟩

theorem eqA39 (d : Nat) (w : World) (x0 y0 : Int) (x1 y1 : Int) :
  (Op.equalIn (d + 2) 39 (.agg #[.int .i64 x0, .int .i64 x1]) (.agg #[.int .i64 y0, .int .i64 y1])).run Tryz.prog w = .ok (x0 == y0 && (x1 == y1)) w := by
 refine eqA_of Tryz.underlying39 (by kernel_rfl) ?_
 refine eqf_cons (by rfl) (by go_simp; rfl) (by go_simp; rfl) (by go_simp) ?_
 exact eqf_last (by rfl) (by go_simp; rfl) (by go_simp; rfl) (by go_simp)
end Go.Proofs.YtbboanfggaknjaaGreatDoor.X
/-
 DERIVED: THE SHELF's CONTRACTS AT THIS DUMP, IN PLAIN WORDS (tools/lay-plain.mjs out of 'TryzShelf.lean', which tools/lay-shelf.mjs wrote): THE SAME DECLARATIONS UNDER THE SAME NAMES: 'import', 'namespace', 'open', 'def', 'theorem' AND NOTHING ELSE: no command of the shelf's: FOR A HAND-IN. Each laying: the table of numbers ('.._ren') and one theorem, a field a fact of the dump's own or the kernel's comparison; each contract: ONE APPLICATION.
-/
namespace Go.Proofs
open Go.Shelf
def Tryz.lays169_ren : Go.Shelf.Ren := ⟨fun | 169 => 24 | n => n, fun | 70 => 65 | 9 => 9 | 0 => 0 | 72 => 68 | 37 => 66 | 127 => 108 | 3 => 3 | 5 => 5 | n => n, fun | n => n⟩
theorem Tryz.lays169 : Go.Proofs.Lays.n169 Tryz.prog Tryz.lays169_ren := {
 mixed := by kernel_rfl
 f169 := Tryz.func24.trans (congrArg some (by kernel_rfl))
 t0 := Tryz.underlying0
 a0 := Tryz.isAgg0
 z0 := Tryz.sizeOf0
 v0 := Tryz.zeroValue0
 t3 := Tryz.underlying3
 a3 := Tryz.isAgg3
 z3 := Tryz.sizeOf3
 v3 := Tryz.zeroValue3
 t9 := Tryz.underlying9
 a9 := Tryz.isAgg9
 z9 := Tryz.sizeOf9
 v9 := Tryz.zeroValue9
 t37 := Tryz.underlying66
 a37 := Tryz.isAgg66
 z37 := Tryz.sizeOf66
 v37 := Tryz.zeroValue66
 t70 := Tryz.underlying65
 a70 := Tryz.isAgg65
 z70 := Tryz.sizeOf65
 v70 := Tryz.zeroValue65
 t72 := Tryz.underlying68
 a72 := Tryz.isAgg68
 z72 := Tryz.sizeOf68
 v72 := Tryz.zeroValue68
 t127 := Tryz.underlying108
 a127 := Tryz.isAgg108
 z127 := Tryz.sizeOf108
 v127 := Tryz.zeroValue108 }
theorem Tryz.Builder_Extra_169 : Builder.Extra Tryz.prog Tryz.lays169_ren := {
 sizeBuilder := by kernel_rfl
 liesBuilder := by kernel_rfl
 t5 := Tryz.underlying5
 a5 := Tryz.isAgg5
 z5 := Tryz.sizeOf5
 v5 := Tryz.zeroValue5
 infoByte := by kernel_rfl
 cellsByte := by kernel_rfl
 sizeByte := by kernel_rfl
 neB5 := by decide }
def Tryz.lays165_ren : Go.Shelf.Ren := ⟨fun | 165 => 41 | 240 => 40 | 241 => 67 | 276 => 66 | 277 => 88 | n => n, fun | 70 => 65 | 3 => 3 | 0 => 0 | 4 => 4 | 9 => 9 | 20 => 20 | 72 => 68 | 37 => 66 | 164 => 124 | 5 => 5 | n => n, fun | n => n⟩
theorem Tryz.lays165 : Go.Proofs.Lays.n165 Tryz.prog Tryz.lays165_ren := {
 mixed := by kernel_rfl
 f165 := Tryz.func41.trans (congrArg some (by kernel_rfl))
 f240 := Tryz.func40.trans (congrArg some (by kernel_rfl))
 f241 := Tryz.func67.trans (congrArg some (by kernel_rfl))
 f276 := Tryz.func66.trans (congrArg some (by kernel_rfl))
 f277 := Tryz.func88.trans (congrArg some (by kernel_rfl))
 t0 := Tryz.underlying0
 a0 := Tryz.isAgg0
 z0 := Tryz.sizeOf0
 v0 := Tryz.zeroValue0
 t3 := Tryz.underlying3
 a3 := Tryz.isAgg3
 z3 := Tryz.sizeOf3
 v3 := Tryz.zeroValue3
 t4 := Tryz.underlying4
 a4 := Tryz.isAgg4
 z4 := Tryz.sizeOf4
 v4 := Tryz.zeroValue4
 t9 := Tryz.underlying9
 a9 := Tryz.isAgg9
 z9 := Tryz.sizeOf9
 v9 := Tryz.zeroValue9
 t20 := Tryz.underlying20
 a20 := Tryz.isAgg20
 z20 := Tryz.sizeOf20
 v20 := Tryz.zeroValue20
 t37 := Tryz.underlying66
 a37 := Tryz.isAgg66
 z37 := Tryz.sizeOf66
 v37 := Tryz.zeroValue66
 t70 := Tryz.underlying65
 a70 := Tryz.isAgg65
 z70 := Tryz.sizeOf65
 v70 := Tryz.zeroValue65
 t72 := Tryz.underlying68
 a72 := Tryz.isAgg68
 z72 := Tryz.sizeOf68
 v72 := Tryz.zeroValue68
 t164 := Tryz.underlying124
 a164 := Tryz.isAgg124
 z164 := Tryz.sizeOf124
 v164 := Tryz.zeroValue124 }
theorem Tryz.Builder_Extra_165 : Builder.Extra Tryz.prog Tryz.lays165_ren := {
 sizeBuilder := by kernel_rfl
 liesBuilder := by kernel_rfl
 t5 := Tryz.underlying5
 a5 := Tryz.isAgg5
 z5 := Tryz.sizeOf5
 v5 := Tryz.zeroValue5
 infoByte := by kernel_rfl
 cellsByte := by kernel_rfl
 sizeByte := by kernel_rfl
 neB5 := by decide }
open Go.RowKit in
theorem Tryz.Builder_Grow_fresh (B b n : Nat) (w : World) (hB : B ≤ b) (hbk : w.heap[b]? = some (.cells #[.pointer none, .slice none 0 0] 68 (0, 0))) (hBw : B ≤ w.heap.size) (hn : n ≤ 281474976710656) :
  Calls Tryz.prog 41 #[.pointer (some ⟨b, 0, none⟩), .int .i64 n] w fun e w' => e = .returned (.tuple #[]) ∧ (Lib.BuilderAt 68 5 B b (.pointer (some ⟨b, 0, none⟩)) [] w' ∧ Below B w w') := Any.Builder_Grow_fresh Tryz.lays165 Tryz.Builder_Extra_165 B b n w hB hbk hBw hn
open Go.RowKit in
theorem Tryz.Builder_String_any_k (B b : Nat) (l : List UInt8) (w : World) (h : Lib.IsBuilderF 68 5 B b (Lib.byteCells l) w) (hBw : B ≤ w.heap.size) :
  Calls Tryz.prog 24 #[.pointer (some ⟨b, 0, none⟩)] w fun e w' => e = .returned (.string ⟨l.toArray⟩) ∧ (Lib.IsBuilderF 68 5 B b (Lib.byteCells l) w' ∧ Below B w w' ∧ Lib.OthersKept 5 (some b) w w') := Any.Builder_String_any_k Tryz.lays169 Tryz.Builder_Extra_169 B b l w h hBw
def Tryz.laysM171_ren : Go.Shelf.Ren := ⟨fun | 171 => 21 | 243 => 42 | 246 => 68 | 283 => 89 | 284 => 90 | 285 => 91 | 286 => 92 | 129 => 101 | 317 => 100 | 318 => 102 | 319 => 103 | 320 => 104 | 337 => 105 | 338 => 93 | n => n, fun | 3 => 3 | 9 => 9 | 2 => 2 | 4 => 4 | 171 => 141 | 0 => 0 | 53 => 56 | 37 => 66 | 5 => 5 | 173 => 144 | 212 => 151 | 51 => 146 | 20 => 20 | 213 => 152 | 46 => 132 | 232 => 161 | 233 => 155 | n => n, fun | 17 => 1 | 18 => 5 | 19 => 2 | n => n⟩
theorem Tryz.laysM171 : Go.Proofs.LaysM.n171 Tryz.prog Tryz.laysM171_ren := {
 mixed := by kernel_rfl
 f129 := Tryz.func101.trans (congrArg some (by kernel_rfl))
 f171 := Tryz.func21.trans (congrArg some (by kernel_rfl))
 f243 := Tryz.func42.trans (congrArg some (by kernel_rfl))
 f246 := Tryz.func68.trans (congrArg some (by kernel_rfl))
 f283 := Tryz.func89.trans (congrArg some (by kernel_rfl))
 f284 := Tryz.func90.trans (congrArg some (by kernel_rfl))
 f285 := Tryz.func91.trans (congrArg some (by kernel_rfl))
 f286 := Tryz.func92.trans (congrArg some (by kernel_rfl))
 f317 := Tryz.func100.trans (congrArg some (by kernel_rfl))
 f318 := Tryz.func102.trans (congrArg some (by kernel_rfl))
 f319 := Tryz.func103.trans (congrArg some (by kernel_rfl))
 f320 := Tryz.func104.trans (congrArg some (by kernel_rfl))
 f337 := Tryz.func105.trans (congrArg some (by kernel_rfl))
 f338 := Tryz.func93.trans (congrArg some (by kernel_rfl))
 t0 := Tryz.underlying0
 a0 := Tryz.isAgg0
 z0 := Tryz.sizeOf0
 v0 := Tryz.zeroValue0
 t2 := Tryz.underlying2
 a2 := Tryz.isAgg2
 z2 := Tryz.sizeOf2
 v2 := Tryz.zeroValue2
 t3 := Tryz.underlying3
 a3 := Tryz.isAgg3
 z3 := Tryz.sizeOf3
 v3 := Tryz.zeroValue3
 t4 := Tryz.underlying4
 a4 := Tryz.isAgg4
 z4 := Tryz.sizeOf4
 v4 := Tryz.zeroValue4
 t5 := Tryz.underlying5
 a5 := Tryz.isAgg5
 z5 := Tryz.sizeOf5
 v5 := Tryz.zeroValue5
 t9 := Tryz.underlying9
 a9 := Tryz.isAgg9
 z9 := Tryz.sizeOf9
 v9 := Tryz.zeroValue9
 t20 := Tryz.underlying20
 a20 := Tryz.isAgg20
 z20 := Tryz.sizeOf20
 v20 := Tryz.zeroValue20
 t37 := Tryz.underlying66
 a37 := Tryz.isAgg66
 z37 := Tryz.sizeOf66
 v37 := Tryz.zeroValue66
 t46 := Tryz.underlying132
 a46 := Tryz.isAgg132
 z46 := Tryz.sizeOf132
 v46 := Tryz.zeroValue132
 t51 := Tryz.underlying146
 a51 := Tryz.isAgg146
 z51 := Tryz.sizeOf146
 v51 := Tryz.zeroValue146
 t53 := Tryz.underlying56
 a53 := Tryz.isAgg56
 z53 := Tryz.sizeOf56
 v53 := Tryz.zeroValue56
 t171 := Tryz.underlying141
 a171 := Tryz.isAgg141
 z171 := Tryz.sizeOf141
 v171 := Tryz.zeroValue141
 t173 := Tryz.underlying144
 a173 := Tryz.isAgg144
 z173 := Tryz.sizeOf144
 v173 := Tryz.zeroValue144
 t212 := Tryz.underlying151
 a212 := Tryz.isAgg151
 z212 := Tryz.sizeOf151
 v212 := Tryz.zeroValue151
 t213 := Tryz.underlying152
 a213 := Tryz.isAgg152
 z213 := Tryz.sizeOf152
 t232 := Tryz.underlying161
 a232 := Tryz.isAgg161
 z232 := Tryz.sizeOf161
 v232 := Tryz.zeroValue161
 t233 := Tryz.underlying155
 a233 := Tryz.isAgg155
 z233 := Tryz.sizeOf155
 v233 := Tryz.zeroValue155
 g17 := by kernel_rfl
 g18 := by kernel_rfl
 g19 := by kernel_rfl
 i0 := by kernel_rfl
 i2 := by kernel_rfl
 i3 := by kernel_rfl
 i4 := by kernel_rfl
 i5 := by kernel_rfl
 i9 := by kernel_rfl
 i20 := by kernel_rfl
 i37 := by kernel_rfl
 i46 := by kernel_rfl
 i51 := by kernel_rfl
 i53 := by kernel_rfl
 i171 := by kernel_rfl
 i173 := by kernel_rfl
 i212 := by kernel_rfl
 i232 := by kernel_rfl
 i233 := by kernel_rfl
 m17 := by kernel_rfl
 m18 := by kernel_rfl
 m19 := by kernel_rfl }
open Go.RowKit Go.Sort Go.Lib in
theorem Tryz.strconv_Itoa (n : Int) (h0 : -9223372036854775808 ≤ n) (h1 : n ≤ 9223372036854775807) (w : World) (htab : Lib.TabIs Tryz.prog w "internal/strconv.uint64pow10" .u64 Lib.pow10Tab) :
  Calls Tryz.prog 21 #[.int .i64 n] w fun e w' => e = .returned (.string ⟨(Lib.itoa n).toArray⟩) ∧ ∃ k os, w' = grow (w.drewN k) os := Any.strconv_Itoa Tryz.laysM171 n h0 h1 w htab
def Tryz.lays171_ren : Go.Shelf.Ren := ⟨fun | 171 => 21 | 243 => 42 | 246 => 68 | 283 => 89 | 284 => 90 | 285 => 91 | 286 => 92 | 129 => 101 | 317 => 100 | 318 => 102 | 319 => 103 | 320 => 104 | 337 => 105 | 338 => 93 | n => n, fun | 3 => 3 | 9 => 9 | 2 => 2 | 4 => 4 | 171 => 141 | 0 => 0 | 53 => 56 | 37 => 66 | 5 => 5 | 173 => 144 | 212 => 151 | 51 => 146 | 20 => 20 | 213 => 152 | 46 => 132 | 232 => 161 | 233 => 155 | n => n, fun | 17 => 1 | 18 => 5 | 19 => 2 | n => n⟩
theorem Tryz.lays171 : Go.Proofs.Lays.n171 Tryz.prog Tryz.lays171_ren := {
 mixed := by kernel_rfl
 f129 := Tryz.func101.trans (congrArg some (by kernel_rfl))
 f171 := Tryz.func21.trans (congrArg some (by kernel_rfl))
 f243 := Tryz.func42.trans (congrArg some (by kernel_rfl))
 f246 := Tryz.func68.trans (congrArg some (by kernel_rfl))
 f283 := Tryz.func89.trans (congrArg some (by kernel_rfl))
 f284 := Tryz.func90.trans (congrArg some (by kernel_rfl))
 f285 := Tryz.func91.trans (congrArg some (by kernel_rfl))
 f286 := Tryz.func92.trans (congrArg some (by kernel_rfl))
 f317 := Tryz.func100.trans (congrArg some (by kernel_rfl))
 f318 := Tryz.func102.trans (congrArg some (by kernel_rfl))
 f319 := Tryz.func103.trans (congrArg some (by kernel_rfl))
 f320 := Tryz.func104.trans (congrArg some (by kernel_rfl))
 f337 := Tryz.func105.trans (congrArg some (by kernel_rfl))
 f338 := Tryz.func93.trans (congrArg some (by kernel_rfl))
 t0 := Tryz.underlying0
 a0 := Tryz.isAgg0
 z0 := Tryz.sizeOf0
 v0 := Tryz.zeroValue0
 t2 := Tryz.underlying2
 a2 := Tryz.isAgg2
 z2 := Tryz.sizeOf2
 v2 := Tryz.zeroValue2
 t3 := Tryz.underlying3
 a3 := Tryz.isAgg3
 z3 := Tryz.sizeOf3
 v3 := Tryz.zeroValue3
 t4 := Tryz.underlying4
 a4 := Tryz.isAgg4
 z4 := Tryz.sizeOf4
 v4 := Tryz.zeroValue4
 t5 := Tryz.underlying5
 a5 := Tryz.isAgg5
 z5 := Tryz.sizeOf5
 v5 := Tryz.zeroValue5
 t9 := Tryz.underlying9
 a9 := Tryz.isAgg9
 z9 := Tryz.sizeOf9
 v9 := Tryz.zeroValue9
 t20 := Tryz.underlying20
 a20 := Tryz.isAgg20
 z20 := Tryz.sizeOf20
 v20 := Tryz.zeroValue20
 t37 := Tryz.underlying66
 a37 := Tryz.isAgg66
 z37 := Tryz.sizeOf66
 v37 := Tryz.zeroValue66
 t46 := Tryz.underlying132
 a46 := Tryz.isAgg132
 z46 := Tryz.sizeOf132
 v46 := Tryz.zeroValue132
 t51 := Tryz.underlying146
 a51 := Tryz.isAgg146
 z51 := Tryz.sizeOf146
 v51 := Tryz.zeroValue146
 t53 := Tryz.underlying56
 a53 := Tryz.isAgg56
 z53 := Tryz.sizeOf56
 v53 := Tryz.zeroValue56
 t171 := Tryz.underlying141
 a171 := Tryz.isAgg141
 z171 := Tryz.sizeOf141
 v171 := Tryz.zeroValue141
 t173 := Tryz.underlying144
 a173 := Tryz.isAgg144
 z173 := Tryz.sizeOf144
 v173 := Tryz.zeroValue144
 t212 := Tryz.underlying151
 a212 := Tryz.isAgg151
 z212 := Tryz.sizeOf151
 v212 := Tryz.zeroValue151
 t213 := Tryz.underlying152
 a213 := Tryz.isAgg152
 z213 := Tryz.sizeOf152
 t232 := Tryz.underlying161
 a232 := Tryz.isAgg161
 z232 := Tryz.sizeOf161
 v232 := Tryz.zeroValue161
 t233 := Tryz.underlying155
 a233 := Tryz.isAgg155
 z233 := Tryz.sizeOf155
 v233 := Tryz.zeroValue155
 g17 := by kernel_rfl
 g18 := by kernel_rfl
 g19 := by kernel_rfl }
open Go.RowKit Go.Sort Go.Lib in
theorem Tryz.strconv_Itoa_small (i : Nat) (hi : i < 100) (w : World) :
  Calls Tryz.prog 21 #[.int .i64 i] w fun e w' => e = .returned (.string ⟨(Lib.decDigits i).toArray⟩) ∧ w' = w := Any.strconv_Itoa_small Tryz.lays171 i hi w
def Tryz.lays219_ren : Go.Shelf.Ren := ⟨fun | 219 => 48 | 217 => 72 | 225 => 73 | 224 => 74 | 267 => 75 | 266 => 94 | 314 => 95 | n => n, fun | 9 => 9 | 3 => 3 | 4 => 4 | 5 => 5 | 46 => 132 | 146 => 147 | 51 => 146 | n => n, fun | 1 => 0 | n => n⟩
theorem Tryz.lays219 : Go.Proofs.Lays.n219 Tryz.prog Tryz.lays219_ren := {
 mixed := by kernel_rfl
 f217 := Tryz.func72.trans (congrArg some (by kernel_rfl))
 f219 := Tryz.func48.trans (congrArg some (by kernel_rfl))
 f224 := Tryz.func74.trans (congrArg some (by kernel_rfl))
 f225 := Tryz.func73.trans (congrArg some (by kernel_rfl))
 f266 := Tryz.func94.trans (congrArg some (by kernel_rfl))
 f267 := Tryz.func75.trans (congrArg some (by kernel_rfl))
 f314 := Tryz.func95.trans (congrArg some (by kernel_rfl))
 t3 := Tryz.underlying3
 a3 := Tryz.isAgg3
 z3 := Tryz.sizeOf3
 v3 := Tryz.zeroValue3
 t4 := Tryz.underlying4
 a4 := Tryz.isAgg4
 z4 := Tryz.sizeOf4
 v4 := Tryz.zeroValue4
 t5 := Tryz.underlying5
 a5 := Tryz.isAgg5
 z5 := Tryz.sizeOf5
 v5 := Tryz.zeroValue5
 t9 := Tryz.underlying9
 a9 := Tryz.isAgg9
 z9 := Tryz.sizeOf9
 v9 := Tryz.zeroValue9
 t46 := Tryz.underlying132
 a46 := Tryz.isAgg132
 z46 := Tryz.sizeOf132
 v46 := Tryz.zeroValue132
 t51 := Tryz.underlying146
 a51 := Tryz.isAgg146
 z51 := Tryz.sizeOf146
 v51 := Tryz.zeroValue146
 t146 := Tryz.underlying147
 a146 := Tryz.isAgg147
 z146 := Tryz.sizeOf147
 v146 := Tryz.zeroValue147
 g1 := by kernel_rfl }
open Go.RowKit Go.Lib in
theorem Tryz.stringslite_Index_one (s : ByteArray) (c : UInt8) (w : World) :
  Calls Tryz.prog 48 #[.string s, .string ⟨#[c]⟩] w fun e w' => e = .returned (.int .i64 (Lib.indexByte s.data.toList c)) ∧ w' = w := Any.stringslite_Index_one Tryz.lays219 s c w
open Go.RowKit Go.Lib in
theorem Tryz.stringslite_Index (s sub : ByteArray) (m : Int) (w : World) (hs : s.size < 4294967281) (hm : w.cell? ⟨0, 0, none⟩ = some (.int .i64 m)) :
  Calls Tryz.prog 48 #[.string s, .string sub] w fun e w' => e = .returned (.int .i64 (Lib.index s.data.toList sub.data.toList)) ∧ w' = w := Any.stringslite_Index Tryz.lays219 s sub m w hs hm
def Tryz.lays143_ren : Go.Shelf.Ren := ⟨fun | 143 => 53 | 219 => 48 | 217 => 72 | 225 => 73 | 224 => 74 | 267 => 75 | 266 => 94 | 314 => 95 | n => n, fun | 9 => 9 | 3 => 3 | 4 => 4 | 5 => 5 | 46 => 132 | 146 => 147 | 51 => 146 | n => n, fun | 1 => 0 | n => n⟩
theorem Tryz.lays143 : Go.Proofs.Lays.n143 Tryz.prog Tryz.lays143_ren := {
 mixed := by kernel_rfl
 f143 := Tryz.func53.trans (congrArg some (by kernel_rfl))
 f217 := Tryz.func72.trans (congrArg some (by kernel_rfl))
 f219 := Tryz.func48.trans (congrArg some (by kernel_rfl))
 f224 := Tryz.func74.trans (congrArg some (by kernel_rfl))
 f225 := Tryz.func73.trans (congrArg some (by kernel_rfl))
 f266 := Tryz.func94.trans (congrArg some (by kernel_rfl))
 f267 := Tryz.func75.trans (congrArg some (by kernel_rfl))
 f314 := Tryz.func95.trans (congrArg some (by kernel_rfl))
 t3 := Tryz.underlying3
 a3 := Tryz.isAgg3
 z3 := Tryz.sizeOf3
 v3 := Tryz.zeroValue3
 t4 := Tryz.underlying4
 a4 := Tryz.isAgg4
 z4 := Tryz.sizeOf4
 v4 := Tryz.zeroValue4
 t5 := Tryz.underlying5
 a5 := Tryz.isAgg5
 z5 := Tryz.sizeOf5
 v5 := Tryz.zeroValue5
 t9 := Tryz.underlying9
 a9 := Tryz.isAgg9
 z9 := Tryz.sizeOf9
 v9 := Tryz.zeroValue9
 t46 := Tryz.underlying132
 a46 := Tryz.isAgg132
 z46 := Tryz.sizeOf132
 v46 := Tryz.zeroValue132
 t51 := Tryz.underlying146
 a51 := Tryz.isAgg146
 z51 := Tryz.sizeOf146
 v51 := Tryz.zeroValue146
 t146 := Tryz.underlying147
 a146 := Tryz.isAgg147
 z146 := Tryz.sizeOf147
 v146 := Tryz.zeroValue147
 g1 := by kernel_rfl }
open Go.RowKit Go.Lib in
theorem Tryz.strings_Index_one (s : ByteArray) (c : UInt8) (w : World) :
  Calls Tryz.prog 53 #[.string s, .string ⟨#[c]⟩] w fun e w' => e = .returned (.int .i64 (Lib.indexByte s.data.toList c)) ∧ w' = w := Any.strings_Index_one Tryz.lays143 s c w
def Tryz.lays220_ren : Go.Shelf.Ren := ⟨fun | 220 => 25 | 219 => 48 | 217 => 72 | 225 => 73 | 224 => 74 | 267 => 75 | 266 => 94 | 314 => 95 | n => n, fun | 9 => 9 | 4 => 4 | 3 => 3 | 5 => 5 | 46 => 132 | 146 => 147 | 51 => 146 | n => n, fun | 1 => 0 | n => n⟩
theorem Tryz.lays220 : Go.Proofs.Lays.n220 Tryz.prog Tryz.lays220_ren := {
 mixed := by kernel_rfl
 f217 := Tryz.func72.trans (congrArg some (by kernel_rfl))
 f219 := Tryz.func48.trans (congrArg some (by kernel_rfl))
 f220 := Tryz.func25.trans (congrArg some (by kernel_rfl))
 f224 := Tryz.func74.trans (congrArg some (by kernel_rfl))
 f225 := Tryz.func73.trans (congrArg some (by kernel_rfl))
 f266 := Tryz.func94.trans (congrArg some (by kernel_rfl))
 f267 := Tryz.func75.trans (congrArg some (by kernel_rfl))
 f314 := Tryz.func95.trans (congrArg some (by kernel_rfl))
 t3 := Tryz.underlying3
 a3 := Tryz.isAgg3
 z3 := Tryz.sizeOf3
 v3 := Tryz.zeroValue3
 t4 := Tryz.underlying4
 a4 := Tryz.isAgg4
 z4 := Tryz.sizeOf4
 v4 := Tryz.zeroValue4
 t5 := Tryz.underlying5
 a5 := Tryz.isAgg5
 z5 := Tryz.sizeOf5
 v5 := Tryz.zeroValue5
 t9 := Tryz.underlying9
 a9 := Tryz.isAgg9
 z9 := Tryz.sizeOf9
 v9 := Tryz.zeroValue9
 t46 := Tryz.underlying132
 a46 := Tryz.isAgg132
 z46 := Tryz.sizeOf132
 v46 := Tryz.zeroValue132
 t51 := Tryz.underlying146
 a51 := Tryz.isAgg146
 z51 := Tryz.sizeOf146
 v51 := Tryz.zeroValue146
 t146 := Tryz.underlying147
 a146 := Tryz.isAgg147
 z146 := Tryz.sizeOf147
 v146 := Tryz.zeroValue147
 g1 := by kernel_rfl }
open Go.RowKit Go.Lib in
theorem Tryz.stringslite_Cut (s sep : ByteArray) (m : Int) (w : World) (hs : s.size < 4294967281) (hm : w.cell? ⟨0, 0, none⟩ = some (.int .i64 m)) :
  Calls Tryz.prog 25 #[.string s, .string sep] w fun e w' => e = .returned (.tuple #[.string ⟨(Lib.cut s.data.toList sep.data.toList).1.toArray⟩, .string ⟨(Lib.cut s.data.toList sep.data.toList).2.1.toArray⟩, .bool (Lib.cut s.data.toList sep.data.toList).2.2]) ∧ ∃ n, w' = w.drewN n := Any.stringslite_Cut Tryz.lays220 s sep m w hs hm
def Tryz.lays145_ren : Go.Shelf.Ren := ⟨fun | 145 => 10 | 220 => 25 | 219 => 48 | 217 => 72 | 225 => 73 | 224 => 74 | 267 => 75 | 266 => 94 | 314 => 95 | n => n, fun | 9 => 9 | 4 => 4 | 59 => 40 | 3 => 3 | 5 => 5 | 46 => 132 | 146 => 147 | 51 => 146 | n => n, fun | 1 => 0 | n => n⟩
theorem Tryz.lays145 : Go.Proofs.Lays.n145 Tryz.prog Tryz.lays145_ren := {
 mixed := by kernel_rfl
 f145 := Tryz.func10.trans (congrArg some (by kernel_rfl))
 f217 := Tryz.func72.trans (congrArg some (by kernel_rfl))
 f219 := Tryz.func48.trans (congrArg some (by kernel_rfl))
 f220 := Tryz.func25.trans (congrArg some (by kernel_rfl))
 f224 := Tryz.func74.trans (congrArg some (by kernel_rfl))
 f225 := Tryz.func73.trans (congrArg some (by kernel_rfl))
 f266 := Tryz.func94.trans (congrArg some (by kernel_rfl))
 f267 := Tryz.func75.trans (congrArg some (by kernel_rfl))
 f314 := Tryz.func95.trans (congrArg some (by kernel_rfl))
 t3 := Tryz.underlying3
 a3 := Tryz.isAgg3
 z3 := Tryz.sizeOf3
 v3 := Tryz.zeroValue3
 t4 := Tryz.underlying4
 a4 := Tryz.isAgg4
 z4 := Tryz.sizeOf4
 v4 := Tryz.zeroValue4
 t5 := Tryz.underlying5
 a5 := Tryz.isAgg5
 z5 := Tryz.sizeOf5
 v5 := Tryz.zeroValue5
 t9 := Tryz.underlying9
 a9 := Tryz.isAgg9
 z9 := Tryz.sizeOf9
 v9 := Tryz.zeroValue9
 t46 := Tryz.underlying132
 a46 := Tryz.isAgg132
 z46 := Tryz.sizeOf132
 v46 := Tryz.zeroValue132
 t51 := Tryz.underlying146
 a51 := Tryz.isAgg146
 z51 := Tryz.sizeOf146
 v51 := Tryz.zeroValue146
 t59 := Tryz.underlying40
 a59 := Tryz.isAgg40
 z59 := Tryz.sizeOf40
 v59 := Tryz.zeroValue40
 t146 := Tryz.underlying147
 a146 := Tryz.isAgg147
 z146 := Tryz.sizeOf147
 v146 := Tryz.zeroValue147
 g1 := by kernel_rfl }
open Go.RowKit Go.Lib in
theorem Tryz.strings_Cut (s sep : ByteArray) (m : Int) (w : World) (hs : s.size < 4294967281) (hm : w.cell? ⟨0, 0, none⟩ = some (.int .i64 m)) :
  Calls Tryz.prog 10 #[.string s, .string sep] w fun e w' => e = .returned (.tuple #[.string ⟨(Lib.cut s.data.toList sep.data.toList).1.toArray⟩, .string ⟨(Lib.cut s.data.toList sep.data.toList).2.1.toArray⟩, .bool (Lib.cut s.data.toList sep.data.toList).2.2]) ∧ ∃ n, w' = w.drewN n := Any.strings_Cut Tryz.lays145 s sep m w hs hm
def Tryz.lays138_ren : Go.Shelf.Ren := ⟨fun | 138 => 52 | 195 => 78 | 218 => 80 | 143 => 53 | 219 => 48 | 217 => 72 | 225 => 73 | 224 => 74 | 267 => 75 | 266 => 94 | 314 => 95 | n => n, fun | 9 => 9 | 3 => 3 | 4 => 4 | 5 => 5 | 0 => 0 | 46 => 132 | 146 => 147 | 51 => 146 | n => n, fun | 1 => 0 | n => n⟩
theorem Tryz.lays138 : Go.Proofs.Lays.n138 Tryz.prog Tryz.lays138_ren := {
 mixed := by kernel_rfl
 f138 := Tryz.func52.trans (congrArg some (by kernel_rfl))
 f143 := Tryz.func53.trans (congrArg some (by kernel_rfl))
 f195 := Tryz.func78.trans (congrArg some (by kernel_rfl))
 f217 := Tryz.func72.trans (congrArg some (by kernel_rfl))
 f218 := Tryz.func80.trans (congrArg some (by kernel_rfl))
 f219 := Tryz.func48.trans (congrArg some (by kernel_rfl))
 f224 := Tryz.func74.trans (congrArg some (by kernel_rfl))
 f225 := Tryz.func73.trans (congrArg some (by kernel_rfl))
 f266 := Tryz.func94.trans (congrArg some (by kernel_rfl))
 f267 := Tryz.func75.trans (congrArg some (by kernel_rfl))
 f314 := Tryz.func95.trans (congrArg some (by kernel_rfl))
 t0 := Tryz.underlying0
 a0 := Tryz.isAgg0
 z0 := Tryz.sizeOf0
 v0 := Tryz.zeroValue0
 t3 := Tryz.underlying3
 a3 := Tryz.isAgg3
 z3 := Tryz.sizeOf3
 v3 := Tryz.zeroValue3
 t4 := Tryz.underlying4
 a4 := Tryz.isAgg4
 z4 := Tryz.sizeOf4
 v4 := Tryz.zeroValue4
 t5 := Tryz.underlying5
 a5 := Tryz.isAgg5
 z5 := Tryz.sizeOf5
 v5 := Tryz.zeroValue5
 t9 := Tryz.underlying9
 a9 := Tryz.isAgg9
 z9 := Tryz.sizeOf9
 v9 := Tryz.zeroValue9
 t46 := Tryz.underlying132
 a46 := Tryz.isAgg132
 z46 := Tryz.sizeOf132
 v46 := Tryz.zeroValue132
 t51 := Tryz.underlying146
 a51 := Tryz.isAgg146
 z51 := Tryz.sizeOf146
 v51 := Tryz.zeroValue146
 t146 := Tryz.underlying147
 a146 := Tryz.isAgg147
 z146 := Tryz.sizeOf147
 v146 := Tryz.zeroValue147
 g1 := by kernel_rfl }
open Go.RowKit Go.Lib in
theorem Tryz.strings_Count_one (s : ByteArray) (c : UInt8) (w : World) :
  Calls Tryz.prog 52 #[.string s, .string ⟨#[c]⟩] w fun e w' => e = .returned (.int .i64 (Lib.countByte s.data.toList c)) ∧ w' = w := Any.strings_Count_one Tryz.lays138 s c w
def Tryz.lays221_ren : Go.Shelf.Ren := ⟨fun | 221 => 29 | 268 => 51 | 138 => 52 | 143 => 53 | 195 => 78 | 197 => 79 | 218 => 80 | 219 => 48 | 260 => 96 | 217 => 72 | 225 => 73 | 224 => 74 | 267 => 75 | 266 => 94 | 314 => 95 | n => n, fun | 9 => 9 | 3 => 3 | 31 => 44 | 4 => 4 | 0 => 0 | 105 => 134 | 21 => 21 | 5 => 5 | 46 => 132 | 119 => 156 | 139 => 159 | 138 => 158 | 146 => 147 | 51 => 146 | n => n, fun | 1 => 0 | 3 => 3 | 4 => 4 | n => n⟩
theorem Tryz.lays221 : Go.Proofs.Lays.n221 Tryz.prog Tryz.lays221_ren := {
 mixed := by kernel_rfl
 f138 := Tryz.func52.trans (congrArg some (by kernel_rfl))
 f143 := Tryz.func53.trans (congrArg some (by kernel_rfl))
 f195 := Tryz.func78.trans (congrArg some (by kernel_rfl))
 f197 := Tryz.func79.trans (congrArg some (by kernel_rfl))
 f217 := Tryz.func72.trans (congrArg some (by kernel_rfl))
 f218 := Tryz.func80.trans (congrArg some (by kernel_rfl))
 f219 := Tryz.func48.trans (congrArg some (by kernel_rfl))
 f221 := Tryz.func29.trans (congrArg some (by kernel_rfl))
 f224 := Tryz.func74.trans (congrArg some (by kernel_rfl))
 f225 := Tryz.func73.trans (congrArg some (by kernel_rfl))
 f260 := Tryz.func96.trans (congrArg some (by kernel_rfl))
 f266 := Tryz.func94.trans (congrArg some (by kernel_rfl))
 f267 := Tryz.func75.trans (congrArg some (by kernel_rfl))
 f268 := Tryz.func51.trans (congrArg some (by kernel_rfl))
 f314 := Tryz.func95.trans (congrArg some (by kernel_rfl))
 t0 := Tryz.underlying0
 a0 := Tryz.isAgg0
 z0 := Tryz.sizeOf0
 v0 := Tryz.zeroValue0
 t3 := Tryz.underlying3
 a3 := Tryz.isAgg3
 z3 := Tryz.sizeOf3
 v3 := Tryz.zeroValue3
 t4 := Tryz.underlying4
 a4 := Tryz.isAgg4
 z4 := Tryz.sizeOf4
 v4 := Tryz.zeroValue4
 t5 := Tryz.underlying5
 a5 := Tryz.isAgg5
 z5 := Tryz.sizeOf5
 v5 := Tryz.zeroValue5
 t9 := Tryz.underlying9
 a9 := Tryz.isAgg9
 z9 := Tryz.sizeOf9
 v9 := Tryz.zeroValue9
 t21 := Tryz.underlying21
 a21 := Tryz.isAgg21
 z21 := Tryz.sizeOf21
 v21 := Tryz.zeroValue21
 t31 := Tryz.underlying44
 a31 := Tryz.isAgg44
 z31 := Tryz.sizeOf44
 v31 := Tryz.zeroValue44
 t46 := Tryz.underlying132
 a46 := Tryz.isAgg132
 z46 := Tryz.sizeOf132
 v46 := Tryz.zeroValue132
 t51 := Tryz.underlying146
 a51 := Tryz.isAgg146
 z51 := Tryz.sizeOf146
 v51 := Tryz.zeroValue146
 t105 := Tryz.underlying134
 a105 := Tryz.isAgg134
 z105 := Tryz.sizeOf134
 v105 := Tryz.zeroValue134
 t119 := Tryz.underlying156
 a119 := Tryz.isAgg156
 z119 := Tryz.sizeOf156
 t138 := Tryz.underlying158
 a138 := Tryz.isAgg158
 z138 := Tryz.sizeOf158
 v138 := Tryz.zeroValue158
 t139 := Tryz.underlying159
 a139 := Tryz.isAgg159
 z139 := Tryz.sizeOf159
 v139 := Tryz.zeroValue159
 t146 := Tryz.underlying147
 a146 := Tryz.isAgg147
 z146 := Tryz.sizeOf147
 v146 := Tryz.zeroValue147
 g1 := by kernel_rfl
 g3 := by kernel_rfl
 g4 := by kernel_rfl }
def Tryz.lays146_ren : Go.Shelf.Ren := ⟨fun | 146 => 12 | 221 => 29 | 268 => 51 | 138 => 52 | 143 => 53 | 195 => 78 | 197 => 79 | 218 => 80 | 219 => 48 | 260 => 96 | 217 => 72 | 225 => 73 | 224 => 74 | 267 => 75 | 266 => 94 | 314 => 95 | n => n, fun | 9 => 9 | 31 => 44 | 3 => 3 | 4 => 4 | 0 => 0 | 105 => 134 | 21 => 21 | 5 => 5 | 46 => 132 | 119 => 156 | 139 => 159 | 138 => 158 | 146 => 147 | 51 => 146 | n => n, fun | 1 => 0 | 3 => 3 | 4 => 4 | n => n⟩
theorem Tryz.lays146 : Go.Proofs.Lays.n146 Tryz.prog Tryz.lays146_ren := {
 mixed := by kernel_rfl
 f138 := Tryz.func52.trans (congrArg some (by kernel_rfl))
 f143 := Tryz.func53.trans (congrArg some (by kernel_rfl))
 f146 := Tryz.func12.trans (congrArg some (by kernel_rfl))
 f195 := Tryz.func78.trans (congrArg some (by kernel_rfl))
 f197 := Tryz.func79.trans (congrArg some (by kernel_rfl))
 f217 := Tryz.func72.trans (congrArg some (by kernel_rfl))
 f218 := Tryz.func80.trans (congrArg some (by kernel_rfl))
 f219 := Tryz.func48.trans (congrArg some (by kernel_rfl))
 f221 := Tryz.func29.trans (congrArg some (by kernel_rfl))
 f224 := Tryz.func74.trans (congrArg some (by kernel_rfl))
 f225 := Tryz.func73.trans (congrArg some (by kernel_rfl))
 f260 := Tryz.func96.trans (congrArg some (by kernel_rfl))
 f266 := Tryz.func94.trans (congrArg some (by kernel_rfl))
 f267 := Tryz.func75.trans (congrArg some (by kernel_rfl))
 f268 := Tryz.func51.trans (congrArg some (by kernel_rfl))
 f314 := Tryz.func95.trans (congrArg some (by kernel_rfl))
 t0 := Tryz.underlying0
 a0 := Tryz.isAgg0
 z0 := Tryz.sizeOf0
 v0 := Tryz.zeroValue0
 t3 := Tryz.underlying3
 a3 := Tryz.isAgg3
 z3 := Tryz.sizeOf3
 v3 := Tryz.zeroValue3
 t4 := Tryz.underlying4
 a4 := Tryz.isAgg4
 z4 := Tryz.sizeOf4
 v4 := Tryz.zeroValue4
 t5 := Tryz.underlying5
 a5 := Tryz.isAgg5
 z5 := Tryz.sizeOf5
 v5 := Tryz.zeroValue5
 t9 := Tryz.underlying9
 a9 := Tryz.isAgg9
 z9 := Tryz.sizeOf9
 v9 := Tryz.zeroValue9
 t21 := Tryz.underlying21
 a21 := Tryz.isAgg21
 z21 := Tryz.sizeOf21
 v21 := Tryz.zeroValue21
 t31 := Tryz.underlying44
 a31 := Tryz.isAgg44
 z31 := Tryz.sizeOf44
 v31 := Tryz.zeroValue44
 t46 := Tryz.underlying132
 a46 := Tryz.isAgg132
 z46 := Tryz.sizeOf132
 v46 := Tryz.zeroValue132
 t51 := Tryz.underlying146
 a51 := Tryz.isAgg146
 z51 := Tryz.sizeOf146
 v51 := Tryz.zeroValue146
 t105 := Tryz.underlying134
 a105 := Tryz.isAgg134
 z105 := Tryz.sizeOf134
 v105 := Tryz.zeroValue134
 t119 := Tryz.underlying156
 a119 := Tryz.isAgg156
 z119 := Tryz.sizeOf156
 t138 := Tryz.underlying158
 a138 := Tryz.isAgg158
 z138 := Tryz.sizeOf158
 v138 := Tryz.zeroValue158
 t139 := Tryz.underlying159
 a139 := Tryz.isAgg159
 z139 := Tryz.sizeOf159
 v139 := Tryz.zeroValue159
 t146 := Tryz.underlying147
 a146 := Tryz.isAgg147
 z146 := Tryz.sizeOf147
 v146 := Tryz.zeroValue147
 g1 := by kernel_rfl
 g3 := by kernel_rfl
 g4 := by kernel_rfl }
open Go.RowKit Go.Lib in
theorem Tryz.strings_Split (s sep : ByteArray) (m : Int) (w : World) (hs : s.size < 4294967281) (hm : w.cell? ⟨0, 0, none⟩ = some (.int .i64 m)) (h1 : 1 ≤ sep.size) :
  Calls Tryz.prog 12 #[.string s, .string sep] w fun e w' =>
   e = .returned (.slice (some ⟨w.heap.size, 0, none⟩) (Lib.countB s sep + 1) (Lib.countB s sep + 1)) ∧ w' = w.alloc (.cells ((Lib.splitB sep 0 (Lib.countB s sep) s).map Value.string).toArray 9) := Any.strings_Split Tryz.lays146 (by kernel_rfl) s sep m w hs hm h1
end Go.Proofs
/- The contract, by hand, of internal/stringslite.Index at a needle of one byte: out of the shelf's. -/
set_option linter.unusedVariables false
namespace Go.Proofs.YtbboanfggaknjaaGreatDoor.X
open Go.RowKit Go.Proofs.YtbboanfggaknjaaGreatDoorW.PrintWords Go.Proofs.YtbboanfggaknjaaGreatDoorW.PrintLast Go.Proofs.YtbboanfggaknjaaGreatDoorW.PrintMore
def stringslite_Index.f (a0 : ByteArray) (a1 : ByteArray) : Option Int := if h : a1.size = 1 then some (Lib.indexByte a0.data.toList (a1[0]'(by omega))) else none
theorem stringslite_Index.calls (a0 : ByteArray) (a1 : ByteArray) (r : Int) (w : World) (h : stringslite_Index.f a0 a1 = some r) :
  Calls Tryz.prog 48 #[.string a0, .string a1] w fun e w' => e = .returned (.int .i64 r) ∧ Drawn0 w w' := by
 unfold stringslite_Index.f at h
 by_cases hs : a1.size = 1
 ·rw [dif_pos hs] at h
  obtain rfl := Option.some.inj h
  obtain ⟨⟨l⟩⟩ := a1
  obtain ⟨c, rfl⟩ : ∃ c, l = [c] := by
   match l, hs with
   | [c], _ => exact ⟨c, rfl⟩
  refine (Tryz.stringslite_Index_one a0 c w).mono ?_
  rintro e w' ⟨rfl, rfl⟩
  exact ⟨rfl, Drawn0.refl _⟩
 ·rw [dif_neg hs] at h
  cases h
end Go.Proofs.YtbboanfggaknjaaGreatDoor.X
namespace Go.Proofs.YtbboanfggaknjaaGreatDoor.X
open Go.RowKit Go.Proofs.YtbboanfggaknjaaGreatDoorW.PrintWords Go.Proofs.YtbboanfggaknjaaGreatDoorW.PrintLast Go.Proofs.YtbboanfggaknjaaGreatDoorW.PrintMore
attribute [local go_sem] max2_int min2_int max_two min_two max_three min_three max_four min_four
set_option linter.unusedVariables false
set_option linter.unusedSimpArgs false
def stringslite_Cut.f (a0 : ByteArray) (a1 : ByteArray) : Option (ByteArray × ByteArray × Bool) := (stringslite_Index.f a0 a1).bind fun t101 => (if t101 ≥ 0 then (if 0 ≤ t101 then (if t101 ≤ (a0.size : Int) then (if 0 ≤ (wrap64 (t101 + (a1.size : Int))) then (if (wrap64 (t101 + (a1.size : Int))) ≤ (a0.size : Int) then (some (a0.extract 0 (t101 : Int).toNat, a0.extract ((wrap64 (t101 + (a1.size : Int))) : Int).toNat a0.size, true)) else (none)) else (none)) else (none)) else (none)) else (some (a0, (⟨#[]⟩ : ByteArray), false)))
theorem stringslite_Cut.calls (a0 : ByteArray) (a1 : ByteArray) (r1 : ByteArray) (r2 : ByteArray) (r3 : Bool) (w : World) (h : stringslite_Cut.f a0 a1 = some (r1, r2, r3)) :
  Calls Tryz.prog 25 #[.string a0, .string a1] w fun e w' => e = .returned (.tuple #[.string r1, .string r2, .bool r3]) ∧ Drawn0 w w' := by
 have H : ((stringslite_Index.f a0 a1).bind fun t101 => (if t101 ≥ 0 then (if 0 ≤ t101 then (if t101 ≤ (a0.size : Int) then (if 0 ≤ (wrap64 (t101 + (a1.size : Int))) then (if (wrap64 (t101 + (a1.size : Int))) ≤ (a0.size : Int) then (some (a0.extract 0 (t101 : Int).toNat, a0.extract ((wrap64 (t101 + (a1.size : Int))) : Int).toNat a0.size, true)) else (none)) else (none)) else (none)) else (none)) else (some (a0, (⟨#[]⟩ : ByteArray), false)))) = some (r1, r2, r3) := h
 clear h; obtain ⟨t101, A3, H⟩ := bo_ H
 by_cases c4 : t101 ≥ 0
 ·rw [if_pos c4] at H; have c4b0 := decide_eq_true c4; clear c4
  by_cases c5 : 0 ≤ t101
  ·rw [if_pos c5] at H; have c5b0 := eq_true c5; have c5b1 := decide_eq_true c5; clear c5
   by_cases c6 : t101 ≤ (a0.size : Int)
   ·rw [if_pos c6] at H; have c6b0 := eq_true c6; have c6b1 := decide_eq_true c6; clear c6; obtain ⟨ji7, hji7⟩ : ∃ j_ : Int, (wrap64 (t101 + (a1.size : Int))) = j_ := ⟨_, rfl⟩
    replace H : (if 0 ≤ (ji7) then (if (ji7) ≤ (a0.size : Int) then (some (a0.extract 0 (t101 : Int).toNat, a0.extract ((ji7) : Int).toNat a0.size, true)) else (none)) else (none)) = some (r1, r2, r3) := by first | (rw [hji7] at H; exact H) | (simp only [hji7] at H ⊢; exact H)
    (try rw [hji7] at A3)
    have hji7w : (IntKind.i64.wrap (t101 + (a1.size : Int))) = ji7 := (i64_w _).trans hji7
    by_cases c8 : 0 ≤ (ji7)
    ·rw [if_pos c8] at H; have c8b0 := eq_true c8; have c8b1 := decide_eq_true c8; clear c8
     by_cases c9 : (ji7) ≤ (a0.size : Int)
     ·rw [if_pos c9] at H; have c9b0 := eq_true c9; have c9b1 := decide_eq_true c9; clear c9
      simp only [Option.some.injEq, Prod.mk.injEq] at H
      obtain ⟨rfl, rfl, rfl⟩ := H
      go_enter Tryz.func25, Tryz.ntmps25
      go_wp2_with (first | (go_at_call 48; (with_reducible refine (stringslite_Index.calls a0 a1 t101 _ A3.out).mono ?_); rintro e w' ⟨rfl, ⟨nd, rfl⟩⟩; (try first | exact ⟨rfl, _, World.drewN_drewN _ _ _⟩ | exact ⟨rfl, _, Eq.trans (World.drewN_drewN _ _ _) (congrArg (World.drewN _) (Nat.add_assoc _ _ _))⟩)))
      repeat (go_quiet (first | (go_at_call 48; (with_reducible refine (stringslite_Index.calls a0 a1 t101 _ A3.out).mono ?_); rintro e w' ⟨rfl, ⟨nd, rfl⟩⟩; (try first | exact ⟨rfl, _, World.drewN_drewN _ _ _⟩ | exact ⟨rfl, _, Eq.trans (World.drewN_drewN _ _ _) (congrArg (World.drewN _) (Nat.add_assoc _ _ _))⟩))); try go_wp2_with (first | (go_at_call 48; (with_reducible refine (stringslite_Index.calls a0 a1 t101 _ A3.out).mono ?_); rintro e w' ⟨rfl, ⟨nd, rfl⟩⟩; (try first | exact ⟨rfl, _, World.drewN_drewN _ _ _⟩ | exact ⟨rfl, _, Eq.trans (World.drewN_drewN _ _ _) (congrArg (World.drewN _) (Nat.add_assoc _ _ _))⟩))))
      go_ret3
      exact ⟨by first | rfl | (simp; done) | (simp only [← hji7] <;> (first | rfl | simp)) | (simp [*]; done), dr_⟩
     ·rw [if_neg c9] at H
      exact absurd H (by simp)
    ·rw [if_neg c8] at H
     exact absurd H (by simp)
   ·rw [if_neg c6] at H
    exact absurd H (by simp)
  ·rw [if_neg c5] at H
   exact absurd H (by simp)
 ·rw [if_neg c4] at H; have c4b0 := decide_eq_false c4; clear c4
  simp only [Option.some.injEq, Prod.mk.injEq] at H
  obtain ⟨rfl, rfl, rfl⟩ := H
  go_enter Tryz.func25, Tryz.ntmps25
  go_wp2_with (first | (go_at_call 48; (with_reducible refine (stringslite_Index.calls a0 a1 t101 _ A3.out).mono ?_); rintro e w' ⟨rfl, ⟨nd, rfl⟩⟩; (try first | exact ⟨rfl, _, World.drewN_drewN _ _ _⟩ | exact ⟨rfl, _, Eq.trans (World.drewN_drewN _ _ _) (congrArg (World.drewN _) (Nat.add_assoc _ _ _))⟩)))
  repeat (go_quiet (first | (go_at_call 48; (with_reducible refine (stringslite_Index.calls a0 a1 t101 _ A3.out).mono ?_); rintro e w' ⟨rfl, ⟨nd, rfl⟩⟩; (try first | exact ⟨rfl, _, World.drewN_drewN _ _ _⟩ | exact ⟨rfl, _, Eq.trans (World.drewN_drewN _ _ _) (congrArg (World.drewN _) (Nat.add_assoc _ _ _))⟩))); try go_wp2_with (first | (go_at_call 48; (with_reducible refine (stringslite_Index.calls a0 a1 t101 _ A3.out).mono ?_); rintro e w' ⟨rfl, ⟨nd, rfl⟩⟩; (try first | exact ⟨rfl, _, World.drewN_drewN _ _ _⟩ | exact ⟨rfl, _, Eq.trans (World.drewN_drewN _ _ _) (congrArg (World.drewN _) (Nat.add_assoc _ _ _))⟩))))
  go_ret3
  exact ⟨by first | rfl | (simp; done) | (simp [*]; done), dr_⟩

def strings_Cut.f (a0 : ByteArray) (a1 : ByteArray) : Option (ByteArray × ByteArray × Bool) := (stringslite_Cut.f a0 a1).bind fun bt101 => (some (bt101.1, bt101.2.1, bt101.2.2))
theorem strings_Cut.calls (a0 : ByteArray) (a1 : ByteArray) (r1 : ByteArray) (r2 : ByteArray) (r3 : Bool) (w : World) (h : strings_Cut.f a0 a1 = some (r1, r2, r3)) :
  Calls Tryz.prog 10 #[.string a0, .string a1] w fun e w' => e = .returned (.tuple #[.string r1, .string r2, .bool r3]) ∧ Drawn0 w w' := by
 have H : ((stringslite_Cut.f a0 a1).bind fun bt101 => (some (bt101.1, bt101.2.1, bt101.2.2))) = some (r1, r2, r3) := h
 clear h; obtain ⟨⟨t101, t102, t103⟩, A3, H⟩ := bo_ H; dsimp only at H
 simp only [Option.some.injEq, Prod.mk.injEq] at H
 obtain ⟨rfl, rfl, rfl⟩ := H
 go_enter Tryz.func10, Tryz.ntmps10
 go_wp2_with (first | ((with_reducible refine gate_callee (f:=25) rfl ?_); refine gL_ (some 9) rfl rfl Tryz.func25 rfl #[.string a0, .string a1] rfl ?_; (with_reducible refine (stringslite_Cut.calls a0 a1 t101 t102 t103 _ A3.out).mono ?_); rintro e w' ⟨rfl, ⟨nd, rfl⟩⟩; refine ⟨_, rfl, ?_⟩))
 go_ret3
 exact ⟨by first | rfl | (simp; done) | (simp [*]; done), dr_⟩

mutual
def addr_Column.j0 : Nat → ByteArray → Bool → Option (Int × Bool)
 | 0, _, _ => none
 | k + 1, x0, x13 => if x13 = true then (some (0, false)) else (addr_Column.l0 k x0 0 (x0.size : Int) 0)
def addr_Column.l0 : Nat → ByteArray → Int → Int → Int → Option (Int × Bool)
 | 0, _, _, _, _ => none
 | k + 1, x0, x4, x15, x16 => if x16 < x15 then (if 0 ≤ x16 then (if x16 < (x0.size : Int) then (if (bt x0 x16) < 65 then (some (0, false)) else (if (bt x0 x16) > 90 then (some (0, false)) else (addr_Column.l0 k x0 (wrap64 ((wrap64 ((wrap64 (x4 * 26)) + (((bt x0 x16) - 65) % 256))) + 1)) x15 (wrap64 (x16 + 1))))) else (none)) else (none)) else (some (wrap64 (x4 - 1), true))
end
def addr_Column.f (k : Nat) (a0 : ByteArray) : Option (Int × Bool) := if (a0.size : Int) < 1 then (addr_Column.j0 k a0 true) else (addr_Column.j0 k a0 (decide ((a0.size : Int) > 2)))
theorem addr_Column.calls (k : Nat) (a0 : ByteArray) (r1 : Int) (r2 : Bool) (w : World) (h : addr_Column.f k a0 = some (r1, r2)) :
  Calls Tryz.prog 76 #[.string a0] w fun e w' => e = .returned (.tuple #[.int .i64 r1, .bool r2]) ∧ Drawn0 w w' := by
 have H : (if (a0.size : Int) < 1 then (addr_Column.j0 k a0 true) else (addr_Column.j0 k a0 (decide ((a0.size : Int) > 2)))) = some (r1, r2) := h
 clear h; have HC2 := A_ H; clear H
 go_enter Tryz.func76, Tryz.ntmps76
 go_upto_region 1 with (fail)
 go_cut [13] (fun v13 wc => ∃ (kq : Nat) (x13_1 : Bool), v13 = .bool x13_1 ∧ Aside0 (addr_Column.j0 kq a0 x13_1 = some (r1, r2)) ∧ Aside0 (kq ≤ k) ∧ Drawn0 w wc)
 case first =>
  have H := HC2.out; clear HC2
  by_cases c3 : (a0.size : Int) < 1
  ·rw [if_pos c3] at H; have c3b0 := decide_eq_true c3; have c3b1 : decide (a0.size < 1) = true := decide_eq_true (by omega); clear c3; (first | rw [c3b0] | (simp only [i64_w, i32_w]; rw [c3b0]) | skip)
   have H' := A_ H
   clear H
   go_wp2
   go_meet
   case rel => exact ⟨_, (true), sq_, H', le_, dr_⟩
  ·rw [if_neg c3] at H; have c3b0 := decide_eq_false c3; have c3b1 : decide (a0.size < 1) = false := decide_eq_false (by omega); clear c3; (first | rw [c3b0] | (simp only [i64_w, i32_w]; rw [c3b0]) | skip)
   have H' := A_ H
   clear H
   go_wp2
   go_meet
   case rel => exact ⟨_, (decide ((a0.size : Int) > 2)), sq_, H', le_, dr_⟩
 case rest =>
  clear HC2; obtain ⟨kq, x13_1, rfl, HA, HJ1, ⟨mc1, rfl⟩⟩ := hcut
  cases kq with
  | zero => exact absurd HA.out (by simp [addr_Column.j0])
  | succ kj1 =>
   have H := HA.out; clear HA
   simp only [addr_Column.j0] at H
   by_cases c4 : x13_1 = true
   ·subst c4
    replace H := it_ H
    simp only [Option.some.injEq, Prod.mk.injEq] at H
    obtain ⟨rfl, rfl⟩ := H
    go_wp2
    go_ret2
    exact ⟨by first | rfl | (simp; done) | (simp [*]; done), dr_⟩
   ·replace c4 := Bool.eq_false_iff.mpr c4; subst c4
    replace H := ie_ H
    have H' := A_ H
    clear H
    go_wp2
    go_loopg [4, 16] kj1 (fun kq v4 v16 w' => ∃ (x4_2 : Int) (x16_2 : Int), v4 = .int .i64 x4_2 ∧ v16 = .int .i64 x16_2 ∧ Aside0 (addr_Column.l0 kq a0 x4_2 (a0.size : Int) x16_2 = some (r1, r2)) ∧ Aside0 (kq ≤ kj1) ∧ Drawn0 w w')
    case atStart => exact ⟨(0), (0), sq_, sq_, H', ⟨Nat.le_refl _⟩, dr_⟩
    case round =>
     clear H'; (try clear c4); obtain ⟨x4_2, x16_2, rfl, rfl, HA, HK2, ⟨m2, rfl⟩⟩ := hrel
     cases gk with
     | zero => exact absurd HA.out (by simp [addr_Column.l0])
     | succ k2 =>
      have H := HA.out; clear HA
      simp only [addr_Column.l0] at H
      by_cases c5 : x16_2 < (a0.size : Int)
      ·rw [if_pos c5] at H; have c5b0 := decide_eq_true c5; clear c5
       by_cases c6 : 0 ≤ x16_2
       ·rw [if_pos c6] at H; have c6b0 := decide_eq_true c6; clear c6
        by_cases c7 : x16_2 < (a0.size : Int)
        ·rw [if_pos c7] at H; have c7b0 := decide_eq_true c7; clear c7
         by_cases c9 : (bt a0 x16_2) < 65
         ·rw [if_pos c9] at H; have c9b0 := decide_eq_true c9; clear c9
          simp only [Option.some.injEq, Prod.mk.injEq] at H
          obtain ⟨rfl, rfl⟩ := H
          have p8 : 0 ≤ (x16_2 : Int) := of_decide_eq_true as_
          have q8 : x16_2 < (a0.size : Int) := of_decide_eq_true as_
          have hx8 := bt_at a0 x16_2; replace p8 := eq_true p8; replace q8 := eq_true q8
          go_wp2
          go_ret2
          exact ⟨by first | rfl | (simp; done) | (simp [*]; done), dr_⟩
         ·rw [if_neg c9] at H; have c9b0 := decide_eq_false c9; clear c9
          by_cases c11 : (bt a0 x16_2) > 90
          ·rw [if_pos c11] at H; have c11b0 := decide_eq_true c11; clear c11
           simp only [Option.some.injEq, Prod.mk.injEq] at H
           obtain ⟨rfl, rfl⟩ := H
           have p8 : 0 ≤ (x16_2 : Int) := of_decide_eq_true as_
           have q8 : x16_2 < (a0.size : Int) := of_decide_eq_true as_
           have hx8 := bt_at a0 x16_2; replace p8 := eq_true p8; replace q8 := eq_true q8
           have p10 : 0 ≤ (x16_2 : Int) := of_decide_eq_true as_
           have q10 : x16_2 < (a0.size : Int) := of_decide_eq_true as_
           have hx10 := bt_at a0 x16_2; replace p10 := eq_true p10; replace q10 := eq_true q10
           go_wp2
           go_ret2
           exact ⟨by first | rfl | (simp; done) | (simp [*]; done), dr_⟩
          ·rw [if_neg c11] at H; have c11b0 := decide_eq_false c11; clear c11
           have H' := A_ H
           clear H
           have p8 : 0 ≤ (x16_2 : Int) := of_decide_eq_true as_
           have q8 : x16_2 < (a0.size : Int) := of_decide_eq_true as_
           have hx8 := bt_at a0 x16_2; replace p8 := eq_true p8; replace q8 := eq_true q8
           have p10 : 0 ≤ (x16_2 : Int) := of_decide_eq_true as_
           have q10 : x16_2 < (a0.size : Int) := of_decide_eq_true as_
           have hx10 := bt_at a0 x16_2; replace p10 := eq_true p10; replace q10 := eq_true q10
           have p12 : 0 ≤ (x16_2 : Int) := of_decide_eq_true as_
           have q12 : x16_2 < (a0.size : Int) := of_decide_eq_true as_
           have hx12 := bt_at a0 x16_2; replace p12 := eq_true p12; replace q12 := eq_true q12
           go_wp2
           go_roundg k2
           case measure => have := HJ1.out; have := HK2.out; omega
           case rel => exact ⟨(wrap64 ((wrap64 ((wrap64 (x4_2 * 26)) + (((bt a0 x16_2) - 65) % 256))) + 1)), (wrap64 (x16_2 + 1)), sq_, sq_, H', ⟨by have := HJ1.out; have := HK2.out; omega⟩, dr_⟩
        ·rw [if_neg c7] at H
         exact absurd H (by simp)
       ·rw [if_neg c6] at H
        exact absurd H (by simp)
      ·rw [if_neg c5] at H; have c5b0 := decide_eq_false c5; clear c5
       simp only [Option.some.injEq, Prod.mk.injEq] at H
       obtain ⟨rfl, rfl⟩ := H
       go_wp2
       go_ret2
       exact ⟨by first | rfl | (simp; done) | (simp [*]; done), dr_⟩

mutual
def addr_Parse.j1 : Nat → ByteArray → Int → Option (Int × Int × Bool)
 | 0, _, _ => none
 | k + 1, x0, x4 => if 0 ≤ x4 then (if x4 ≤ (x0.size : Int) then ((addr_Column.f k (x0.extract 0 (x4 : Int).toNat)).bind fun bt102 => ((addr_Number.f k (x0.extract (x4 : Int).toNat x0.size)).bind fun bt104 => (if bt102.2 = true then (if bt104.2 = true then (some (bt104.1, bt102.1, true)) else (some (0, 0, false))) else (some (0, 0, false))))) else (none)) else (none)
def addr_Parse.l0 : Nat → ByteArray → Int → Option (Int × Int × Bool)
 | 0, _, _ => none
 | k + 1, x0, x4 => if x4 < (x0.size : Int) then (if 0 ≤ x4 then (if (bt x0 x4) ≥ 65 then (if (bt x0 x4) ≤ 90 then (addr_Parse.l0 k x0 (wrap64 (x4 + 1))) else (addr_Parse.j1 k x0 x4)) else (addr_Parse.j1 k x0 x4)) else (none)) else (addr_Parse.j1 k x0 x4)
end
def addr_Parse.f (k : Nat) (a0 : ByteArray) : Option (Int × Int × Bool) := addr_Parse.l0 k a0 0
theorem addr_Parse.calls (k : Nat) (a0 : ByteArray) (r1 : Int) (r2 : Int) (r3 : Bool) (w : World) (h : addr_Parse.f k a0 = some (r1, r2, r3)) :
  Calls Tryz.prog 49 #[.string a0] w fun e w' => e = .returned (.tuple #[.agg #[.int .i64 r1, .int .i64 r2], .bool r3]) ∧ Below w.heap.size w w' := by
 have hu39 := Tryz.underlying39; have HB := A_ (Below.refl w.heap.size w)
 have H : (addr_Parse.l0 k a0 0) = some (r1, r2, r3) := h
 clear h; have HC2 := A_ H; clear H
 go_enter Tryz.func49, Tryz.ntmps49
 go_upto_block 0 with (first | ((with_reducible refine gd_ 2 ?_); refine be_ (N:=2) (cs := #[.int .i64 0, .int .i64 0]) (t:=39) ?_; intro g1 hg w3 hbox hb; have B1 := A_ (hbox); have GW101 := hs_ HB hg; have GE101 := hs_ HB hg; replace HB := bs_ HB hb; clear hb hbox hg))
 (try simp only [q_])
 go_cut [4] (fun v4 wc => ∃ (kq : Nat) (x4_1 : Int), v4 = .int .i64 x4_1 ∧ Aside0 (addr_Parse.j1 kq a0 x4_1 = some (r1, r2, r3)) ∧ Aside0 (kq ≤ k) ∧ Aside0 (wc.heap[g1]? = some (.cells #[.int .i64 0, .int .i64 0] 39 (0, 0))) ∧ Aside0 (Below w.heap.size w wc))
 case first =>
  have H := HC2.out; clear HC2
  have H' := A_ H
  clear H
  go_wp2
  go_loopg [4] k (fun kq v4 w' => ∃ (x4_1 : Int), v4 = .int .i64 x4_1 ∧ Aside0 (addr_Parse.l0 kq a0 x4_1 = some (r1, r2, r3)) ∧ Aside0 (kq ≤ k) ∧ Aside0 (w'.heap[g1]? = some (.cells #[.int .i64 0, .int .i64 0] 39 (0, 0))) ∧ Aside0 (Below w.heap.size w w'))
  case atStart => exact ⟨(0), sq_, H', ⟨Nat.le_refl _⟩, ⟨pkx B1⟩, ⟨pbx HB⟩⟩
  case round =>
   clear H'; obtain ⟨x4_1, rfl, HA, HK1, B1, HB⟩ := hrel
   cases gk with
   | zero => exact absurd HA.out (by simp [addr_Parse.l0])
   | succ k1 =>
    have H := HA.out; clear HA
    simp only [addr_Parse.l0] at H
    by_cases c4 : x4_1 < (a0.size : Int)
    ·rw [if_pos c4] at H; have c4b0 := decide_eq_true c4; clear c4; (first | rw [c4b0] | (simp only [i64_w, i32_w]; rw [c4b0]) | skip)
     by_cases c5 : 0 ≤ x4_1
     ·rw [if_pos c5] at H; have c5b0 := decide_eq_true c5; clear c5
      by_cases c7 : (bt a0 x4_1) ≥ 65
      ·rw [if_pos c7] at H; have c7b0 := decide_eq_true c7; clear c7
       by_cases c9 : (bt a0 x4_1) ≤ 90
       ·rw [if_pos c9] at H; have c9b0 := decide_eq_true c9; clear c9
        have H' := A_ H
        clear H
        have p6 : 0 ≤ (x4_1 : Int) := of_decide_eq_true as_
        have q6 : x4_1 < (a0.size : Int) := of_decide_eq_true as_
        have hx6 := bt_at a0 x4_1; replace p6 := eq_true p6; replace q6 := eq_true q6
        have p8 : 0 ≤ (x4_1 : Int) := of_decide_eq_true as_
        have q8 : x4_1 < (a0.size : Int) := of_decide_eq_true as_
        have hx8 := bt_at a0 x4_1; replace p8 := eq_true p8; replace q8 := eq_true q8
        go_wp2
        go_roundg k1
        case measure => have := HK1.out; omega
        case rel => exact ⟨(wrap64 (x4_1 + 1)), sq_, H', ⟨by have := HK1.out; omega⟩, ⟨pkx B1⟩, ⟨pbx HB⟩⟩
       ·rw [if_neg c9] at H; have c9b0 := decide_eq_false c9; clear c9
        have H' := A_ H
        clear H
        have p6 : 0 ≤ (x4_1 : Int) := of_decide_eq_true as_
        have q6 : x4_1 < (a0.size : Int) := of_decide_eq_true as_
        have hx6 := bt_at a0 x4_1; replace p6 := eq_true p6; replace q6 := eq_true q6
        have p8 : 0 ≤ (x4_1 : Int) := of_decide_eq_true as_
        have q8 : x4_1 < (a0.size : Int) := of_decide_eq_true as_
        have hx8 := bt_at a0 x4_1; replace p8 := eq_true p8; replace q8 := eq_true q8
        go_wp2
        go_meet
        case rel => exact ⟨_, (x4_1), sq_, H', ⟨by have := HK1.out; first | omega | exact Nat.le_refl _⟩, ⟨pkx B1⟩, ⟨pbx HB⟩⟩
      ·rw [if_neg c7] at H; have c7b0 := decide_eq_false c7; clear c7
       have H' := A_ H
       clear H
       have p6 : 0 ≤ (x4_1 : Int) := of_decide_eq_true as_
       have q6 : x4_1 < (a0.size : Int) := of_decide_eq_true as_
       have hx6 := bt_at a0 x4_1; replace p6 := eq_true p6; replace q6 := eq_true q6
       go_wp2
       go_meet
       case rel => exact ⟨_, (x4_1), sq_, H', ⟨by have := HK1.out; first | omega | exact Nat.le_refl _⟩, ⟨pkx B1⟩, ⟨pbx HB⟩⟩
     ·rw [if_neg c5] at H
      exact absurd H (by simp)
    ·rw [if_neg c4] at H; have c4b0 := decide_eq_false c4; clear c4; (first | rw [c4b0] | (simp only [i64_w, i32_w]; rw [c4b0]) | skip)
     have H' := A_ H
     clear H
     go_wp2
     go_meet
     case rel => exact ⟨_, (x4_1), sq_, H', ⟨by have := HK1.out; first | omega | exact Nat.le_refl _⟩, ⟨pkx B1⟩, ⟨pbx HB⟩⟩
 case rest =>
  clear HC2; obtain ⟨kq, x4_1, rfl, HA, HJ1, B1, HB⟩ := hcut
  cases kq with
  | zero => exact absurd HA.out (by simp [addr_Parse.j1])
  | succ kj1 =>
   have H := HA.out; clear HA
   simp only [addr_Parse.j1] at H
   by_cases c10 : 0 ≤ x4_1
   ·rw [if_pos c10] at H; have c10b0 := eq_true c10; have c10b1 := decide_eq_true c10; clear c10
    by_cases c11 : x4_1 ≤ (a0.size : Int)
    ·rw [if_pos c11] at H; have c11b0 := eq_true c11; have c11b1 := decide_eq_true c11; clear c11; obtain ⟨⟨t102, t103⟩, A12, H⟩ := bo_ H; dsimp only at H; have c13b0 := eq_true (of_decide_eq_true as_ : 0 ≤ x4_1); have c14b0 := eq_true (of_decide_eq_true as_ : x4_1 ≤ (a0.size : Int)); obtain ⟨⟨t104, t105⟩, A15, H⟩ := bo_ H; dsimp only at H
     by_cases c16 : t103 = true
     ·subst c16
      replace H := it_ H
      by_cases c17 : t105 = true
      ·subst c17
       replace H := it_ H
       simp only [Option.some.injEq, Prod.mk.injEq] at H
       obtain ⟨rfl, rfl, rfl⟩ := H
       go_wp2_with (first | ((with_reducible refine gate_callee (f:=76) rfl ?_); refine gL_ (some 31) rfl rfl Tryz.func76 rfl #[.string (a0.extract 0 (x4_1 : Int).toNat)] rfl ?_; (with_reducible refine (addr_Column.calls kj1 (a0.extract 0 (x4_1 : Int).toNat) t102 true _ A12.out).mono ?_); rintro e w' ⟨rfl, ⟨nd, rfl⟩⟩; refine ⟨_, rfl, ?_⟩; (try (rw [drewN_self wc]; generalize hq_ : World.drewN wc _ = wc; have n0_ : Aside0 (wc.heap[g1]? = some (.cells #[.int .i64 0, .int .i64 0] 39 (0, 0))) := ⟨by rw [← hq_]; exact (pkx B1)⟩; have n1_ : Aside0 (Below w.heap.size w wc) := ⟨by rw [← hq_]; exact (pbx HB)⟩; clear B1 HB hq_; have B1 := n0_; have HB := n1_; clear n0_ n1_))) | ((with_reducible refine gate_callee (f:=26) rfl ?_); refine gL_ (some 38) rfl rfl Tryz.func26 rfl #[.string (a0.extract (x4_1 : Int).toNat a0.size)] rfl ?_; (with_reducible refine (addr_Number.calls kj1 (a0.extract (x4_1 : Int).toNat a0.size) t104 true _ A15.out).mono ?_); rintro e w' ⟨rfl, ⟨nd, rfl⟩⟩; refine ⟨_, rfl, ?_⟩; (try (rw [drewN_self wc]; generalize hq_ : World.drewN wc _ = wc; have n0_ : Aside0 (wc.heap[g1]? = some (.cells #[.int .i64 0, .int .i64 0] 39 (0, 0))) := ⟨by rw [← hq_]; exact (pkx B1)⟩; have n1_ : Aside0 (Below w.heap.size w wc) := ⟨by rw [← hq_]; exact (pbx HB)⟩; clear B1 HB hq_; have B1 := n0_; have HB := n1_; clear n0_ n1_)); have ⟨hcz18_0,hcz18_1,hfz18_0,hfz18_1⟩ := z2_ B1))
       refine bodyPost_ret (results_ct rfl _ _ g1 39 #[.int .i64 t104, .int .i64 t102] (0, 0) _ rfl (by refine pp_ (cs := #[.int .i64 t104, .int .i64 0]) 1 ?_ rfl; refine blk_put (cs := #[.int .i64 0, .int .i64 0]) ?_ 0 _ rfl; exact pkx B1) Tryz.underlying39 rfl (by kernel_rfl)) rfl ?_
       exact fi_ bl_
      ·replace c17 := Bool.eq_false_iff.mpr c17; subst c17
       replace H := ie_ H
       simp only [Option.some.injEq, Prod.mk.injEq] at H
       obtain ⟨rfl, rfl, rfl⟩ := H
       go_wp2_with (first | ((with_reducible refine gate_callee (f:=76) rfl ?_); refine gL_ (some 31) rfl rfl Tryz.func76 rfl #[.string (a0.extract 0 (x4_1 : Int).toNat)] rfl ?_; (with_reducible refine (addr_Column.calls kj1 (a0.extract 0 (x4_1 : Int).toNat) t102 true _ A12.out).mono ?_); rintro e w' ⟨rfl, ⟨nd, rfl⟩⟩; refine ⟨_, rfl, ?_⟩; (try (rw [drewN_self wc]; generalize hq_ : World.drewN wc _ = wc; have n0_ : Aside0 (wc.heap[g1]? = some (.cells #[.int .i64 0, .int .i64 0] 39 (0, 0))) := ⟨by rw [← hq_]; exact (pkx B1)⟩; have n1_ : Aside0 (Below w.heap.size w wc) := ⟨by rw [← hq_]; exact (pbx HB)⟩; clear B1 HB hq_; have B1 := n0_; have HB := n1_; clear n0_ n1_))) | ((with_reducible refine gate_callee (f:=26) rfl ?_); refine gL_ (some 38) rfl rfl Tryz.func26 rfl #[.string (a0.extract (x4_1 : Int).toNat a0.size)] rfl ?_; (with_reducible refine (addr_Number.calls kj1 (a0.extract (x4_1 : Int).toNat a0.size) t104 false _ A15.out).mono ?_); rintro e w' ⟨rfl, ⟨nd, rfl⟩⟩; refine ⟨_, rfl, ?_⟩; (try (rw [drewN_self wc]; generalize hq_ : World.drewN wc _ = wc; have n0_ : Aside0 (wc.heap[g1]? = some (.cells #[.int .i64 0, .int .i64 0] 39 (0, 0))) := ⟨by rw [← hq_]; exact (pkx B1)⟩; have n1_ : Aside0 (Below w.heap.size w wc) := ⟨by rw [← hq_]; exact (pbx HB)⟩; clear B1 HB hq_; have B1 := n0_; have HB := n1_; clear n0_ n1_)); have ⟨hcz19_0,hcz19_1,hfz19_0,hfz19_1⟩ := z2_ B1))
       refine bodyPost_ret (results_ct rfl _ _ g1 39 #[.int .i64 0, .int .i64 0] (0, 0) _ rfl (by refine pp_ (cs := #[.int .i64 0, .int .i64 0]) 1 ?_ rfl; refine blk_put (cs := #[.int .i64 0, .int .i64 0]) ?_ 0 _ rfl; exact pkx B1) Tryz.underlying39 rfl (by kernel_rfl)) rfl ?_
       exact fi_ bl_
     ·replace c16 := Bool.eq_false_iff.mpr c16; subst c16
      replace H := ie_ H
      simp only [Option.some.injEq, Prod.mk.injEq] at H
      obtain ⟨rfl, rfl, rfl⟩ := H
      go_wp2_with (first | ((with_reducible refine gate_callee (f:=76) rfl ?_); refine gL_ (some 31) rfl rfl Tryz.func76 rfl #[.string (a0.extract 0 (x4_1 : Int).toNat)] rfl ?_; (with_reducible refine (addr_Column.calls kj1 (a0.extract 0 (x4_1 : Int).toNat) t102 false _ A12.out).mono ?_); rintro e w' ⟨rfl, ⟨nd, rfl⟩⟩; refine ⟨_, rfl, ?_⟩; (try (rw [drewN_self wc]; generalize hq_ : World.drewN wc _ = wc; have n0_ : Aside0 (wc.heap[g1]? = some (.cells #[.int .i64 0, .int .i64 0] 39 (0, 0))) := ⟨by rw [← hq_]; exact (pkx B1)⟩; have n1_ : Aside0 (Below w.heap.size w wc) := ⟨by rw [← hq_]; exact (pbx HB)⟩; clear B1 HB hq_; have B1 := n0_; have HB := n1_; clear n0_ n1_))) | ((with_reducible refine gate_callee (f:=26) rfl ?_); refine gL_ (some 38) rfl rfl Tryz.func26 rfl #[.string (a0.extract (x4_1 : Int).toNat a0.size)] rfl ?_; (with_reducible refine (addr_Number.calls kj1 (a0.extract (x4_1 : Int).toNat a0.size) t104 t105 _ A15.out).mono ?_); rintro e w' ⟨rfl, ⟨nd, rfl⟩⟩; refine ⟨_, rfl, ?_⟩; (try (rw [drewN_self wc]; generalize hq_ : World.drewN wc _ = wc; have n0_ : Aside0 (wc.heap[g1]? = some (.cells #[.int .i64 0, .int .i64 0] 39 (0, 0))) := ⟨by rw [← hq_]; exact (pkx B1)⟩; have n1_ : Aside0 (Below w.heap.size w wc) := ⟨by rw [← hq_]; exact (pbx HB)⟩; clear B1 HB hq_; have B1 := n0_; have HB := n1_; clear n0_ n1_)); have ⟨hcz20_0,hcz20_1,hfz20_0,hfz20_1⟩ := z2_ B1))
      refine bodyPost_ret (results_ct rfl _ _ g1 39 #[.int .i64 0, .int .i64 0] (0, 0) _ rfl (by refine pp_ (cs := #[.int .i64 0, .int .i64 0]) 1 ?_ rfl; refine blk_put (cs := #[.int .i64 0, .int .i64 0]) ?_ 0 _ rfl; exact pkx B1) Tryz.underlying39 rfl (by kernel_rfl)) rfl ?_
      exact fi_ bl_
    ·rw [if_neg c11] at H
     exact absurd H (by simp)
   ·rw [if_neg c10] at H
    exact absurd H (by simp)

end Go.Proofs.YtbboanfggaknjaaGreatDoor.X
namespace Go.Proofs.YtbboanfggaknjaaGreatDoor.X
open Go.RowKit Go.Proofs.YtbboanfggaknjaaGreatDoorW.PrintWords Go.Proofs.YtbboanfggaknjaaGreatDoorW.PrintLast Go.Proofs.YtbboanfggaknjaaGreatDoorW.PrintMore
attribute [local go_sem] max2_int min2_int max_two min_two max_three min_three max_four min_four
set_option linter.unusedVariables false
set_option linter.unusedSimpArgs false
attribute [local go_sem high] eqA39
def span_Parse.j0 : Nat → ByteArray → Bool → Bool → Int → Int → Option (Int × Int × Int × Int × Bool)
 | 0, _, _, _, _, _ => none
 | k + 1, x5, x8, x26, x109000, x109001 => if x26 = true then (some (x109000, x109001, x109000, x109001, true)) else ((addr_Parse.f k x5).bind fun bt109 => (if x8 = true then (if bt109.2.2 = true then (if (x109000 == bt109.1 && (x109001 == bt109.2.1)) = true then (some (0, 0, 0, 0, false)) else (some (x109000, x109001, bt109.1, bt109.2.1, true))) else (some (0, 0, 0, 0, false))) else (some (0, 0, 0, 0, false))))
def span_Parse.f (k : Nat) (a0 : ByteArray) : Option (Int × Int × Int × Int × Bool) := (strings_Cut.f a0 (⟨#[58]⟩ : ByteArray)).bind fun bt102 => ((addr_Parse.f k bt102.1).bind fun bt105 => (if bt105.2.2 = true then (span_Parse.j0 k bt102.2.1 bt105.2.2 (!bt102.2.2) bt105.1 bt105.2.1) else (span_Parse.j0 k bt102.2.1 bt105.2.2 false bt105.1 bt105.2.1)))
theorem span_Parse.calls (k : Nat) (a0 : ByteArray) (r1 : Int) (r2 : Int) (r3 : Int) (r4 : Int) (r5 : Bool) (w : World) (h : span_Parse.f k a0 = some (r1, r2, r3, r4, r5)) :
  Calls Tryz.prog 27 #[.string a0] w fun e w' => e = .returned (.tuple #[.agg #[.int .i64 r1, .int .i64 r2, .int .i64 r3, .int .i64 r4], .bool r5]) ∧ Below w.heap.size w w' := by
 have hu55 := Tryz.underlying55; have hu39 := Tryz.underlying39; have HB := A_ (Below.refl w.heap.size w)
 have H : ((strings_Cut.f a0 (⟨#[58]⟩ : ByteArray)).bind fun bt102 => ((addr_Parse.f k bt102.1).bind fun bt105 => (if bt105.2.2 = true then (span_Parse.j0 k bt102.2.1 bt105.2.2 (!bt102.2.2) bt105.1 bt105.2.1) else (span_Parse.j0 k bt102.2.1 bt105.2.2 false bt105.1 bt105.2.1)))) = some (r1, r2, r3, r4, r5) := h
 clear h; obtain ⟨⟨t102, t103, t104⟩, A2, H⟩ := bo_ H; dsimp only at H; obtain ⟨⟨t105, t106, t107⟩, A3, H⟩ := bo_ H; dsimp only at H; have HC4 := A_ H; clear H
 go_enter Tryz.func27, Tryz.ntmps27
 go_upto_region 3 with (first | ((with_reducible refine gd_ 2 ?_); refine be_ (N:=2) (cs := #[.int .i64 0, .int .i64 0, .int .i64 0, .int .i64 0]) (t:=55) ?_; intro g1 hg w5 hbox hb; have B1 := A_ (hbox); have GW101 := hs_ HB hg; have GE101 := hs_ HB hg; replace HB := bs_ HB hb; clear hb hbox hg) | ((with_reducible refine gate_callee (f:=10) rfl ?_); refine gL_ (some 13) rfl rfl Tryz.func10 rfl #[.string a0, .string (⟨#[58]⟩ : ByteArray)] rfl ?_; (with_reducible refine (strings_Cut.calls a0 (⟨#[58]⟩ : ByteArray) t102 t103 t104 _ A2.out).mono ?_); rintro e w' ⟨rfl, ⟨nd, rfl⟩⟩; refine ⟨_, rfl, ?_⟩; (try (rw [drewN_self w5]; generalize hq_ : World.drewN w5 _ = w5; have n0_ : Aside0 (w5.heap[g1]? = some (.cells #[.int .i64 0, .int .i64 0, .int .i64 0, .int .i64 0] 55 (0, 0))) := ⟨by rw [← hq_]; exact (pkx B1)⟩; have n1_ : Aside0 (Below w.heap.size w w5) := ⟨by rw [← hq_]; exact (pbx HB)⟩; clear B1 HB hq_; have B1 := n0_; have HB := n1_; clear n0_ n1_))) | ((with_reducible refine gate_callee (f:=49) rfl ?_); refine gL_ (some 19) rfl rfl Tryz.func49 rfl #[.string t102] rfl ?_; (with_reducible refine (addr_Parse.calls k t102 t105 t106 t107 _ A3.out).mono ?_); rintro e w6 ⟨rfl, hb⟩; refine ⟨_, rfl, ?_⟩; replace B1 := bb_ B1 hb; replace HB := bs_ HB hb; ) | ((with_reducible refine gd_ 7 ?_); refine be_ (N:=7) (cs := #[.int .i64 0, .int .i64 0]) (t:=39) ?_; intro g8 hg w7 hbox hb; have B8 := A_ (hbox); have GW108 := hs_ HB hg; have GE108 := hs_ HB hg; have N18 := hl_ B1 hg; have N81 := hr_ B1 hg; replace B1 := bb_ B1 hb; replace HB := bs_ HB hb; clear hb hbox hg; have hnb8 := N81.out; have hnc8 := N18.out; have ⟨hcz9_0,hcz9_1,hfz9_0,hfz9_1⟩ := z2_ B8))
 (try simp only [q_])
 go_cut [26] (fun v26 wc => ∃ (kq : Nat) (x26_3 : Bool), v26 = .bool x26_3 ∧ Aside0 (span_Parse.j0 kq t103 t107 x26_3 t105 t106 = some (r1, r2, r3, r4, r5)) ∧ Aside0 (kq ≤ k) ∧ Aside0 (wc.heap[g1]? = some (.cells #[.int .i64 0, .int .i64 0, .int .i64 0, .int .i64 0] 55 (0, 0))) ∧ Aside0 (wc.heap[g8]? = some (.cells #[.int .i64 t105, .int .i64 t106] 39 (0, 0))) ∧ Aside0 (Below w.heap.size w wc))
 case first =>
  have H := HC4.out; clear HC4
  by_cases c10 : t107 = true
  ·subst c10
   replace H := it_ H
   have H' := A_ H
   clear H
   go_wp2
   go_meet
   case rel => exact ⟨_, (!t104), (by first | rfl | (simp; done) | (simp [*]; done) | (cases t104 <;> simp; done)), H', le_, ⟨by (iterate 2 refine pf_ ?_ N18.out); exact pkx B1⟩, ⟨by refine pp_ (cs := #[.int .i64 t105, .int .i64 0]) 1 ?_ rfl; refine blk_put (cs := #[.int .i64 0, .int .i64 0]) ?_ 0 _ rfl; exact pkx B8⟩, ⟨bl_⟩⟩
  ·replace c10 := Bool.eq_false_iff.mpr c10; subst c10
   replace H := ie_ H
   have H' := A_ H
   clear H
   go_wp2
   go_meet
   case rel => exact ⟨_, (false), sq_, H', le_, ⟨by (iterate 2 refine pf_ ?_ N18.out); exact pkx B1⟩, ⟨by refine pp_ (cs := #[.int .i64 t105, .int .i64 0]) 1 ?_ rfl; refine blk_put (cs := #[.int .i64 0, .int .i64 0]) ?_ 0 _ rfl; exact pkx B8⟩, ⟨bl_⟩⟩
 case rest =>
  clear HC4; (try clear hcz9_0); (try clear hcz9_1); (try clear hfz9_0); (try clear hfz9_1); obtain ⟨kq, x26_3, rfl, HA, HJ3, B1, B8, HB⟩ := hcut
  cases kq with
  | zero => exact absurd HA.out (by simp [span_Parse.j0])
  | succ kj3 =>
   have H := HA.out; clear HA
   simp only [span_Parse.j0] at H
   by_cases c11 : x26_3 = true
   ·subst c11
    replace H := it_ H
    simp only [Option.some.injEq, Prod.mk.injEq] at H
    obtain ⟨rfl, rfl, rfl, rfl, rfl⟩ := H; have hnb12 := N81.out; have hnc12 := N18.out
    have ⟨hcz13_0,hcz13_1,hfz13_0,hfz13_1⟩ := z2_ B8
    have ⟨hcz14_0,hcz14_1,hcz14_2,hcz14_3,hfz14_0,hfz14_1,hfz14_2,hfz14_3⟩ := z4_ B1
    go_wp2
    refine bodyPost_ret (results_ct rfl _ _ g1 55 #[.int .i64 t105, .int .i64 t106, .int .i64 t105, .int .i64 t106] (0, 0) _ rfl (by refine pp_ (cs := #[.int .i64 t105, .int .i64 t106, .int .i64 t105, .int .i64 0]) 3 ?_ rfl; refine blk_put (cs := #[.int .i64 t105, .int .i64 t106, .int .i64 0, .int .i64 0]) ?_ 2 _ rfl; refine blk_put (cs := #[.int .i64 t105, .int .i64 0, .int .i64 0, .int .i64 0]) ?_ 1 _ rfl; refine blk_put (cs := #[.int .i64 0, .int .i64 0, .int .i64 0, .int .i64 0]) ?_ 0 _ rfl; exact pkx B1) Tryz.underlying55 rfl (by kernel_rfl)) rfl ?_
    exact fi_ bl_
   ·replace c11 := Bool.eq_false_iff.mpr c11; subst c11
    obtain ⟨⟨t109, t110, t111⟩, A15, H⟩ := bo_ (ie_ H); dsimp only at H
    by_cases c16 : t107 = true
    ·subst c16
     replace H := it_ H
     by_cases c17 : t111 = true
     ·subst c17
      replace H := it_ H
      by_cases c18 : (t105 == t109 && (t106 == t110)) = true
      ·rw [if_pos c18] at H
       have c18b0 : (t105 == t109 && (t106 == t110)) = true := c18
       (try (have c18b1 : decide (t105 = t109 && (t106 == t110)) = true := by simpa using c18)); (try (have c18b2 : (t105 == t109 && (t106 == t110)) = true := by simpa using c18)); clear c18
       simp only [Option.some.injEq, Prod.mk.injEq] at H
       obtain ⟨rfl, rfl, rfl, rfl, rfl⟩ := H
       go_wp2_with (first | ((with_reducible refine gate_callee (f:=49) rfl ?_); refine gL_ (some 32) rfl rfl Tryz.func49 rfl #[.string t103] rfl ?_; (with_reducible refine (addr_Parse.calls kj3 t103 t109 t110 true _ A15.out).mono ?_); rintro e w19 ⟨rfl, hb⟩; refine ⟨_, rfl, ?_⟩; replace B1 := bb_ B1 hb; replace B8 := bb_ B8 hb; replace HB := bs_ HB hb; (try clear hb); ) | ((with_reducible refine gd_ 9 ?_); refine be_ (N:=9) (cs := #[.int .i64 0, .int .i64 0]) (t:=39) ?_; intro gb112 hg w20 hbox hb; have BK112 := A_ (hbox); have GW112 := hs_ HB hg; have GE112 := hs_ HB hg; have NB101_112 := hl_ B1 hg; have NB112_101 := hr_ B1 hg; have NB108_112 := hl_ B8 hg; have NB112_108 := hr_ B8 hg; replace B1 := bb_ B1 hb; replace B8 := bb_ B8 hb; replace HB := bs_ HB hb; clear hb hbox hg; have hnb21 := NB112_101.out; have hnc21 := NB101_112.out; have hnb22 := NB112_108.out; have hnc22 := NB108_112.out; have ⟨hcz23_0,hcz23_1,hfz23_0,hfz23_1⟩ := z2_ BK112; have hnb24 := N81.out; have hnc24 := N18.out; have ⟨hcz25_0,hcz25_1,hfz25_0,hfz25_1⟩ := z2_ B8; have ⟨hcz26_0,hcz26_1,hcz26_2,hcz26_3,hfz26_0,hfz26_1,hfz26_2,hfz26_3⟩ := z4_ B1))
       refine bodyPost_ret (results_ct rfl _ _ g1 55 #[.int .i64 0, .int .i64 0, .int .i64 0, .int .i64 0] (0, 0) _ rfl (by refine pp_ (cs := #[.int .i64 0, .int .i64 0, .int .i64 0, .int .i64 0]) 3 ?_ rfl; refine blk_put (cs := #[.int .i64 0, .int .i64 0, .int .i64 0, .int .i64 0]) ?_ 2 _ rfl; refine blk_put (cs := #[.int .i64 0, .int .i64 0, .int .i64 0, .int .i64 0]) ?_ 1 _ rfl; refine blk_put (cs := #[.int .i64 0, .int .i64 0, .int .i64 0, .int .i64 0]) ?_ 0 _ rfl; (iterate 2 refine pf_ ?_ NB101_112.out); exact pkx B1) Tryz.underlying55 rfl (by kernel_rfl)) rfl ?_
       exact fi_ bl_
      ·rw [if_neg c18] at H
       have c18b0 : (t105 == t109 && (t106 == t110)) = false := by simpa using c18
       (try (have c18b1 : decide (t105 = t109 && (t106 == t110)) = false := by simpa using c18)); (try (have c18b2 : (t105 == t109 && (t106 == t110)) = false := by simpa using c18)); (try (have c18b3 : ¬ (t105 = t109 && (t106 == t110)) := by simpa using c18)); clear c18
       simp only [Option.some.injEq, Prod.mk.injEq] at H
       obtain ⟨rfl, rfl, rfl, rfl, rfl⟩ := H
       go_wp2_with (first | ((with_reducible refine gate_callee (f:=49) rfl ?_); refine gL_ (some 32) rfl rfl Tryz.func49 rfl #[.string t103] rfl ?_; (with_reducible refine (addr_Parse.calls kj3 t103 t109 t110 true _ A15.out).mono ?_); rintro e w27 ⟨rfl, hb⟩; refine ⟨_, rfl, ?_⟩; replace B1 := bb_ B1 hb; replace B8 := bb_ B8 hb; replace HB := bs_ HB hb; (try clear hb); ) | ((with_reducible refine gd_ 9 ?_); refine be_ (N:=9) (cs := #[.int .i64 0, .int .i64 0]) (t:=39) ?_; intro gb112 hg w28 hbox hb; have BK112 := A_ (hbox); have GW112 := hs_ HB hg; have GE112 := hs_ HB hg; have NB101_112 := hl_ B1 hg; have NB112_101 := hr_ B1 hg; have NB108_112 := hl_ B8 hg; have NB112_108 := hr_ B8 hg; replace B1 := bb_ B1 hb; replace B8 := bb_ B8 hb; replace HB := bs_ HB hb; clear hb hbox hg; have hnb29 := NB112_101.out; have hnc29 := NB101_112.out; have hnb30 := NB112_108.out; have hnc30 := NB108_112.out; have ⟨hcz31_0,hcz31_1,hfz31_0,hfz31_1⟩ := z2_ BK112; have hnb32 := N81.out; have hnc32 := N18.out; have ⟨hcz33_0,hcz33_1,hfz33_0,hfz33_1⟩ := z2_ B8; have ⟨hcz34_0,hcz34_1,hcz34_2,hcz34_3,hfz34_0,hfz34_1,hfz34_2,hfz34_3⟩ := z4_ B1))
       refine bodyPost_ret (results_ct rfl _ _ g1 55 #[.int .i64 t105, .int .i64 t106, .int .i64 t109, .int .i64 t110] (0, 0) _ rfl (by refine pp_ (cs := #[.int .i64 t105, .int .i64 t106, .int .i64 t109, .int .i64 0]) 3 ?_ rfl; refine blk_put (cs := #[.int .i64 t105, .int .i64 t106, .int .i64 0, .int .i64 0]) ?_ 2 _ rfl; refine blk_put (cs := #[.int .i64 t105, .int .i64 0, .int .i64 0, .int .i64 0]) ?_ 1 _ rfl; refine blk_put (cs := #[.int .i64 0, .int .i64 0, .int .i64 0, .int .i64 0]) ?_ 0 _ rfl; (iterate 2 refine pf_ ?_ NB101_112.out); exact pkx B1) Tryz.underlying55 rfl (by kernel_rfl)) rfl ?_
       exact fi_ bl_
     ·replace c17 := Bool.eq_false_iff.mpr c17; subst c17
      replace H := ie_ H
      simp only [Option.some.injEq, Prod.mk.injEq] at H
      obtain ⟨rfl, rfl, rfl, rfl, rfl⟩ := H
      go_wp2_with (first | ((with_reducible refine gate_callee (f:=49) rfl ?_); refine gL_ (some 32) rfl rfl Tryz.func49 rfl #[.string t103] rfl ?_; (with_reducible refine (addr_Parse.calls kj3 t103 t109 t110 false _ A15.out).mono ?_); rintro e w35 ⟨rfl, hb⟩; refine ⟨_, rfl, ?_⟩; replace B1 := bb_ B1 hb; replace B8 := bb_ B8 hb; replace HB := bs_ HB hb; (try clear hb); ) | ((with_reducible refine gd_ 9 ?_); refine be_ (N:=9) (cs := #[.int .i64 0, .int .i64 0]) (t:=39) ?_; intro gb112 hg w36 hbox hb; have BK112 := A_ (hbox); have GW112 := hs_ HB hg; have GE112 := hs_ HB hg; have NB101_112 := hl_ B1 hg; have NB112_101 := hr_ B1 hg; have NB108_112 := hl_ B8 hg; have NB112_108 := hr_ B8 hg; replace B1 := bb_ B1 hb; replace B8 := bb_ B8 hb; replace HB := bs_ HB hb; clear hb hbox hg; have hnb37 := NB112_101.out; have hnc37 := NB101_112.out; have hnb38 := NB112_108.out; have hnc38 := NB108_112.out; have ⟨hcz39_0,hcz39_1,hfz39_0,hfz39_1⟩ := z2_ BK112; have hnb40 := N18.out; have hnc40 := N81.out; have ⟨hcz41_0,hcz41_1,hcz41_2,hcz41_3,hfz41_0,hfz41_1,hfz41_2,hfz41_3⟩ := z4_ B1))
      refine bodyPost_ret (results_ct rfl _ _ g1 55 #[.int .i64 0, .int .i64 0, .int .i64 0, .int .i64 0] (0, 0) _ rfl (by refine pp_ (cs := #[.int .i64 0, .int .i64 0, .int .i64 0, .int .i64 0]) 3 ?_ rfl; refine blk_put (cs := #[.int .i64 0, .int .i64 0, .int .i64 0, .int .i64 0]) ?_ 2 _ rfl; refine blk_put (cs := #[.int .i64 0, .int .i64 0, .int .i64 0, .int .i64 0]) ?_ 1 _ rfl; refine blk_put (cs := #[.int .i64 0, .int .i64 0, .int .i64 0, .int .i64 0]) ?_ 0 _ rfl; (iterate 2 refine pf_ ?_ NB101_112.out); exact pkx B1) Tryz.underlying55 rfl (by kernel_rfl)) rfl ?_
      exact fi_ bl_
    ·replace c16 := Bool.eq_false_iff.mpr c16; subst c16
     replace H := ie_ H
     simp only [Option.some.injEq, Prod.mk.injEq] at H
     obtain ⟨rfl, rfl, rfl, rfl, rfl⟩ := H
     go_wp2_with (first | ((with_reducible refine gate_callee (f:=49) rfl ?_); refine gL_ (some 32) rfl rfl Tryz.func49 rfl #[.string t103] rfl ?_; (with_reducible refine (addr_Parse.calls kj3 t103 t109 t110 t111 _ A15.out).mono ?_); rintro e w42 ⟨rfl, hb⟩; refine ⟨_, rfl, ?_⟩; replace B1 := bb_ B1 hb; replace B8 := bb_ B8 hb; replace HB := bs_ HB hb; (try clear hb); ) | ((with_reducible refine gd_ 9 ?_); refine be_ (N:=9) (cs := #[.int .i64 0, .int .i64 0]) (t:=39) ?_; intro gb112 hg w43 hbox hb; have BK112 := A_ (hbox); have GW112 := hs_ HB hg; have GE112 := hs_ HB hg; have NB101_112 := hl_ B1 hg; have NB112_101 := hr_ B1 hg; have NB108_112 := hl_ B8 hg; have NB112_108 := hr_ B8 hg; replace B1 := bb_ B1 hb; replace B8 := bb_ B8 hb; replace HB := bs_ HB hb; clear hb hbox hg; have hnb44 := NB112_101.out; have hnc44 := NB101_112.out; have hnb45 := NB112_108.out; have hnc45 := NB108_112.out; have ⟨hcz46_0,hcz46_1,hfz46_0,hfz46_1⟩ := z2_ BK112; have hnb47 := N18.out; have hnc47 := N81.out; have ⟨hcz48_0,hcz48_1,hcz48_2,hcz48_3,hfz48_0,hfz48_1,hfz48_2,hfz48_3⟩ := z4_ B1))
     refine bodyPost_ret (results_ct rfl _ _ g1 55 #[.int .i64 0, .int .i64 0, .int .i64 0, .int .i64 0] (0, 0) _ rfl (by refine pp_ (cs := #[.int .i64 0, .int .i64 0, .int .i64 0, .int .i64 0]) 3 ?_ rfl; refine blk_put (cs := #[.int .i64 0, .int .i64 0, .int .i64 0, .int .i64 0]) ?_ 2 _ rfl; refine blk_put (cs := #[.int .i64 0, .int .i64 0, .int .i64 0, .int .i64 0]) ?_ 1 _ rfl; refine blk_put (cs := #[.int .i64 0, .int .i64 0, .int .i64 0, .int .i64 0]) ?_ 0 _ rfl; (iterate 2 refine pf_ ?_ NB101_112.out); exact pkx B1) Tryz.underlying55 rfl (by kernel_rfl)) rfl ?_
     exact fi_ bl_

end Go.Proofs.YtbboanfggaknjaaGreatDoor.X
namespace Go.Proofs.YtbboanfggaknjaaGreatDoor.X
open Go.RowKit Go.Proofs.YtbboanfggaknjaaGreatDoorW.PrintWords Go.Proofs.YtbboanfggaknjaaGreatDoorW.PrintLast Go.Proofs.YtbboanfggaknjaaGreatDoorW.PrintMore
attribute [local go_sem] max2_int min2_int max_two min_two max_three min_three max_four min_four
set_option linter.unusedVariables false
set_option linter.unusedSimpArgs false
theorem eqA58 (d : Nat) (w : World) (x0 y0 : Int) (x1 y1 : Int) :
  (Op.equalIn (d + 2) 58 (.agg #[.int .i64 x0, .int .u64 x1]) (.agg #[.int .i64 y0, .int .u64 y1])).run Tryz.prog w = .ok (x0 == y0 && (x1 == y1)) w := by
 refine eqA_of Tryz.underlying58 (by kernel_rfl) ?_
 refine eqf_cons (by rfl) (by go_simp; rfl) (by go_simp; rfl) (by go_simp) ?_
 exact eqf_last (by rfl) (by go_simp; rfl) (by go_simp; rfl) (by go_simp)
def label_Top.f  : Option (Int × Int) := some (15, 18446744073709551615)
theorem label_Top.calls  (r1 : Int) (r2 : Int) (w : World) (h : label_Top.f  = some (r1, r2)) :
  Calls Tryz.prog 46 #[] w fun e w' => e = .returned (.agg #[.int .i64 r1, .int .u64 r2]) ∧ Below w.heap.size w w' := by
 have hu58 := Tryz.underlying58; have HB := A_ (Below.refl w.heap.size w)
 have H : (some (15, 18446744073709551615)) = some (r1, r2) := h
 clear h
 simp only [Option.some.injEq, Prod.mk.injEq] at H
 obtain ⟨rfl, rfl⟩ := H
 go_enter Tryz.func46, Tryz.ntmps46
 go_wp2_with (first | ((with_reducible refine gd_ 0 ?_); refine be_ (N:=0) (cs := #[.int .i64 0, .int .u64 0]) (t:=58) ?_; intro g1 hg w1 hbox hb; have B1 := A_ (hbox); have GW101 := hs_ HB hg; have GE101 := hs_ HB hg; replace HB := bs_ HB hb; clear hb hbox hg; have ⟨hcz2_0,hcz2_1,hfz2_0,hfz2_1⟩ := z2_ B1))
 refine bodyPost_ret (results_cell_row rfl _ _ g1 58 #[.int .i64 15, .int .u64 18446744073709551615] (0, 0) _ rfl (by refine pp_ (cs := #[.int .i64 15, .int .u64 0]) 1 ?_ rfl; refine blk_put (cs := #[.int .i64 0, .int .u64 0]) ?_ 0 _ rfl; exact pkx B1) Tryz.underlying58 rfl (by kernel_rfl)) rfl ?_
 exact fi_ bl_

mutual
def cats_number.j0 : Nat → ByteArray → Bool → Option (Int × Bool)
 | 0, _, _ => none
 | k + 1, x0, x23 => if x23 = true then (some (0, false)) else (cats_number.l0 k x0 0 (x0.size : Int) 0)
def cats_number.l0 : Nat → ByteArray → Int → Int → Int → Option (Int × Bool)
 | 0, _, _, _, _ => none
 | k + 1, x0, x4, x25, x26 => if x26 < x25 then (if 0 ≤ x26 then (if x26 < (x0.size : Int) then (if (bt x0 x26) < 48 then (some (0, false)) else (if (bt x0 x26) > 57 then (some (0, false)) else (cats_number.l0 k x0 (wrap64 ((wrap64 (x4 * 10)) + (((bt x0 x26) - 48) % 256))) x25 (wrap64 (x26 + 1))))) else (none)) else (none)) else (some (x4, decide (x4 < 64)))
end
def cats_number.f (k : Nat) (a0 : ByteArray) : Option (Int × Bool) := if (a0.size : Int) < 1 then (cats_number.j0 k a0 true) else (if (a0.size : Int) > 2 then (cats_number.j0 k a0 true) else (if (a0.size : Int) = 2 then (if 0 < (a0.size : Int) then (cats_number.j0 k a0 ((bt a0 0) == 48)) else (none)) else (cats_number.j0 k a0 false)))
theorem cats_number.calls (k : Nat) (a0 : ByteArray) (r1 : Int) (r2 : Bool) (w : World) (h : cats_number.f k a0 = some (r1, r2)) :
  Calls Tryz.prog 77 #[.string a0] w fun e w' => e = .returned (.tuple #[.int .i64 r1, .bool r2]) ∧ Drawn0 w w' := by
 have H : (if (a0.size : Int) < 1 then (cats_number.j0 k a0 true) else (if (a0.size : Int) > 2 then (cats_number.j0 k a0 true) else (if (a0.size : Int) = 2 then (if 0 < (a0.size : Int) then (cats_number.j0 k a0 ((bt a0 0) == 48)) else (none)) else (cats_number.j0 k a0 false)))) = some (r1, r2) := h
 clear h; have HC2 := A_ H; clear H
 go_enter Tryz.func77, Tryz.ntmps77
 go_upto_region 1 with (fail)
 go_cut [23] (fun v23 wc => ∃ (kq : Nat) (x23_1 : Bool), v23 = .bool x23_1 ∧ Aside0 (cats_number.j0 kq a0 x23_1 = some (r1, r2)) ∧ Aside0 (kq ≤ k) ∧ Drawn0 w wc)
 case first =>
  have H := HC2.out; clear HC2
  by_cases c3 : (a0.size : Int) < 1
  ·rw [if_pos c3] at H; have c3b0 := decide_eq_true c3; have c3b1 : decide (a0.size < 1) = true := decide_eq_true (by omega); clear c3; (first | rw [c3b0] | (simp only [i64_w, i32_w]; rw [c3b0]) | skip)
   have H' := A_ H
   clear H
   go_wp2
   go_meet
   case rel => exact ⟨_, (true), sq_, H', le_, dr_⟩
  ·rw [if_neg c3] at H; have c3b0 := decide_eq_false c3; have c3b1 : decide (a0.size < 1) = false := decide_eq_false (by omega); clear c3; (first | rw [c3b0] | (simp only [i64_w, i32_w]; rw [c3b0]) | skip)
   by_cases c4 : (a0.size : Int) > 2
   ·rw [if_pos c4] at H; have c4b0 := decide_eq_true c4; have c4b1 : decide (2 < a0.size) = true := decide_eq_true (by omega); clear c4
    have H' := A_ H
    clear H
    go_wp2
    go_meet
    case rel => exact ⟨_, (true), sq_, H', le_, dr_⟩
   ·rw [if_neg c4] at H; have c4b0 := decide_eq_false c4; have c4b1 : decide (2 < a0.size) = false := decide_eq_false (by omega); clear c4
    by_cases c5 : (a0.size : Int) = 2
    ·rw [if_pos c5] at H; have ⟨c5b0,c5b1⟩ := e1_ c5; clear c5
     by_cases c6 : 0 < (a0.size : Int)
     ·rw [if_pos c6] at H; have c6b0 := decide_eq_true c6; have c6b1 : decide (0 < a0.size) = true := decide_eq_true (by omega); clear c6
      have H' := A_ H
      clear H
      have p7 : 0 ≤ (0 : Int) := (by omega)
      have q7 : 0 < a0.size := (by have : (0 : Int) < (a0.size : Int) := of_decide_eq_true as_; omega)
      have hx7 : ∀ h : 0 < a0.size, ((a0[0]'h).toNat : Int) = bt a0 0 := bt_at a0 0
      clear p7; have qi7 : (0 < (a0.size : Int)) = True := eq_true (of_decide_eq_true as_); replace q7 := eq_true q7
      go_wp2
      go_meet
      case rel => exact ⟨_, (((bt a0 0) == 48)), sq_, H', le_, dr_⟩
     ·rw [if_neg c6] at H
      exact absurd H (by simp)
    ·rw [if_neg c5] at H; have ⟨c5b0,c5b1⟩ := e0_ c5
     have H' := A_ H
     clear H
     go_wp2
     go_meet
     case rel => exact ⟨_, (false), sq_, H', le_, dr_⟩
 case rest =>
  clear HC2; obtain ⟨kq, x23_1, rfl, HA, HJ1, ⟨mc1, rfl⟩⟩ := hcut
  cases kq with
  | zero => exact absurd HA.out (by simp [cats_number.j0])
  | succ kj1 =>
   have H := HA.out; clear HA
   simp only [cats_number.j0] at H
   by_cases c8 : x23_1 = true
   ·subst c8
    replace H := it_ H
    simp only [Option.some.injEq, Prod.mk.injEq] at H
    obtain ⟨rfl, rfl⟩ := H
    go_wp2
    go_ret2
    exact ⟨by first | rfl | (simp; done) | (simp [*]; done), dr_⟩
   ·replace c8 := Bool.eq_false_iff.mpr c8; subst c8
    replace H := ie_ H
    have H' := A_ H
    clear H
    go_wp2
    go_loopg [4, 26] kj1 (fun kq v4 v26 w' => ∃ (x4_2 : Int) (x26_2 : Int), v4 = .int .i64 x4_2 ∧ v26 = .int .i64 x26_2 ∧ Aside0 (cats_number.l0 kq a0 x4_2 (a0.size : Int) x26_2 = some (r1, r2)) ∧ Aside0 (kq ≤ kj1) ∧ Drawn0 w w')
    case atStart => exact ⟨(0), (0), sq_, sq_, H', ⟨Nat.le_refl _⟩, dr_⟩
    case round =>
     clear H'; (try clear c8); obtain ⟨x4_2, x26_2, rfl, rfl, HA, HK2, ⟨m2, rfl⟩⟩ := hrel
     cases gk with
     | zero => exact absurd HA.out (by simp [cats_number.l0])
     | succ k2 =>
      have H := HA.out; clear HA
      simp only [cats_number.l0] at H
      by_cases c9 : x26_2 < (a0.size : Int)
      ·rw [if_pos c9] at H; have c9b0 := decide_eq_true c9; clear c9
       by_cases c10 : 0 ≤ x26_2
       ·rw [if_pos c10] at H; have c10b0 := decide_eq_true c10; clear c10
        by_cases c11 : x26_2 < (a0.size : Int)
        ·rw [if_pos c11] at H; have c11b0 := decide_eq_true c11; clear c11
         by_cases c13 : (bt a0 x26_2) < 48
         ·rw [if_pos c13] at H; have c13b0 := decide_eq_true c13; clear c13
          simp only [Option.some.injEq, Prod.mk.injEq] at H
          obtain ⟨rfl, rfl⟩ := H
          have p12 : 0 ≤ (x26_2 : Int) := of_decide_eq_true as_
          have q12 : x26_2 < (a0.size : Int) := of_decide_eq_true as_
          have hx12 := bt_at a0 x26_2; replace p12 := eq_true p12; replace q12 := eq_true q12
          go_wp2
          go_ret2
          exact ⟨by first | rfl | (simp; done) | (simp [*]; done), dr_⟩
         ·rw [if_neg c13] at H; have c13b0 := decide_eq_false c13; clear c13
          by_cases c15 : (bt a0 x26_2) > 57
          ·rw [if_pos c15] at H; have c15b0 := decide_eq_true c15; clear c15
           simp only [Option.some.injEq, Prod.mk.injEq] at H
           obtain ⟨rfl, rfl⟩ := H
           have p12 : 0 ≤ (x26_2 : Int) := of_decide_eq_true as_
           have q12 : x26_2 < (a0.size : Int) := of_decide_eq_true as_
           have hx12 := bt_at a0 x26_2; replace p12 := eq_true p12; replace q12 := eq_true q12
           have p14 : 0 ≤ (x26_2 : Int) := of_decide_eq_true as_
           have q14 : x26_2 < (a0.size : Int) := of_decide_eq_true as_
           have hx14 := bt_at a0 x26_2; replace p14 := eq_true p14; replace q14 := eq_true q14
           go_wp2
           go_ret2
           exact ⟨by first | rfl | (simp; done) | (simp [*]; done), dr_⟩
          ·rw [if_neg c15] at H; have c15b0 := decide_eq_false c15; clear c15
           have H' := A_ H
           clear H
           have p12 : 0 ≤ (x26_2 : Int) := of_decide_eq_true as_
           have q12 : x26_2 < (a0.size : Int) := of_decide_eq_true as_
           have hx12 := bt_at a0 x26_2; replace p12 := eq_true p12; replace q12 := eq_true q12
           have p14 : 0 ≤ (x26_2 : Int) := of_decide_eq_true as_
           have q14 : x26_2 < (a0.size : Int) := of_decide_eq_true as_
           have hx14 := bt_at a0 x26_2; replace p14 := eq_true p14; replace q14 := eq_true q14
           have p16 : 0 ≤ (x26_2 : Int) := of_decide_eq_true as_
           have q16 : x26_2 < (a0.size : Int) := of_decide_eq_true as_
           have hx16 := bt_at a0 x26_2; replace p16 := eq_true p16; replace q16 := eq_true q16
           go_wp2
           go_roundg k2
           case measure => have := HJ1.out; have := HK2.out; omega
           case rel => exact ⟨(wrap64 ((wrap64 (x4_2 * 10)) + (((bt a0 x26_2) - 48) % 256))), (wrap64 (x26_2 + 1)), sq_, sq_, H', ⟨by have := HJ1.out; have := HK2.out; omega⟩, dr_⟩
        ·rw [if_neg c11] at H
         exact absurd H (by simp)
       ·rw [if_neg c10] at H
        exact absurd H (by simp)
      ·rw [if_neg c9] at H; have c9b0 := decide_eq_false c9; clear c9
       simp only [Option.some.injEq, Prod.mk.injEq] at H
       obtain ⟨rfl, rfl⟩ := H
       go_wp2
       go_ret2
       exact ⟨by first | rfl | (simp; done) | (simp [*]; done), dr_⟩

end Go.Proofs.YtbboanfggaknjaaGreatDoor.X
/- The contract of strings.Split at a separator of one byte: out of the shelf's. -/
set_option linter.unusedVariables false
namespace Go.Proofs.YtbboanfggaknjaaGreatDoor.X
open Go.RowKit Go.Proofs.YtbboanfggaknjaaGreatDoorW.PrintWords Go.Proofs.YtbboanfggaknjaaGreatDoorW.PrintLast Go.Proofs.YtbboanfggaknjaaGreatDoorW.PrintMore
def strings_Split.f (a0 a1 : ByteArray) : Option (List ByteArray) := if a1.size = 1 ∧ a0.size < 4294967281 then some (Lib.splitB a1 0 (Lib.countB a0 a1) a0) else none
theorem heap_new_ (w : World) (o : Obj) : (w.alloc o).heap[w.heap.size]? = some o := by
 show (w.heap.push o)[w.heap.size]? = some o
 simp
theorem strs_own (W : World) (l : List ByteArray) (hl : l.length ≤ 9223372036854775807) :
  Kd.R Kd.string 9 (W.alloc (.cells (l.map Value.string).toArray 9)) W.heap.size (fun _ => True) (.slice (some ⟨W.heap.size, 0, none⟩) l.length l.length) l := by
 refine ⟨fun _ _ => trivial, l.map Value.string, ⟨by simp [Kd.string, Kd.scalar], Or.inr ⟨W.heap.size, l.length, (l.map Value.string).toArray, rfl, Nat.le_refl _, heap_new_ W _, Nat.le_refl _, by unfold maxLen; omega, by simp [Kd.string, Kd.scalar], by simp only [Kd.string, Kd.scalar, Nat.mul_one]; rw [List.take_of_length_le (by simp)]⟩⟩, ?_⟩
 exact Kd.reps_scalar l
theorem gensplit_one (s : ByteArray) (c : UInt8) (w : World) (hs : s.size < 4294967281) :
  Calls Tryz.prog 29 #[.string s, .string ⟨#[c]⟩, .int .i64 0, .int .i64 (-1)] w fun e w' =>
   e = .returned (.slice (some ⟨w.heap.size, 0, none⟩) (Lib.countB s ⟨#[c]⟩ + 1) (Lib.countB s ⟨#[c]⟩ + 1)) ∧ w' = w.alloc (.cells ((Lib.splitB ⟨#[c]⟩ 0 (Lib.countB s ⟨#[c]⟩) s).map Value.string).toArray 9) := by
 have h1 : 1 ≤ (⟨#[c]⟩ : ByteArray).size := Nat.le_refl _
 have hle := Lib.countB_le ⟨#[c]⟩ h1 s.size s (Nat.le_refl _)
 have hlen := Lib.splitB_all ⟨#[c]⟩ h1 0 _ s rfl
 have c0 := Any.strings_genSplit_core Tryz.lays221 (by kernel_rfl) s ⟨#[c]⟩ 0 (-1) (Lib.countB s ⟨#[c]⟩ + 1) w hs h1 (Nat.zero_le _)
  (fun x d hx => (Tryz.strings_Index_one x c _).mono fun e w' ⟨he, hw⟩ => ⟨by rw [he, ← Lib.index_one], hw⟩)
  ((Tryz.strings_Count_one s c w).mono fun e w' ⟨he, hw⟩ => ⟨by
   rw [he]
   show _ = Ending.returned (Value.int .i64 ((Lib.count s.data.toList [c] : Nat) : Int))
   rw [Lib.count_one]
   rfl, hw⟩) (by decide) (by decide) (by rw [if_pos (by decide)]; omega)
 rw [Nat.add_sub_cancel, hlen] at c0
 have e2 : Lib.cellsOf (Lib.splitB ⟨#[c]⟩ 0 (Lib.countB s ⟨#[c]⟩) s) (Lib.countB s ⟨#[c]⟩ + 1) = ((Lib.splitB ⟨#[c]⟩ 0 (Lib.countB s ⟨#[c]⟩) s).map Value.string).toArray := by rw [← hlen]; exact Lib.cellsOf_full _
 rw [e2] at c0
 exact c0
theorem split_one_w (s : ByteArray) (c : UInt8) (w : World) (hs : s.size < 4294967281) :
  Calls Tryz.prog 12 #[.string s, .string ⟨#[c]⟩] w fun e w' =>
   e = .returned (.slice (some ⟨w.heap.size, 0, none⟩) (Lib.countB s ⟨#[c]⟩ + 1) (Lib.countB s ⟨#[c]⟩ + 1)) ∧ w' = w.alloc (.cells ((Lib.splitB ⟨#[c]⟩ 0 (Lib.countB s ⟨#[c]⟩) s).map Value.string).toArray 9) := by
 go_enter Tryz.func12, Tryz.ntmps12
 go_wp2_with (go_at_call 29; refine (gensplit_one s c w hs).mono ?_; rintro e w' ⟨rfl, hw⟩; rw [hw])
 go_ret
 exact ⟨rfl, rfl⟩
theorem strings_Split.calls (a0 a1 : ByteArray) (r : List ByteArray) (w : World) (h : strings_Split.f a0 a1 = some r) :
  Calls Tryz.prog 12 #[.string a0, .string a1] w fun e w' => ∃ v0_ : Value, e = .returned (v0_) ∧ Kd.R Kd.string 9 w' w.heap.size (fun _ => True) v0_ r ∧ Below w.heap.size w w' := by
 unfold strings_Split.f at h
 by_cases hs : a1.size = 1 ∧ a0.size < 4294967281
 ·rw [if_pos hs] at h
  obtain rfl := Option.some.inj h
  obtain ⟨c, rfl⟩ := Lib.one_byte a1 hs.1
  have h1 : 1 ≤ (⟨#[c]⟩ : ByteArray).size := Nat.le_refl _
  have hle := Lib.countB_le ⟨#[c]⟩ h1 a0.size a0 (Nat.le_refl _)
  have hlen := Lib.splitB_all ⟨#[c]⟩ h1 0 _ a0 rfl
  refine (split_one_w a0 c w hs.2).mono ?_
  rintro e w' ⟨rfl, rfl⟩
  have := strs_own w (Lib.splitB ⟨#[c]⟩ 0 (Lib.countB a0 ⟨#[c]⟩) a0) (by rw [hlen]; omega)
  rw [hlen] at this
  exact ⟨_, rfl, this, (Below.refl _ w).alloc (Nat.le_refl _) _⟩
 ·rw [if_neg hs] at h
  cases h
end Go.Proofs.YtbboanfggaknjaaGreatDoor.X
namespace Go.Proofs.YtbboanfggaknjaaGreatDoor.X
open Go.RowKit Go.Proofs.YtbboanfggaknjaaGreatDoorW.PrintWords Go.Proofs.YtbboanfggaknjaaGreatDoorW.PrintLast Go.Proofs.YtbboanfggaknjaaGreatDoorW.PrintMore
attribute [local go_sem] max2_int min2_int max_two min_two max_three min_three max_four min_four
set_option linter.unusedVariables false
set_option linter.unusedSimpArgs false
def cats_Parse.l0 : Nat → Int → List ByteArray → Int → Int → Option (Int × Bool)
 | 0, _, _, _, _ => none
 | k + 1, x4, x12, x13, x14 => if x14 < x13 then (if 0 ≤ x14 then (if x14 < (x12.length : Int) then ((cats_number.f k (rdOf ByteArray.empty x12 x14)).bind fun bt105 => (if bt105.2 = true then (if 0 ≤ (IntKind.u64.wrap (bt105.1)) then (if (shr .u64 x4 (IntKind.u64.wrap (bt105.1))) = 0 then (cats_Parse.l0 k (Go.bits .or .u64 x4 (shl .u64 1 (IntKind.u64.wrap (bt105.1)))) x12 x13 (wrap64 (x14 + 1))) else (some (0, false))) else (none)) else (some (0, false)))) else (none)) else (none)) else (some (x4, true))
def cats_Parse.f (k : Nat) (a0 : ByteArray) : Option (Int × Bool) := if a0.toList = ([] : List UInt8) then (some (0, true)) else ((strings_Split.f a0 (⟨#[44]⟩ : ByteArray)).bind fun t101 => (cats_Parse.l0 k 0 t101 (t101.length : Int) 0))
theorem cats_Parse.calls (k : Nat) (a0 : ByteArray) (r1 : Int) (r2 : Bool) (w : World) (h : cats_Parse.f k a0 = some (r1, r2)) :
  Calls Tryz.prog 50 #[.string a0] w fun e w' => e = .returned (.tuple #[.int .u64 r1, .bool r2]) ∧ Below w.heap.size w w' := by
 have HB := A_ (Below.refl w.heap.size w)
 have H : (if a0.toList = ([] : List UInt8) then (some (0, true)) else ((strings_Split.f a0 (⟨#[44]⟩ : ByteArray)).bind fun t101 => (cats_Parse.l0 k 0 t101 (t101.length : Int) 0))) = some (r1, r2) := h
 clear h
 by_cases c2 : a0.toList = ([] : List UInt8)
 ·rw [if_pos c2] at H; have ⟨c2b0,c2b1⟩ := e1_ c2; clear c2
  simp only [Option.some.injEq, Prod.mk.injEq] at H
  obtain ⟨rfl, rfl⟩ := H
  go_enter Tryz.func50, Tryz.ntmps50
  go_wp2
  go_ret2
  exact fi_ (pbx HB)
 ·rw [if_neg c2] at H; have ⟨c2b0,c2b1⟩ := e0_ c2; obtain ⟨t101, A3, H⟩ := bo_ H
  have H' := A_ H
  clear H
  go_enter Tryz.func50, Tryz.ntmps50
  go_wp2_with (first | ((with_reducible refine gate_callee (f:=12) rfl ?_); refine gL_ (some 12) rfl rfl Tryz.func12 rfl #[.string a0, .string (⟨#[44]⟩ : ByteArray)] rfl ?_; (with_reducible refine (strings_Split.calls a0 (⟨#[44]⟩ : ByteArray) t101 _ A3.out).mono ?_); rintro e w4 ⟨v102, rfl, ho0, hb⟩; refine ⟨_, rfl, ?_⟩; have HO103 := A_ (Kd.R_lower ho0 (below_size (pbx HB))); replace HB := bs_ HB hb; obtain ⟨Ao5, co5, eo5⟩ := Kd.R_slice HO103.out; subst eo5))
  go_loopg [4, 14] k (fun kq v4 v14 w' => ∃ (x4_1 : Int) (x14_1 : Int), v4 = .int .u64 x4_1 ∧ v14 = .int .i64 x14_1 ∧ Aside0 (cats_Parse.l0 kq x4_1 t101 (t101.length : Int) x14_1 = some (r1, r2)) ∧ Aside0 (kq ≤ k) ∧ Aside0 (Kd.R Kd.string 9 w' w.heap.size (fun _ => True) (.slice Ao5 t101.length co5) t101) ∧ Aside0 (Below w.heap.size w w'))
  case atStart => exact ⟨(0), (0), sq_, sq_, H', ⟨Nat.le_refl _⟩, ⟨ra_ HO103.out⟩, ⟨pbx HB⟩⟩
  case round =>
   clear H'; (try clear c2); (try clear c2b0); (try clear c2b1); obtain ⟨x4_1, x14_1, rfl, rfl, HA, HK1, HO_12, HB⟩ := hrel
   cases gk with
   | zero => exact absurd HA.out (by simp [cats_Parse.l0])
   | succ k1 =>
    have H := HA.out; clear HA
    simp only [cats_Parse.l0] at H
    by_cases c6 : x14_1 < (t101.length : Int)
    ·rw [if_pos c6] at H; have c6b0 := decide_eq_true c6; clear c6
     by_cases c7 : 0 ≤ x14_1
     ·rw [if_pos c7] at H; have c7b0 := decide_eq_true c7; clear c7
      by_cases c8 : x14_1 < (t101.length : Int)
      ·rw [if_pos c8] at H; have c8b0 := decide_eq_true c8; clear c8; obtain ⟨⟨t105, t106⟩, A9, H⟩ := bo_ H; dsimp only at H
       by_cases c10 : t106 = true
       ·subst c10
        replace H := it_ H; obtain ⟨ji11, hji11⟩ : ∃ j_ : Int, (IntKind.u64.wrap (t105)) = j_ := ⟨_, rfl⟩
        replace H : (if 0 ≤ (ji11) then (if (shr .u64 x4_1 (ji11)) = 0 then (cats_Parse.l0 k1 (Go.bits .or .u64 x4_1 (shl .u64 1 (ji11))) t101 (t101.length : Int) (wrap64 (x14_1 + 1))) else (some (0, false))) else (none)) = some (r1, r2) := by first | (rw [hji11] at H; exact H) | (simp only [hji11] at H ⊢; exact H)
        (try rw [hji11] at A9)
        by_cases c12 : 0 ≤ (ji11)
        ·rw [if_pos c12] at H; have c12b0 := eq_true c12; have c12b1 := decide_eq_true c12; clear c12; obtain ⟨ji13, hji13⟩ : ∃ j_ : Int, (shr .u64 x4_1 (ji11)) = j_ := ⟨_, rfl⟩
         replace H : (if (ji13) = 0 then (cats_Parse.l0 k1 (Go.bits .or .u64 x4_1 (shl .u64 1 (ji11))) t101 (t101.length : Int) (wrap64 (x14_1 + 1))) else (some (0, false))) = some (r1, r2) := by first | (rw [hji13] at H; exact H) | (simp only [hji13] at H ⊢; exact H)
         (try rw [hji13] at A9)
         have hji13_ : (x4_1 / 2 ^ min (ji11).toNat 64) = ji13 := hji13
         have hji13z : (ji11) ≤ 64 → (x4_1 / 2 ^ (ji11).toNat) = ji13 := shr_small hji13
         by_cases c14 : (ji13) = 0
         ·rw [if_pos c14] at H; have ⟨c14b0,c14b1⟩ := e1_ c14; clear c14; have c15b0 := eq_true (of_decide_eq_true as_ : 0 ≤ (ji11)); obtain ⟨ji16, hji16⟩ : ∃ j_ : Int, (shl .u64 1 (ji11)) = j_ := ⟨_, rfl⟩
          replace H : (cats_Parse.l0 k1 (Go.bits .or .u64 x4_1 (ji16)) t101 (t101.length : Int) (wrap64 (x14_1 + 1))) = some (r1, r2) := by first | (rw [hji16] at H; exact H) | (simp only [hji16] at H ⊢; exact H)
          (try rw [hji16] at A9)
          have hji16_ : (IntKind.u64.wrap (1 * 2 ^ min (ji11).toNat 64)) = ji16 := hji16
          have hji16z : (ji11) ≤ 64 → (IntKind.u64.wrap (1 * 2 ^ (ji11).toNat)) = ji16 := shl_small hji16
          have hji16u : (IntKind.u64.wrap (2 ^ min (ji11).toNat 64)) = ji16 := by have h_ := hji16_; rw [Int.one_mul] at h_; exact h_
          have hji16v : (ji11) ≤ 64 → (IntKind.u64.wrap (2 ^ (ji11).toNat)) = ji16 := fun hle_ => by have h_ := hji16z hle_; rw [Int.one_mul] at h_; exact h_
          have H' := A_ H
          clear H
          have p104 : 0 ≤ (x14_1 : Int) := of_decide_eq_true as_
          have q104 : x14_1 < (t101.length : Int) := of_decide_eq_true as_
          obtain ⟨ad104, e104, hx104_0⟩ := Kd.at_string (Kd.R_reads' HO_12.out).2.2 x14_1 p104 q104
          cases e104
          replace p104 := eq_true p104; replace q104 := eq_true q104
          go_wp2_with (first | ((with_reducible refine gate_callee (f:=77) rfl ?_); refine gL_ (some 20) rfl rfl Tryz.func77 rfl #[.string (rdOf ByteArray.empty t101 x14_1)] rfl ?_; (with_reducible refine (cats_number.calls k1 (rdOf ByteArray.empty t101 x14_1) t105 true _ A9.out).mono ?_); rintro e w' ⟨rfl, ⟨nd, rfl⟩⟩; refine ⟨_, rfl, ?_⟩))
          go_roundg k1
          case measure => have := HK1.out; omega
          case rel => exact ⟨(Go.bits .or .u64 x4_1 (ji16)), (wrap64 (x14_1 + 1)), (by first | rfl | (simp; done) | (simp only [← hji16] <;> (first | rfl | simp)) | (simp [*]; done)), sq_, H', ⟨by have := HK1.out; omega⟩, ⟨ra_ HO_12.out⟩, ⟨pbx HB⟩⟩
         ·rw [if_neg c14] at H; have ⟨c14b0,c14b1⟩ := e0_ c14
          simp only [Option.some.injEq, Prod.mk.injEq] at H
          obtain ⟨rfl, rfl⟩ := H
          have p104 : 0 ≤ (x14_1 : Int) := of_decide_eq_true as_
          have q104 : x14_1 < (t101.length : Int) := of_decide_eq_true as_
          obtain ⟨ad104, e104, hx104_0⟩ := Kd.at_string (Kd.R_reads' HO_12.out).2.2 x14_1 p104 q104
          cases e104
          replace p104 := eq_true p104; replace q104 := eq_true q104
          go_wp2_with (first | ((with_reducible refine gate_callee (f:=77) rfl ?_); refine gL_ (some 20) rfl rfl Tryz.func77 rfl #[.string (rdOf ByteArray.empty t101 x14_1)] rfl ?_; (with_reducible refine (cats_number.calls k1 (rdOf ByteArray.empty t101 x14_1) t105 true _ A9.out).mono ?_); rintro e w' ⟨rfl, ⟨nd, rfl⟩⟩; refine ⟨_, rfl, ?_⟩))
          go_ret2
          exact ⟨by first | rfl | (simp [errW_none, errW_some] <;> rfl) | (simp only [← hji11, ← hji13]; first | rfl | (simp [errW_none, errW_some] <;> rfl)) | (simp [*, errW_none, errW_some] <;> rfl), pbx HB⟩
        ·rw [if_neg c12] at H
         exact absurd H (by simp)
       ·replace c10 := Bool.eq_false_iff.mpr c10; subst c10
        replace H := ie_ H
        simp only [Option.some.injEq, Prod.mk.injEq] at H
        obtain ⟨rfl, rfl⟩ := H
        have p104 : 0 ≤ (x14_1 : Int) := of_decide_eq_true as_
        have q104 : x14_1 < (t101.length : Int) := of_decide_eq_true as_
        obtain ⟨ad104, e104, hx104_0⟩ := Kd.at_string (Kd.R_reads' HO_12.out).2.2 x14_1 p104 q104
        cases e104
        replace p104 := eq_true p104; replace q104 := eq_true q104
        go_wp2_with (first | ((with_reducible refine gate_callee (f:=77) rfl ?_); refine gL_ (some 20) rfl rfl Tryz.func77 rfl #[.string (rdOf ByteArray.empty t101 x14_1)] rfl ?_; (with_reducible refine (cats_number.calls k1 (rdOf ByteArray.empty t101 x14_1) t105 false _ A9.out).mono ?_); rintro e w' ⟨rfl, ⟨nd, rfl⟩⟩; refine ⟨_, rfl, ?_⟩))
        go_ret2
        exact fi_ (pbx HB)
      ·rw [if_neg c8] at H
       exact absurd H (by simp)
     ·rw [if_neg c7] at H
      exact absurd H (by simp)
    ·rw [if_neg c6] at H; have c6b0 := decide_eq_false c6; clear c6
     simp only [Option.some.injEq, Prod.mk.injEq] at H
     obtain ⟨rfl, rfl⟩ := H
     go_wp2
     go_ret2
     exact fi_ (pbx HB)

end Go.Proofs.YtbboanfggaknjaaGreatDoor.X
/- The contract of strconv.Itoa, out of the shelf's: where the table is laid. -/
set_option linter.unusedVariables false
namespace Go.Proofs.YtbboanfggaknjaaGreatDoor.X
open Go.RowKit Go.Proofs.YtbboanfggaknjaaGreatDoorW.PrintWords Go.Proofs.YtbboanfggaknjaaGreatDoorW.PrintLast Go.Proofs.YtbboanfggaknjaaGreatDoorW.PrintMore
open Go.Sort
def strconv_Itoa.f (a0 : Int) : Option ByteArray := if -9223372036854775808 ≤ a0 ∧ a0 ≤ 9223372036854775807 then some ⟨(Lib.itoa a0).toArray⟩ else none
theorem strconv_Itoa.calls (a0 : Int) (r : ByteArray) (w : World) (hT : Aside0 (Tab w)) (h : strconv_Itoa.f a0 = some r) :
  Calls Tryz.prog 21 #[.int .i64 a0] w fun e w' => e = .returned (.string r) ∧ Below w.heap.size w w' := by
 unfold strconv_Itoa.f at h
 by_cases hs : -9223372036854775808 ≤ a0 ∧ a0 ≤ 9223372036854775807
 ·rw [if_pos hs] at h
  obtain rfl := Option.some.inj h
  refine (Tryz.strconv_Itoa a0 hs.1 hs.2 w hT.out.pow).mono ?_
  rintro e w' ⟨rfl, k, os, rfl⟩
  refine ⟨rfl, ?_⟩
  have h1 : Below w.heap.size w (w.drewN k) := (Drawn0.refl w).step k |>.below
  have h2 : Below (w.drewN k).heap.size (w.drewN k) (grow (w.drewN k) os) := ⟨rfl, rfl, rfl, by simp [grow], fun i hi => by simp only [grow]; exact Array.getElem?_append_left hi⟩
  exact h1.trans h2
 ·rw [if_neg hs] at h
  cases h
end Go.Proofs.YtbboanfggaknjaaGreatDoor.X
namespace Go.Proofs.YtbboanfggaknjaaGreatDoor.X
open Go.RowKit Go.Proofs.YtbboanfggaknjaaGreatDoorW.PrintWords Go.Proofs.YtbboanfggaknjaaGreatDoorW.PrintLast Go.Proofs.YtbboanfggaknjaaGreatDoorW.PrintMore
attribute [local go_sem] max2_int min2_int max_two min_two max_three min_three max_four min_four
set_option linter.unusedVariables false
set_option linter.unusedSimpArgs false
attribute [local go_sem high] eqA58
mutual
def label_Parse.l0 : Nat → ByteArray → ByteArray → Bool → Int → Int → Int → Option (Int × Int × Bool)
 | 0, _, _, _, _, _, _ => none
 | k + 1, x4, x5, x6, x21, x108000, x108001 => if x21 < 16 then ((strconv_Itoa.f x21).bind fun t108 => (if t108.toList = x4.toList then (label_Parse.l0 k x4 x5 x6 (wrap64 (x21 + 1)) x21 x108001) else (label_Parse.l0 k x4 x5 x6 (wrap64 (x21 + 1)) x108000 x108001))) else ((cats_Parse.f k x5).bind fun bt109 => (if bt109.2 = true then (if x108000 < 0 then (label_Parse.j1 k true x108000 bt109.1) else (if (x6 != (bt109.1 != 0)) = true then (label_Parse.j1 k true x108000 bt109.1) else ((label_Top.f).bind fun bt111 => (label_Parse.j1 k (x108000 == bt111.1 && (bt109.1 == bt111.2)) x108000 bt109.1)))) else (label_Parse.j1 k true x108000 bt109.1)))
def label_Parse.j1 : Nat → Bool → Int → Int → Option (Int × Int × Bool)
 | 0, _, _, _ => none
 | k + 1, x55, x108000, x108001 => if x55 = true then (some (0, 0, false)) else (some (x108000, x108001, true))
end
def label_Parse.f (k : Nat) (a0 : ByteArray) : Option (Int × Int × Bool) := if a0.toList = ([116, 111, 112] : List UInt8) then ((label_Top.f).bind fun bt102 => (some (bt102.1, bt102.2, true))) else ((strings_Cut.f a0 (⟨#[58]⟩ : ByteArray)).bind fun bt104 => (label_Parse.l0 k bt104.1 bt104.2.1 bt104.2.2 0 (-1) 0))
def label_Parse.T13 : Bool × List (List Nat × List Nat) := (true, [([], []), ([0], [0]), ([1], [1]), ([2], [2]), ([3, 2], [2, 3]), ([4, 2], [2, 4]), ([2, 5], [2, 5]), ([6, 2], [6]), ([7], [7]), ([7], [7]), ([9, 7], [7, 9]), ([8, 10, 7], [7, 8, 10]), ([7, 11], [7, 11]), ([12, 7], [12]), ([13], [13]), ([13, 13], [13]), ([14, 15, 13], [13, 14, 15]), ([13, 16], [13, 16])])
def label_Parse.B13 : List Nat := [0, 1, 3, 7, 15, 31, 63, 127, 255, 255, 767, 2047, 4095, 8191, 16383, 16383, 65535, 131071]
theorem label_Parse.tab13 : rtab .any (opsOf Tryz.f28 13) = label_Parse.T13 := by kernel_rfl
theorem label_Parse.bits13 : waitsOk label_Parse.T13.2 label_Parse.B13 = true := by kernel_rfl
theorem label_Parse.calls (k : Nat) (a0 : ByteArray) (r1 : Int) (r2 : Int) (r3 : Bool) (w : World) (hT : Aside0 (Tab w)) (h : label_Parse.f k a0 = some (r1, r2, r3)) :
  Calls Tryz.prog 28 #[.string a0] w fun e w' => e = .returned (.tuple #[.agg #[.int .i64 r1, .int .u64 r2], .bool r3]) ∧ Below w.heap.size w w' := by
 have hu58 := Tryz.underlying58; have HB := A_ (Below.refl w.heap.size w)
 have H : (if a0.toList = ([116, 111, 112] : List UInt8) then ((label_Top.f).bind fun bt102 => (some (bt102.1, bt102.2, true))) else ((strings_Cut.f a0 (⟨#[58]⟩ : ByteArray)).bind fun bt104 => (label_Parse.l0 k bt104.1 bt104.2.1 bt104.2.2 0 (-1) 0))) = some (r1, r2, r3) := h
 clear h
 by_cases c2 : a0.toList = ([116, 111, 112] : List UInt8)
 ·rw [if_pos c2] at H; have ⟨c2b0,c2b1⟩ := e1_ c2; clear c2; obtain ⟨⟨t102, t103⟩, A3, H⟩ := bo_ H; dsimp only at H
  simp only [Option.some.injEq, Prod.mk.injEq] at H
  obtain ⟨rfl, rfl, rfl⟩ := H
  go_enter Tryz.func28, Tryz.ntmps28
  go_wp2_with (first | ((with_reducible refine gd_ 2 ?_); refine be_ (N:=2) (cs := #[.int .i64 0, .int .u64 0]) (t:=58) ?_; intro g1 hg w4 hbox hb; have B1 := A_ (hbox); have GW101 := hs_ HB hg; have GE101 := hs_ HB hg; replace HB := bs_ HB hb; clear hb hbox hg) | ((with_reducible refine gate_callee (f:=46) rfl ?_); refine gL_ (some 13) rfl rfl Tryz.func46 rfl #[] rfl ?_; (with_reducible refine (label_Top.calls  t102 t103 _ A3.out).mono ?_); rintro e w5 ⟨rfl, hb⟩; refine ⟨_, rfl, ?_⟩; replace B1 := bb_ B1 hb; replace HB := bs_ HB hb; have ⟨hcz6_0,hcz6_1,hfz6_0,hfz6_1⟩ := z2_ B1))
  refine bodyPost_ret (results_ct rfl _ _ g1 58 #[.int .i64 t102, .int .u64 t103] (0, 0) _ rfl (by refine pp_ (cs := #[.int .i64 t102, .int .u64 0]) 1 ?_ rfl; refine blk_put (cs := #[.int .i64 0, .int .u64 0]) ?_ 0 _ rfl; exact pkx B1) Tryz.underlying58 rfl (by kernel_rfl)) rfl ?_
  exact fi_ bl_
 ·rw [if_neg c2] at H; have ⟨c2b0,c2b1⟩ := e0_ c2; obtain ⟨⟨t104, t105, t106⟩, A7, H⟩ := bo_ H; dsimp only at H
  have H' := A_ H
  clear H
  go_enter Tryz.func28, Tryz.ntmps28
  go_wp2_with (first | ((with_reducible refine gd_ 2 ?_); refine be_ (N:=2) (cs := #[.int .i64 0, .int .u64 0]) (t:=58) ?_; intro g1 hg w8 hbox hb; have B1 := A_ (hbox); have GW101 := hs_ HB hg; have GE101 := hs_ HB hg; replace HB := bs_ HB hb; clear hb hbox hg) | ((with_reducible refine gate_callee (f:=10) rfl ?_); refine gL_ (some 16) rfl rfl Tryz.func10 rfl #[.string a0, .string (⟨#[58]⟩ : ByteArray)] rfl ?_; (with_reducible refine (strings_Cut.calls a0 (⟨#[58]⟩ : ByteArray) t104 t105 t106 _ A7.out).mono ?_); rintro e w' ⟨rfl, ⟨nd, rfl⟩⟩; refine ⟨_, rfl, ?_⟩; (try (rw [drewN_self w8]; generalize hq_ : World.drewN w8 _ = w8; have n0_ : Aside0 (w8.heap[g1]? = some (.cells #[.int .i64 0, .int .u64 0] 58 (0, 0))) := ⟨by rw [← hq_]; exact (pkx B1)⟩; have n1_ : Aside0 (Below w.heap.size w w8) := ⟨by rw [← hq_]; exact (pbx HB)⟩; clear B1 HB hq_; have B1 := n0_; have HB := n1_; clear n0_ n1_))) | ((with_reducible refine gd_ 7 ?_); refine be_ (N:=7) (cs := #[.int .i64 0, .int .u64 0]) (t:=58) ?_; intro g7 hg w9 hbox hb; have B7 := A_ (hbox); have GW107 := hs_ HB hg; have GE107 := hs_ HB hg; have N17 := hl_ B1 hg; have N71 := hr_ B1 hg; replace B1 := bb_ B1 hb; replace HB := bs_ HB hb; clear hb hbox hg; have hnb10 := N71.out; have hnc10 := N17.out; have ⟨hcz11_0,hcz11_1,hfz11_0,hfz11_1⟩ := z2_ B7))
  go_loopg [21] k (fun kq v21 w' => ∃ (x21_1 : Int) (x108000_1 : Int), v21 = .int .i64 x21_1 ∧ Aside0 (label_Parse.l0 kq t104 t105 t106 x21_1 x108000_1 0 = some (r1, r2, r3)) ∧ Aside0 (kq ≤ k) ∧ Aside0 (w'.heap[g1]? = some (.cells #[.int .i64 0, .int .u64 0] 58 (0, 0))) ∧ Aside0 (w'.heap[g7]? = some (.cells #[.int .i64 x108000_1, .int .u64 0] 58 (0, 0))) ∧ Aside0 (Below w.heap.size w w'))
  case atStart => exact ⟨(0), ((-1)), sq_, H', ⟨Nat.le_refl _⟩, ⟨by (iterate 2 refine pf_ ?_ N17.out); exact pkx B1⟩, ⟨by refine pp_ (cs := #[.int .i64 (-1), .int .u64 0]) 1 ?_ rfl; refine blk_put (cs := #[.int .i64 0, .int .u64 0]) ?_ 0 _ rfl; exact pkx B7⟩, ⟨bl_⟩⟩
  case round =>
   clear H'; (try clear c2); (try clear c2b0); (try clear c2b1); (try clear hcz11_0); (try clear hcz11_1); (try clear hfz11_0); (try clear hfz11_1); obtain ⟨x21_1, x108000_1, rfl, HA, HK1, B1, B7, HB⟩ := hrel
   cases gk with
   | zero => exact absurd HA.out (by simp [label_Parse.l0])
   | succ k1 =>
    have H := HA.out; clear HA
    simp only [label_Parse.l0] at H
    by_cases c12 : x21_1 < 16
    ·rw [if_pos c12] at H; have c12b0 := decide_eq_true c12; clear c12; obtain ⟨t108, A13, H⟩ := bo_ H
     by_cases c14 : t108.toList = t104.toList
     ·rw [if_pos c14] at H; have ⟨c14b0,c14b1⟩ := e1_ c14; clear c14
      have H' := A_ H
      clear H
      go_wp2_with (first | ((with_reducible refine gate_callee (f:=21) rfl ?_); refine gL_ (some 25) rfl rfl Tryz.func21 rfl #[.int .i64 x21_1] rfl ?_; (with_reducible refine (strconv_Itoa.calls x21_1 t108 _ (by refine tb_ ?_ hT; repeat' (first | exact pbx HB | exact Below.refl _ _ | assumption | refine below_set ?_ (Aside0.out ?_))) A13.out).mono ?_); rintro e w15 ⟨rfl, hb⟩; refine ⟨_, rfl, ?_⟩; replace B1 := bb_ B1 hb; replace B7 := bb_ B7 hb; replace HB := bs_ HB hb; (try clear hb); have hnb16 := N71.out; have hnc16 := N17.out; have ⟨hcz17_0,hcz17_1,hfz17_0,hfz17_1⟩ := z2_ B7))
      go_roundg k1
      case measure => have := HK1.out; omega
      case rel => exact ⟨(wrap64 (x21_1 + 1)), (x21_1), sq_, H', ⟨by have := HK1.out; omega⟩, ⟨by refine pf_ ?_ N17.out; exact pkx B1⟩, ⟨by refine pp_ (cs := #[.int .i64 x108000_1, .int .u64 0]) 0 ?_ rfl; exact pkx B7⟩, ⟨bl_⟩⟩
     ·rw [if_neg c14] at H; have ⟨c14b0,c14b1⟩ := e0_ c14
      have H' := A_ H
      clear H
      go_wp2_with (first | ((with_reducible refine gate_callee (f:=21) rfl ?_); refine gL_ (some 25) rfl rfl Tryz.func21 rfl #[.int .i64 x21_1] rfl ?_; (with_reducible refine (strconv_Itoa.calls x21_1 t108 _ (by refine tb_ ?_ hT; repeat' (first | exact pbx HB | exact Below.refl _ _ | assumption | refine below_set ?_ (Aside0.out ?_))) A13.out).mono ?_); rintro e w18 ⟨rfl, hb⟩; refine ⟨_, rfl, ?_⟩; replace B1 := bb_ B1 hb; replace B7 := bb_ B7 hb; replace HB := bs_ HB hb; (try clear hb); ))
      go_roundg k1
      case measure => have := HK1.out; omega
      case rel => exact ⟨(wrap64 (x21_1 + 1)), (x108000_1), sq_, H', ⟨by have := HK1.out; omega⟩, ⟨pkx B1⟩, ⟨pkx B7⟩, ⟨pbx HB⟩⟩
    ·rw [if_neg c12] at H; have c12b0 := decide_eq_false c12; clear c12; obtain ⟨⟨t109, t110⟩, A19, H⟩ := bo_ H; dsimp only at H; have HC20 := A_ H; clear H
     go_upto_region 13 with (first | ((with_reducible refine gate_callee (f:=50) rfl ?_); refine gL_ (some 33) rfl rfl Tryz.func50 rfl #[.string t105] rfl ?_; (with_reducible refine (cats_Parse.calls k1 t105 t109 t110 _ A19.out).mono ?_); rintro e w21 ⟨rfl, hb⟩; refine ⟨_, rfl, ?_⟩; replace B1 := bb_ B1 hb; replace B7 := bb_ B7 hb; replace HB := bs_ HB hb; (try clear hb); have hnb22 := N71.out; have hnc22 := N17.out; have ⟨hcz23_0,hcz23_1,hfz23_0,hfz23_1⟩ := z2_ B7))
     (try simp only [q_])
     go_cut [55] (fun v55 wc => ∃ (kq : Nat) (x55_19 : Bool), v55 = .bool x55_19 ∧ Aside0 (label_Parse.j1 kq x55_19 x108000_1 t109 = some (r1, r2, r3)) ∧ Aside0 (kq ≤ k1) ∧ Aside0 (wc.heap[g1]? = some (.cells #[.int .i64 0, .int .u64 0] 58 (0, 0))) ∧ Aside0 (wc.heap[g7]? = some (.cells #[.int .i64 x108000_1, .int .u64 t109] 58 (0, 0))) ∧ Aside0 (Below w.heap.size w wc))
     case first =>
      have H := HC20.out; clear HC20
      by_cases c24 : t110 = true
      ·subst c24
       replace H := it_ H
       by_cases c25 : x108000_1 < 0
       ·rw [if_pos c25] at H; have c25b0 := decide_eq_true c25; clear c25; (first | rw [c25b0] | (simp only [i64_w, i32_w]; rw [c25b0]) | skip)
        have H' := A_ H
        clear H
        try go_wp2
        have n0_ : Aside0 ((w21.setCell ⟨g7, 1, none⟩ (.int .u64 t109)).heap[g1]? = some (.cells #[.int .i64 0, .int .u64 0] 58 (0, 0))) := ⟨by refine pf_ ?_ N17.out; exact pkx B1⟩; have n1_ : Aside0 ((w21.setCell ⟨g7, 1, none⟩ (.int .u64 t109)).heap[g7]? = some (.cells #[.int .i64 x108000_1, .int .u64 t109] 58 (0, 0))) := ⟨by refine pp_ (cs := #[.int .i64 x108000_1, .int .u64 0]) 1 ?_ rfl; exact pkx B7⟩; have n2_ : Aside0 (Below w.heap.size w (w21.setCell ⟨g7, 1, none⟩ (.int .u64 t109))) := ⟨bl_⟩
        (try clear B1); (try clear B7); (try clear HB)
        generalize (w21.setCell ⟨g7, 1, none⟩ (.int .u64 t109)) = w26 at n0_ n1_ n2_ ⊢; have B1 := n0_; have B7 := n1_; have HB := n2_; clear n0_ n1_ n2_; (try (rw [drewN_self w26]; generalize hq_ : World.drewN w26 _ = w26; have n0_ : Aside0 (w26.heap[g1]? = some (.cells #[.int .i64 0, .int .u64 0] 58 (0, 0))) := ⟨by rw [← hq_]; exact (pkx B1)⟩; have n1_ : Aside0 (w26.heap[g7]? = some (.cells #[.int .i64 x108000_1, .int .u64 t109] 58 (0, 0))) := ⟨by rw [← hq_]; exact (pkx B7)⟩; have n2_ : Aside0 (Below w.heap.size w w26) := ⟨by rw [← hq_]; exact (pbx HB)⟩; clear B1 B7 HB hq_; have B1 := n0_; have B7 := n1_; have HB := n2_; clear n0_ n1_ n2_))
        replace B1 := A_ (blk_drew B1.out); replace B7 := A_ (blk_drew B7.out); replace HB := A_ (below_drew1 HB.out)
        refine start_ (n:=18) (S := fun w' => w'.cell? ⟨g7, 0, none⟩ = some (.int .i64 x108000_1) ∧ w'.cell? ⟨g7, 1, none⟩ = some (.int .u64 t109)) (ds := []) #[F,F,F,F,F,F,F,F,F,F,F,F,F,F,F,F,F,F] (by kernel_rfl) rfl rfl ⟨bc_ B7 0 rfl, bc_ B7 1 rfl⟩ (fun hHeld => ?_); refine with_tabW label_Parse.tab13 label_Parse.bits13 (fun HT_ HW_ => ?_)
        generalize w26.drew = w27 at B1 B7 HB hHeld ⊢; refine pure_ (i:=0) (N:=some 38) (v:=?_) (a':=?_) ⟨m_ 18 1⟩ rfl rfl (ao_ HT_) (fun _ _ _ h=>h) (Or.inl ⟨rfl, ?_⟩) ?_ ?_; rotate_left
        ·intro w'; go_simp; with_reducible rfl
        rotate_left
        ·simp only [q_, i64_w, i32_w]; rfl
        refine pure_ (i:=1) (N:=some 39) (v:=?_) (a':=?_) ⟨m_ 18 3⟩ rfl rfl (ao_ HT_) (fun _ _ _ h=>h) (Or.inl ⟨rfl, ?_⟩) ?_ ?_; rotate_left
        ·intro w'; go_simp; with_reducible rfl
        rotate_left
        ·simp only [q_, i64_w, i32_w]; rfl
        refine pure_ (i:=2) (N:=some 40) (v:=?_) (a':=?_) ⟨m_ 18 7⟩ rfl rfl (ao_ HT_) (fun _ _ _ h=>h) (Or.inl ⟨rfl, ?_⟩) ?_ ?_; rotate_left
        ·intro w'; go_simp; with_reducible rfl
        rotate_left
        ·simp only [q_, i64_w, i32_w]; rfl
        refine pure_ (i:=3) (N:=some 41) (v:=?_) (a':=?_) ⟨m_ 18 15⟩ rfl rfl (ao_ HT_) (fun _ _ _ h=>h) (Or.inl ⟨rfl, ?_⟩) ?_ ?_; rotate_left
        ·intro w'; go_simp; with_reducible rfl
        rotate_left
        ·simp only [q_, i64_w, i32_w]; rfl
        refine take_ (i:=4) (N:=some 42) (v:=?_) (a':=?_) ⟨m_ 18 31⟩ rfl rfl (tw_ HT_ HW_) (fun _ _ _ h=>h) (Or.inl ⟨rfl, ?_⟩) hHeld ?_ ?_; rotate_left
        ·rintro w' ⟨s0, s1⟩; go_simp; with_reducible rfl
        rotate_left
        ·simp only [q_, i64_w, i32_w]; rfl
        refine pure_ (i:=5) (N:=some 43) (v:=?_) (a':=?_) ⟨m_ 18 63⟩ rfl rfl (ao_ HT_) (fun _ _ _ h=>h) (Or.inl ⟨rfl, ?_⟩) ?_ ?_; rotate_left
        ·intro w'; go_simp; with_reducible rfl
        rotate_left
        ·simp only [q_, i64_w, i32_w]; rfl
        refine pure_ (i:=6) (N:=some 44) (v:=?_) (a':=?_) ⟨m_ 18 127⟩ rfl rfl (ao_ HT_) (fun _ _ _ h=>h) (Or.inl ⟨rfl, ?_⟩) ?_ ?_; rotate_left
        ·intro w'; go_simp; with_reducible rfl
        rotate_left
        ·simp only [q_, i64_w, i32_w]; rfl
        refine pure_ (i:=7) (N:=some 45) (v:=?_) (a':=?_) ⟨m_ 18 255⟩ rfl rfl (ao_ HT_) (fun _ _ _ h=>h) (Or.inl ⟨rfl, ?_⟩) ?_ ?_; rotate_left
        ·intro w'; go_simp; with_reducible rfl
        rotate_left
        ·simp only [q_, i64_w, i32_w]; rfl
        refine pure_ (i:=8) (N:=some 46) (v:=undef) (a':=?_) ⟨m_ 18 511⟩ rfl rfl (ao_ HT_) (fun _ _ _ h=>h) (Or.inr ⟨by rfl, rfl⟩) ?_ ?_; rotate_left
        ·simp only [q_, i64_w, i32_w]; rfl
        refine pure_ (i:=9) (N:=some 47) (v:=undef) (a':=?_) ⟨m_ 18 1023⟩ rfl rfl (ao_ HT_) (fun _ _ _ h=>h) (Or.inr ⟨by rfl, rfl⟩) ?_ ?_; rotate_left
        ·simp only [q_, i64_w, i32_w]; rfl
        refine pure_ (i:=10) (N:=some 48) (v:=undef) (a':=?_) ⟨m_ 18 2047⟩ rfl rfl (ao_ HT_) (fun _ _ _ h=>h) (Or.inr ⟨by rfl, rfl⟩) ?_ ?_; rotate_left
        ·simp only [q_, i64_w, i32_w]; rfl
        refine pure_ (i:=11) (N:=some 49) (v:=undef) (a':=?_) ⟨m_ 18 4095⟩ rfl rfl (ao_ HT_) (fun _ _ _ h=>h) (Or.inr ⟨by rfl, rfl⟩) ?_ ?_; rotate_left
        ·simp only [q_, i64_w, i32_w]; rfl
        refine pure_ (i:=12) (N:=some 50) (v:=?_) (a':=?_) ⟨m_ 18 8191⟩ rfl rfl (ao_ HT_) (fun _ _ _ h=>h) (Or.inl ⟨rfl, ?_⟩) ?_ ?_; rotate_left
        ·intro w'; go_simp; with_reducible rfl
        rotate_left
        ·simp only [q_, i64_w, i32_w]; rfl
        refine pure_ (i:=13) (N:=some 51) (v:=?_) (a':=?_) ⟨m_ 18 16383⟩ rfl rfl (ao_ HT_) (fun _ _ _ h=>h) (Or.inl ⟨rfl, ?_⟩) ?_ ?_; rotate_left
        ·intro w'; go_simp; with_reducible rfl
        rotate_left
        ·simp only [q_, i64_w, i32_w]; rfl
        refine pure_ (i:=14) (N:=some 52) (v:=undef) (a':=?_) ⟨m_ 18 32767⟩ rfl rfl (ao_ HT_) (fun _ _ _ h=>h) (Or.inr ⟨by rfl, rfl⟩) ?_ ?_; rotate_left
        ·simp only [q_, i64_w, i32_w]; rfl
        refine pure_ (i:=15) (N:=some 53) (v:=undef) (a':=?_) ⟨m_ 18 65535⟩ rfl rfl (ao_ HT_) (fun _ _ _ h=>h) (Or.inr ⟨by rfl, rfl⟩) ?_ ?_; rotate_left
        ·simp only [q_, i64_w, i32_w]; rfl
        refine pure_ (i:=16) (N:=some 54) (v:=undef) (a':=?_) ⟨m_ 18 131071⟩ rfl rfl (ao_ HT_) (fun _ _ _ h=>h) (Or.inr ⟨by rfl, rfl⟩) ?_ ?_; rotate_left
        ·simp only [q_, i64_w, i32_w]; rfl
        refine pure_ (i:=17) (N:=some 55) (v:=?_) (a':=?_) ⟨m_ 18 262143⟩ rfl rfl (ao_ HT_) (fun _ _ _ h=>h) (Or.inl ⟨rfl, ?_⟩) ?_ ?_; rotate_left
        ·intro w'; go_simp; with_reducible rfl
        rotate_left
        ·simp only [q_, i64_w, i32_w]; rfl
        refine done_ (done_of HT_.out (by kernel_rfl)) ?_
        try go_wp2
        go_meet
        case rel => exact ⟨_, (true), sq_, H', ⟨by have := HK1.out; first | omega | exact Nat.le_refl _⟩, ⟨pkx B1⟩, ⟨pkx B7⟩, ⟨pbx HB⟩⟩
       ·rw [if_neg c25] at H; have c25b0 := decide_eq_false c25; clear c25; (first | rw [c25b0] | (simp only [i64_w, i32_w]; rw [c25b0]) | skip)
        by_cases c28 : (t106 != (t109 != 0)) = true
        ·rw [if_pos c28] at H
         have c28b0 : (t106 != (t109 != 0)) = true := c28
         (try (have c28b1 : decide (t106 = (t109 != 0)) = false := by simpa using c28)); (try (have c28b2 : (t106 == (t109 != 0)) = false := by simpa using c28)); (try (have c28b3 : ¬ (t106 = (t109 != 0)) := by simpa using c28)); clear c28
         have H' := A_ H
         clear H
         try go_wp2
         have n0_ : Aside0 ((w21.setCell ⟨g7, 1, none⟩ (.int .u64 t109)).heap[g1]? = some (.cells #[.int .i64 0, .int .u64 0] 58 (0, 0))) := ⟨by refine pf_ ?_ N17.out; exact pkx B1⟩; have n1_ : Aside0 ((w21.setCell ⟨g7, 1, none⟩ (.int .u64 t109)).heap[g7]? = some (.cells #[.int .i64 x108000_1, .int .u64 t109] 58 (0, 0))) := ⟨by refine pp_ (cs := #[.int .i64 x108000_1, .int .u64 0]) 1 ?_ rfl; exact pkx B7⟩; have n2_ : Aside0 (Below w.heap.size w (w21.setCell ⟨g7, 1, none⟩ (.int .u64 t109))) := ⟨bl_⟩
         (try clear B1); (try clear B7); (try clear HB)
         generalize (w21.setCell ⟨g7, 1, none⟩ (.int .u64 t109)) = w29 at n0_ n1_ n2_ ⊢; have B1 := n0_; have B7 := n1_; have HB := n2_; clear n0_ n1_ n2_; (try (rw [drewN_self w29]; generalize hq_ : World.drewN w29 _ = w29; have n0_ : Aside0 (w29.heap[g1]? = some (.cells #[.int .i64 0, .int .u64 0] 58 (0, 0))) := ⟨by rw [← hq_]; exact (pkx B1)⟩; have n1_ : Aside0 (w29.heap[g7]? = some (.cells #[.int .i64 x108000_1, .int .u64 t109] 58 (0, 0))) := ⟨by rw [← hq_]; exact (pkx B7)⟩; have n2_ : Aside0 (Below w.heap.size w w29) := ⟨by rw [← hq_]; exact (pbx HB)⟩; clear B1 B7 HB hq_; have B1 := n0_; have B7 := n1_; have HB := n2_; clear n0_ n1_ n2_))
         replace B1 := A_ (blk_drew B1.out); replace B7 := A_ (blk_drew B7.out); replace HB := A_ (below_drew1 HB.out)
         refine start_ (n:=18) (S := fun w' => w'.cell? ⟨g7, 0, none⟩ = some (.int .i64 x108000_1) ∧ w'.cell? ⟨g7, 1, none⟩ = some (.int .u64 t109)) (ds := []) #[F,F,F,F,F,F,F,F,F,F,F,F,F,F,F,F,F,F] (by kernel_rfl) rfl rfl ⟨bc_ B7 0 rfl, bc_ B7 1 rfl⟩ (fun hHeld => ?_); refine with_tabW label_Parse.tab13 label_Parse.bits13 (fun HT_ HW_ => ?_)
         generalize w29.drew = w30 at B1 B7 HB hHeld ⊢; refine pure_ (i:=0) (N:=some 38) (v:=?_) (a':=?_) ⟨m_ 18 1⟩ rfl rfl (ao_ HT_) (fun _ _ _ h=>h) (Or.inl ⟨rfl, ?_⟩) ?_ ?_; rotate_left
         ·intro w'; go_simp; with_reducible rfl
         rotate_left
         ·simp only [q_, i64_w, i32_w]; rfl
         refine pure_ (i:=1) (N:=some 39) (v:=?_) (a':=?_) ⟨m_ 18 3⟩ rfl rfl (ao_ HT_) (fun _ _ _ h=>h) (Or.inl ⟨rfl, ?_⟩) ?_ ?_; rotate_left
         ·intro w'; go_simp; with_reducible rfl
         rotate_left
         ·simp only [q_, i64_w, i32_w]; rfl
         refine pure_ (i:=2) (N:=some 40) (v:=?_) (a':=?_) ⟨m_ 18 7⟩ rfl rfl (ao_ HT_) (fun _ _ _ h=>h) (Or.inl ⟨rfl, ?_⟩) ?_ ?_; rotate_left
         ·intro w'; go_simp; with_reducible rfl
         rotate_left
         ·simp only [q_, i64_w, i32_w]; rfl
         refine pure_ (i:=3) (N:=some 41) (v:=?_) (a':=?_) ⟨m_ 18 15⟩ rfl rfl (ao_ HT_) (fun _ _ _ h=>h) (Or.inl ⟨rfl, ?_⟩) ?_ ?_; rotate_left
         ·intro w'; go_simp; with_reducible rfl
         rotate_left
         ·simp only [q_, i64_w, i32_w]; rfl
         refine take_ (i:=4) (N:=some 42) (v:=?_) (a':=?_) ⟨m_ 18 31⟩ rfl rfl (tw_ HT_ HW_) (fun _ _ _ h=>h) (Or.inl ⟨rfl, ?_⟩) hHeld ?_ ?_; rotate_left
         ·rintro w' ⟨s0, s1⟩; go_simp; with_reducible rfl
         rotate_left
         ·simp only [q_, i64_w, i32_w]; rfl
         refine pure_ (i:=5) (N:=some 43) (v:=?_) (a':=?_) ⟨m_ 18 63⟩ rfl rfl (ao_ HT_) (fun _ _ _ h=>h) (Or.inl ⟨rfl, ?_⟩) ?_ ?_; rotate_left
         ·intro w'; go_simp; with_reducible rfl
         rotate_left
         ·simp only [q_, i64_w, i32_w]; rfl
         refine pure_ (i:=6) (N:=some 44) (v:=?_) (a':=?_) ⟨m_ 18 127⟩ rfl rfl (ao_ HT_) (fun _ _ _ h=>h) (Or.inl ⟨rfl, ?_⟩) ?_ ?_; rotate_left
         ·intro w'; go_simp; with_reducible rfl
         rotate_left
         ·simp only [q_, i64_w, i32_w]; rfl
         refine pure_ (i:=7) (N:=some 45) (v:=?_) (a':=?_) ⟨m_ 18 255⟩ rfl rfl (ao_ HT_) (fun _ _ _ h=>h) (Or.inl ⟨rfl, ?_⟩) ?_ ?_; rotate_left
         ·intro w'; go_simp; with_reducible rfl
         rotate_left
         ·simp only [q_, i64_w, i32_w]; rfl
         refine pure_ (i:=8) (N:=some 46) (v:=?_) (a':=?_) ⟨m_ 18 511⟩ rfl rfl (ao_ HT_) (fun _ _ _ h=>h) (Or.inl ⟨rfl, ?_⟩) ?_ ?_; rotate_left
         ·intro w'; go_simp; with_reducible rfl
         rotate_left
         ·simp only [q_, i64_w, i32_w]; rfl
         refine pure_ (i:=9) (N:=some 47) (v:=?_) (a':=?_) ⟨m_ 18 1023⟩ rfl rfl (ao_ HT_) (fun _ _ _ h=>h) (Or.inl ⟨rfl, ?_⟩) ?_ ?_; rotate_left
         ·intro w'; go_simp; with_reducible rfl
         rotate_left
         ·simp only [q_, i64_w, i32_w]; rfl
         refine pure_ (i:=10) (N:=some 48) (v:=?_) (a':=?_) ⟨m_ 18 2047⟩ rfl rfl (ao_ HT_) (fun _ _ _ h=>h) (Or.inl ⟨rfl, ?_⟩) ?_ ?_; rotate_left
         ·intro w'; go_simp; with_reducible rfl
         rotate_left
         ·simp only [q_, i64_w, i32_w]; rfl
         refine pure_ (i:=11) (N:=some 49) (v:=?_) (a':=?_) ⟨m_ 18 4095⟩ rfl rfl (ao_ HT_) (fun _ _ _ h=>h) (Or.inl ⟨rfl, ?_⟩) ?_ ?_; rotate_left
         ·intro w'; go_simp; with_reducible rfl
         rotate_left
         ·simp only [q_, i64_w, i32_w]; rfl
         refine pure_ (i:=12) (N:=some 50) (v:=?_) (a':=?_) ⟨m_ 18 8191⟩ rfl rfl (ao_ HT_) (fun _ _ _ h=>h) (Or.inl ⟨rfl, ?_⟩) ?_ ?_; rotate_left
         ·intro w'; go_simp; with_reducible rfl
         rotate_left
         ·simp only [q_, i64_w, i32_w]; rfl
         refine pure_ (i:=13) (N:=some 51) (v:=?_) (a':=?_) ⟨m_ 18 16383⟩ rfl rfl (ao_ HT_) (fun _ _ _ h=>h) (Or.inl ⟨rfl, ?_⟩) ?_ ?_; rotate_left
         ·intro w'; go_simp; with_reducible rfl
         rotate_left
         ·simp only [q_, i64_w, i32_w]; rfl
         refine pure_ (i:=14) (N:=some 52) (v:=undef) (a':=?_) ⟨m_ 18 32767⟩ rfl rfl (ao_ HT_) (fun _ _ _ h=>h) (Or.inr ⟨by rfl, rfl⟩) ?_ ?_; rotate_left
         ·simp only [q_, i64_w, i32_w]; rfl
         refine pure_ (i:=15) (N:=some 53) (v:=undef) (a':=?_) ⟨m_ 18 65535⟩ rfl rfl (ao_ HT_) (fun _ _ _ h=>h) (Or.inr ⟨by rfl, rfl⟩) ?_ ?_; rotate_left
         ·simp only [q_, i64_w, i32_w]; rfl
         refine pure_ (i:=16) (N:=some 54) (v:=undef) (a':=?_) ⟨m_ 18 131071⟩ rfl rfl (ao_ HT_) (fun _ _ _ h=>h) (Or.inr ⟨by rfl, rfl⟩) ?_ ?_; rotate_left
         ·simp only [q_, i64_w, i32_w]; rfl
         refine pure_ (i:=17) (N:=some 55) (v:=?_) (a':=?_) ⟨m_ 18 262143⟩ rfl rfl (ao_ HT_) (fun _ _ _ h=>h) (Or.inl ⟨rfl, ?_⟩) ?_ ?_; rotate_left
         ·intro w'; go_simp; with_reducible rfl
         rotate_left
         ·simp only [q_, i64_w, i32_w]; rfl
         refine done_ (done_of HT_.out (by kernel_rfl)) ?_
         try go_wp2
         go_meet
         case rel => exact ⟨_, (true), sq_, H', ⟨by have := HK1.out; first | omega | exact Nat.le_refl _⟩, ⟨pkx B1⟩, ⟨pkx B7⟩, ⟨pbx HB⟩⟩
        ·rw [if_neg c28] at H
         have c28b0 : (t106 != (t109 != 0)) = false := by simpa using c28
         (try (have c28b1 : decide (t106 = (t109 != 0)) = true := by simpa using c28)); (try (have c28b2 : (t106 == (t109 != 0)) = true := by simpa using c28))
         clear c28; obtain ⟨⟨t111, t112⟩, A31, H⟩ := bo_ H; dsimp only at H
         have H' := A_ H
         clear H
         try go_wp2
         have n0_ : Aside0 ((w21.setCell ⟨g7, 1, none⟩ (.int .u64 t109)).heap[g1]? = some (.cells #[.int .i64 0, .int .u64 0] 58 (0, 0))) := ⟨by refine pf_ ?_ N17.out; exact pkx B1⟩; have n1_ : Aside0 ((w21.setCell ⟨g7, 1, none⟩ (.int .u64 t109)).heap[g7]? = some (.cells #[.int .i64 x108000_1, .int .u64 t109] 58 (0, 0))) := ⟨by refine pp_ (cs := #[.int .i64 x108000_1, .int .u64 0]) 1 ?_ rfl; exact pkx B7⟩; have n2_ : Aside0 (Below w.heap.size w (w21.setCell ⟨g7, 1, none⟩ (.int .u64 t109))) := ⟨bl_⟩
         (try clear B1); (try clear B7); (try clear HB)
         generalize (w21.setCell ⟨g7, 1, none⟩ (.int .u64 t109)) = w32 at n0_ n1_ n2_ ⊢; have B1 := n0_; have B7 := n1_; have HB := n2_; clear n0_ n1_ n2_; (try (rw [drewN_self w32]; generalize hq_ : World.drewN w32 _ = w32; have n0_ : Aside0 (w32.heap[g1]? = some (.cells #[.int .i64 0, .int .u64 0] 58 (0, 0))) := ⟨by rw [← hq_]; exact (pkx B1)⟩; have n1_ : Aside0 (w32.heap[g7]? = some (.cells #[.int .i64 x108000_1, .int .u64 t109] 58 (0, 0))) := ⟨by rw [← hq_]; exact (pkx B7)⟩; have n2_ : Aside0 (Below w.heap.size w w32) := ⟨by rw [← hq_]; exact (pbx HB)⟩; clear B1 B7 HB hq_; have B1 := n0_; have B7 := n1_; have HB := n2_; clear n0_ n1_ n2_))
         replace B1 := A_ (blk_drew B1.out); replace B7 := A_ (blk_drew B7.out); replace HB := A_ (below_drew1 HB.out)
         refine start_ (n:=18) (S := fun w' => w'.cell? ⟨g7, 0, none⟩ = some (.int .i64 x108000_1) ∧ w'.cell? ⟨g7, 1, none⟩ = some (.int .u64 t109)) (ds := []) #[F,F,F,F,F,F,F,F,F,F,F,F,F,F,F,F,F,F] (by kernel_rfl) rfl rfl ⟨bc_ B7 0 rfl, bc_ B7 1 rfl⟩ (fun hHeld => ?_); refine with_tabW label_Parse.tab13 label_Parse.bits13 (fun HT_ HW_ => ?_)
         generalize w32.drew = w33 at B1 B7 HB hHeld ⊢; refine pure_ (i:=0) (N:=some 38) (v:=?_) (a':=?_) ⟨m_ 18 1⟩ rfl rfl (ao_ HT_) (fun _ _ _ h=>h) (Or.inl ⟨rfl, ?_⟩) ?_ ?_; rotate_left
         ·intro w'; go_simp; with_reducible rfl
         rotate_left
         ·simp only [q_, i64_w, i32_w]; rfl
         refine pure_ (i:=1) (N:=some 39) (v:=?_) (a':=?_) ⟨m_ 18 3⟩ rfl rfl (ao_ HT_) (fun _ _ _ h=>h) (Or.inl ⟨rfl, ?_⟩) ?_ ?_; rotate_left
         ·intro w'; go_simp; with_reducible rfl
         rotate_left
         ·simp only [q_, i64_w, i32_w]; rfl
         refine pure_ (i:=2) (N:=some 40) (v:=?_) (a':=?_) ⟨m_ 18 7⟩ rfl rfl (ao_ HT_) (fun _ _ _ h=>h) (Or.inl ⟨rfl, ?_⟩) ?_ ?_; rotate_left
         ·intro w'; go_simp; with_reducible rfl
         rotate_left
         ·simp only [q_, i64_w, i32_w]; rfl
         refine pure_ (i:=3) (N:=some 41) (v:=?_) (a':=?_) ⟨m_ 18 15⟩ rfl rfl (ao_ HT_) (fun _ _ _ h=>h) (Or.inl ⟨rfl, ?_⟩) ?_ ?_; rotate_left
         ·intro w'; go_simp; with_reducible rfl
         rotate_left
         ·simp only [q_, i64_w, i32_w]; rfl
         refine take_ (i:=4) (N:=some 42) (v:=?_) (a':=?_) ⟨m_ 18 31⟩ rfl rfl (tw_ HT_ HW_) (fun _ _ _ h=>h) (Or.inl ⟨rfl, ?_⟩) hHeld ?_ ?_; rotate_left
         ·rintro w' ⟨s0, s1⟩; go_simp; with_reducible rfl
         rotate_left
         ·simp only [q_, i64_w, i32_w]; rfl
         refine pure_ (i:=5) (N:=some 43) (v:=?_) (a':=?_) ⟨m_ 18 63⟩ rfl rfl (ao_ HT_) (fun _ _ _ h=>h) (Or.inl ⟨rfl, ?_⟩) ?_ ?_; rotate_left
         ·intro w'; go_simp; with_reducible rfl
         rotate_left
         ·simp only [q_, i64_w, i32_w]; rfl
         refine pure_ (i:=6) (N:=some 44) (v:=?_) (a':=?_) ⟨m_ 18 127⟩ rfl rfl (ao_ HT_) (fun _ _ _ h=>h) (Or.inl ⟨rfl, ?_⟩) ?_ ?_; rotate_left
         ·intro w'; go_simp; with_reducible rfl
         rotate_left
         ·simp only [q_, i64_w, i32_w]; rfl
         refine pure_ (i:=7) (N:=some 45) (v:=?_) (a':=?_) ⟨m_ 18 255⟩ rfl rfl (ao_ HT_) (fun _ _ _ h=>h) (Or.inl ⟨rfl, ?_⟩) ?_ ?_; rotate_left
         ·intro w'; go_simp; with_reducible rfl
         rotate_left
         ·simp only [q_, i64_w, i32_w]; rfl
         refine pure_ (i:=8) (N:=some 46) (v:=?_) (a':=?_) ⟨m_ 18 511⟩ rfl rfl (ao_ HT_) (fun _ _ _ h=>h) (Or.inl ⟨rfl, ?_⟩) ?_ ?_; rotate_left
         ·intro w'; go_simp; with_reducible rfl
         rotate_left
         ·simp only [q_, i64_w, i32_w]; rfl
         refine pure_ (i:=9) (N:=some 47) (v:=?_) (a':=?_) ⟨m_ 18 1023⟩ rfl rfl (ao_ HT_) (fun _ _ _ h=>h) (Or.inl ⟨rfl, ?_⟩) ?_ ?_; rotate_left
         ·intro w'; go_simp; with_reducible rfl
         rotate_left
         ·simp only [q_, i64_w, i32_w]; rfl
         refine pure_ (i:=10) (N:=some 48) (v:=?_) (a':=?_) ⟨m_ 18 2047⟩ rfl rfl (ao_ HT_) (fun _ _ _ h=>h) (Or.inl ⟨rfl, ?_⟩) ?_ ?_; rotate_left
         ·intro w'; go_simp; with_reducible rfl
         rotate_left
         ·simp only [q_, i64_w, i32_w]; rfl
         refine pure_ (i:=11) (N:=some 49) (v:=?_) (a':=?_) ⟨m_ 18 4095⟩ rfl rfl (ao_ HT_) (fun _ _ _ h=>h) (Or.inl ⟨rfl, ?_⟩) ?_ ?_; rotate_left
         ·intro w'; go_simp; with_reducible rfl
         rotate_left
         ·simp only [q_, i64_w, i32_w]; rfl
         refine pure_ (i:=12) (N:=some 50) (v:=?_) (a':=?_) ⟨m_ 18 8191⟩ rfl rfl (ao_ HT_) (fun _ _ _ h=>h) (Or.inl ⟨rfl, ?_⟩) ?_ ?_; rotate_left
         ·intro w'; go_simp; with_reducible rfl
         rotate_left
         ·simp only [q_, i64_w, i32_w]; rfl
         refine pure_ (i:=13) (N:=some 51) (v:=?_) (a':=?_) ⟨m_ 18 16383⟩ rfl rfl (ao_ HT_) (fun _ _ _ h=>h) (Or.inl ⟨rfl, ?_⟩) ?_ ?_; rotate_left
         ·intro w'; go_simp; with_reducible rfl
         rotate_left
         ·simp only [q_, i64_w, i32_w]; rfl
         refine take_ (i:=14) (N:=some 52) (v:=?_) (a':=?_) ⟨m_ 18 32767⟩ rfl rfl (tw_ HT_ HW_) (fun _ _ _ h=>h) (Or.inl ⟨rfl, ?_⟩) hHeld ?_ ?_; rotate_left
         ·rintro w' ⟨s0, s1⟩; go_simp; with_reducible rfl
         rotate_left
         ·simp only [q_, i64_w, i32_w]; rfl
         refine one_ (i:=15) (N:=some 53) ⟨m_ 18 65535⟩ rfl rfl (oo_ HT_) (by decide) (fun K hK => ?_); refine goes_ Tryz.func46 (by kernel_rfl) rfl #[] (by rfl) rfl rfl ha_ ?_; with_reducible refine (label_Top.calls  t111 t112 _ A31.out).mono ?_; rintro e w34 ⟨rfl, hb⟩; refine ⟨_, rfl, ?_⟩
         replace B1 := bb_ B1 hb; replace B7 := bb_ B7 hb; replace HB := bs_ HB hb; (try clear hb); refine hK.out _ _ ⟨bc_ B7 0 rfl, bc_ B7 1 rfl⟩ (fun hHeld => ?_); clear hK K; refine norm_ (a':=?_) ?_ ?_; rotate_left
         ·show Act.put _ (some 53) _ = _; simp only [q_, i64_w, i32_w]; rfl
         refine pure_ (i:=16) (N:=some 54) (v:=?_) (a':=?_) ⟨m_ 18 131071⟩ rfl rfl (ao_ HT_) (fun _ _ _ h=>h) (Or.inl ⟨rfl, ?_⟩) ?_ ?_; rotate_left
         ·intro w'; go_simp; with_reducible rfl
         rotate_left
         ·simp only [q_, i64_w, i32_w]; rfl
         refine pure_ (i:=17) (N:=some 55) (v:=?_) (a':=?_) ⟨m_ 18 262143⟩ rfl rfl (ao_ HT_) (fun _ _ _ h=>h) (Or.inl ⟨rfl, ?_⟩) ?_ ?_; rotate_left
         ·intro w'; go_simp; with_reducible rfl
         rotate_left
         ·simp only [q_, i64_w, i32_w]; rfl
         refine done_ (done_of HT_.out (by kernel_rfl)) ?_
         try go_wp2
         go_meet
         case rel => exact ⟨_, ((x108000_1 == t111 && (t109 == t112))), (by first | rfl | (simp; done) | (simp [*]; done) | (cases t111 <;> simp; done) | (cases t109 <;> simp; done) | (cases t112 <;> simp; done)), H', ⟨by have := HK1.out; first | omega | exact Nat.le_refl _⟩, ⟨pkx B1⟩, ⟨pkx B7⟩, ⟨pbx HB⟩⟩
      ·replace c24 := Bool.eq_false_iff.mpr c24; subst c24
       replace H := ie_ H
       have H' := A_ H
       clear H
       try go_wp2
       have n0_ : Aside0 ((w21.setCell ⟨g7, 1, none⟩ (.int .u64 t109)).heap[g1]? = some (.cells #[.int .i64 0, .int .u64 0] 58 (0, 0))) := ⟨by refine pf_ ?_ N17.out; exact pkx B1⟩; have n1_ : Aside0 ((w21.setCell ⟨g7, 1, none⟩ (.int .u64 t109)).heap[g7]? = some (.cells #[.int .i64 x108000_1, .int .u64 t109] 58 (0, 0))) := ⟨by refine pp_ (cs := #[.int .i64 x108000_1, .int .u64 0]) 1 ?_ rfl; exact pkx B7⟩; have n2_ : Aside0 (Below w.heap.size w (w21.setCell ⟨g7, 1, none⟩ (.int .u64 t109))) := ⟨bl_⟩
       (try clear B1); (try clear B7); (try clear HB)
       generalize (w21.setCell ⟨g7, 1, none⟩ (.int .u64 t109)) = w35 at n0_ n1_ n2_ ⊢; have B1 := n0_; have B7 := n1_; have HB := n2_; clear n0_ n1_ n2_; (try (rw [drewN_self w35]; generalize hq_ : World.drewN w35 _ = w35; have n0_ : Aside0 (w35.heap[g1]? = some (.cells #[.int .i64 0, .int .u64 0] 58 (0, 0))) := ⟨by rw [← hq_]; exact (pkx B1)⟩; have n1_ : Aside0 (w35.heap[g7]? = some (.cells #[.int .i64 x108000_1, .int .u64 t109] 58 (0, 0))) := ⟨by rw [← hq_]; exact (pkx B7)⟩; have n2_ : Aside0 (Below w.heap.size w w35) := ⟨by rw [← hq_]; exact (pbx HB)⟩; clear B1 B7 HB hq_; have B1 := n0_; have B7 := n1_; have HB := n2_; clear n0_ n1_ n2_))
       replace B1 := A_ (blk_drew B1.out); replace B7 := A_ (blk_drew B7.out); replace HB := A_ (below_drew1 HB.out)
       refine start_ (n:=18) (S := fun w' => True) (ds := []) #[F,F,F,F,F,F,F,F,F,F,F,F,F,F,F,F,F,F] (by kernel_rfl) rfl rfl trivial (fun hHeld => ?_); refine with_tabW label_Parse.tab13 label_Parse.bits13 (fun HT_ HW_ => ?_)
       generalize w35.drew = w36 at B1 B7 HB hHeld ⊢; refine pure_ (i:=0) (N:=some 38) (v:=?_) (a':=?_) ⟨m_ 18 1⟩ rfl rfl (ao_ HT_) (fun _ _ _ h=>h) (Or.inl ⟨rfl, ?_⟩) ?_ ?_; rotate_left
       ·intro w'; go_simp; with_reducible rfl
       rotate_left
       ·simp only [q_, i64_w, i32_w]; rfl
       refine pure_ (i:=1) (N:=some 39) (v:=?_) (a':=?_) ⟨m_ 18 3⟩ rfl rfl (ao_ HT_) (fun _ _ _ h=>h) (Or.inl ⟨rfl, ?_⟩) ?_ ?_; rotate_left
       ·intro w'; go_simp; with_reducible rfl
       rotate_left
       ·simp only [q_, i64_w, i32_w]; rfl
       refine pure_ (i:=2) (N:=some 40) (v:=?_) (a':=?_) ⟨m_ 18 7⟩ rfl rfl (ao_ HT_) (fun _ _ _ h=>h) (Or.inl ⟨rfl, ?_⟩) ?_ ?_; rotate_left
       ·intro w'; go_simp; with_reducible rfl
       rotate_left
       ·simp only [q_, i64_w, i32_w]; rfl
       refine pure_ (i:=3) (N:=some 41) (v:=undef) (a':=?_) ⟨m_ 18 15⟩ rfl rfl (ao_ HT_) (fun _ _ _ h=>h) (Or.inr ⟨by rfl, rfl⟩) ?_ ?_; rotate_left
       ·simp only [q_, i64_w, i32_w]; rfl
       refine pure_ (i:=4) (N:=some 42) (v:=undef) (a':=?_) ⟨m_ 18 31⟩ rfl rfl (ao_ HT_) (fun _ _ _ h=>h) (Or.inr ⟨by rfl, rfl⟩) ?_ ?_; rotate_left
       ·simp only [q_, i64_w, i32_w]; rfl
       refine pure_ (i:=5) (N:=some 43) (v:=undef) (a':=?_) ⟨m_ 18 63⟩ rfl rfl (ao_ HT_) (fun _ _ _ h=>h) (Or.inr ⟨by rfl, rfl⟩) ?_ ?_; rotate_left
       ·simp only [q_, i64_w, i32_w]; rfl
       refine pure_ (i:=6) (N:=some 44) (v:=?_) (a':=?_) ⟨m_ 18 127⟩ rfl rfl (ao_ HT_) (fun _ _ _ h=>h) (Or.inl ⟨rfl, ?_⟩) ?_ ?_; rotate_left
       ·intro w'; go_simp; with_reducible rfl
       rotate_left
       ·simp only [q_, i64_w, i32_w]; rfl
       refine pure_ (i:=7) (N:=some 45) (v:=?_) (a':=?_) ⟨m_ 18 255⟩ rfl rfl (ao_ HT_) (fun _ _ _ h=>h) (Or.inl ⟨rfl, ?_⟩) ?_ ?_; rotate_left
       ·intro w'; go_simp; with_reducible rfl
       rotate_left
       ·simp only [q_, i64_w, i32_w]; rfl
       refine pure_ (i:=8) (N:=some 46) (v:=undef) (a':=?_) ⟨m_ 18 511⟩ rfl rfl (ao_ HT_) (fun _ _ _ h=>h) (Or.inr ⟨by rfl, rfl⟩) ?_ ?_; rotate_left
       ·simp only [q_, i64_w, i32_w]; rfl
       refine pure_ (i:=9) (N:=some 47) (v:=undef) (a':=?_) ⟨m_ 18 1023⟩ rfl rfl (ao_ HT_) (fun _ _ _ h=>h) (Or.inr ⟨by rfl, rfl⟩) ?_ ?_; rotate_left
       ·simp only [q_, i64_w, i32_w]; rfl
       refine pure_ (i:=10) (N:=some 48) (v:=undef) (a':=?_) ⟨m_ 18 2047⟩ rfl rfl (ao_ HT_) (fun _ _ _ h=>h) (Or.inr ⟨by rfl, rfl⟩) ?_ ?_; rotate_left
       ·simp only [q_, i64_w, i32_w]; rfl
       refine pure_ (i:=11) (N:=some 49) (v:=undef) (a':=?_) ⟨m_ 18 4095⟩ rfl rfl (ao_ HT_) (fun _ _ _ h=>h) (Or.inr ⟨by rfl, rfl⟩) ?_ ?_; rotate_left
       ·simp only [q_, i64_w, i32_w]; rfl
       refine pure_ (i:=12) (N:=some 50) (v:=?_) (a':=?_) ⟨m_ 18 8191⟩ rfl rfl (ao_ HT_) (fun _ _ _ h=>h) (Or.inl ⟨rfl, ?_⟩) ?_ ?_; rotate_left
       ·intro w'; go_simp; with_reducible rfl
       rotate_left
       ·simp only [q_, i64_w, i32_w]; rfl
       refine pure_ (i:=13) (N:=some 51) (v:=?_) (a':=?_) ⟨m_ 18 16383⟩ rfl rfl (ao_ HT_) (fun _ _ _ h=>h) (Or.inl ⟨rfl, ?_⟩) ?_ ?_; rotate_left
       ·intro w'; go_simp; with_reducible rfl
       rotate_left
       ·simp only [q_, i64_w, i32_w]; rfl
       refine pure_ (i:=14) (N:=some 52) (v:=undef) (a':=?_) ⟨m_ 18 32767⟩ rfl rfl (ao_ HT_) (fun _ _ _ h=>h) (Or.inr ⟨by rfl, rfl⟩) ?_ ?_; rotate_left
       ·simp only [q_, i64_w, i32_w]; rfl
       refine pure_ (i:=15) (N:=some 53) (v:=undef) (a':=?_) ⟨m_ 18 65535⟩ rfl rfl (ao_ HT_) (fun _ _ _ h=>h) (Or.inr ⟨by rfl, rfl⟩) ?_ ?_; rotate_left
       ·simp only [q_, i64_w, i32_w]; rfl
       refine pure_ (i:=16) (N:=some 54) (v:=undef) (a':=?_) ⟨m_ 18 131071⟩ rfl rfl (ao_ HT_) (fun _ _ _ h=>h) (Or.inr ⟨by rfl, rfl⟩) ?_ ?_; rotate_left
       ·simp only [q_, i64_w, i32_w]; rfl
       refine pure_ (i:=17) (N:=some 55) (v:=?_) (a':=?_) ⟨m_ 18 262143⟩ rfl rfl (ao_ HT_) (fun _ _ _ h=>h) (Or.inl ⟨rfl, ?_⟩) ?_ ?_; rotate_left
       ·intro w'; go_simp; with_reducible rfl
       rotate_left
       ·simp only [q_, i64_w, i32_w]; rfl
       refine done_ (done_of HT_.out (by kernel_rfl)) ?_
       try go_wp2
       go_meet
       case rel => exact ⟨_, (true), sq_, H', ⟨by have := HK1.out; first | omega | exact Nat.le_refl _⟩, ⟨pkx B1⟩, ⟨pkx B7⟩, ⟨pbx HB⟩⟩
     case rest =>
      clear HC20; (try clear c2); obtain ⟨kq, x55_19, rfl, HA, HJ19, B1, B7, HB⟩ := hcut
      cases kq with
      | zero => exact absurd HA.out (by simp [label_Parse.j1])
      | succ kj19 =>
       have H := HA.out; clear HA
       simp only [label_Parse.j1] at H
       by_cases c37 : x55_19 = true
       ·subst c37
        replace H := it_ H
        simp only [Option.some.injEq, Prod.mk.injEq] at H
        obtain ⟨rfl, rfl, rfl⟩ := H; have hnb38 := N17.out; have hnc38 := N71.out
        have ⟨hcz39_0,hcz39_1,hfz39_0,hfz39_1⟩ := z2_ B1
        go_wp2
        refine bodyPost_ret (results_ct rfl _ _ g1 58 #[.int .i64 0, .int .u64 0] (0, 0) _ rfl (by refine pp_ (cs := #[.int .i64 0, .int .u64 0]) 1 ?_ rfl; refine blk_put (cs := #[.int .i64 0, .int .u64 0]) ?_ 0 _ rfl; exact pkx B1) Tryz.underlying58 rfl (by kernel_rfl)) rfl ?_
        exact fi_ bl_
       ·replace c37 := Bool.eq_false_iff.mpr c37; subst c37
        replace H := ie_ H
        simp only [Option.some.injEq, Prod.mk.injEq] at H
        obtain ⟨rfl, rfl, rfl⟩ := H; have hnb40 := N71.out; have hnc40 := N17.out
        have ⟨hcz41_0,hcz41_1,hfz41_0,hfz41_1⟩ := z2_ B7
        have ⟨hcz42_0,hcz42_1,hfz42_0,hfz42_1⟩ := z2_ B1
        go_wp2
        refine bodyPost_ret (results_ct rfl _ _ g1 58 #[.int .i64 x108000_1, .int .u64 t109] (0, 0) _ rfl (by refine pp_ (cs := #[.int .i64 x108000_1, .int .u64 0]) 1 ?_ rfl; refine blk_put (cs := #[.int .i64 0, .int .u64 0]) ?_ 0 _ rfl; exact pkx B1) Tryz.underlying58 rfl (by kernel_rfl)) rfl ?_
        exact fi_ bl_

end Go.Proofs.YtbboanfggaknjaaGreatDoor.X
/- The contract of policy.add: a line's words are put to a policy in memory. -/
set_option linter.unusedVariables false
set_option linter.unusedSimpArgs false
namespace Go.Proofs.YtbboanfggaknjaaGreatDoor.X
open Go.RowKit Go.Proofs.YtbboanfggaknjaaGreatDoorW.PrintWords Go.Proofs.YtbboanfggaknjaaGreatDoorW.PrintLast Go.Proofs.YtbboanfggaknjaaGreatDoorW.PrintMore
theorem R_apart {α β : Type} {d : Kd α} {d2 : Kd β} {e e2 b b2 : Nat} {w : World} {ok ok2 : Nat → Prop} {v v2 : Value} {xs : List α} {ys : List β} (h : d.R e w b ok v xs) (h2 : d2.R e2 w b2 ok2 v2 ys) (ht : ∀ q, q ∈ e2 :: d2.E → q ≠ e) :
  d2.R e2 w b2 (fun k => ok2 k ∧ some k ≠ v.ownBlock) v2 ys := by
 obtain ⟨h0, inner, ho, hr⟩ := h
 cases hv : v.ownBlock with
 | none => exact Kd.R_mono h2 (fun k hk => ⟨hk, by simp⟩)
 | some g =>
  obtain ⟨cells, hc⟩ := own_typed ho g hv
  exact Kd.R_mono (Kd.R_types h2 hc ht) (fun k hk => ⟨hk.1, fun e => hk.2 (Option.some.inj e)⟩)
structure IsP (w0 w : World) (g : Nat) (r c : Int) (vz vu vg : Value) (zs : List S60) (us : List S62) (gs : List S64) : Prop where
 hP : w.heap[g]? = some (.cells #[.int .i64 r, .int .i64 c, vz, vu, vg] 27 (0, 0))
 hg : w0.heap.size ≤ g
 hz : k60.R 60 w w0.heap.size (fun _ => True) vz zs
 hu : k62.R 62 w w0.heap.size (fun _ => True) vu us
 hr : k64.R 64 w w0.heap.size (fun _ => True) vg gs
 hB : Below w0.heap.size w0 w
theorem IsP.below {w0 w w1 : World} {g : Nat} {r c : Int} {vz vu vg : Value} {zs : List S60} {us : List S62} {gs : List S64} (h : IsP w0 w g r c vz vu vg zs us gs) (hb : Below w.heap.size w w1) : IsP w0 w1 g r c vz vu vg zs us gs :=
 ⟨blk_below h.hP hb, h.hg, Kd.R_below h.hz hb, Kd.R_below h.hu hb, Kd.R_below h.hr hb, below_step h.hB hb⟩
theorem ne26_61 : ∀ q, q ∈ 60 :: k60.E → q ≠ 27 := by decide
theorem ne26_65 : ∀ q, q ∈ 62 :: k62.E → q ≠ 27 := by decide
theorem ne26_67 : ∀ q, q ∈ 64 :: k64.E → q ≠ 27 := by decide
theorem R_setP {α : Type} {d : Kd α} {e b : Nat} {w : World} {g : Nat} {cs : Array Value} {v : Value} {xs : List α} (h : d.R e w b (fun _ => True) v xs) (hP : w.heap[g]? = some (.cells cs 27 (0, 0))) (ht : ∀ q, q ∈ e :: d.E → q ≠ 27) (i : Nat) (u : Value) : d.R e (w.setCell ⟨g, i, none⟩ u) b (fun _ => True) v xs :=
 Kd.R_mono (Kd.R_far (p := ⟨g, i, none⟩) (Kd.R_types h hP ht) (fun k hk => hk.2) u) (fun _ _ => trivial)
theorem IsP.grid {w0 w : World} {g : Nat} {r c : Int} {vz vu vg : Value} {zs : List S60} {us : List S62} {gs : List S64} (h : IsP w0 w g r c vz vu vg zs us gs) (r1 c1 : Int) :
  IsP w0 ((w.setCell ⟨g, 0, none⟩ (.int .i64 r1)).setCell ⟨g, 1, none⟩ (.int .i64 c1)) g r1 c1 vz vu vg zs us gs := by
 have p0 : (w.setCell ⟨g, 0, none⟩ (.int .i64 r1)).heap[g]? = some (.cells #[.int .i64 r1, .int .i64 c, vz, vu, vg] 27 (0, 0)) := by simpa using blk_set h.hP 0 (.int .i64 r1)
 refine ⟨by simpa using blk_set p0 1 (.int .i64 c1), h.hg, ?_, ?_, ?_, below_set (below_set h.hB h.hg) h.hg⟩
 ·exact R_setP (R_setP h.hz h.hP ne26_61 0 _) p0 ne26_61 1 _
 ·exact R_setP (R_setP h.hu h.hP ne26_65 0 _) p0 ne26_65 1 _
 ·exact R_setP (R_setP h.hr h.hP ne26_67 0 _) p0 ne26_67 1 _
theorem P_grown {w w1 : World} {g : Nat} {cs : Array Value} {α : Type} {d : Kd α} {e b : Nat} {v : Value} {xs : List α} (hP : w.heap[g]? = some (.cells cs 27 (0, 0))) (h : d.R e w b (fun _ => True) v xs) (ht : e ≠ 27) (hg : w.grownBy w1 v.ownBlock) : w1.heap[g]? = some (.cells cs 27 (0, 0)) := by
 obtain ⟨h0, inner, ho, hr⟩ := h
 rw [← hP]
 refine hg.block g (blk_lt hP) (fun e9 => ?_)
 obtain ⟨cells, hc⟩ := own_typed ho g e9.symm
 rw [hP] at hc
 injection hc with hc
 injection hc with _ hc
 exact ht hc.symm
theorem IsP.zone {w0 w w1 : World} {g : Nat} {r c : Int} {vz vu vg v1 : Value} {zs zs1 : List S60} {us : List S62} {gs : List S64} (h : IsP w0 w g r c vz vu vg zs us gs) (hz : k60.R 60 w1 w0.heap.size (fun _ => True) v1 zs1) (hB : Below w0.heap.size w0 w1) (hg : w.grownBy w1 vz.ownBlock) :
  IsP w0 (w1.setCell ⟨g, 2, none⟩ v1) g r c v1 vu vg zs1 us gs := by
 have p1 := P_grown h.hP h.hz (by decide) hg
 refine ⟨by simpa using blk_set p1 2 v1, h.hg, R_setP hz p1 ne26_61 2 _, R_setP (Kd.R_mono (Kd.R_grown (R_apart h.hz h.hu (by decide)) hg (fun k hk => hk.2)) (fun _ _ => trivial)) p1 ne26_65 2 _, R_setP (Kd.R_mono (Kd.R_grown (R_apart h.hz h.hr (by decide)) hg (fun k hk => hk.2)) (fun _ _ => trivial)) p1 ne26_67 2 _, below_set hB h.hg⟩
theorem IsP.user {w0 w w1 : World} {g : Nat} {r c : Int} {vz vu vg v1 : Value} {zs : List S60} {us us1 : List S62} {gs : List S64} (h : IsP w0 w g r c vz vu vg zs us gs) (hz : k62.R 62 w1 w0.heap.size (fun _ => True) v1 us1) (hB : Below w0.heap.size w0 w1) (hg : w.grownBy w1 vu.ownBlock) :
  IsP w0 (w1.setCell ⟨g, 3, none⟩ v1) g r c vz v1 vg zs us1 gs := by
 have p1 := P_grown h.hP h.hu (by decide) hg
 refine ⟨by simpa using blk_set p1 3 v1, h.hg, R_setP (Kd.R_mono (Kd.R_grown (R_apart h.hu h.hz (by decide)) hg (fun k hk => hk.2)) (fun _ _ => trivial)) p1 ne26_61 3 _, R_setP hz p1 ne26_65 3 _, R_setP (Kd.R_mono (Kd.R_grown (R_apart h.hu h.hr (by decide)) hg (fun k hk => hk.2)) (fun _ _ => trivial)) p1 ne26_67 3 _, below_set hB h.hg⟩
theorem IsP.grant {w0 w w1 : World} {g : Nat} {r c : Int} {vz vu vg v1 : Value} {zs : List S60} {us : List S62} {gs gs1 : List S64} (h : IsP w0 w g r c vz vu vg zs us gs) (hz : k64.R 64 w1 w0.heap.size (fun _ => True) v1 gs1) (hB : Below w0.heap.size w0 w1) (hg : w.grownBy w1 vg.ownBlock) :
  IsP w0 (w1.setCell ⟨g, 4, none⟩ v1) g r c vz vu v1 zs us gs1 := by
 have p1 := P_grown h.hP h.hr (by decide) hg
 refine ⟨by simpa using blk_set p1 4 v1, h.hg, R_setP (Kd.R_mono (Kd.R_grown (R_apart h.hr h.hz (by decide)) hg (fun k hk => hk.2)) (fun _ _ => trivial)) p1 ne26_61 4 _, R_setP (Kd.R_mono (Kd.R_grown (R_apart h.hr h.hu (by decide)) hg (fun k hk => hk.2)) (fun _ _ => trivial)) p1 ne26_65 4 _, R_setP hz p1 ne26_67 4 _, below_set hB h.hg⟩
end Go.Proofs.YtbboanfggaknjaaGreatDoor.X
