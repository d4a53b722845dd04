/- Contracts of the functions that the law NodeTells reaches, and what they answer (a session's own texts, joined; part 1). -/
import Derived.Lib.QuietBelow
import Derived.Deep.QuietTactic
import Derived.Test.YtdddhabemdbooaaDoorProg
import Derived.Below
import Derived.Deep.Draws
import Derived.Deep.AppendLies
import Derived.Maps.AppendAt
import Derived.OwnWalk
import Derived.Laws.BytesArg
import Derived.Laws.MakeOwn
import Derived.Laws.OwnMore
import Derived.Deep.OwnRows
import Derived.Tactics
import Derived.Lib.ConvBytes
import Derived.Laws.Slices
import Derived.WalkKit
import Derived.KernelRfl
import Derived.RowKit3
import Derived.Deep.LoopGhost
import Derived.BigQuiet
import Derived.WideLaws
import Derived.Deep.DeepCutAuto
import Derived.Deep.CutBlock
import Derived.Deep.RegionHeld3
import Derived.Laws.Rows
import Derived.Lib.AppendStr
import Derived.ArgAppend
import Derived.Laws.IdiomCopy
import Derived.OrdersHeld
import Derived.Laws.BitsLemmas
import Derived.RowKit
import Derived.Lib.LaidTab
import Derived.Lib.ItoaNum
import Derived.Shelf.Strconv.Itoa0
import Derived.Shelf.Strconv.Itoa1
import Derived.Shelf.LaysM
import Derived.Shelf.Strconv.Itoa2
import Derived.Shelf.Strconv.Itoa3
import Derived.Shelf.Strings.Search1
import Derived.Shelf.Strings.Search2
import Derived.Shelf.Strings.Search3
import Derived.Shelf.Strings.Cut
import Derived.Shelf.Strings.Count
import Derived.Shelf.Strings.Shaped
import Derived.Shelf.Strings.Split
import Derived.Shelf.Unicode.DecodeSlow
import Derived.Test.YtdddhabemdbooaaDoorBNodeTells0
set_option maxHeartbeats 8000000
set_option maxRecDepth 100000
/- An operation that its guard passes over, in the walk of a region that draws. -/
set_option linter.unusedVariables false
namespace Go.Proofs.YtdddhabemdbooaaDoor.X
theorem wpQuiet_skip {P : Program} {ops : Array Oper} {C : World → Prop} {Q : Act → Prop} {a : Act} {o : Oper} {rest : List Oper} (hw : Region.wanted o (yielded ops a.tmps) = false) (h : wpQuiet P ops C Q rest (a.put o.dst undef)) : wpQuiet P ops C Q (o :: rest) a := by
 unfold wpQuiet
 rw [if_neg (by simp [hw])]
 exact h
end Go.Proofs.YtdddhabemdbooaaDoor.X
/- What holds of a block, or of all that is old, holds where nothing but new blocks and draws came since: found by instances, so that a walk's text need not say how. -/
set_option linter.unusedVariables false
namespace Go.Proofs.YtdddhabemdbooaaDoorW.PrintWords
open Go.RowKit Go.Proofs.YtdddhabemdbooaaDoorW.PrintLast Go.Proofs.YtdddhabemdbooaaDoorW.PrintMore
class Peel (W0 W1 : World) : Prop where
 blk : ∀ (g : Nat) (o : Obj), W0.heap[g]? = some o → W1.heap[g]? = some o
 bel : ∀ w : World, Below w.heap.size w W0 → Below w.heap.size w W1
instance (priority := high) Peel.self (W : World) : Peel W W := ⟨fun _ _ h => h, fun _ h => h⟩
instance Peel.alloc (W0 W1 : World) (o' : Obj) [h : Peel W0 W1] : Peel W0 (W1.alloc o') := ⟨fun g o hk => blk_alloc (h.blk g o hk) o', fun w hb => below_alloc (h.bel w hb) o'⟩
instance Peel.drewN (W0 W1 : World) (n : Nat) [h : Peel W0 W1] : Peel W0 (W1.drewN n) := ⟨fun g o hk => blk_drewN (h.blk g o hk) n, fun w hb => pw_below_drewN (h.bel w hb) n⟩
instance Peel.drew (W0 W1 : World) [h : Peel W0 W1] : Peel W0 W1.drew := ⟨fun g o hk => blk_drew (h.blk g o hk), fun w hb => below_drew1 (h.bel w hb)⟩
theorem pkx {W0 W1 : World} [h : Peel W0 W1] {g : Nat} {o : Obj} (k : Aside0 (W0.heap[g]? = some o)) : W1.heap[g]? = some o := h.blk _ _ k.out
theorem pbx {W0 W1 w : World} [h : Peel W0 W1] (k : Aside0 (Below w.heap.size w W0)) : Below w.heap.size w W1 := h.bel _ k.out
end Go.Proofs.YtdddhabemdbooaaDoorW.PrintWords
namespace Go.Proofs.YtdddhabemdbooaaDoor.X
open Go.RowKit Go.Proofs.YtdddhabemdbooaaDoorW.PrintWords Go.Proofs.YtdddhabemdbooaaDoorW.PrintLast Go.Proofs.YtdddhabemdbooaaDoorW.PrintMore
attribute [local go_sem] max2_int min2_int max_two min_two max_three min_three max_four min_four   -- for this text's walks alone
set_option linter.unusedVariables false
set_option linter.unusedSimpArgs false
def errW : Option Int → Value
 | none => .nilIface
 | some c => .iface 0 (.int .i64 c)
theorem errW_none : errW none = .nilIface := rfl
theorem errW_some (c : Int) : errW (some c) = .iface 0 (.int .i64 c) := rfl
theorem info3 : (Tryd.prog.info? 3).map (fun i => (i.zero, i.size, i.bytes)) = some (some (.int .i64 0), 1, 8) := by kernel_rfl
theorem info28 : (Tryd.prog.info? 28).map (fun i => (i.zero, i.size, i.bytes)) = some (some (.agg #[(.int .i64 0), (.int .i64 0), (.int .i64 0), (.int .i64 0), (.string ⟨#[]⟩), (.int .i64 0), (.int .i64 0), (.bool false), (.bool false), (.int .i64 0), (.int .i64 0), (.bool false), (.bool false), (.slice none 0 0)]), 14, 120) := by kernel_rfl
-- the values' own types
structure S23 where
 f0 : Int
 f1 : Int
 f2 : ByteArray
def z23 : S23 := ⟨(0 : Int), (0 : Int), (⟨#[]⟩ : ByteArray)⟩
def k23 : Kd S23 := Kd.iso (Kd.pair (Kd.int .i64) (Kd.pair (Kd.int .i64) Kd.string)) (fun x : S23 => (x.f0, x.f1, x.f2))
theorem k23_heap : Kd.Heap k23 := Kd.heap_iso _ (Kd.heap_pair (Kd.heap_int .i64) (Kd.heap_pair (Kd.heap_int .i64) Kd.heap_string))
theorem k23_open {w : World} {x : S23} {cs : List Value} (h : k23.K w x cs) : cs = [.int .i64 x.f0, .int .i64 x.f1, .string x.f2] := by
 obtain ⟨_, _, rfl, rfl, ⟨_, _, rfl, rfl, rfl⟩⟩ := h
 exact rfl
theorem k23_mk (w : World) (x : S23)  : k23.K w x [.int .i64 x.f0, .int .i64 x.f1, .string x.f2] := ⟨[.int .i64 x.f0], [.int .i64 x.f1, .string x.f2], rfl, rfl, ⟨[.int .i64 x.f1], [.string x.f2], rfl, rfl, rfl⟩⟩
structure S25 where
 f0 : Int
 f1 : Int
 f2 : Bool
 f3 : Bool
def z25 : S25 := ⟨(0 : Int), (0 : Int), false, false⟩
def k25 : Kd S25 := Kd.iso (Kd.pair (Kd.int .i64) (Kd.pair (Kd.int .i64) (Kd.pair Kd.bool Kd.bool))) (fun x : S25 => (x.f0, x.f1, x.f2, x.f3))
theorem k25_heap : Kd.Heap k25 := Kd.heap_iso _ (Kd.heap_pair (Kd.heap_int .i64) (Kd.heap_pair (Kd.heap_int .i64) (Kd.heap_pair Kd.heap_bool Kd.heap_bool)))
theorem k25_open {w : World} {x : S25} {cs : List Value} (h : k25.K w x cs) : cs = [.int .i64 x.f0, .int .i64 x.f1, .bool x.f2, .bool x.f3] := by
 obtain ⟨_, _, rfl, rfl, ⟨_, _, rfl, rfl, ⟨_, _, rfl, rfl, rfl⟩⟩⟩ := h
 exact rfl
theorem k25_mk (w : World) (x : S25)  : k25.K w x [.int .i64 x.f0, .int .i64 x.f1, .bool x.f2, .bool x.f3] := ⟨[.int .i64 x.f0], [.int .i64 x.f1, .bool x.f2, .bool x.f3], rfl, rfl, ⟨[.int .i64 x.f1], [.bool x.f2, .bool x.f3], rfl, rfl, ⟨[.bool x.f2], [.bool x.f3], rfl, rfl, rfl⟩⟩⟩
structure S28 where
 f0 : Int
 f1 : Int
 f2 : S23
 f3 : S25
 f4 : S25
 f5 : (List S28)
def z28 : S28 := ⟨(0 : Int), (0 : Int), z23, z25, z25, ([] : List S28)⟩
def F28 (d : Kd S28) : Kd S28 := Kd.iso (Kd.pair (Kd.int .i64) (Kd.pair (Kd.int .i64) (Kd.pair k23 (Kd.pair k25 (Kd.pair k25 (Kd.slice 28 d)))))) (fun x : S28 => (x.f0, x.f1, x.f2, x.f3, x.f4, x.f5))
theorem mono28 : Kd.Mono F28 := Kd.mono_iso _ (Kd.mono_pair (Kd.mono_const _) (Kd.mono_pair (Kd.mono_const _) (Kd.mono_pair (Kd.mono_const _) (Kd.mono_pair (Kd.mono_const _) (Kd.mono_pair (Kd.mono_const _) (Kd.mono_slice 28 Kd.mono_id))))))
theorem sub28 : Kd.Sub F28 [28] := Kd.sub_iso _ (Kd.sub_pair (Kd.sub_const _ (by decide)) (Kd.sub_pair (Kd.sub_const _ (by decide)) (Kd.sub_pair (Kd.sub_const _ (by decide)) (Kd.sub_pair (Kd.sub_const _ (by decide)) (Kd.sub_pair (Kd.sub_const _ (by decide)) (Kd.sub_slice 28 (by decide) Kd.sub_id))))))
theorem sz28 : ∀ n, (Kd.upto F28 14 [28] n).sz = 14 := Kd.upto_sz (fun _ => rfl)
def k28 : Kd S28 := Kd.fix F28 14 [28] sz28 (Kd.upto_E sub28)
theorem k28_heap : Kd.Heap k28 := Kd.heap_fix (fun _ h_ => Kd.heap_iso _ (Kd.heap_pair (Kd.heap_int .i64) (Kd.heap_pair (Kd.heap_int .i64) (Kd.heap_pair k23_heap (Kd.heap_pair k25_heap (Kd.heap_pair k25_heap (Kd.heap_slice 28 h_)))))))
theorem k28_open {w : World} {x : S28} {cs : List Value} (h : k28.K w x cs) : ∃ A13 c13, cs = [.int .i64 x.f0, .int .i64 x.f1, .int .i64 x.f2.f0, .int .i64 x.f2.f1, .string x.f2.f2, .int .i64 x.f3.f0, .int .i64 x.f3.f1, .bool x.f3.f2, .bool x.f3.f3, .int .i64 x.f4.f0, .int .i64 x.f4.f1, .bool x.f4.f2, .bool x.f4.f3, .slice A13 x.f5.length c13] ∧ x.f5.length ≤ c13 ∧ k28.C w A13 x.f5.length x.f5 := by
 obtain ⟨n, h⟩ := h
 cases n with
 | zero => exact h.elim
 | succ n =>
  obtain ⟨_, _, rfl, rfl, ⟨_, _, rfl, rfl, ⟨_, _, rfl, s2, ⟨_, _, rfl, s5, ⟨_, _, rfl, s9, ⟨A13, c13, rfl, l13, g13⟩⟩⟩⟩⟩⟩ := h
  obtain rfl := k23_open s2
  obtain rfl := k25_open s5
  obtain rfl := k25_open s9
  exact ⟨A13, c13, rfl, l13, Kd.fix_C g13⟩
theorem k28_mk (w : World) (x : S28) {A13 : Option Addr} {c13 : Nat} (l13 : x.f5.length ≤ c13) (g13 : k28.C w A13 x.f5.length x.f5) : k28.K w x [.int .i64 x.f0, .int .i64 x.f1, .int .i64 x.f2.f0, .int .i64 x.f2.f1, .string x.f2.f2, .int .i64 x.f3.f0, .int .i64 x.f3.f1, .bool x.f3.f2, .bool x.f3.f3, .int .i64 x.f4.f0, .int .i64 x.f4.f1, .bool x.f4.f2, .bool x.f4.f3, .slice A13 x.f5.length c13] := by
 obtain ⟨n13, q13⟩ := Kd.fix_C_back mono28 g13
 have r13 := Kd.upto_C_le mono28 sz28 (show n13 ≤ n13 by omega) q13
 exact ⟨n13 + 1, ⟨[.int .i64 x.f0], [.int .i64 x.f1, .int .i64 x.f2.f0, .int .i64 x.f2.f1, .string x.f2.f2, .int .i64 x.f3.f0, .int .i64 x.f3.f1, .bool x.f3.f2, .bool x.f3.f3, .int .i64 x.f4.f0, .int .i64 x.f4.f1, .bool x.f4.f2, .bool x.f4.f3, .slice A13 x.f5.length c13], rfl, rfl, ⟨[.int .i64 x.f1], [.int .i64 x.f2.f0, .int .i64 x.f2.f1, .string x.f2.f2, .int .i64 x.f3.f0, .int .i64 x.f3.f1, .bool x.f3.f2, .bool x.f3.f3, .int .i64 x.f4.f0, .int .i64 x.f4.f1, .bool x.f4.f2, .bool x.f4.f3, .slice A13 x.f5.length c13], rfl, rfl, ⟨[.int .i64 x.f2.f0, .int .i64 x.f2.f1, .string x.f2.f2], [.int .i64 x.f3.f0, .int .i64 x.f3.f1, .bool x.f3.f2, .bool x.f3.f3, .int .i64 x.f4.f0, .int .i64 x.f4.f1, .bool x.f4.f2, .bool x.f4.f3, .slice A13 x.f5.length c13], rfl, (k23_mk w x.f2 ), ⟨[.int .i64 x.f3.f0, .int .i64 x.f3.f1, .bool x.f3.f2, .bool x.f3.f3], [.int .i64 x.f4.f0, .int .i64 x.f4.f1, .bool x.f4.f2, .bool x.f4.f3, .slice A13 x.f5.length c13], rfl, (k25_mk w x.f3 ), ⟨[.int .i64 x.f4.f0, .int .i64 x.f4.f1, .bool x.f4.f2, .bool x.f4.f3], [.slice A13 x.f5.length c13], rfl, (k25_mk w x.f4 ), ⟨A13, c13, rfl, l13, r13⟩⟩⟩⟩⟩⟩⟩
theorem k28_openF {W : World} {ok : Nat → Prop} {x : S28} {cs : List Value} (h : Kd.FK k28 W ok x cs) : ∃ A13 c13, cs = [.int .i64 x.f0, .int .i64 x.f1, .int .i64 x.f2.f0, .int .i64 x.f2.f1, .string x.f2.f2, .int .i64 x.f3.f0, .int .i64 x.f3.f1, .bool x.f3.f2, .bool x.f3.f3, .int .i64 x.f4.f0, .int .i64 x.f4.f1, .bool x.f4.f2, .bool x.f4.f3, .slice A13 x.f5.length c13] ∧ x.f5.length ≤ c13 ∧ Kd.F k28 W ok A13 x.f5.length x.f5 := by
 obtain ⟨A13, c13, rfl, l13, _⟩ := k28_open (Kd.FK_now h)
 exact ⟨A13, c13, rfl, l13, (fun W' hW => by obtain ⟨A13_, c13_, he, l13_, g13_⟩ := k28_open (h W' hW); injection (Option.some.inj (show some (Value.slice A13 x.f5.length c13) = some (Value.slice A13_ x.f5.length c13_) from congrArg (fun l => l[13]?) he)) with ha_ _ _; rw [ha_]; exact g13_)⟩
theorem k28_mkF (W : World) (ok : Nat → Prop) (x : S28) {A13 : Option Addr} {c13 : Nat} (l13 : x.f5.length ≤ c13) (g13 : Kd.F k28 W ok A13 x.f5.length x.f5) : Kd.FK k28 W ok x [.int .i64 x.f0, .int .i64 x.f1, .int .i64 x.f2.f0, .int .i64 x.f2.f1, .string x.f2.f2, .int .i64 x.f3.f0, .int .i64 x.f3.f1, .bool x.f3.f2, .bool x.f3.f3, .int .i64 x.f4.f0, .int .i64 x.f4.f1, .bool x.f4.f2, .bool x.f4.f3, .slice A13 x.f5.length c13] := fun W2 hW => k28_mk W2 x l13 (g13 W2 hW)
def rd_T28 (xs : List S28) (i : Int) : S28 := xs.getD i.toNat z28
theorem at_T28 {w : World} {A : Option Addr} {n : Nat} {xs : List S28} (h : Kd.C k28 w A n xs) (i : Int) (h0 : 0 ≤ i) (h1 : i < n) : ∃ ad A13 c13, A = some ad ∧ w.cell? (ad.add (i.toNat * 14)) = some (.int .i64 (rd_T28 xs i).f0) ∧ w.cell? ⟨(ad.add (i.toNat * 14)).block, (ad.add (i.toNat * 14)).off + 1, none⟩ = some (.int .i64 (rd_T28 xs i).f1) ∧ w.cell? ⟨(ad.add (i.toNat * 14)).block, (ad.add (i.toNat * 14)).off + 2, none⟩ = some (.int .i64 (rd_T28 xs i).f2.f0) ∧ w.cell? ⟨(ad.add (i.toNat * 14)).block, (ad.add (i.toNat * 14)).off + 3, none⟩ = some (.int .i64 (rd_T28 xs i).f2.f1) ∧ w.cell? ⟨(ad.add (i.toNat * 14)).block, (ad.add (i.toNat * 14)).off + 4, none⟩ = some (.string (rd_T28 xs i).f2.f2) ∧ w.cell? ⟨(ad.add (i.toNat * 14)).block, (ad.add (i.toNat * 14)).off + 5, none⟩ = some (.int .i64 (rd_T28 xs i).f3.f0) ∧ w.cell? ⟨(ad.add (i.toNat * 14)).block, (ad.add (i.toNat * 14)).off + 6, none⟩ = some (.int .i64 (rd_T28 xs i).f3.f1) ∧ w.cell? ⟨(ad.add (i.toNat * 14)).block, (ad.add (i.toNat * 14)).off + 7, none⟩ = some (.bool (rd_T28 xs i).f3.f2) ∧ w.cell? ⟨(ad.add (i.toNat * 14)).block, (ad.add (i.toNat * 14)).off + 8, none⟩ = some (.bool (rd_T28 xs i).f3.f3) ∧ w.cell? ⟨(ad.add (i.toNat * 14)).block, (ad.add (i.toNat * 14)).off + 9, none⟩ = some (.int .i64 (rd_T28 xs i).f4.f0) ∧ w.cell? ⟨(ad.add (i.toNat * 14)).block, (ad.add (i.toNat * 14)).off + 10, none⟩ = some (.int .i64 (rd_T28 xs i).f4.f1) ∧ w.cell? ⟨(ad.add (i.toNat * 14)).block, (ad.add (i.toNat * 14)).off + 11, none⟩ = some (.bool (rd_T28 xs i).f4.f2) ∧ w.cell? ⟨(ad.add (i.toNat * 14)).block, (ad.add (i.toNat * 14)).off + 12, none⟩ = some (.bool (rd_T28 xs i).f4.f3) ∧ w.cell? ⟨(ad.add (i.toNat * 14)).block, (ad.add (i.toNat * 14)).off + 13, none⟩ = some (.slice A13 (rd_T28 xs i).f5.length c13) ∧ (rd_T28 xs i).f5.length ≤ c13 ∧ k28.C w A13 (rd_T28 xs i).f5.length (rd_T28 xs i).f5 := by
 obtain ⟨ad, c, e, _, hK, hc0⟩ := Kd.C_get h z28 i h0 h1
 have hc : ∀ j u, c[j]? = some u → w.cell? (ad.add (i.toNat * 14 + j)) = some u := hc0
 obtain ⟨A13, c13, rfl, l13, g13⟩ := k28_open hK
 exact ⟨ad, A13, c13, e, hc 0 _ rfl, by rw [← add_field _ _ 1 (by omega)]; exact hc 1 _ rfl, by rw [← add_field _ _ 2 (by omega)]; exact hc 2 _ rfl, by rw [← add_field _ _ 3 (by omega)]; exact hc 3 _ rfl, by rw [← add_field _ _ 4 (by omega)]; exact hc 4 _ rfl, by rw [← add_field _ _ 5 (by omega)]; exact hc 5 _ rfl, by rw [← add_field _ _ 6 (by omega)]; exact hc 6 _ rfl, by rw [← add_field _ _ 7 (by omega)]; exact hc 7 _ rfl, by rw [← add_field _ _ 8 (by omega)]; exact hc 8 _ rfl, by rw [← add_field _ _ 9 (by omega)]; exact hc 9 _ rfl, by rw [← add_field _ _ 10 (by omega)]; exact hc 10 _ rfl, by rw [← add_field _ _ 11 (by omega)]; exact hc 11 _ rfl, by rw [← add_field _ _ 12 (by omega)]; exact hc 12 _ rfl, by rw [← add_field _ _ 13 (by omega)]; exact hc 13 _ rfl, l13, g13⟩
end Go.Proofs.YtdddhabemdbooaaDoor.X
/- The tables that the library reads: a world that holds them, and what follows it. -/
set_option linter.unusedVariables false
namespace Go.Proofs.YtdddhabemdbooaaDoor.X
open Go.RowKit Go.Proofs.YtdddhabemdbooaaDoorW.PrintWords Go.Proofs.YtdddhabemdbooaaDoorW.PrintLast Go.Proofs.YtdddhabemdbooaaDoorW.PrintMore
def bru64 : List Int := [0, 1, 56, 2, 57, 49, 28, 3, 61, 58, 42, 50, 38, 29, 17, 4, 62, 47, 59, 36, 45, 43, 51, 22, 53, 39, 33, 30, 24, 18, 12, 5, 63, 55, 48, 27, 60, 41, 37, 16, 46, 35, 44, 21, 52, 32, 23, 11, 54, 26, 40, 15, 34, 20, 31, 10, 25, 14, 19, 9, 13, 8, 7, 6]
structure Tab (w : World) : Prop where
 pow : Lib.TabIs Tryd.prog w "internal/strconv.uint64pow10" .u64 Lib.pow10Tab
 bru : Lib.TabIs Tryd.prog w "math/bits.deBruijn64tab" .u8 bru64
theorem tabIs_below {w w' : World} {n : String} {k : IntKind} {zs : List Int} (h : Lib.TabIs Tryd.prog w n k zs) (hb : Below w.heap.size w w') : Lib.TabIs Tryd.prog w' n k zs := by
 unfold Lib.TabIs World.var? at *
 obtain ⟨g, hg, h⟩ := Option.bind_eq_some_iff.1 h
 rw [hg, Option.bind_some]
 have hlt : g < w.heap.size := by
  rcases Nat.lt_or_ge g w.heap.size with hh | hh
  ·exact hh
  ·rw [Array.getElem?_eq_none hh] at h; simp at h
 rw [hb.block g hlt]
 exact h
theorem Tab.below {w w' : World} (h : Tab w) (hb : Below w.heap.size w w') : Tab w' := ⟨tabIs_below h.pow hb, tabIs_below h.bru hb⟩
theorem tb_ {w w' : World} (hb : Below w.heap.size w w') (h : Aside0 (Tab w)) : Aside0 (Tab w') := ⟨h.out.below hb⟩
end Go.Proofs.YtdddhabemdbooaaDoor.X
namespace Go.Proofs.YtdddhabemdbooaaDoor.X
open Go.RowKit Go.Proofs.YtdddhabemdbooaaDoorW.PrintWords
abbrev T_ : Bool := true
abbrev F_ : Bool := false
theorem hl_ {W0 W1 : World} [Peel W0 W1] {g gb : Nat} {o : Obj} (k : Aside0 (W0.heap[g]? = some o)) (hg : gb = W1.heap.size) : Aside0 (g ≠ gb) := ⟨by rw [hg]; exact Nat.ne_of_lt (blk_lt (pkx k))⟩
theorem hr_ {W0 W1 : World} [Peel W0 W1] {g gb : Nat} {o : Obj} (k : Aside0 (W0.heap[g]? = some o)) (hg : gb = W1.heap.size) : Aside0 (gb ≠ g) := ⟨by rw [hg]; exact Nat.ne_of_gt (blk_lt (pkx k))⟩
theorem hs_ {W0 W1 w : World} [Peel W0 W1] {gb : Nat} (k : Aside0 (Below w.heap.size w W0)) (hg : gb = W1.heap.size) : Aside0 (w.heap.size ≤ gb) := ⟨by rw [hg]; exact below_size (pbx k)⟩
abbrev T : Bool := true
abbrev F : Bool := false
def m_ : Nat → Nat → List Bool
  | 0, _ => []
  | n + 1, x => (x % 2 == 1) :: m_ n (x / 2)
theorem bb_ {W0 W1 W2 : World} [h : Peel W0 W1] {g : Nat} {o : Obj} (k : Aside0 (W0.heap[g]? = some o)) (hb : Below W1.heap.size W1 W2) : Aside0 (W2.heap[g]? = some o) := Aside0.mk (blk_below (pkx k) hb)
theorem bs_ {W0 W1 W2 w : World} [h : Peel W0 W1] (k : Aside0 (Below w.heap.size w W0)) (hb : Below W1.heap.size W1 W2) : Aside0 (Below w.heap.size w W2) := Aside0.mk (below_step (pbx k) hb)
theorem bc_ {w : World} {g : Nat} {t : TypeId} {cs : Array Value} {v : Value} (h : Aside0 (w.heap[g]? = some (.cells cs t (0, 0)))) (i : Nat) (e : cs[i]? = some v) : w.cell? ⟨g, i, none⟩ = some v := (blk_cell h.out i).trans e
theorem q_ : (∀ (a : Act) (v : Value), a.put none v = a) ∧ (∀ (a : Act) (t : Tmp) (v : Value), a.put (some t) v = { a with tmps := a.tmps.setIfInBounds t v }) ∧ (∀ (l : List Value) (i : Nat) (v : Value), l.toArray.setIfInBounds i v = (l.set i v).toArray) ∧ (∀ (a b : Value) (l : List Value), (a :: l).set 0 b = b :: l) ∧ (∀ (a b : Value) (l : List Value) (n : Nat), (a :: l).set (n + 1) b = a :: l.set n b) := ⟨fun _ _ => rfl, fun _ _ _ => rfl, fun _ _ _ => List.setIfInBounds_toArray .., fun _ _ _ => rfl, fun _ _ _ _ => rfl⟩
end Go.Proofs.YtdddhabemdbooaaDoor.X
namespace Go.Proofs.YtdddhabemdbooaaDoor.X
open Go.RowKit Go.Proofs.YtdddhabemdbooaaDoorW.PrintWords Go.Proofs.YtdddhabemdbooaaDoorW.PrintLast Go.Proofs.YtdddhabemdbooaaDoorW.PrintMore
class PO (W0 : outParam World) (W1 : World) : Prop where
  of : ∀ (g : Nat) (o : Obj), W0.heap[g]? = some o → W1.heap[g]? = some o
instance (priority := low) PO.self (W : World) : PO W W := ⟨fun _ _ h => h⟩
instance PO.alloc (W0 W1 : World) (o9 : Obj) [h : PO W0 W1] : PO W0 (W1.alloc o9) := ⟨fun g o k => blk_alloc (h.of g o k) o9⟩
instance PO.drewN (W0 W1 : World) (n : Nat) [h : PO W0 W1] : PO W0 (W1.drewN n) := ⟨fun g o k => blk_drewN (h.of g o k) n⟩
instance PO.drew (W0 W1 : World) [h : PO W0 W1] : PO W0 W1.drew := ⟨fun g o k => blk_drew (h.of g o k)⟩
theorem pf_ {W W1 : World} {g : Nat} {cs : Array Value} {t : TypeId} {p : Addr} {v : Value} [h : PO (W.setCell p v) W1] (k : W.heap[g]? = some (.cells cs t (0, 0))) (hne : g ≠ p.block) : W1.heap[g]? = some (.cells cs t (0, 0)) := h.of _ _ (blk_far k hne v)
theorem pp_ {W W1 : World} {g : Nat} {cs cs2 : Array Value} {t : TypeId} {v : Value} (i : Nat) [h : PO (W.setCell ⟨g, i, none⟩ v) W1] (k : W.heap[g]? = some (.cells cs t (0, 0))) (e : cs.setIfInBounds i v = cs2) : W1.heap[g]? = some (.cells cs2 t (0, 0)) := h.of _ _ (blk_put k i v e)
theorem gL_ {P : Program} {ops : Array Oper} {Q : Exit → Act → World → Prop} {rest : List Oper} {oi : Oper} {a : Act} {w : World} (N : Option Tmp) (hd : oi.dst = N) (hg : oi.guard = none) {f : FuncId} {fn : Func} {asx : Array Operand} {ts : Array TypeId} (hf : P.funcs[f]? = some fn) (hb : fn.body.isSome = true) (args : Array Value) (hop : oi.op = .call { callee := .value (.func f), args := asx, argTypes := ts })
    (h : Calls P f args w fun e w9 => ∃ v, e = .returned v ∧ wpList P ops Q rest (a.put N v) w9) (hname : (fn.name == "runtime.NumGoroutine") = false := by kernel_rfl) (hargs : asx.map a.eval = args := by (try simp only [List.map_toArray, List.map_cons, List.map_nil]); first | done | rfl | (simp only [List.length_drop, List.length_take]; rfl)) : wpList P ops Q (oi :: rest) a w := goesL_ N hd hg hf hname hb args hop hargs h
theorem be_ {P : Program} {ops : Array Oper} {Q : Exit → Act → World → Prop} {rest : List Oper} {o : Oper} {a : Act} {W : World} {N : Tmp} {cs : Array Value} {t : TypeId} (h : ∀ g, g = W.heap.size → ∀ w1, w1.heap[g]? = some (.cells cs t (0, 0)) → Below W.heap.size W w1 → wpList P ops Q rest (a.put o.dst (.pointer (some ⟨g, 0, none⟩))) w1) (hgd : o.guard = none := by rfl) (hd : o.dst = some N := by rfl) (hrun : (execOp a.eval o).run P W = .ok (.value (.pointer (some ⟨W.heap.size, 0, none⟩))) (W.alloc (.cells cs t (0, 0))) := by first | (go_simp; done) | (go_simp; rfl)) : wpList P ops Q (o :: rest) a W := box_event hgd hd hrun h
end Go.Proofs.YtdddhabemdbooaaDoor.X
namespace Go.Proofs.YtdddhabemdbooaaDoor.X
open Go.RowKit Go.Proofs.YtdddhabemdbooaaDoorW.PrintWords Go.Proofs.YtdddhabemdbooaaDoorW.PrintLast Go.Proofs.YtdddhabemdbooaaDoorW.PrintMore
theorem z1_ {w : World} {g : Nat} {t : TypeId} {a0 : Value} (h : Aside0 (w.heap[g]? = some (.cells #[a0] t (0, 0)))) : w.cell? ⟨g, 0, none⟩ = some a0 ∧ w.frozen? ⟨g, 0, none⟩ = false := ⟨bc_ h 0 rfl, blk_frozen h.out 0⟩
theorem z2_ {w : World} {g : Nat} {t : TypeId} {a0 a1 : Value} (h : Aside0 (w.heap[g]? = some (.cells #[a0, a1] t (0, 0)))) : w.cell? ⟨g, 0, none⟩ = some a0 ∧ w.cell? ⟨g, 1, none⟩ = some a1 ∧ w.frozen? ⟨g, 0, none⟩ = false ∧ w.frozen? ⟨g, 1, none⟩ = false := ⟨bc_ h 0 rfl, bc_ h 1 rfl, blk_frozen h.out 0, blk_frozen h.out 1⟩
theorem z3_ {w : World} {g : Nat} {t : TypeId} {a0 a1 a2 : Value} (h : Aside0 (w.heap[g]? = some (.cells #[a0, a1, a2] t (0, 0)))) : w.cell? ⟨g, 0, none⟩ = some a0 ∧ w.cell? ⟨g, 1, none⟩ = some a1 ∧ w.cell? ⟨g, 2, none⟩ = some a2 ∧ w.frozen? ⟨g, 0, none⟩ = false ∧ w.frozen? ⟨g, 1, none⟩ = false ∧ w.frozen? ⟨g, 2, none⟩ = false := ⟨bc_ h 0 rfl, bc_ h 1 rfl, bc_ h 2 rfl, blk_frozen h.out 0, blk_frozen h.out 1, blk_frozen h.out 2⟩
theorem z4_ {w : World} {g : Nat} {t : TypeId} {a0 a1 a2 a3 : Value} (h : Aside0 (w.heap[g]? = some (.cells #[a0, a1, a2, a3] t (0, 0)))) : w.cell? ⟨g, 0, none⟩ = some a0 ∧ w.cell? ⟨g, 1, none⟩ = some a1 ∧ w.cell? ⟨g, 2, none⟩ = some a2 ∧ w.cell? ⟨g, 3, none⟩ = some a3 ∧ w.frozen? ⟨g, 0, none⟩ = false ∧ w.frozen? ⟨g, 1, none⟩ = false ∧ w.frozen? ⟨g, 2, none⟩ = false ∧ w.frozen? ⟨g, 3, none⟩ = false := ⟨bc_ h 0 rfl, bc_ h 1 rfl, bc_ h 2 rfl, bc_ h 3 rfl, blk_frozen h.out 0, blk_frozen h.out 1, blk_frozen h.out 2, blk_frozen h.out 3⟩
theorem z5_ {w : World} {g : Nat} {t : TypeId} {a0 a1 a2 a3 a4 : Value} (h : Aside0 (w.heap[g]? = some (.cells #[a0, a1, a2, a3, a4] t (0, 0)))) : w.cell? ⟨g, 0, none⟩ = some a0 ∧ w.cell? ⟨g, 1, none⟩ = some a1 ∧ w.cell? ⟨g, 2, none⟩ = some a2 ∧ w.cell? ⟨g, 3, none⟩ = some a3 ∧ w.cell? ⟨g, 4, none⟩ = some a4 ∧ w.frozen? ⟨g, 0, none⟩ = false ∧ w.frozen? ⟨g, 1, none⟩ = false ∧ w.frozen? ⟨g, 2, none⟩ = false ∧ w.frozen? ⟨g, 3, none⟩ = false ∧ w.frozen? ⟨g, 4, none⟩ = false := ⟨bc_ h 0 rfl, bc_ h 1 rfl, bc_ h 2 rfl, bc_ h 3 rfl, bc_ h 4 rfl, blk_frozen h.out 0, blk_frozen h.out 1, blk_frozen h.out 2, blk_frozen h.out 3, blk_frozen h.out 4⟩
theorem z6_ {w : World} {g : Nat} {t : TypeId} {a0 a1 a2 a3 a4 a5 : Value} (h : Aside0 (w.heap[g]? = some (.cells #[a0, a1, a2, a3, a4, a5] t (0, 0)))) : w.cell? ⟨g, 0, none⟩ = some a0 ∧ w.cell? ⟨g, 1, none⟩ = some a1 ∧ w.cell? ⟨g, 2, none⟩ = some a2 ∧ w.cell? ⟨g, 3, none⟩ = some a3 ∧ w.cell? ⟨g, 4, none⟩ = some a4 ∧ w.cell? ⟨g, 5, none⟩ = some a5 ∧ w.frozen? ⟨g, 0, none⟩ = false ∧ w.frozen? ⟨g, 1, none⟩ = false ∧ w.frozen? ⟨g, 2, none⟩ = false ∧ w.frozen? ⟨g, 3, none⟩ = false ∧ w.frozen? ⟨g, 4, none⟩ = false ∧ w.frozen? ⟨g, 5, none⟩ = false := ⟨bc_ h 0 rfl, bc_ h 1 rfl, bc_ h 2 rfl, bc_ h 3 rfl, bc_ h 4 rfl, bc_ h 5 rfl, blk_frozen h.out 0, blk_frozen h.out 1, blk_frozen h.out 2, blk_frozen h.out 3, blk_frozen h.out 4, blk_frozen h.out 5⟩
theorem z7_ {w : World} {g : Nat} {t : TypeId} {a0 a1 a2 a3 a4 a5 a6 : Value} (h : Aside0 (w.heap[g]? = some (.cells #[a0, a1, a2, a3, a4, a5, a6] t (0, 0)))) : w.cell? ⟨g, 0, none⟩ = some a0 ∧ w.cell? ⟨g, 1, none⟩ = some a1 ∧ w.cell? ⟨g, 2, none⟩ = some a2 ∧ w.cell? ⟨g, 3, none⟩ = some a3 ∧ w.cell? ⟨g, 4, none⟩ = some a4 ∧ w.cell? ⟨g, 5, none⟩ = some a5 ∧ w.cell? ⟨g, 6, none⟩ = some a6 ∧ w.frozen? ⟨g, 0, none⟩ = false ∧ w.frozen? ⟨g, 1, none⟩ = false ∧ w.frozen? ⟨g, 2, none⟩ = false ∧ w.frozen? ⟨g, 3, none⟩ = false ∧ w.frozen? ⟨g, 4, none⟩ = false ∧ w.frozen? ⟨g, 5, none⟩ = false ∧ w.frozen? ⟨g, 6, none⟩ = false := ⟨bc_ h 0 rfl, bc_ h 1 rfl, bc_ h 2 rfl, bc_ h 3 rfl, bc_ h 4 rfl, bc_ h 5 rfl, bc_ h 6 rfl, blk_frozen h.out 0, blk_frozen h.out 1, blk_frozen h.out 2, blk_frozen h.out 3, blk_frozen h.out 4, blk_frozen h.out 5, blk_frozen h.out 6⟩
theorem z8_ {w : World} {g : Nat} {t : TypeId} {a0 a1 a2 a3 a4 a5 a6 a7 : Value} (h : Aside0 (w.heap[g]? = some (.cells #[a0, a1, a2, a3, a4, a5, a6, a7] t (0, 0)))) : w.cell? ⟨g, 0, none⟩ = some a0 ∧ w.cell? ⟨g, 1, none⟩ = some a1 ∧ w.cell? ⟨g, 2, none⟩ = some a2 ∧ w.cell? ⟨g, 3, none⟩ = some a3 ∧ w.cell? ⟨g, 4, none⟩ = some a4 ∧ w.cell? ⟨g, 5, none⟩ = some a5 ∧ w.cell? ⟨g, 6, none⟩ = some a6 ∧ w.cell? ⟨g, 7, none⟩ = some a7 ∧ w.frozen? ⟨g, 0, none⟩ = false ∧ w.frozen? ⟨g, 1, none⟩ = false ∧ w.frozen? ⟨g, 2, none⟩ = false ∧ w.frozen? ⟨g, 3, none⟩ = false ∧ w.frozen? ⟨g, 4, none⟩ = false ∧ w.frozen? ⟨g, 5, none⟩ = false ∧ w.frozen? ⟨g, 6, none⟩ = false ∧ w.frozen? ⟨g, 7, none⟩ = false := ⟨bc_ h 0 rfl, bc_ h 1 rfl, bc_ h 2 rfl, bc_ h 3 rfl, bc_ h 4 rfl, bc_ h 5 rfl, bc_ h 6 rfl, bc_ h 7 rfl, blk_frozen h.out 0, blk_frozen h.out 1, blk_frozen h.out 2, blk_frozen h.out 3, blk_frozen h.out 4, blk_frozen h.out 5, blk_frozen h.out 6, blk_frozen h.out 7⟩
theorem e1_ {α : Type} [BEq α] [LawfulBEq α] {a b : α} (h : a = b) : (a == b) = true ∧ (a != b) = false := ⟨beq_iff_eq.mpr h, bne_eq_false_iff_eq.mpr h⟩
theorem e0_ {α : Type} [BEq α] [LawfulBEq α] {a b : α} (h : ¬ a = b) : (a == b) = false ∧ (a != b) = true := ⟨beq_eq_false_iff_ne.mpr h, bne_iff_ne.mpr h⟩
theorem bo_ {α β : Type} {x : Option α} {f : α → Option β} {r : β} (h : x.bind f = some r) : ∃ t, Aside0 (x = some t) ∧ f t = some r := by obtain ⟨t, a, b⟩ := Option.bind_eq_some_iff.mp h; exact ⟨t, ⟨a⟩, b⟩
theorem it_ {α : Type} {c : Prop} [i : Decidable c] {a b r : α} (h : (if c then a else b) = r) (hc : c := by rfl) : a = r := by rw [if_pos hc] at h; exact h
theorem ie_ {α : Type} {c : Prop} [i : Decidable c] {a b r : α} (h : (if c then a else b) = r) (hc : ¬ c := by decide) : b = r := by rw [if_neg hc] at h; exact h
theorem le_ {a b : Nat} (h : a ≤ b := by first | omega | exact Nat.le_refl _) : Aside0 (a ≤ b) := ⟨h⟩
theorem sq_ {p : Prop} (h : p := by first | rfl | (simp; done) | (simp [*]; done)) : p := h
theorem fi_ {p q : Prop} (h : q) (k : p := by first | rfl | (simp [errW_none, errW_some] <;> rfl) | (simp [*, errW_none, errW_some] <;> rfl)) : p ∧ q := ⟨k, h⟩
theorem A_ {p : Prop} (h : p) : Aside0 p := ⟨h⟩
theorem ao_ {md : _} {ops : _} {T : _} {l l' : Array Bool} {i : Nat} (hT : Aside0 (rtab md ops = T)) (h : anyT T l.toList l'.toList i = true := by kernel_rfl) : anyB md ops l l' i = true := any_of hT.out h
theorem oo_ {md : _} {ops : _} {T : _} {l l' : Array Bool} {i : Nat} (hT : Aside0 (rtab md ops = T)) (h : (readyT T.2 l.toList == [i] && l.toList.set i true == l'.toList) = true := by kernel_rfl) : readyB md ops l l' i = true := one_of hT.out h
theorem tw_ {md : _} {ops : _} {T : _} {ds : _} {B : List Nat} {l l' : Array Bool} {i : Nat} (hT : Aside0 (rtab md ops = T)) (hB : Aside0 (waitsOk T.2 B = true)) (h : takeW T B ds l.toList l'.toList i = true := by kernel_rfl) : takeB md ops ds l l' i = true := take_ofW hT.out hB.out h
theorem as_ {p : Prop} (h : p := by first | (with_reducible assumption) | assumption) : p := h
theorem mo_ {p : Prop} (h : p := by with_reducible repeat' first | apply ih0 | apply ih1 | apply ih2 | apply ih3 | apply ih4 | apply ih5 | apply ih6 | apply ih7 | apply ih8 | apply ih9 | apply m0 | apply m1 | apply m2 | apply m3 | apply m4 | apply m5 | apply m6 | apply m7 | apply m8 | apply m9 | exact LeO.refl _ | exact LeO.none _ | refine LeO.ite ?_ ?_ | refine LeO.bind ?_ (fun _ => ?_)) : p := h
theorem bl_ {p : Prop} (h : p := by repeat (first | (with_reducible first | exact HB.out | apply below_alloc | apply pw_below_drewN | apply below_drew1) | (with_reducible refine below_set ?_ ?_; rotate_left; exact Aside0.out (by assumption)) | exact HB.out)) : p := h
theorem ha_ {p : Prop} (h : p := by (try simp only [List.map_toArray, List.map_cons, List.map_nil]); first | done | rfl | (simp only [List.length_drop, List.length_take]; rfl)) : p := h
theorem gd_ {P : Program} {ops : Array Oper} {Q : Exit → Act → World → Prop} {o : Oper} {rest : List Oper} {a : Act} {W : World} (N : Tmp) (h : wpList P ops Q (o :: rest) a W) (_hd : o.dst = some N := by rfl) : wpList P ops Q (o :: rest) a W := h
theorem ib_ {α : Type} {t : Bool} {a b r : α} (h : (if t = true then a else b) = r) : (t = true ∧ a = r) ∨ (t = false ∧ b = r) := by cases t; exact .inr ⟨rfl, h⟩; exact .inl ⟨rfl, h⟩
theorem dr_ {p : Prop} (h : p := by repeat (first | exact Drawn0.refl _ | apply Drawn0.step)) : p := h
inductive Ch : World → World → Prop
  | self (W : World) : Ch W W
  | alloc {W0 W1 : World} (o : Obj) : Ch W0 W1 → Ch W0 (W1.alloc o)
  | drewN {W0 W1 : World} (n : Nat) : Ch W0 W1 → Ch W0 (W1.drewN n)
  | drew {W0 W1 : World} : Ch W0 W1 → Ch W0 W1.drew
class CH (W0 : outParam World) (W1 : World) : Prop where
  c : Ch W0 W1
instance (priority := low) CH.self (W : World) : CH W W := ⟨.self W⟩
instance CH.alloc (W0 W1 : World) (o : Obj) [h : CH W0 W1] : CH W0 (W1.alloc o) := ⟨.alloc o h.c⟩
instance CH.drewN (W0 W1 : World) (n : Nat) [h : CH W0 W1] : CH W0 (W1.drewN n) := ⟨.drewN n h.c⟩
instance CH.drew (W0 W1 : World) [h : CH W0 W1] : CH W0 W1.drew := ⟨.drew h.c⟩
theorem va_ {α : Type} {d : Kd α} {e : Nat} {W0 W1 : World} {base : Nat} {ok : Nat → Prop} {v : Value} {xs : List α} [c : CH W0 W1] (h : Kd.V d e W0 base ok v xs) : Kd.V d e W1 base ok v xs := by
  have := c.c; clear c; induction this with
  | self => exact h
  | alloc o _ ih => exact Kd.V_alloc ih o
  | drewN n _ ih => exact Kd.V_drewN ih n
  | drew _ ih => exact Kd.V_drew ih
theorem ra_ {α : Type} {d : Kd α} {e : Nat} {W0 W1 : World} {base : Nat} {ok : Nat → Prop} {v : Value} {xs : List α} [c : CH W0 W1] (h : Kd.R d e W0 base ok v xs) : Kd.R d e W1 base ok v xs := by
  have := c.c; clear c; induction this with
  | self => exact h
  | alloc o _ ih => exact Kd.R_alloc ih o
  | drewN n _ ih => exact Kd.R_drewN ih n
  | drew _ ih => exact Kd.R_drew ih
theorem ca_ {α : Type} {d : Kd α} {W0 W1 : World} {A : Option Addr} {n : Nat} {xs : List α} [c : CH W0 W1] (h : Kd.C d W0 A n xs) : Kd.C d W1 A n xs := by
  have := c.c; clear c; induction this with
  | self => exact h
  | alloc o _ ih => exact Kd.C_alloc ih o
  | drewN n _ ih => exact Kd.C_drewN ih n
  | drew _ ih => exact Kd.C_drew ih
end Go.Proofs.YtdddhabemdbooaaDoor.X
namespace Go.Proofs.YtdddhabemdbooaaDoor.X
open Go.RowKit Go.Proofs.YtdddhabemdbooaaDoorW.PrintWords Go.Proofs.YtdddhabemdbooaaDoorW.PrintLast Go.Proofs.YtdddhabemdbooaaDoorW.PrintMore
attribute [local go_sem] max2_int min2_int max_two min_two max_three min_three max_four min_four
set_option linter.unusedVariables false
set_option linter.unusedSimpArgs false
mutual
def oculusref22_Left.l0 : Nat → Int → Int → Int → Int → Int → Int → ByteArray → Int → Int → Bool → Bool → Int → Int → Bool → Bool → List (S28) → Option (Int)
 | 0, _, _, _, _, _, _, _, _, _, _, _, _, _, _, _, _ => none
 | k + 1, x1, x5, x102000, x102001, x102002, x102003, x102004, x102005, x102006, x102007, x102008, x102009, x102010, x102011, x102012, x102013 => if x5 < (x102013.length : Int) then (if x1 ≥ 0 then (if 0 ≤ x5 then ((oculusref22_Left.f k ((rd_T28 x102013 x5).f0) ((rd_T28 x102013 x5).f1) ((rd_T28 x102013 x5).f2.f0) ((rd_T28 x102013 x5).f2.f1) ((rd_T28 x102013 x5).f2.f2) ((rd_T28 x102013 x5).f3.f0) ((rd_T28 x102013 x5).f3.f1) ((rd_T28 x102013 x5).f3.f2) ((rd_T28 x102013 x5).f3.f3) ((rd_T28 x102013 x5).f4.f0) ((rd_T28 x102013 x5).f4.f1) ((rd_T28 x102013 x5).f4.f2) ((rd_T28 x102013 x5).f4.f3) ((rd_T28 x102013 x5).f5) x1).bind fun t103 => (oculusref22_Left.l0 k t103 (wrap64 (x5 + 1)) x102000 x102001 x102002 x102003 x102004 x102005 x102006 x102007 x102008 x102009 x102010 x102011 x102012 x102013)) else (none)) else (some x1)) else (some x1)
def oculusref22_Left.f : Nat → Int → Int → Int → Int → ByteArray → Int → Int → Bool → Bool → Int → Int → Bool → Bool → List (S28) → Int → Option (Int)
 | 0, _, _, _, _, _, _, _, _, _, _, _, _, _, _, _ => none
 | k + 1, a0_0, a0_1, a0_2, a0_3, a0_4, a0_5, a0_6, a0_7, a0_8, a0_9, a0_10, a0_11, a0_12, l0_13, a1 => oculusref22_Left.l0 k (wrap64 (a1 - 1)) 0 a0_0 a0_1 a0_2 a0_3 a0_4 a0_5 a0_6 a0_7 a0_8 a0_9 a0_10 a0_11 a0_12 l0_13
end
theorem oculusref22_Left.calls (k : Nat) : ∀ (a0_0 : Int) (a0_1 : Int) (a0_2 : Int) (a0_3 : Int) (a0_4 : ByteArray) (a0_5 : Int) (a0_6 : Int) (a0_7 : Bool) (a0_8 : Bool) (a0_9 : Int) (a0_10 : Int) (a0_11 : Bool) (a0_12 : Bool) (A0_13 : Option Addr) (c0_13 : Nat) (l0_13 : List (S28)) (a1 : Int) (r : Int) (w : World) (hr0_13 : Kd.C k28 w A0_13 l0_13.length l0_13) (hc0_13 : l0_13.length ≤ c0_13) (h : oculusref22_Left.f k a0_0 a0_1 a0_2 a0_3 a0_4 a0_5 a0_6 a0_7 a0_8 a0_9 a0_10 a0_11 a0_12 l0_13 a1 = some r),
  Calls Tryd.prog 26 #[.agg #[.int .i64 a0_0, .int .i64 a0_1, .int .i64 a0_2, .int .i64 a0_3, .string a0_4, .int .i64 a0_5, .int .i64 a0_6, .bool a0_7, .bool a0_8, .int .i64 a0_9, .int .i64 a0_10, .bool a0_11, .bool a0_12, .slice A0_13 l0_13.length c0_13], .int .i64 a1] w fun e w' => e = .returned (.int .i64 r) ∧ Below w.heap.size w w' := by
 induction k using Nat.strongRecOn with
 | _ k ih =>
 intro a0_0 a0_1 a0_2 a0_3 a0_4 a0_5 a0_6 a0_7 a0_8 a0_9 a0_10 a0_11 a0_12 A0_13 c0_13 l0_13 a1 r w hr0_13 hc0_13 h
 cases k with
 | zero => exact absurd h (by simp [oculusref22_Left.f])
 | succ k =>
 simp only [oculusref22_Left.f] at h
 have hu28 := Tryd.underlying28; have HR0_13 := A_ hr0_13; have HC0_13 := A_ hc0_13; clear hr0_13 hc0_13; have HB := A_ (Below.refl w.heap.size w)
 have H : (oculusref22_Left.l0 k (wrap64 (a1 - 1)) 0 a0_0 a0_1 a0_2 a0_3 a0_4 a0_5 a0_6 a0_7 a0_8 a0_9 a0_10 a0_11 a0_12 l0_13) = some r := h
 clear h
 have H' := A_ H
 clear H
 go_enter Tryd.func26, Tryd.ntmps26
 go_wp2_with (first | ((with_reducible refine gd_ 2 ?_); refine be_ (N:=2) (cs := #[.int .i64 a0_0, .int .i64 a0_1, .int .i64 a0_2, .int .i64 a0_3, .string a0_4, .int .i64 a0_5, .int .i64 a0_6, .bool a0_7, .bool a0_8, .int .i64 a0_9, .int .i64 a0_10, .bool a0_11, .bool a0_12, .slice A0_13 l0_13.length c0_13]) (t:=28) ?_; intro g1 hg w3 hbox hb; have B1 := A_ (hbox); replace HB := bs_ HB hb; clear hb hbox hg))
 go_loopg [1, 5] k (fun kq v1 v5 w' => ∃ (x1_1 : Int) (x5_1 : Int), v1 = .int .i64 x1_1 ∧ v5 = .int .i64 x5_1 ∧ Aside0 (oculusref22_Left.l0 kq x1_1 x5_1 a0_0 a0_1 a0_2 a0_3 a0_4 a0_5 a0_6 a0_7 a0_8 a0_9 a0_10 a0_11 a0_12 l0_13 = some r) ∧ Aside0 (kq ≤ k) ∧ Aside0 (w'.heap[g1]? = some (.cells #[.int .i64 a0_0, .int .i64 a0_1, .int .i64 a0_2, .int .i64 a0_3, .string a0_4, .int .i64 a0_5, .int .i64 a0_6, .bool a0_7, .bool a0_8, .int .i64 a0_9, .int .i64 a0_10, .bool a0_11, .bool a0_12, (.slice A0_13 l0_13.length c0_13)] 28 (0, 0))) ∧ Aside0 (Below w.heap.size w w'))
 case atStart => exact ⟨(wrap64 (a1 - 1)), (0), sq_, sq_, H', ⟨Nat.le_refl _⟩, ⟨pkx B1⟩, ⟨pbx HB⟩⟩
 case round =>
  clear H'; obtain ⟨x1_1, x5_1, rfl, rfl, HA, HK1, B1, HB⟩ := hrel
  cases gk with
  | zero => exact absurd HA.out (by simp [oculusref22_Left.l0])
  | succ k1 =>
   have H := HA.out; clear HA
   simp only [oculusref22_Left.l0] at H
   by_cases c4 : x5_1 < (l0_13.length : Int)
   ·rw [if_pos c4] at H; have c4b0 := decide_eq_true c4; clear c4
    by_cases c5 : x1_1 ≥ 0
    ·rw [if_pos c5] at H; have c5b0 := decide_eq_true c5; clear c5
     by_cases c6 : 0 ≤ x5_1
     ·rw [if_pos c6] at H; have c6b0 := decide_eq_true c6; clear c6; obtain ⟨t103, A7, H⟩ := bo_ H
      have H' := A_ H
      clear H
      have hcz8_0 : wr.cell? ⟨g1, 0, none⟩ = some (.int .i64 a0_0) := bc_ B1 0 rfl
      have hcz8_1 : wr.cell? ⟨g1, 1, none⟩ = some (.int .i64 a0_1) := bc_ B1 1 rfl
      have hcz8_2 : wr.cell? ⟨g1, 2, none⟩ = some (.int .i64 a0_2) := bc_ B1 2 rfl
      have hcz8_3 : wr.cell? ⟨g1, 3, none⟩ = some (.int .i64 a0_3) := bc_ B1 3 rfl
      have hcz8_4 : wr.cell? ⟨g1, 4, none⟩ = some (.string a0_4) := bc_ B1 4 rfl
      have hcz8_5 : wr.cell? ⟨g1, 5, none⟩ = some (.int .i64 a0_5) := bc_ B1 5 rfl
      have hcz8_6 : wr.cell? ⟨g1, 6, none⟩ = some (.int .i64 a0_6) := bc_ B1 6 rfl
      have hcz8_7 : wr.cell? ⟨g1, 7, none⟩ = some (.bool a0_7) := bc_ B1 7 rfl
      have hcz8_8 : wr.cell? ⟨g1, 8, none⟩ = some (.bool a0_8) := bc_ B1 8 rfl
      have hcz8_9 : wr.cell? ⟨g1, 9, none⟩ = some (.int .i64 a0_9) := bc_ B1 9 rfl
      have hcz8_10 : wr.cell? ⟨g1, 10, none⟩ = some (.int .i64 a0_10) := bc_ B1 10 rfl
      have hcz8_11 : wr.cell? ⟨g1, 11, none⟩ = some (.bool a0_11) := bc_ B1 11 rfl
      have hcz8_12 : wr.cell? ⟨g1, 12, none⟩ = some (.bool a0_12) := bc_ B1 12 rfl
      have hcz8_13 : wr.cell? ⟨g1, 13, none⟩ = some (.slice A0_13 l0_13.length c0_13) := bc_ B1 13 rfl
      have p102 : 0 ≤ (x5_1 : Int) := of_decide_eq_true as_
      have q102 : x5_1 < (l0_13.length : Int) := of_decide_eq_true as_
      obtain ⟨ad102, A102_13, c102_13, e102, hx102_0, hx102_1, hx102_2, hx102_3, hx102_4, hx102_5, hx102_6, hx102_7, hx102_8, hx102_9, hx102_10, hx102_11, hx102_12, hx102_13, hl102_13, hi102_13⟩ := at_T28 HR0_13.out x5_1 p102 q102
      cases e102
      replace hx102_0 := (HB.out.cell (World.block_lt_of_cell? w _ hx102_0)).trans hx102_0; replace hx102_1 := (HB.out.cell (World.block_lt_of_cell? w _ hx102_1)).trans hx102_1; replace hx102_2 := (HB.out.cell (World.block_lt_of_cell? w _ hx102_2)).trans hx102_2; replace hx102_3 := (HB.out.cell (World.block_lt_of_cell? w _ hx102_3)).trans hx102_3; replace hx102_4 := (HB.out.cell (World.block_lt_of_cell? w _ hx102_4)).trans hx102_4; replace hx102_5 := (HB.out.cell (World.block_lt_of_cell? w _ hx102_5)).trans hx102_5; replace hx102_6 := (HB.out.cell (World.block_lt_of_cell? w _ hx102_6)).trans hx102_6; replace hx102_7 := (HB.out.cell (World.block_lt_of_cell? w _ hx102_7)).trans hx102_7; replace hx102_8 := (HB.out.cell (World.block_lt_of_cell? w _ hx102_8)).trans hx102_8; replace hx102_9 := (HB.out.cell (World.block_lt_of_cell? w _ hx102_9)).trans hx102_9; replace hx102_10 := (HB.out.cell (World.block_lt_of_cell? w _ hx102_10)).trans hx102_10
      replace hx102_11 := (HB.out.cell (World.block_lt_of_cell? w _ hx102_11)).trans hx102_11; replace hx102_12 := (HB.out.cell (World.block_lt_of_cell? w _ hx102_12)).trans hx102_12; replace hx102_13 := (HB.out.cell (World.block_lt_of_cell? w _ hx102_13)).trans hx102_13; have HR102_13 := A_ hi102_13; have HC102_13 := A_ hl102_13; clear hi102_13 hl102_13; replace p102 := eq_true p102; replace q102 := eq_true q102
      go_wp2_with (first | ((with_reducible refine gate_callee (f:=26) rfl ?_); refine gL_ (some 25) rfl rfl Tryd.func26 rfl #[.agg #[.int .i64 ((rd_T28 l0_13 x5_1).f0), .int .i64 ((rd_T28 l0_13 x5_1).f1), .int .i64 ((rd_T28 l0_13 x5_1).f2.f0), .int .i64 ((rd_T28 l0_13 x5_1).f2.f1), .string ((rd_T28 l0_13 x5_1).f2.f2), .int .i64 ((rd_T28 l0_13 x5_1).f3.f0), .int .i64 ((rd_T28 l0_13 x5_1).f3.f1), .bool ((rd_T28 l0_13 x5_1).f3.f2), .bool ((rd_T28 l0_13 x5_1).f3.f3), .int .i64 ((rd_T28 l0_13 x5_1).f4.f0), .int .i64 ((rd_T28 l0_13 x5_1).f4.f1), .bool ((rd_T28 l0_13 x5_1).f4.f2), .bool ((rd_T28 l0_13 x5_1).f4.f3), .slice A102_13 ((rd_T28 l0_13 x5_1).f5).length c102_13], .int .i64 x1_1] rfl ?_; (with_reducible refine (ih k1 (by have := HK1.out; omega) ((rd_T28 l0_13 x5_1).f0) ((rd_T28 l0_13 x5_1).f1) ((rd_T28 l0_13 x5_1).f2.f0) ((rd_T28 l0_13 x5_1).f2.f1) ((rd_T28 l0_13 x5_1).f2.f2) ((rd_T28 l0_13 x5_1).f3.f0) ((rd_T28 l0_13 x5_1).f3.f1) ((rd_T28 l0_13 x5_1).f3.f2) ((rd_T28 l0_13 x5_1).f3.f3) ((rd_T28 l0_13 x5_1).f4.f0) ((rd_T28 l0_13 x5_1).f4.f1) ((rd_T28 l0_13 x5_1).f4.f2) ((rd_T28 l0_13 x5_1).f4.f3) _ _ ((rd_T28 l0_13 x5_1).f5) x1_1 t103 _ ?side1 ?side2 A7.out).mono ?_); (case side1 => exact ca_ (Kd.C_below HR102_13.out HB.out)); (case side2 => exact HC102_13.out); rintro e w9 ⟨rfl, hb⟩; refine ⟨_, rfl, ?_⟩; replace B1 := bb_ B1 hb; replace HB := bs_ HB hb; (try clear hb); ))
      go_roundg k1
      case measure => have := HK1.out; omega
      case rel => exact ⟨(t103), (wrap64 (x5_1 + 1)), (by first | rfl | (simp; done) | (simp [*]; done) | (cases t103 <;> simp; done)), sq_, H', ⟨by have := HK1.out; omega⟩, ⟨pkx B1⟩, ⟨pbx HB⟩⟩
     ·rw [if_neg c6] at H
      exact absurd H (by simp)
    ·rw [if_neg c5] at H; have c5b0 := decide_eq_false c5; clear c5; obtain rfl := Option.some.inj H
     have hcz10_0 : wr.cell? ⟨g1, 0, none⟩ = some (.int .i64 a0_0) := bc_ B1 0 rfl
     have hcz10_1 : wr.cell? ⟨g1, 1, none⟩ = some (.int .i64 a0_1) := bc_ B1 1 rfl
     have hcz10_2 : wr.cell? ⟨g1, 2, none⟩ = some (.int .i64 a0_2) := bc_ B1 2 rfl
     have hcz10_3 : wr.cell? ⟨g1, 3, none⟩ = some (.int .i64 a0_3) := bc_ B1 3 rfl
     have hcz10_4 : wr.cell? ⟨g1, 4, none⟩ = some (.string a0_4) := bc_ B1 4 rfl
     have hcz10_5 : wr.cell? ⟨g1, 5, none⟩ = some (.int .i64 a0_5) := bc_ B1 5 rfl
     have hcz10_6 : wr.cell? ⟨g1, 6, none⟩ = some (.int .i64 a0_6) := bc_ B1 6 rfl
     have hcz10_7 : wr.cell? ⟨g1, 7, none⟩ = some (.bool a0_7) := bc_ B1 7 rfl
     have hcz10_8 : wr.cell? ⟨g1, 8, none⟩ = some (.bool a0_8) := bc_ B1 8 rfl
     have hcz10_9 : wr.cell? ⟨g1, 9, none⟩ = some (.int .i64 a0_9) := bc_ B1 9 rfl
     have hcz10_10 : wr.cell? ⟨g1, 10, none⟩ = some (.int .i64 a0_10) := bc_ B1 10 rfl
     have hcz10_11 : wr.cell? ⟨g1, 11, none⟩ = some (.bool a0_11) := bc_ B1 11 rfl
     have hcz10_12 : wr.cell? ⟨g1, 12, none⟩ = some (.bool a0_12) := bc_ B1 12 rfl
     have hcz10_13 : wr.cell? ⟨g1, 13, none⟩ = some (.slice A0_13 l0_13.length c0_13) := bc_ B1 13 rfl
     go_wp2
     go_ret
     exact fi_ (pbx HB)
   ·rw [if_neg c4] at H; have c4b0 := decide_eq_false c4; clear c4; obtain rfl := Option.some.inj H
    have hcz11_0 : wr.cell? ⟨g1, 0, none⟩ = some (.int .i64 a0_0) := bc_ B1 0 rfl
    have hcz11_1 : wr.cell? ⟨g1, 1, none⟩ = some (.int .i64 a0_1) := bc_ B1 1 rfl
    have hcz11_2 : wr.cell? ⟨g1, 2, none⟩ = some (.int .i64 a0_2) := bc_ B1 2 rfl
    have hcz11_3 : wr.cell? ⟨g1, 3, none⟩ = some (.int .i64 a0_3) := bc_ B1 3 rfl
    have hcz11_4 : wr.cell? ⟨g1, 4, none⟩ = some (.string a0_4) := bc_ B1 4 rfl
    have hcz11_5 : wr.cell? ⟨g1, 5, none⟩ = some (.int .i64 a0_5) := bc_ B1 5 rfl
    have hcz11_6 : wr.cell? ⟨g1, 6, none⟩ = some (.int .i64 a0_6) := bc_ B1 6 rfl
    have hcz11_7 : wr.cell? ⟨g1, 7, none⟩ = some (.bool a0_7) := bc_ B1 7 rfl
    have hcz11_8 : wr.cell? ⟨g1, 8, none⟩ = some (.bool a0_8) := bc_ B1 8 rfl
    have hcz11_9 : wr.cell? ⟨g1, 9, none⟩ = some (.int .i64 a0_9) := bc_ B1 9 rfl
    have hcz11_10 : wr.cell? ⟨g1, 10, none⟩ = some (.int .i64 a0_10) := bc_ B1 10 rfl
    have hcz11_11 : wr.cell? ⟨g1, 11, none⟩ = some (.bool a0_11) := bc_ B1 11 rfl
    have hcz11_12 : wr.cell? ⟨g1, 12, none⟩ = some (.bool a0_12) := bc_ B1 12 rfl
    have hcz11_13 : wr.cell? ⟨g1, 13, none⟩ = some (.slice A0_13 l0_13.length c0_13) := bc_ B1 13 rfl
    go_wp2
    go_ret
    exact fi_ (pbx HB)

def oculusref22_Few.f (k : Nat) (a0_0 : Int) (a0_1 : Int) (a0_2 : Int) (a0_3 : Int) (a0_4 : ByteArray) (a0_5 : Int) (a0_6 : Int) (a0_7 : Bool) (a0_8 : Bool) (a0_9 : Int) (a0_10 : Int) (a0_11 : Bool) (a0_12 : Bool) (l0_13 : List (S28)) (a1 : Int) : Option (Bool) := (oculusref22_Left.f k a0_0 a0_1 a0_2 a0_3 a0_4 a0_5 a0_6 a0_7 a0_8 a0_9 a0_10 a0_11 a0_12 l0_13 a1).bind fun t102 => (some (decide (t102 ≥ 0)))
theorem oculusref22_Few.calls (k : Nat) (a0_0 : Int) (a0_1 : Int) (a0_2 : Int) (a0_3 : Int) (a0_4 : ByteArray) (a0_5 : Int) (a0_6 : Int) (a0_7 : Bool) (a0_8 : Bool) (a0_9 : Int) (a0_10 : Int) (a0_11 : Bool) (a0_12 : Bool) (A0_13 : Option Addr) (c0_13 : Nat) (l0_13 : List (S28)) (a1 : Int) (r : Bool) (w : World) (hr0_13 : Kd.C k28 w A0_13 l0_13.length l0_13) (hc0_13 : l0_13.length ≤ c0_13) (h : oculusref22_Few.f k a0_0 a0_1 a0_2 a0_3 a0_4 a0_5 a0_6 a0_7 a0_8 a0_9 a0_10 a0_11 a0_12 l0_13 a1 = some r) :
  Calls Tryd.prog 19 #[.agg #[.int .i64 a0_0, .int .i64 a0_1, .int .i64 a0_2, .int .i64 a0_3, .string a0_4, .int .i64 a0_5, .int .i64 a0_6, .bool a0_7, .bool a0_8, .int .i64 a0_9, .int .i64 a0_10, .bool a0_11, .bool a0_12, .slice A0_13 l0_13.length c0_13], .int .i64 a1] w fun e w' => e = .returned (.bool r) ∧ Below w.heap.size w w' := by
 have hu28 := Tryd.underlying28; have HR0_13 := A_ hr0_13; have HC0_13 := A_ hc0_13; clear hr0_13 hc0_13; have HB := A_ (Below.refl w.heap.size w)
 have H : ((oculusref22_Left.f k a0_0 a0_1 a0_2 a0_3 a0_4 a0_5 a0_6 a0_7 a0_8 a0_9 a0_10 a0_11 a0_12 l0_13 a1).bind fun t102 => (some (decide (t102 ≥ 0)))) = some r := h
 clear h; obtain ⟨t102, A3, H⟩ := bo_ H; obtain rfl := Option.some.inj H
 go_enter Tryd.func19, Tryd.ntmps19
 go_wp2_with (first | ((with_reducible refine gd_ 2 ?_); refine be_ (N:=2) (cs := #[.int .i64 a0_0, .int .i64 a0_1, .int .i64 a0_2, .int .i64 a0_3, .string a0_4, .int .i64 a0_5, .int .i64 a0_6, .bool a0_7, .bool a0_8, .int .i64 a0_9, .int .i64 a0_10, .bool a0_11, .bool a0_12, .slice A0_13 l0_13.length c0_13]) (t:=28) ?_; intro g1 hg w4 hbox hb; have B1 := A_ (hbox); replace HB := bs_ HB hb; clear hb hbox hg; have hcz5_0 : w4.cell? ⟨g1, 0, none⟩ = some (.int .i64 a0_0) := bc_ B1 0 rfl; have hcz5_1 : w4.cell? ⟨g1, 1, none⟩ = some (.int .i64 a0_1) := bc_ B1 1 rfl; have hcz5_2 : w4.cell? ⟨g1, 2, none⟩ = some (.int .i64 a0_2) := bc_ B1 2 rfl; have hcz5_3 : w4.cell? ⟨g1, 3, none⟩ = some (.int .i64 a0_3) := bc_ B1 3 rfl; have hcz5_4 : w4.cell? ⟨g1, 4, none⟩ = some (.string a0_4) := bc_ B1 4 rfl; have hcz5_5 : w4.cell? ⟨g1, 5, none⟩ = some (.int .i64 a0_5) := bc_ B1 5 rfl; have hcz5_6 : w4.cell? ⟨g1, 6, none⟩ = some (.int .i64 a0_6) := bc_ B1 6 rfl; have hcz5_7 : w4.cell? ⟨g1, 7, none⟩ = some (.bool a0_7) := bc_ B1 7 rfl; have hcz5_8 : w4.cell? ⟨g1, 8, none⟩ = some (.bool a0_8) := bc_ B1 8 rfl; have hcz5_9 : w4.cell? ⟨g1, 9, none⟩ = some (.int .i64 a0_9) := bc_ B1 9 rfl; have hcz5_10 : w4.cell? ⟨g1, 10, none⟩ = some (.int .i64 a0_10) := bc_ B1 10 rfl; have hcz5_11 : w4.cell? ⟨g1, 11, none⟩ = some (.bool a0_11) := bc_ B1 11 rfl; have hcz5_12 : w4.cell? ⟨g1, 12, none⟩ = some (.bool a0_12) := bc_ B1 12 rfl; have hcz5_13 : w4.cell? ⟨g1, 13, none⟩ = some (.slice A0_13 l0_13.length c0_13) := bc_ B1 13 rfl) | ((with_reducible refine gate_callee (f:=26) rfl ?_); refine gL_ (some 7) rfl rfl Tryd.func26 rfl #[.agg #[.int .i64 a0_0, .int .i64 a0_1, .int .i64 a0_2, .int .i64 a0_3, .string a0_4, .int .i64 a0_5, .int .i64 a0_6, .bool a0_7, .bool a0_8, .int .i64 a0_9, .int .i64 a0_10, .bool a0_11, .bool a0_12, .slice A0_13 l0_13.length c0_13], .int .i64 a1] rfl ?_; (with_reducible refine (oculusref22_Left.calls k a0_0 a0_1 a0_2 a0_3 a0_4 a0_5 a0_6 a0_7 a0_8 a0_9 a0_10 a0_11 a0_12 _ _ l0_13 a1 t102 _ ?side1 ?side2 A3.out).mono ?_); (case side1 => exact ca_ (Kd.C_below HR0_13.out HB.out)); (case side2 => exact HC0_13.out); rintro e w6 ⟨rfl, hb⟩; refine ⟨_, rfl, ?_⟩; replace B1 := bb_ B1 hb; replace HB := bs_ HB hb; ))
 go_ret
 exact fi_ (pbx HB)

def oculuslaw22_few.f (k : Nat) (a0_0 : Int) (a0_1 : Int) (a0_2 : Int) (a0_3 : Int) (a0_4 : ByteArray) (a0_5 : Int) (a0_6 : Int) (a0_7 : Bool) (a0_8 : Bool) (a0_9 : Int) (a0_10 : Int) (a0_11 : Bool) (a0_12 : Bool) (l0_13 : List (S28)) (a1 : Int) : Option (Bool) := (oculusref22_Few.f k a0_0 a0_1 a0_2 a0_3 a0_4 a0_5 a0_6 a0_7 a0_8 a0_9 a0_10 a0_11 a0_12 l0_13 a1).bind fun t102 => (some t102)
theorem oculuslaw22_few.calls (k : Nat) (a0_0 : Int) (a0_1 : Int) (a0_2 : Int) (a0_3 : Int) (a0_4 : ByteArray) (a0_5 : Int) (a0_6 : Int) (a0_7 : Bool) (a0_8 : Bool) (a0_9 : Int) (a0_10 : Int) (a0_11 : Bool) (a0_12 : Bool) (A0_13 : Option Addr) (c0_13 : Nat) (l0_13 : List (S28)) (a1 : Int) (r : Bool) (w : World) (hr0_13 : Kd.C k28 w A0_13 l0_13.length l0_13) (hc0_13 : l0_13.length ≤ c0_13) (h : oculuslaw22_few.f k a0_0 a0_1 a0_2 a0_3 a0_4 a0_5 a0_6 a0_7 a0_8 a0_9 a0_10 a0_11 a0_12 l0_13 a1 = some r) :
  Calls Tryd.prog 6 #[.agg #[.int .i64 a0_0, .int .i64 a0_1, .int .i64 a0_2, .int .i64 a0_3, .string a0_4, .int .i64 a0_5, .int .i64 a0_6, .bool a0_7, .bool a0_8, .int .i64 a0_9, .int .i64 a0_10, .bool a0_11, .bool a0_12, .slice A0_13 l0_13.length c0_13], .int .i64 a1] w fun e w' => e = .returned (.bool r) ∧ Below w.heap.size w w' := by
 have hu28 := Tryd.underlying28; have HR0_13 := A_ hr0_13; have HC0_13 := A_ hc0_13; clear hr0_13 hc0_13; have HB := A_ (Below.refl w.heap.size w)
 have H : ((oculusref22_Few.f k a0_0 a0_1 a0_2 a0_3 a0_4 a0_5 a0_6 a0_7 a0_8 a0_9 a0_10 a0_11 a0_12 l0_13 a1).bind fun t102 => (some t102)) = some r := h
 clear h; obtain ⟨t102, A3, H⟩ := bo_ H; obtain rfl := Option.some.inj H
 go_enter Tryd.func6, Tryd.ntmps6
 go_wp2_with (first | ((with_reducible refine gd_ 2 ?_); refine be_ (N:=2) (cs := #[.int .i64 a0_0, .int .i64 a0_1, .int .i64 a0_2, .int .i64 a0_3, .string a0_4, .int .i64 a0_5, .int .i64 a0_6, .bool a0_7, .bool a0_8, .int .i64 a0_9, .int .i64 a0_10, .bool a0_11, .bool a0_12, .slice A0_13 l0_13.length c0_13]) (t:=28) ?_; intro g1 hg w4 hbox hb; have B1 := A_ (hbox); replace HB := bs_ HB hb; clear hb hbox hg; have hcz5_0 : w4.cell? ⟨g1, 0, none⟩ = some (.int .i64 a0_0) := bc_ B1 0 rfl; have hcz5_1 : w4.cell? ⟨g1, 1, none⟩ = some (.int .i64 a0_1) := bc_ B1 1 rfl; have hcz5_2 : w4.cell? ⟨g1, 2, none⟩ = some (.int .i64 a0_2) := bc_ B1 2 rfl; have hcz5_3 : w4.cell? ⟨g1, 3, none⟩ = some (.int .i64 a0_3) := bc_ B1 3 rfl; have hcz5_4 : w4.cell? ⟨g1, 4, none⟩ = some (.string a0_4) := bc_ B1 4 rfl; have hcz5_5 : w4.cell? ⟨g1, 5, none⟩ = some (.int .i64 a0_5) := bc_ B1 5 rfl; have hcz5_6 : w4.cell? ⟨g1, 6, none⟩ = some (.int .i64 a0_6) := bc_ B1 6 rfl; have hcz5_7 : w4.cell? ⟨g1, 7, none⟩ = some (.bool a0_7) := bc_ B1 7 rfl; have hcz5_8 : w4.cell? ⟨g1, 8, none⟩ = some (.bool a0_8) := bc_ B1 8 rfl; have hcz5_9 : w4.cell? ⟨g1, 9, none⟩ = some (.int .i64 a0_9) := bc_ B1 9 rfl; have hcz5_10 : w4.cell? ⟨g1, 10, none⟩ = some (.int .i64 a0_10) := bc_ B1 10 rfl; have hcz5_11 : w4.cell? ⟨g1, 11, none⟩ = some (.bool a0_11) := bc_ B1 11 rfl; have hcz5_12 : w4.cell? ⟨g1, 12, none⟩ = some (.bool a0_12) := bc_ B1 12 rfl; have hcz5_13 : w4.cell? ⟨g1, 13, none⟩ = some (.slice A0_13 l0_13.length c0_13) := bc_ B1 13 rfl) | ((with_reducible refine gate_callee (f:=19) rfl ?_); refine gL_ (some 7) rfl rfl Tryd.func19 rfl #[.agg #[.int .i64 a0_0, .int .i64 a0_1, .int .i64 a0_2, .int .i64 a0_3, .string a0_4, .int .i64 a0_5, .int .i64 a0_6, .bool a0_7, .bool a0_8, .int .i64 a0_9, .int .i64 a0_10, .bool a0_11, .bool a0_12, .slice A0_13 l0_13.length c0_13], .int .i64 a1] rfl ?_; (with_reducible refine (oculusref22_Few.calls k a0_0 a0_1 a0_2 a0_3 a0_4 a0_5 a0_6 a0_7 a0_8 a0_9 a0_10 a0_11 a0_12 _ _ l0_13 a1 t102 _ ?side1 ?side2 A3.out).mono ?_); (case side1 => exact ca_ (Kd.C_below HR0_13.out HB.out)); (case side2 => exact HC0_13.out); rintro e w6 ⟨rfl, hb⟩; refine ⟨_, rfl, ?_⟩; replace B1 := bb_ B1 hb; replace HB := bs_ HB hb; ))
 go_ret
 exact fi_ (pbx HB)

end Go.Proofs.YtdddhabemdbooaaDoor.X
namespace Go.Proofs.YtdddhabemdbooaaDoor.X
open Go.RowKit Go.Proofs.YtdddhabemdbooaaDoorW.PrintWords Go.Proofs.YtdddhabemdbooaaDoorW.PrintLast Go.Proofs.YtdddhabemdbooaaDoorW.PrintMore
attribute [local go_sem] max2_int min2_int max_two min_two max_three min_three max_four min_four
set_option linter.unusedVariables false
set_option linter.unusedSimpArgs false
mutual
def node_List.l0 : Nat → List (S28) → List (S28) → Int → Int → Option ((List (S28)))
 | 0, _, _, _, _ => none
 | k + 1, x3, x9, x10, x11 => if x11 < x10 then (if 0 ≤ x11 then (if x11 < (x9.length : Int) then ((node_List.f k ((rd_T28 x9 x11).f0) ((rd_T28 x9 x11).f1) ((rd_T28 x9 x11).f2.f0) ((rd_T28 x9 x11).f2.f1) ((rd_T28 x9 x11).f2.f2) ((rd_T28 x9 x11).f3.f0) ((rd_T28 x9 x11).f3.f1) ((rd_T28 x9 x11).f3.f2) ((rd_T28 x9 x11).f3.f3) ((rd_T28 x9 x11).f4.f0) ((rd_T28 x9 x11).f4.f1) ((rd_T28 x9 x11).f4.f2) ((rd_T28 x9 x11).f4.f3) ((rd_T28 x9 x11).f5)).bind fun t107 => (if x3.length + t107.length < 1172812402961 then (node_List.l0 k (x3 ++ t107) x9 x10 (wrap64 (x11 + 1))) else (none))) else (none)) else (none)) else (some x3)
def node_List.f : Nat → Int → Int → Int → Int → ByteArray → Int → Int → Bool → Bool → Int → Int → Bool → Bool → List (S28) → Option ((List (S28)))
 | 0, _, _, _, _, _, _, _, _, _, _, _, _, _, _ => none
 | k + 1, a0_0, a0_1, a0_2, a0_3, a0_4, a0_5, a0_6, a0_7, a0_8, a0_9, a0_10, a0_11, a0_12, l0_13 => node_List.l0 k (([(⟨a0_0, a0_1, (⟨a0_2, a0_3, a0_4⟩ : S23), (⟨a0_5, a0_6, a0_7, a0_8⟩ : S25), (⟨a0_9, a0_10, a0_11, a0_12⟩ : S25), l0_13⟩ : S28)] : List (S28))) l0_13 (l0_13.length : Int) 0
end
theorem node_List.mono_l : ∀ k, (∀ y0 y1 y2 y3 y4 y5 y6 y7 y8 y9 y10 y11 y12 y13, LeO (node_List.f k y0 y1 y2 y3 y4 y5 y6 y7 y8 y9 y10 y11 y12 y13) (node_List.f (k + 1) y0 y1 y2 y3 y4 y5 y6 y7 y8 y9 y10 y11 y12 y13)) ∧ (∀ y0 y1 y2 y3, LeO (node_List.l0 k y0 y1 y2 y3) (node_List.l0 (k + 1) y0 y1 y2 y3))
 | 0 => ⟨fun _ _ _ _ _ _ _ _ _ _ _ _ _ _ r h => by simp [node_List.f] at h, fun _ _ _ _ r h => by simp [node_List.l0] at h⟩
 | k + 1 => by
  obtain ⟨ih0, ih1⟩ := node_List.mono_l k
  refine ⟨?_, ?_⟩
  ·intro y0 y1 y2 y3 y4 y5 y6 y7 y8 y9 y10 y11 y12 y13
   unfold node_List.f
   exact mo_
  ·intro y0 y1 y2 y3
   unfold node_List.l0
   exact mo_
theorem node_List.mono : ∀ a0 a1 a2 a3 a4 a5 a6 a7 a8 a9 a10 a11 a12 a13 k, LeO (node_List.f k a0 a1 a2 a3 a4 a5 a6 a7 a8 a9 a10 a11 a12 a13) (node_List.f (k + 1) a0 a1 a2 a3 a4 a5 a6 a7 a8 a9 a10 a11 a12 a13) := by
 intro a0 a1 a2 a3 a4 a5 a6 a7 a8 a9 a10 a11 a12 a13 k; obtain ⟨ih0, ih1⟩ := node_List.mono_l k
 exact ih0 a0 a1 a2 a3 a4 a5 a6 a7 a8 a9 a10 a11 a12 a13
theorem node_List.calls (k : Nat) : ∀ (a0_0 : Int) (a0_1 : Int) (a0_2 : Int) (a0_3 : Int) (a0_4 : ByteArray) (a0_5 : Int) (a0_6 : Int) (a0_7 : Bool) (a0_8 : Bool) (a0_9 : Int) (a0_10 : Int) (a0_11 : Bool) (a0_12 : Bool) (P0_13_ : Nat → Prop) (A0_13 : Option Addr) (c0_13 : Nat) (l0_13 : List (S28)) (r : List (S28)) (w : World) (hs0_13 : Kd.V k28 28 w w.heap.size (fun k_ => P0_13_ k_) (.slice A0_13 l0_13.length c0_13) l0_13) (h : node_List.f k a0_0 a0_1 a0_2 a0_3 a0_4 a0_5 a0_6 a0_7 a0_8 a0_9 a0_10 a0_11 a0_12 l0_13 = some r),
  Calls Tryd.prog 8 #[.agg #[.int .i64 a0_0, .int .i64 a0_1, .int .i64 a0_2, .int .i64 a0_3, .string a0_4, .int .i64 a0_5, .int .i64 a0_6, .bool a0_7, .bool a0_8, .int .i64 a0_9, .int .i64 a0_10, .bool a0_11, .bool a0_12, .slice A0_13 l0_13.length c0_13]] w fun e w' => ∃ v0_ : Value, e = .returned (v0_) ∧ Kd.N k28 28 w' w.heap.size (fun k_ => (P0_13_ k_ ∨ w.heap.size ≤ k_)) v0_ r ∧ Below w.heap.size w w' := by
 induction k using Nat.strongRecOn with
 | _ k ih =>
 intro a0_0 a0_1 a0_2 a0_3 a0_4 a0_5 a0_6 a0_7 a0_8 a0_9 a0_10 a0_11 a0_12 P0_13_ A0_13 c0_13 l0_13 r w hs0_13 h
 cases k with
 | zero => exact absurd h (by simp [node_List.f])
 | succ k =>
 simp only [node_List.f] at h
 have hu28 := Tryd.underlying28; have HO0_13 := A_ (show Kd.V k28 28 w w.heap.size (fun k_ => (P0_13_ k_ ∨ w.heap.size ≤ k_)) (.slice A0_13 l0_13.length c0_13) l0_13 from Kd.V_mono hs0_13 (fun k_ hk => .inl hk)); have HB := A_ (Below.refl w.heap.size w)
 have H : (node_List.l0 k (([(⟨a0_0, a0_1, (⟨a0_2, a0_3, a0_4⟩ : S23), (⟨a0_5, a0_6, a0_7, a0_8⟩ : S25), (⟨a0_9, a0_10, a0_11, a0_12⟩ : S25), l0_13⟩ : S28)] : List (S28))) l0_13 (l0_13.length : Int) 0) = some r := h
 clear h; obtain ⟨y102, hy102⟩ : ∃ y_ : List (S28), y_ = (([(⟨a0_0, a0_1, (⟨a0_2, a0_3, a0_4⟩ : S23), (⟨a0_5, a0_6, a0_7, a0_8⟩ : S25), (⟨a0_9, a0_10, a0_11, a0_12⟩ : S25), l0_13⟩ : S28)] : List (S28))) := ⟨_, rfl⟩
 replace H : (node_List.l0 k y102 l0_13 (l0_13.length : Int) 0) = some r := by first | (rw [hy102]; with_reducible exact H) | (have H2_ := (Option.bind_some _ _).symm.trans H; rw [hy102]; with_reducible exact H2_) | (have H2_ := (Option.bind_some _ _).symm.trans H; with_reducible exact H2_) | with_reducible exact H | (rw [hy102]; exact H) | exact H
 have Ny102 := A_ hy102; clear hy102
 have H' := A_ H
 clear H
 go_enter Tryd.func8, Tryd.ntmps8
 go_wp2_with (first | ((with_reducible refine gd_ 1 ?_); refine be_ (N:=1) (cs := #[.int .i64 a0_0, .int .i64 a0_1, .int .i64 a0_2, .int .i64 a0_3, .string a0_4, .int .i64 a0_5, .int .i64 a0_6, .bool a0_7, .bool a0_8, .int .i64 a0_9, .int .i64 a0_10, .bool a0_11, .bool a0_12, .slice A0_13 l0_13.length c0_13]) (t:=28) ?_; intro g1 hg w2 hbox hb; have B1 := A_ (hbox); have GW101 := hs_ HB hg; have GE101 := hs_ HB hg; replace HO0_13 := A_ (Kd.V_below (Kd.V_elderB (va_ HO0_13.out) g1 (Nat.le_of_eq hg.symm)) hb); replace HB := bs_ HB hb; clear hb hbox hg; have hcz3_0 : w2.cell? ⟨g1, 0, none⟩ = some (.int .i64 a0_0) := bc_ B1 0 rfl; have hcz3_1 : w2.cell? ⟨g1, 1, none⟩ = some (.int .i64 a0_1) := bc_ B1 1 rfl; have hcz3_2 : w2.cell? ⟨g1, 2, none⟩ = some (.int .i64 a0_2) := bc_ B1 2 rfl; have hcz3_3 : w2.cell? ⟨g1, 3, none⟩ = some (.int .i64 a0_3) := bc_ B1 3 rfl; have hcz3_4 : w2.cell? ⟨g1, 4, none⟩ = some (.string a0_4) := bc_ B1 4 rfl; have hcz3_5 : w2.cell? ⟨g1, 5, none⟩ = some (.int .i64 a0_5) := bc_ B1 5 rfl; have hcz3_6 : w2.cell? ⟨g1, 6, none⟩ = some (.int .i64 a0_6) := bc_ B1 6 rfl; have hcz3_7 : w2.cell? ⟨g1, 7, none⟩ = some (.bool a0_7) := bc_ B1 7 rfl; have hcz3_8 : w2.cell? ⟨g1, 8, none⟩ = some (.bool a0_8) := bc_ B1 8 rfl; have hcz3_9 : w2.cell? ⟨g1, 9, none⟩ = some (.int .i64 a0_9) := bc_ B1 9 rfl; have hcz3_10 : w2.cell? ⟨g1, 10, none⟩ = some (.int .i64 a0_10) := bc_ B1 10 rfl; have hcz3_11 : w2.cell? ⟨g1, 11, none⟩ = some (.bool a0_11) := bc_ B1 11 rfl; have hcz3_12 : w2.cell? ⟨g1, 12, none⟩ = some (.bool a0_12) := bc_ B1 12 rfl; have hcz3_13 : w2.cell? ⟨g1, 13, none⟩ = some (.slice A0_13 l0_13.length c0_13) := bc_ B1 13 rfl; have hfz3_0 := blk_frozen B1.out 0; have hfz3_1 := blk_frozen B1.out 1; have hfz3_2 := blk_frozen B1.out 2; have hfz3_3 := blk_frozen B1.out 3; have hfz3_4 := blk_frozen B1.out 4; have hfz3_5 := blk_frozen B1.out 5; have hfz3_6 := blk_frozen B1.out 6; have hfz3_7 := blk_frozen B1.out 7; have hfz3_8 := blk_frozen B1.out 8; have hfz3_9 := blk_frozen B1.out 9; have hfz3_10 := blk_frozen B1.out 10; have hfz3_11 := blk_frozen B1.out 11; have hfz3_12 := blk_frozen B1.out 12; have hfz3_13 := blk_frozen B1.out 13) | ((with_reducible refine gd_ 7 ?_); refine Kd.N_lit k28 _ 28 ?hg (N':=7) ?hd (xs := ([(⟨a0_0, a0_1, (⟨a0_2, a0_3, a0_4⟩ : S23), (⟨a0_5, a0_6, a0_7, a0_8⟩ : S25), (⟨a0_9, a0_10, a0_11, a0_12⟩ : S25), l0_13⟩ : S28)] : List (S28))) (inner := [.int .i64 a0_0, .int .i64 a0_1, .int .i64 a0_2, .int .i64 a0_3, .string a0_4, .int .i64 a0_5, .int .i64 a0_6, .bool a0_7, .bool a0_8, .int .i64 a0_9, .int .i64 a0_10, .bool a0_11, .bool a0_12, .slice A0_13 l0_13.length c0_13]) (ok := (fun k_ => (P0_13_ k_ ∨ w.heap.size ≤ k_) ∧ k_ ≠ g1)) (okp := (fun k_ => (P0_13_ k_ ∨ w.heap.size ≤ k_) ∧ k_ ≠ g1)) ?hr ?hp (fun _ hk => hk) ((show ∀ k_, w2.heap.size ≤ k_ → (fun k_ => (P0_13_ k_ ∨ w.heap.size ≤ k_) ∧ k_ ≠ g1) k_ from fun k_ hk => ⟨(.inr (Nat.le_trans (below_size (pbx HB)) hk)), Kd.freshB (pkx B1) k_ hk⟩) _ (Nat.le_refl _)) (Below.refl _ _) (Nat.le_refl _) (by simp) ?_; (case hd => rfl); (case hg => rfl); (case hr => first | (go_simp; done) | (go_simp; rfl)); (case hp => exact (Reps.front (show Kd.FK k28 _ _ (⟨a0_0, a0_1, (⟨a0_2, a0_3, a0_4⟩ : S23), (⟨a0_5, a0_6, a0_7, a0_8⟩ : S25), (⟨a0_9, a0_10, a0_11, a0_12⟩ : S25), l0_13⟩ : S28) [.int .i64 a0_0, .int .i64 a0_1, .int .i64 a0_2, .int .i64 a0_3, .string a0_4, .int .i64 a0_5, .int .i64 a0_6, .bool a0_7, .bool a0_8, .int .i64 a0_9, .int .i64 a0_10, .bool a0_11, .bool a0_12, .slice A0_13 l0_13.length c0_13] from (k28_mkF _ _ (⟨a0_0, a0_1, (⟨a0_2, a0_3, a0_4⟩ : S23), (⟨a0_5, a0_6, a0_7, a0_8⟩ : S25), (⟨a0_9, a0_10, a0_11, a0_12⟩ : S25), l0_13⟩ : S28) (Kd.V_reads' (Kd.V_mono (ok' := (fun k_ => (P0_13_ k_ ∨ w.heap.size ≤ k_) ∧ k_ ≠ g1)) (HO0_13.out) (fun k_ hk => ⟨hk.1, hk.2⟩))).2.1 (Kd.V_F (Kd.V_mono (ok' := (fun k_ => (P0_13_ k_ ∨ w.heap.size ≤ k_) ∧ k_ ≠ g1)) (HO0_13.out) (fun k_ hk => ⟨hk.1, hk.2⟩))))) rfl (Reps.none _ _) rfl)); intro v103 w4 ho5 hb hg_ hnew_; clear hg_ hnew_; (first | rw [← Ny102.out] at ho5 | (simp only [Int.reduceToNat] at ho5; rw [← Ny102.out] at ho5)); have HO104 := A_ (Kd.N_lower ho5 (below_size (pbx HB))); replace HO0_13 := A_ (Kd.V_elder' (va_ HO0_13.out) (Kd.N_base ho5) hb); replace B1 := bb_ B1 hb; replace HB := bs_ HB hb; clear hb ho5; have hcz6_0 : w4.cell? ⟨g1, 0, none⟩ = some (.int .i64 a0_0) := bc_ B1 0 rfl; have hcz6_1 : w4.cell? ⟨g1, 1, none⟩ = some (.int .i64 a0_1) := bc_ B1 1 rfl; have hcz6_2 : w4.cell? ⟨g1, 2, none⟩ = some (.int .i64 a0_2) := bc_ B1 2 rfl; have hcz6_3 : w4.cell? ⟨g1, 3, none⟩ = some (.int .i64 a0_3) := bc_ B1 3 rfl; have hcz6_4 : w4.cell? ⟨g1, 4, none⟩ = some (.string a0_4) := bc_ B1 4 rfl; have hcz6_5 : w4.cell? ⟨g1, 5, none⟩ = some (.int .i64 a0_5) := bc_ B1 5 rfl; have hcz6_6 : w4.cell? ⟨g1, 6, none⟩ = some (.int .i64 a0_6) := bc_ B1 6 rfl; have hcz6_7 : w4.cell? ⟨g1, 7, none⟩ = some (.bool a0_7) := bc_ B1 7 rfl; have hcz6_8 : w4.cell? ⟨g1, 8, none⟩ = some (.bool a0_8) := bc_ B1 8 rfl; have hcz6_9 : w4.cell? ⟨g1, 9, none⟩ = some (.int .i64 a0_9) := bc_ B1 9 rfl; have hcz6_10 : w4.cell? ⟨g1, 10, none⟩ = some (.int .i64 a0_10) := bc_ B1 10 rfl; have hcz6_11 : w4.cell? ⟨g1, 11, none⟩ = some (.bool a0_11) := bc_ B1 11 rfl; have hcz6_12 : w4.cell? ⟨g1, 12, none⟩ = some (.bool a0_12) := bc_ B1 12 rfl; have hcz6_13 : w4.cell? ⟨g1, 13, none⟩ = some (.slice A0_13 l0_13.length c0_13) := bc_ B1 13 rfl; have hfz6_0 := blk_frozen B1.out 0; have hfz6_1 := blk_frozen B1.out 1; have hfz6_2 := blk_frozen B1.out 2; have hfz6_3 := blk_frozen B1.out 3; have hfz6_4 := blk_frozen B1.out 4; have hfz6_5 := blk_frozen B1.out 5; have hfz6_6 := blk_frozen B1.out 6; have hfz6_7 := blk_frozen B1.out 7; have hfz6_8 := blk_frozen B1.out 8; have hfz6_9 := blk_frozen B1.out 9; have hfz6_10 := blk_frozen B1.out 10; have hfz6_11 := blk_frozen B1.out 11; have hfz6_12 := blk_frozen B1.out 12; have hfz6_13 := blk_frozen B1.out 13))
 go_loopg [3, 11] k (fun kq v3 v11 w' => ∃ (x3_1 : List (S28)) (x11_1 : Int), v11 = .int .i64 x11_1 ∧ Aside0 (node_List.l0 kq x3_1 l0_13 (l0_13.length : Int) x11_1 = some r) ∧ Aside0 (kq ≤ k) ∧ Aside0 (Kd.N k28 28 w' w.heap.size (fun k_ => (P0_13_ k_ ∨ w.heap.size ≤ k_) ∧ k_ ≠ g1) v3 x3_1) ∧ Aside0 (Kd.V k28 28 w' w.heap.size (fun k_ => (P0_13_ k_ ∨ w.heap.size ≤ k_) ∧ some k_ ≠ (v3 : Value).ownBlock ∧ k_ ≠ g1) (.slice A0_13 l0_13.length c0_13) l0_13) ∧ Aside0 (Kd.V k28 28 w' w.heap.size (fun k_ => (P0_13_ k_ ∨ w.heap.size ≤ k_) ∧ some k_ ≠ (v3 : Value).ownBlock ∧ k_ ≠ g1) (.slice A0_13 l0_13.length c0_13) l0_13) ∧ Aside0 (w'.heap[g1]? = some (.cells #[.int .i64 a0_0, .int .i64 a0_1, .int .i64 a0_2, .int .i64 a0_3, .string a0_4, .int .i64 a0_5, .int .i64 a0_6, .bool a0_7, .bool a0_8, .int .i64 a0_9, .int .i64 a0_10, .bool a0_11, .bool a0_12, (.slice A0_13 l0_13.length c0_13)] 28 (0, 0))) ∧ Aside0 (Below w.heap.size w w'))
 case atStart => exact ⟨(y102), (0), sq_, H', ⟨Nat.le_refl _⟩, ⟨by (with_reducible repeat (first | apply Kd.N_alloc | apply Kd.N_drewN | apply Kd.N_drew)); exact HO104.out⟩, ⟨by (with_reducible repeat (first | apply Kd.V_alloc | apply Kd.V_drewN | apply Kd.V_drew)); exact Kd.V_mono HO0_13.out (fun _ hk => ⟨hk.1.1, ⟨hk.2, hk.1.2⟩⟩)⟩, ⟨by (with_reducible repeat (first | apply Kd.V_alloc | apply Kd.V_drewN | apply Kd.V_drew)); exact Kd.V_mono HO0_13.out (fun _ hk => ⟨hk.1.1, ⟨hk.2, hk.1.2⟩⟩)⟩, ⟨pkx B1⟩, ⟨pbx HB⟩⟩
 case round =>
  clear H'; (try clear hcz3_0); (try clear hcz3_1); (try clear hcz3_10); (try clear hcz3_11); (try clear hcz3_12); (try clear hcz3_13); (try clear hcz3_2); (try clear hcz3_3); (try clear hcz3_4); (try clear hcz3_5); (try clear hcz3_6); (try clear hcz3_7); (try clear hcz3_8); (try clear hcz3_9); (try clear hcz6_0); (try clear hcz6_1); (try clear hcz6_10); (try clear hcz6_11); (try clear hcz6_12); (try clear hcz6_13); (try clear hcz6_2); (try clear hcz6_3); (try clear hcz6_4); (try clear hcz6_5); (try clear hcz6_6); (try clear hcz6_7); (try clear hcz6_8); (try clear hcz6_9); (try clear hfz3_0); (try clear hfz3_1); (try clear hfz3_10); (try clear hfz3_11); (try clear hfz3_12); (try clear hfz3_13); (try clear hfz3_2); (try clear hfz3_3); (try clear hfz3_4); (try clear hfz3_5); (try clear hfz3_6); (try clear hfz3_7); (try clear hfz3_8); (try clear hfz3_9); (try clear hfz6_0); (try clear hfz6_1)
  (try clear hfz6_10); (try clear hfz6_11); (try clear hfz6_12); (try clear hfz6_13); (try clear hfz6_2); (try clear hfz6_3); (try clear hfz6_4); (try clear hfz6_5); (try clear hfz6_6); (try clear hfz6_7); (try clear hfz6_8); (try clear hfz6_9); obtain ⟨x3_1, x11_1, rfl, HA, HK1, HO_3, HO_9, HO_102013, B1, HB⟩ := hrel
  cases gk with
  | zero => exact absurd HA.out (by simp [node_List.l0])
  | succ k1 =>
   have H := HA.out; clear HA
   simp only [node_List.l0] at H
   by_cases c7 : x11_1 < (l0_13.length : Int)
   ·rw [if_pos c7] at H; have c7b0 := decide_eq_true c7; clear c7
    by_cases c8 : 0 ≤ x11_1
    ·rw [if_pos c8] at H; have c8b0 := decide_eq_true c8; clear c8
     by_cases c9 : x11_1 < (l0_13.length : Int)
     ·rw [if_pos c9] at H; have c9b0 := decide_eq_true c9; clear c9; obtain ⟨t107, A10, H⟩ := bo_ H
      by_cases c11 : x3_1.length + t107.length < 1172812402961
      ·rw [if_pos c11] at H; have LMc11 := A_ c11; clear c11; obtain ⟨y110, hy110⟩ : ∃ y_ : List (S28), y_ = (x3_1 ++ t107) := ⟨_, rfl⟩
       replace H : (node_List.l0 k1 y110 l0_13 (l0_13.length : Int) (wrap64 (x11_1 + 1))) = some r := by first | (rw [hy110]; with_reducible exact H) | (have H2_ := (Option.bind_some _ _).symm.trans H; rw [hy110]; with_reducible exact H2_) | (have H2_ := (Option.bind_some _ _).symm.trans H; with_reducible exact H2_) | with_reducible exact H | (rw [hy110]; exact H) | exact H
       have Ny110 := A_ hy110; clear hy110
       have H' := A_ H
       clear H
       have p105 : 0 ≤ (x11_1 : Int) := of_decide_eq_true as_
       have q105 : x11_1 < (l0_13.length : Int) := of_decide_eq_true as_
       obtain ⟨ad105, A105_13, c105_13, e105, hx105_0, hx105_1, hx105_2, hx105_3, hx105_4, hx105_5, hx105_6, hx105_7, hx105_8, hx105_9, hx105_10, hx105_11, hx105_12, hx105_13, hl105_13, hi105_13⟩ := at_T28 (Kd.V_reads' HO_9.out).2.2 x11_1 p105 q105
       cases e105
       obtain ⟨ce105, hce105, hMe105, hcc105⟩ := Kd.V_get HO_9.out z28 x11_1 p105 (by first | exact q105 | exact of_decide_eq_true as_ | (have e_ := (Kd.V_reads' HO_9.out).1; omega)); obtain ⟨ua105_13, uc105_13, rfl, ul105_13, ge105_13⟩ := k28_openF hMe105; have hv105_13 := hcc105 13 _ rfl; rw [add_field _ _ 13 (by omega)] at hv105_13; replace hv105_13 := Option.some.inj (hv105_13.symm.trans hx105_13)
       injection hv105_13 with hva_ hvn_ hvc_
       rw [hva_] at ge105_13; rw [hvc_] at ul105_13; have HL105_13 := A_ (show Kd.V k28 28 _ w.heap.size _ _ ((rd_T28 l0_13 x11_1).f5) from Kd.V_mk ul105_13 ge105_13); clear hva_ hvn_ hvc_ ge105_13 ul105_13; clear hcc105 hce105; have HR105_13 := A_ hi105_13; have HC105_13 := A_ hl105_13; clear hi105_13 hl105_13; replace p105 := eq_true p105; replace q105 := eq_true q105
       go_wp2_with (first | ((with_reducible refine gd_ 5 ?_); refine be_ (N:=5) (cs := #[.int .i64 0, .int .i64 0, .int .i64 0, .int .i64 0, .string (⟨#[]⟩ : ByteArray), .int .i64 0, .int .i64 0, .bool false, .bool false, .int .i64 0, .int .i64 0, .bool false, .bool false, .slice none 0 0]) (t:=28) ?_; intro g6 hg w12 hbox hb; have B6 := A_ (hbox); have GW106 := hs_ HB hg; have GE106 := hs_ HB hg; have N16 := hl_ B1 hg; have N61 := hr_ B1 hg; replace HO_3 := A_ (Kd.N_below (Kd.N_elderB (by (with_reducible repeat (first | apply Kd.N_alloc | apply Kd.N_drewN | apply Kd.N_drew)); exact HO_3.out) g6 (Nat.le_of_eq hg.symm)) hb); replace HO_9 := A_ (Kd.V_below (Kd.V_elderB (va_ HO_9.out) g6 (Nat.le_of_eq hg.symm)) hb); replace HO_102013 := A_ (Kd.V_below (Kd.V_elderB (va_ HO_102013.out) g6 (Nat.le_of_eq hg.symm)) hb); replace HL105_13 := A_ (Kd.V_below (Kd.V_elderB (by (with_reducible repeat (first | apply Kd.V_alloc | apply Kd.V_drewN | apply Kd.V_drew)); exact HL105_13.out) g6 (Nat.le_of_eq hg.symm)) hb); replace B1 := bb_ B1 hb; replace HR105_13 := A_ (Kd.C_below (by repeat (first | (with_reducible exact HR105_13.out) | (with_reducible refine Kd.C_alloc ?_ _) | (with_reducible refine Kd.C_drewN ?_ _) | (with_reducible refine Kd.C_drew ?_) | exact HR105_13.out)) hb); replace HB := bs_ HB hb; clear hb hbox hg; have hnb13 := N61.out; have hnc13 := N16.out; have hcz14_0 : w12.cell? ⟨g6, 0, none⟩ = some (.int .i64 0) := bc_ B6 0 rfl; have hcz14_1 : w12.cell? ⟨g6, 1, none⟩ = some (.int .i64 0) := bc_ B6 1 rfl; have hcz14_2 : w12.cell? ⟨g6, 2, none⟩ = some (.int .i64 0) := bc_ B6 2 rfl; have hcz14_3 : w12.cell? ⟨g6, 3, none⟩ = some (.int .i64 0) := bc_ B6 3 rfl; have hcz14_4 : w12.cell? ⟨g6, 4, none⟩ = some (.string (⟨#[]⟩ : ByteArray)) := bc_ B6 4 rfl; have hcz14_5 : w12.cell? ⟨g6, 5, none⟩ = some (.int .i64 0) := bc_ B6 5 rfl; have hcz14_6 : w12.cell? ⟨g6, 6, none⟩ = some (.int .i64 0) := bc_ B6 6 rfl; have hcz14_7 : w12.cell? ⟨g6, 7, none⟩ = some (.bool false) := bc_ B6 7 rfl; have hcz14_8 : w12.cell? ⟨g6, 8, none⟩ = some (.bool false) := bc_ B6 8 rfl; have hcz14_9 : w12.cell? ⟨g6, 9, none⟩ = some (.int .i64 0) := bc_ B6 9 rfl; have hcz14_10 : w12.cell? ⟨g6, 10, none⟩ = some (.int .i64 0) := bc_ B6 10 rfl; have hcz14_11 : w12.cell? ⟨g6, 11, none⟩ = some (.bool false) := bc_ B6 11 rfl; have hcz14_12 : w12.cell? ⟨g6, 12, none⟩ = some (.bool false) := bc_ B6 12 rfl; have hcz14_13 : w12.cell? ⟨g6, 13, none⟩ = some (.slice none 0 0) := bc_ B6 13 rfl; have hfz14_0 := blk_frozen B6.out 0; have hfz14_1 := blk_frozen B6.out 1; have hfz14_2 := blk_frozen B6.out 2; have hfz14_3 := blk_frozen B6.out 3; have hfz14_4 := blk_frozen B6.out 4; have hfz14_5 := blk_frozen B6.out 5; have hfz14_6 := blk_frozen B6.out 6; have hfz14_7 := blk_frozen B6.out 7; have hfz14_8 := blk_frozen B6.out 8; have hfz14_9 := blk_frozen B6.out 9; have hfz14_10 := blk_frozen B6.out 10; have hfz14_11 := blk_frozen B6.out 11; have hfz14_12 := blk_frozen B6.out 12; have hfz14_13 := blk_frozen B6.out 13) | ((with_reducible refine gate_store (t:=28) (p:=5) rfl ?_); refine store_event (t:=28) (p:=5) (v:=?vo_w15) (w1 := ((((((((((((((w12.setCell ⟨g6, 0, none⟩ (.int .i64 ((rd_T28 l0_13 x11_1).f0))).setCell ⟨g6, 1, none⟩ (.int .i64 ((rd_T28 l0_13 x11_1).f1))).setCell ⟨g6, 2, none⟩ (.int .i64 ((rd_T28 l0_13 x11_1).f2.f0))).setCell ⟨g6, 3, none⟩ (.int .i64 ((rd_T28 l0_13 x11_1).f2.f1))).setCell ⟨g6, 4, none⟩ (.string ((rd_T28 l0_13 x11_1).f2.f2))).setCell ⟨g6, 5, none⟩ (.int .i64 ((rd_T28 l0_13 x11_1).f3.f0))).setCell ⟨g6, 6, none⟩ (.int .i64 ((rd_T28 l0_13 x11_1).f3.f1))).setCell ⟨g6, 7, none⟩ (.bool ((rd_T28 l0_13 x11_1).f3.f2))).setCell ⟨g6, 8, none⟩ (.bool ((rd_T28 l0_13 x11_1).f3.f3))).setCell ⟨g6, 9, none⟩ (.int .i64 ((rd_T28 l0_13 x11_1).f4.f0))).setCell ⟨g6, 10, none⟩ (.int .i64 ((rd_T28 l0_13 x11_1).f4.f1))).setCell ⟨g6, 11, none⟩ (.bool ((rd_T28 l0_13 x11_1).f4.f2))).setCell ⟨g6, 12, none⟩ (.bool ((rd_T28 l0_13 x11_1).f4.f3))).setCell ⟨g6, 13, none⟩ (.slice A105_13 ((rd_T28 l0_13 x11_1).f5).length c105_13))) ?hg ?ho ?hn ?hr ?_; (case ho => rfl); (case hg => rfl); (case hn => rfl); (case hr => first | (go_simp; done) | (go_simp; rfl)); intro w15 hw; have n0_ : Aside0 (Kd.N k28 28 w15 w.heap.size (fun k_ => (P0_13_ k_ ∨ w.heap.size ≤ k_) ∧ k_ ≠ g1 ∧ k_ ≠ g6) u3 x3_1) := ⟨(by rw [hw]; exact (by (with_reducible repeat (first | apply Kd.N_alloc | apply Kd.N_drewN | apply Kd.N_drew)); exact Kd.N_mono (Kd.N_far (p := ⟨g6, 13, none⟩) (Kd.N_far (p := ⟨g6, 12, none⟩) (Kd.N_far (p := ⟨g6, 11, none⟩) (Kd.N_far (p := ⟨g6, 10, none⟩) (Kd.N_far (p := ⟨g6, 9, none⟩) (Kd.N_far (p := ⟨g6, 8, none⟩) (Kd.N_far (p := ⟨g6, 7, none⟩) (Kd.N_far (p := ⟨g6, 6, none⟩) (Kd.N_far (p := ⟨g6, 5, none⟩) (Kd.N_far (p := ⟨g6, 4, none⟩) (Kd.N_far (p := ⟨g6, 3, none⟩) (Kd.N_far (p := ⟨g6, 2, none⟩) (Kd.N_far (p := ⟨g6, 1, none⟩) (Kd.N_far (p := ⟨g6, 0, none⟩) (Kd.N_mono HO_3.out (fun k_ hk => (⟨hk, hk.2⟩ : _ ∧ k_ ≠ g6))) (fun _ hk => hk.2) (.int .i64 ((rd_T28 l0_13 x11_1).f0))) (fun _ hk => hk.2) (.int .i64 ((rd_T28 l0_13 x11_1).f1))) (fun _ hk => hk.2) (.int .i64 ((rd_T28 l0_13 x11_1).f2.f0))) (fun _ hk => hk.2) (.int .i64 ((rd_T28 l0_13 x11_1).f2.f1))) (fun _ hk => hk.2) (.string ((rd_T28 l0_13 x11_1).f2.f2))) (fun _ hk => hk.2) (.int .i64 ((rd_T28 l0_13 x11_1).f3.f0))) (fun _ hk => hk.2) (.int .i64 ((rd_T28 l0_13 x11_1).f3.f1))) (fun _ hk => hk.2) (.bool ((rd_T28 l0_13 x11_1).f3.f2))) (fun _ hk => hk.2) (.bool ((rd_T28 l0_13 x11_1).f3.f3))) (fun _ hk => hk.2) (.int .i64 ((rd_T28 l0_13 x11_1).f4.f0))) (fun _ hk => hk.2) (.int .i64 ((rd_T28 l0_13 x11_1).f4.f1))) (fun _ hk => hk.2) (.bool ((rd_T28 l0_13 x11_1).f4.f2))) (fun _ hk => hk.2) (.bool ((rd_T28 l0_13 x11_1).f4.f3))) (fun _ hk => hk.2) (.slice A105_13 ((rd_T28 l0_13 x11_1).f5).length c105_13)) (fun _ hk => ⟨hk.1.1.1, ⟨hk.1.1.2, hk.1.2⟩⟩)))⟩; have n1_ : Aside0 (Kd.V k28 28 w15 w.heap.size (fun k_ => (P0_13_ k_ ∨ w.heap.size ≤ k_) ∧ some k_ ≠ (u3 : Value).ownBlock ∧ k_ ≠ g1 ∧ k_ ≠ g6) (.slice (some ad105) l0_13.length c0_13) l0_13) := ⟨(by rw [hw]; exact (by (with_reducible repeat (first | apply Kd.V_alloc | apply Kd.V_drewN | apply Kd.V_drew)); exact Kd.V_mono (Kd.V_far (p := ⟨g6, 13, none⟩) (Kd.V_far (p := ⟨g6, 12, none⟩) (Kd.V_far (p := ⟨g6, 11, none⟩) (Kd.V_far (p := ⟨g6, 10, none⟩) (Kd.V_far (p := ⟨g6, 9, none⟩) (Kd.V_far (p := ⟨g6, 8, none⟩) (Kd.V_far (p := ⟨g6, 7, none⟩) (Kd.V_far (p := ⟨g6, 6, none⟩) (Kd.V_far (p := ⟨g6, 5, none⟩) (Kd.V_far (p := ⟨g6, 4, none⟩) (Kd.V_far (p := ⟨g6, 3, none⟩) (Kd.V_far (p := ⟨g6, 2, none⟩) (Kd.V_far (p := ⟨g6, 1, none⟩) (Kd.V_far (p := ⟨g6, 0, none⟩) (Kd.V_mono HO_9.out (fun k_ hk => (⟨hk, hk.2⟩ : _ ∧ k_ ≠ g6))) (fun _ hk => hk.2) (.int .i64 ((rd_T28 l0_13 x11_1).f0))) (fun _ hk => hk.2) (.int .i64 ((rd_T28 l0_13 x11_1).f1))) (fun _ hk => hk.2) (.int .i64 ((rd_T28 l0_13 x11_1).f2.f0))) (fun _ hk => hk.2) (.int .i64 ((rd_T28 l0_13 x11_1).f2.f1))) (fun _ hk => hk.2) (.string ((rd_T28 l0_13 x11_1).f2.f2))) (fun _ hk => hk.2) (.int .i64 ((rd_T28 l0_13 x11_1).f3.f0))) (fun _ hk => hk.2) (.int .i64 ((rd_T28 l0_13 x11_1).f3.f1))) (fun _ hk => hk.2) (.bool ((rd_T28 l0_13 x11_1).f3.f2))) (fun _ hk => hk.2) (.bool ((rd_T28 l0_13 x11_1).f3.f3))) (fun _ hk => hk.2) (.int .i64 ((rd_T28 l0_13 x11_1).f4.f0))) (fun _ hk => hk.2) (.int .i64 ((rd_T28 l0_13 x11_1).f4.f1))) (fun _ hk => hk.2) (.bool ((rd_T28 l0_13 x11_1).f4.f2))) (fun _ hk => hk.2) (.bool ((rd_T28 l0_13 x11_1).f4.f3))) (fun _ hk => hk.2) (.slice A105_13 ((rd_T28 l0_13 x11_1).f5).length c105_13)) (fun _ hk => ⟨hk.1.1.1, ⟨hk.1.1.2.1, ⟨hk.1.1.2.2, hk.1.2⟩⟩⟩)))⟩; have n2_ : Aside0 (Kd.V k28 28 w15 w.heap.size (fun k_ => (P0_13_ k_ ∨ w.heap.size ≤ k_) ∧ some k_ ≠ (u3 : Value).ownBlock ∧ k_ ≠ g1 ∧ k_ ≠ g6) (.slice (some ad105) l0_13.length c0_13) l0_13) := ⟨(by rw [hw]; exact (by (with_reducible repeat (first | apply Kd.V_alloc | apply Kd.V_drewN | apply Kd.V_drew)); exact Kd.V_mono (Kd.V_far (p := ⟨g6, 13, none⟩) (Kd.V_far (p := ⟨g6, 12, none⟩) (Kd.V_far (p := ⟨g6, 11, none⟩) (Kd.V_far (p := ⟨g6, 10, none⟩) (Kd.V_far (p := ⟨g6, 9, none⟩) (Kd.V_far (p := ⟨g6, 8, none⟩) (Kd.V_far (p := ⟨g6, 7, none⟩) (Kd.V_far (p := ⟨g6, 6, none⟩) (Kd.V_far (p := ⟨g6, 5, none⟩) (Kd.V_far (p := ⟨g6, 4, none⟩) (Kd.V_far (p := ⟨g6, 3, none⟩) (Kd.V_far (p := ⟨g6, 2, none⟩) (Kd.V_far (p := ⟨g6, 1, none⟩) (Kd.V_far (p := ⟨g6, 0, none⟩) (Kd.V_mono HO_102013.out (fun k_ hk => (⟨hk, hk.2⟩ : _ ∧ k_ ≠ g6))) (fun _ hk => hk.2) (.int .i64 ((rd_T28 l0_13 x11_1).f0))) (fun _ hk => hk.2) (.int .i64 ((rd_T28 l0_13 x11_1).f1))) (fun _ hk => hk.2) (.int .i64 ((rd_T28 l0_13 x11_1).f2.f0))) (fun _ hk => hk.2) (.int .i64 ((rd_T28 l0_13 x11_1).f2.f1))) (fun _ hk => hk.2) (.string ((rd_T28 l0_13 x11_1).f2.f2))) (fun _ hk => hk.2) (.int .i64 ((rd_T28 l0_13 x11_1).f3.f0))) (fun _ hk => hk.2) (.int .i64 ((rd_T28 l0_13 x11_1).f3.f1))) (fun _ hk => hk.2) (.bool ((rd_T28 l0_13 x11_1).f3.f2))) (fun _ hk => hk.2) (.bool ((rd_T28 l0_13 x11_1).f3.f3))) (fun _ hk => hk.2) (.int .i64 ((rd_T28 l0_13 x11_1).f4.f0))) (fun _ hk => hk.2) (.int .i64 ((rd_T28 l0_13 x11_1).f4.f1))) (fun _ hk => hk.2) (.bool ((rd_T28 l0_13 x11_1).f4.f2))) (fun _ hk => hk.2) (.bool ((rd_T28 l0_13 x11_1).f4.f3))) (fun _ hk => hk.2) (.slice A105_13 ((rd_T28 l0_13 x11_1).f5).length c105_13)) (fun _ hk => ⟨hk.1.1.1, ⟨hk.1.1.2.1, ⟨hk.1.1.2.2, hk.1.2⟩⟩⟩)))⟩; have n3_ : Aside0 (Kd.V k28 28 w15 w.heap.size (fun k_ => (P0_13_ k_ ∨ w.heap.size ≤ k_) ∧ some k_ ≠ (u3 : Value).ownBlock ∧ k_ ≠ g1 ∧ k_ ≠ g6) (.slice A105_13 ((rd_T28 l0_13 x11_1).f5).length c105_13) ((rd_T28 l0_13 x11_1).f5)) := ⟨(by rw [hw]; exact (by (with_reducible repeat (first | apply Kd.V_alloc | apply Kd.V_drewN | apply Kd.V_drew)); exact Kd.V_mono (Kd.V_far (p := ⟨g6, 13, none⟩) (Kd.V_far (p := ⟨g6, 12, none⟩) (Kd.V_far (p := ⟨g6, 11, none⟩) (Kd.V_far (p := ⟨g6, 10, none⟩) (Kd.V_far (p := ⟨g6, 9, none⟩) (Kd.V_far (p := ⟨g6, 8, none⟩) (Kd.V_far (p := ⟨g6, 7, none⟩) (Kd.V_far (p := ⟨g6, 6, none⟩) (Kd.V_far (p := ⟨g6, 5, none⟩) (Kd.V_far (p := ⟨g6, 4, none⟩) (Kd.V_far (p := ⟨g6, 3, none⟩) (Kd.V_far (p := ⟨g6, 2, none⟩) (Kd.V_far (p := ⟨g6, 1, none⟩) (Kd.V_far (p := ⟨g6, 0, none⟩) (Kd.V_mono HL105_13.out (fun k_ hk => (⟨hk, hk.2⟩ : _ ∧ k_ ≠ g6))) (fun _ hk => hk.2) (.int .i64 ((rd_T28 l0_13 x11_1).f0))) (fun _ hk => hk.2) (.int .i64 ((rd_T28 l0_13 x11_1).f1))) (fun _ hk => hk.2) (.int .i64 ((rd_T28 l0_13 x11_1).f2.f0))) (fun _ hk => hk.2) (.int .i64 ((rd_T28 l0_13 x11_1).f2.f1))) (fun _ hk => hk.2) (.string ((rd_T28 l0_13 x11_1).f2.f2))) (fun _ hk => hk.2) (.int .i64 ((rd_T28 l0_13 x11_1).f3.f0))) (fun _ hk => hk.2) (.int .i64 ((rd_T28 l0_13 x11_1).f3.f1))) (fun _ hk => hk.2) (.bool ((rd_T28 l0_13 x11_1).f3.f2))) (fun _ hk => hk.2) (.bool ((rd_T28 l0_13 x11_1).f3.f3))) (fun _ hk => hk.2) (.int .i64 ((rd_T28 l0_13 x11_1).f4.f0))) (fun _ hk => hk.2) (.int .i64 ((rd_T28 l0_13 x11_1).f4.f1))) (fun _ hk => hk.2) (.bool ((rd_T28 l0_13 x11_1).f4.f2))) (fun _ hk => hk.2) (.bool ((rd_T28 l0_13 x11_1).f4.f3))) (fun _ hk => hk.2) (.slice A105_13 ((rd_T28 l0_13 x11_1).f5).length c105_13)) (fun _ hk => ⟨hk.1.1.1, ⟨hk.1.1.2.1, ⟨hk.1.1.2.2, hk.1.2⟩⟩⟩)))⟩; have n4_ : Aside0 (w15.heap[g1]? = some (.cells #[.int .i64 a0_0, .int .i64 a0_1, .int .i64 a0_2, .int .i64 a0_3, .string a0_4, .int .i64 a0_5, .int .i64 a0_6, .bool a0_7, .bool a0_8, .int .i64 a0_9, .int .i64 a0_10, .bool a0_11, .bool a0_12, .slice (some ad105) l0_13.length c0_13] 28 (0, 0))) := ⟨(by rw [hw]; exact (by (iterate 14 refine pf_ ?_ N16.out); exact pkx B1))⟩; have n5_ : Aside0 (w15.heap[g6]? = some (.cells #[.int .i64 ((rd_T28 l0_13 x11_1).f0), .int .i64 ((rd_T28 l0_13 x11_1).f1), .int .i64 ((rd_T28 l0_13 x11_1).f2.f0), .int .i64 ((rd_T28 l0_13 x11_1).f2.f1), .string ((rd_T28 l0_13 x11_1).f2.f2), .int .i64 ((rd_T28 l0_13 x11_1).f3.f0), .int .i64 ((rd_T28 l0_13 x11_1).f3.f1), .bool ((rd_T28 l0_13 x11_1).f3.f2), .bool ((rd_T28 l0_13 x11_1).f3.f3), .int .i64 ((rd_T28 l0_13 x11_1).f4.f0), .int .i64 ((rd_T28 l0_13 x11_1).f4.f1), .bool ((rd_T28 l0_13 x11_1).f4.f2), .bool ((rd_T28 l0_13 x11_1).f4.f3), .slice A105_13 ((rd_T28 l0_13 x11_1).f5).length c105_13] 28 (0, 0))) := ⟨(by rw [hw]; exact (by refine pp_ (cs := #[.int .i64 ((rd_T28 l0_13 x11_1).f0), .int .i64 ((rd_T28 l0_13 x11_1).f1), .int .i64 ((rd_T28 l0_13 x11_1).f2.f0), .int .i64 ((rd_T28 l0_13 x11_1).f2.f1), .string ((rd_T28 l0_13 x11_1).f2.f2), .int .i64 ((rd_T28 l0_13 x11_1).f3.f0), .int .i64 ((rd_T28 l0_13 x11_1).f3.f1), .bool ((rd_T28 l0_13 x11_1).f3.f2), .bool ((rd_T28 l0_13 x11_1).f3.f3), .int .i64 ((rd_T28 l0_13 x11_1).f4.f0), .int .i64 ((rd_T28 l0_13 x11_1).f4.f1), .bool ((rd_T28 l0_13 x11_1).f4.f2), .bool ((rd_T28 l0_13 x11_1).f4.f3), .slice none 0 0]) 13 ?_ rfl; refine blk_put (cs := #[.int .i64 ((rd_T28 l0_13 x11_1).f0), .int .i64 ((rd_T28 l0_13 x11_1).f1), .int .i64 ((rd_T28 l0_13 x11_1).f2.f0), .int .i64 ((rd_T28 l0_13 x11_1).f2.f1), .string ((rd_T28 l0_13 x11_1).f2.f2), .int .i64 ((rd_T28 l0_13 x11_1).f3.f0), .int .i64 ((rd_T28 l0_13 x11_1).f3.f1), .bool ((rd_T28 l0_13 x11_1).f3.f2), .bool ((rd_T28 l0_13 x11_1).f3.f3), .int .i64 ((rd_T28 l0_13 x11_1).f4.f0), .int .i64 ((rd_T28 l0_13 x11_1).f4.f1), .bool ((rd_T28 l0_13 x11_1).f4.f2), .bool false, .slice none 0 0]) ?_ 12 _ rfl; refine blk_put (cs := #[.int .i64 ((rd_T28 l0_13 x11_1).f0), .int .i64 ((rd_T28 l0_13 x11_1).f1), .int .i64 ((rd_T28 l0_13 x11_1).f2.f0), .int .i64 ((rd_T28 l0_13 x11_1).f2.f1), .string ((rd_T28 l0_13 x11_1).f2.f2), .int .i64 ((rd_T28 l0_13 x11_1).f3.f0), .int .i64 ((rd_T28 l0_13 x11_1).f3.f1), .bool ((rd_T28 l0_13 x11_1).f3.f2), .bool ((rd_T28 l0_13 x11_1).f3.f3), .int .i64 ((rd_T28 l0_13 x11_1).f4.f0), .int .i64 ((rd_T28 l0_13 x11_1).f4.f1), .bool false, .bool false, .slice none 0 0]) ?_ 11 _ rfl; refine blk_put (cs := #[.int .i64 ((rd_T28 l0_13 x11_1).f0), .int .i64 ((rd_T28 l0_13 x11_1).f1), .int .i64 ((rd_T28 l0_13 x11_1).f2.f0), .int .i64 ((rd_T28 l0_13 x11_1).f2.f1), .string ((rd_T28 l0_13 x11_1).f2.f2), .int .i64 ((rd_T28 l0_13 x11_1).f3.f0), .int .i64 ((rd_T28 l0_13 x11_1).f3.f1), .bool ((rd_T28 l0_13 x11_1).f3.f2), .bool ((rd_T28 l0_13 x11_1).f3.f3), .int .i64 ((rd_T28 l0_13 x11_1).f4.f0), .int .i64 0, .bool false, .bool false, .slice none 0 0]) ?_ 10 _ rfl; refine blk_put (cs := #[.int .i64 ((rd_T28 l0_13 x11_1).f0), .int .i64 ((rd_T28 l0_13 x11_1).f1), .int .i64 ((rd_T28 l0_13 x11_1).f2.f0), .int .i64 ((rd_T28 l0_13 x11_1).f2.f1), .string ((rd_T28 l0_13 x11_1).f2.f2), .int .i64 ((rd_T28 l0_13 x11_1).f3.f0), .int .i64 ((rd_T28 l0_13 x11_1).f3.f1), .bool ((rd_T28 l0_13 x11_1).f3.f2), .bool ((rd_T28 l0_13 x11_1).f3.f3), .int .i64 0, .int .i64 0, .bool false, .bool false, .slice none 0 0]) ?_ 9 _ rfl; refine blk_put (cs := #[.int .i64 ((rd_T28 l0_13 x11_1).f0), .int .i64 ((rd_T28 l0_13 x11_1).f1), .int .i64 ((rd_T28 l0_13 x11_1).f2.f0), .int .i64 ((rd_T28 l0_13 x11_1).f2.f1), .string ((rd_T28 l0_13 x11_1).f2.f2), .int .i64 ((rd_T28 l0_13 x11_1).f3.f0), .int .i64 ((rd_T28 l0_13 x11_1).f3.f1), .bool ((rd_T28 l0_13 x11_1).f3.f2), .bool false, .int .i64 0, .int .i64 0, .bool false, .bool false, .slice none 0 0]) ?_ 8 _ rfl; refine blk_put (cs := #[.int .i64 ((rd_T28 l0_13 x11_1).f0), .int .i64 ((rd_T28 l0_13 x11_1).f1), .int .i64 ((rd_T28 l0_13 x11_1).f2.f0), .int .i64 ((rd_T28 l0_13 x11_1).f2.f1), .string ((rd_T28 l0_13 x11_1).f2.f2), .int .i64 ((rd_T28 l0_13 x11_1).f3.f0), .int .i64 ((rd_T28 l0_13 x11_1).f3.f1), .bool false, .bool false, .int .i64 0, .int .i64 0, .bool false, .bool false, .slice none 0 0]) ?_ 7 _ rfl; refine blk_put (cs := #[.int .i64 ((rd_T28 l0_13 x11_1).f0), .int .i64 ((rd_T28 l0_13 x11_1).f1), .int .i64 ((rd_T28 l0_13 x11_1).f2.f0), .int .i64 ((rd_T28 l0_13 x11_1).f2.f1), .string ((rd_T28 l0_13 x11_1).f2.f2), .int .i64 ((rd_T28 l0_13 x11_1).f3.f0), .int .i64 0, .bool false, .bool false, .int .i64 0, .int .i64 0, .bool false, .bool false, .slice none 0 0]) ?_ 6 _ rfl; refine blk_put (cs := #[.int .i64 ((rd_T28 l0_13 x11_1).f0), .int .i64 ((rd_T28 l0_13 x11_1).f1), .int .i64 ((rd_T28 l0_13 x11_1).f2.f0), .int .i64 ((rd_T28 l0_13 x11_1).f2.f1), .string ((rd_T28 l0_13 x11_1).f2.f2), .int .i64 0, .int .i64 0, .bool false, .bool false, .int .i64 0, .int .i64 0, .bool false, .bool false, .slice none 0 0]) ?_ 5 _ rfl; refine blk_put (cs := #[.int .i64 ((rd_T28 l0_13 x11_1).f0), .int .i64 ((rd_T28 l0_13 x11_1).f1), .int .i64 ((rd_T28 l0_13 x11_1).f2.f0), .int .i64 ((rd_T28 l0_13 x11_1).f2.f1), .string (⟨#[]⟩ : ByteArray), .int .i64 0, .int .i64 0, .bool false, .bool false, .int .i64 0, .int .i64 0, .bool false, .bool false, .slice none 0 0]) ?_ 4 _ rfl; (iterate 4 apply pp_); exact pkx B6; all_goals rfl))⟩; have n6_ : Aside0 (Below w.heap.size w w15) := ⟨(by rw [hw]; exact bl_)⟩; clear hw; clear HO_3; clear HO_9; clear HO_102013; clear HL105_13; clear B1; clear B6; clear HB; have HO_3 := n0_; have HO_9 := n1_; have HO_102013 := n2_; have HL105_13 := n3_; have B1 := n4_; have B6 := n5_; have HB := n6_; clear n0_ n1_ n2_ n3_ n4_ n5_ n6_; have hcz16_0 : w15.cell? ⟨g6, 0, none⟩ = some (.int .i64 ((rd_T28 l0_13 x11_1).f0)) := bc_ B6 0 rfl; have hcz16_1 : w15.cell? ⟨g6, 1, none⟩ = some (.int .i64 ((rd_T28 l0_13 x11_1).f1)) := bc_ B6 1 rfl; have hcz16_2 : w15.cell? ⟨g6, 2, none⟩ = some (.int .i64 ((rd_T28 l0_13 x11_1).f2.f0)) := bc_ B6 2 rfl; have hcz16_3 : w15.cell? ⟨g6, 3, none⟩ = some (.int .i64 ((rd_T28 l0_13 x11_1).f2.f1)) := bc_ B6 3 rfl; have hcz16_4 : w15.cell? ⟨g6, 4, none⟩ = some (.string ((rd_T28 l0_13 x11_1).f2.f2)) := bc_ B6 4 rfl; have hcz16_5 : w15.cell? ⟨g6, 5, none⟩ = some (.int .i64 ((rd_T28 l0_13 x11_1).f3.f0)) := bc_ B6 5 rfl; have hcz16_6 : w15.cell? ⟨g6, 6, none⟩ = some (.int .i64 ((rd_T28 l0_13 x11_1).f3.f1)) := bc_ B6 6 rfl; have hcz16_7 : w15.cell? ⟨g6, 7, none⟩ = some (.bool ((rd_T28 l0_13 x11_1).f3.f2)) := bc_ B6 7 rfl; have hcz16_8 : w15.cell? ⟨g6, 8, none⟩ = some (.bool ((rd_T28 l0_13 x11_1).f3.f3)) := bc_ B6 8 rfl; have hcz16_9 : w15.cell? ⟨g6, 9, none⟩ = some (.int .i64 ((rd_T28 l0_13 x11_1).f4.f0)) := bc_ B6 9 rfl; have hcz16_10 : w15.cell? ⟨g6, 10, none⟩ = some (.int .i64 ((rd_T28 l0_13 x11_1).f4.f1)) := bc_ B6 10 rfl; have hcz16_11 : w15.cell? ⟨g6, 11, none⟩ = some (.bool ((rd_T28 l0_13 x11_1).f4.f2)) := bc_ B6 11 rfl; have hcz16_12 : w15.cell? ⟨g6, 12, none⟩ = some (.bool ((rd_T28 l0_13 x11_1).f4.f3)) := bc_ B6 12 rfl; have hcz16_13 : w15.cell? ⟨g6, 13, none⟩ = some (.slice A105_13 ((rd_T28 l0_13 x11_1).f5).length c105_13) := bc_ B6 13 rfl; have hfz16_0 := blk_frozen B6.out 0; have hfz16_1 := blk_frozen B6.out 1; have hfz16_2 := blk_frozen B6.out 2; have hfz16_3 := blk_frozen B6.out 3; have hfz16_4 := blk_frozen B6.out 4; have hfz16_5 := blk_frozen B6.out 5; have hfz16_6 := blk_frozen B6.out 6; have hfz16_7 := blk_frozen B6.out 7; have hfz16_8 := blk_frozen B6.out 8; have hfz16_9 := blk_frozen B6.out 9; have hfz16_10 := blk_frozen B6.out 10; have hfz16_11 := blk_frozen B6.out 11; have hfz16_12 := blk_frozen B6.out 12; have hfz16_13 := blk_frozen B6.out 13) | ((with_reducible refine gate_callee (f:=8) rfl ?_); refine gL_ (some 17) rfl rfl Tryd.func8 rfl #[.agg #[.int .i64 ((rd_T28 l0_13 x11_1).f0), .int .i64 ((rd_T28 l0_13 x11_1).f1), .int .i64 ((rd_T28 l0_13 x11_1).f2.f0), .int .i64 ((rd_T28 l0_13 x11_1).f2.f1), .string ((rd_T28 l0_13 x11_1).f2.f2), .int .i64 ((rd_T28 l0_13 x11_1).f3.f0), .int .i64 ((rd_T28 l0_13 x11_1).f3.f1), .bool ((rd_T28 l0_13 x11_1).f3.f2), .bool ((rd_T28 l0_13 x11_1).f3.f3), .int .i64 ((rd_T28 l0_13 x11_1).f4.f0), .int .i64 ((rd_T28 l0_13 x11_1).f4.f1), .bool ((rd_T28 l0_13 x11_1).f4.f2), .bool ((rd_T28 l0_13 x11_1).f4.f3), .slice A105_13 ((rd_T28 l0_13 x11_1).f5).length c105_13]] rfl ?_; (with_reducible refine (ih k1 (by have := HK1.out; omega) ((rd_T28 l0_13 x11_1).f0) ((rd_T28 l0_13 x11_1).f1) ((rd_T28 l0_13 x11_1).f2.f0) ((rd_T28 l0_13 x11_1).f2.f1) ((rd_T28 l0_13 x11_1).f2.f2) ((rd_T28 l0_13 x11_1).f3.f0) ((rd_T28 l0_13 x11_1).f3.f1) ((rd_T28 l0_13 x11_1).f3.f2) ((rd_T28 l0_13 x11_1).f3.f3) ((rd_T28 l0_13 x11_1).f4.f0) ((rd_T28 l0_13 x11_1).f4.f1) ((rd_T28 l0_13 x11_1).f4.f2) ((rd_T28 l0_13 x11_1).f4.f3) (fun k_ => ((P0_13_ k_ ∨ w.heap.size ≤ k_) ∧ (some k_ ≠ (u3 : Value).ownBlock ∧ (k_ ≠ g1 ∧ k_ ≠ g6)))) _ _ ((rd_T28 l0_13 x11_1).f5) t107 _ ?side1 A10.out).mono ?_); (case side1 => exact HL105_13.out); rintro e w17 ⟨v108, rfl, ho0, hb⟩; refine ⟨_, rfl, ?_⟩; have n0_ := A_ (Kd.N_elder' (by (with_reducible repeat (first | apply Kd.N_alloc | apply Kd.N_drewN | apply Kd.N_drew)); exact HO_3.out) (Kd.N_base ho0) hb); have n1_ := A_ (Kd.V_elder' (va_ HO_9.out) (Kd.N_base ho0) hb); have n2_ := A_ (Kd.V_elder' (va_ HO_102013.out) (Kd.N_base ho0) hb); have n3_ := A_ (Kd.V_elder' (by (with_reducible repeat (first | apply Kd.V_alloc | apply Kd.V_drewN | apply Kd.V_drew)); exact HL105_13.out) (Kd.N_base ho0) hb); have n4_ := A_ (Kd.N_lower (Kd.N_mono (ok' := fun k_ => (P0_13_ k_ ∨ w.heap.size ≤ k_) ∧ some k_ ≠ (u3 : Value).ownBlock ∧ k_ ≠ g1 ∧ k_ ≠ g6) ho0 (fun k_ hk_ => ⟨Or.elim hk_ (fun hs_ => hs_.1) (fun hn_ => (.inr (Nat.le_trans (below_size (pbx HB)) hn_))), Or.elim hk_ (fun hs_ => hs_.2.1) (fun hn_ => (Kd.fresh' (Kd.N_lt (by (with_reducible repeat (first | apply Kd.N_alloc | apply Kd.N_drewN | apply Kd.N_drew)); exact HO_3.out)) k_ hn_)), Or.elim hk_ (fun hs_ => hs_.2.2.1) (fun hn_ => (Kd.freshB (pkx B1) k_ hn_)), Or.elim hk_ (fun hs_ => hs_.2.2.2) (fun hn_ => (Kd.freshB (pkx B6) k_ hn_))⟩)) (below_size (pbx HB))); have n5_ := bb_ B1 hb; have n7_ := bb_ B6 hb; have n8_ := bs_ HB hb; clear HO_3; clear HO_9; clear HO_102013; clear HL105_13; clear B1; clear B6; clear HB; have HO_3 := n0_; have HO_9 := n1_; have HO_102013 := n2_; have HL105_13 := n3_; have HO109 := n4_; have B1 := n5_; have B6 := n7_; have HB := n8_; clear n0_ n1_ n2_ n3_ n4_ n5_ n7_ n8_; (try clear hb); (try clear hk); obtain ⟨Ao19, co19, eo19⟩ := Kd.N_slice HO109.out; subst eo19) | ((with_reducible refine gate_builtin (b := .append) (xs := #[.tmp 15, .tmp 17]) rfl ?_); at_builtin; refine Kd.N_append_rows k28 (w0 := w) w.heap.size rfl (.tmp 15) (.tmp 17) 26 28 (.agg #[(.int .i64 0), (.int .i64 0), (.int .i64 0), (.int .i64 0), (.string ⟨#[]⟩), (.int .i64 0), (.int .i64 0), (.bool false), (.bool false), (.int .i64 0), (.int .i64 0), (.bool false), (.bool false), (.slice none 0 0)]) 120 rfl Tryd.underlying26 info28 rfl (by decide) (by omega) u3 x3_1 t107 _ _ _ (fun k_ => (P0_13_ k_ ∨ w.heap.size ≤ k_) ∧ k_ ≠ g1 ∧ k_ ≠ g6) (fun k_ => ((fun k_ => (P0_13_ k_ ∨ w.heap.size ≤ k_) ∧ k_ ≠ g1 ∧ k_ ≠ g6)) k_ ∧ some k_ ≠ (u3 : Value).ownBlock) rfl rfl ?aO ?aR (fun _ hk => hk) ?aF ?aB ?aS ?aL ?_; (case aR => exact (by skip; exact Kd.N_F (Kd.N_mono (ok' := (fun k_ => ((fun k_ => (P0_13_ k_ ∨ w.heap.size ≤ k_) ∧ k_ ≠ g1 ∧ k_ ≠ g6)) k_ ∧ some k_ ≠ (u3 : Value).ownBlock)) (HO109.out) (fun k_ hk => ⟨⟨hk.1, ⟨hk.2.2.1, hk.2.2.2⟩⟩, hk.2.1⟩)))); (case aB => exact (pbx HB)); (case aF => exact (fun k_ hk => ⟨(.inr (Nat.le_trans (below_size (pbx HB)) hk)), Kd.freshB (pkx B1) k_ hk, Kd.freshB (pkx B6) k_ hk⟩)); (case aO => exact (by (with_reducible repeat (first | apply Kd.N_alloc | apply Kd.N_drewN | apply Kd.N_drew)); exact Kd.N_mono HO_3.out (fun _ hk => ⟨hk.1.1, ⟨hk.1.2.1, hk.1.2.2⟩⟩))); (case aS => exact (below_size (pbx HB))); (case aL => have := LMc11.out; omega); intro v111 w18 ho hb hg hat; rw [← Ny110.out] at ho; have HO112 := A_ (ho); replace HO_9 := A_ (Kd.V_afterv (ok := (fun k_ => (P0_13_ k_ ∨ w.heap.size ≤ k_) ∧ some k_ ≠ (.slice Ao19 t107.length co19 : Value).ownBlock ∧ k_ ≠ g1 ∧ k_ ≠ g6)) (by (with_reducible repeat (first | apply Kd.V_alloc | apply Kd.V_drewN | apply Kd.V_drew)); exact Kd.V_mono HO_9.out (fun _ hk => ⟨⟨hk.1.1, ⟨hk.2, ⟨hk.1.2.2.1, hk.1.2.2.2⟩⟩⟩, hk.1.2.1⟩)) hg hat); replace HO_102013 := A_ (Kd.V_afterv (ok := (fun k_ => (P0_13_ k_ ∨ w.heap.size ≤ k_) ∧ some k_ ≠ (.slice Ao19 t107.length co19 : Value).ownBlock ∧ k_ ≠ g1 ∧ k_ ≠ g6)) (by (with_reducible repeat (first | apply Kd.V_alloc | apply Kd.V_drewN | apply Kd.V_drew)); exact Kd.V_mono HO_102013.out (fun _ hk => ⟨⟨hk.1.1, ⟨hk.2, ⟨hk.1.2.2.1, hk.1.2.2.2⟩⟩⟩, hk.1.2.1⟩)) hg hat); replace B1 := A_ (blk_grown (pkx B1) hg (Kd.N_away HO_3.out (fun _ hk => hk.1.2.1))); replace HL105_13 := A_ (Kd.V_afterv (ok := (fun k_ => (P0_13_ k_ ∨ w.heap.size ≤ k_) ∧ some k_ ≠ (.slice Ao19 t107.length co19 : Value).ownBlock ∧ k_ ≠ g1 ∧ k_ ≠ g6)) (by (with_reducible repeat (first | apply Kd.V_alloc | apply Kd.V_drewN | apply Kd.V_drew)); exact Kd.V_mono HL105_13.out (fun _ hk => ⟨⟨hk.1.1, ⟨hk.2, ⟨hk.1.2.2.1, hk.1.2.2.2⟩⟩⟩, hk.1.2.1⟩)) hg hat); replace B6 := A_ (blk_grown (pkx B6) hg (Kd.N_away HO_3.out (fun _ hk => hk.1.2.2))); replace HO109 := A_ (Kd.N_afterv (ok := (fun k_ => (P0_13_ k_ ∨ w.heap.size ≤ k_) ∧ k_ ≠ g1 ∧ k_ ≠ g6)) (by (with_reducible repeat (first | apply Kd.N_alloc | apply Kd.N_drewN | apply Kd.N_drew)); exact Kd.N_mono HO109.out (fun _ hk => ⟨⟨hk.1, ⟨hk.2.2.1, hk.2.2.2⟩⟩, hk.2.1⟩)) hg hat); replace HB := A_ (hb); clear HO_3; clear ho hb hg hat))
       go_roundg k1
       case measure => have := HK1.out; omega
       case rel => exact ⟨(y110), (wrap64 (x11_1 + 1)), sq_, H', ⟨by have := HK1.out; omega⟩, ⟨by (with_reducible repeat (first | apply Kd.N_alloc | apply Kd.N_drewN | apply Kd.N_drew)); exact Kd.N_mono HO112.out (fun _ hk => ⟨hk.1, hk.2.1⟩)⟩, ⟨by (with_reducible repeat (first | apply Kd.V_alloc | apply Kd.V_drewN | apply Kd.V_drew)); exact Kd.V_mono HO_9.out (fun _ hk => ⟨hk.1.1, ⟨hk.2, hk.1.2.2.1⟩⟩)⟩, ⟨by (with_reducible repeat (first | apply Kd.V_alloc | apply Kd.V_drewN | apply Kd.V_drew)); exact Kd.V_mono HO_102013.out (fun _ hk => ⟨hk.1.1, ⟨hk.2, hk.1.2.2.1⟩⟩)⟩, ⟨pkx B1⟩, ⟨pbx HB⟩⟩
      ·rw [if_neg c11] at H
       exact absurd H (by simp)
     ·rw [if_neg c9] at H
      exact absurd H (by simp)
    ·rw [if_neg c8] at H
     exact absurd H (by simp)
   ·rw [if_neg c7] at H; have c7b0 := decide_eq_false c7; clear c7; obtain rfl := Option.some.inj H
    go_wp2
    go_ret
    exact ⟨_, by first | rfl | (simp [errW_none, errW_some] <;> rfl) | (simp [*, errW_none, errW_some] <;> rfl), by (with_reducible repeat (first | apply Kd.N_alloc | apply Kd.N_drewN | apply Kd.N_drew)); exact Kd.N_mono HO_3.out (fun _ hk => hk.1), pbx HB⟩

end Go.Proofs.YtdddhabemdbooaaDoor.X
-- fix22
namespace Go.Proofs.YtdddhabemdbooaaDoor.X
open Go.RowKit Go.Proofs.YtdddhabemdbooaaDoorW.PrintWords Go.Proofs.YtdddhabemdbooaaDoorW.PrintLast Go.Proofs.YtdddhabemdbooaaDoorW.PrintMore
attribute [local go_sem] max2_int min2_int max_two min_two max_three min_three max_four min_four
set_option linter.unusedVariables false
set_option linter.unusedSimpArgs false
mutual
def node_Count.l0 : Nat → Int → List (S28) → Int → Int → Option (Int)
 | 0, _, _, _, _ => none
 | k + 1, x3, x7, x8, x9 => if x9 < x8 then (if 0 ≤ x9 then (if x9 < (x7.length : Int) then ((node_Count.f k ((rd_T28 x7 x9).f0) ((rd_T28 x7 x9).f1) ((rd_T28 x7 x9).f2.f0) ((rd_T28 x7 x9).f2.f1) ((rd_T28 x7 x9).f2.f2) ((rd_T28 x7 x9).f3.f0) ((rd_T28 x7 x9).f3.f1) ((rd_T28 x7 x9).f3.f2) ((rd_T28 x7 x9).f3.f3) ((rd_T28 x7 x9).f4.f0) ((rd_T28 x7 x9).f4.f1) ((rd_T28 x7 x9).f4.f2) ((rd_T28 x7 x9).f4.f3) ((rd_T28 x7 x9).f5)).bind fun t104 => (node_Count.l0 k (wrap64 (x3 + t104)) x7 x8 (wrap64 (x9 + 1)))) else (none)) else (none)) else (some x3)
def node_Count.f : Nat → Int → Int → Int → Int → ByteArray → Int → Int → Bool → Bool → Int → Int → Bool → Bool → List (S28) → Option (Int)
 | 0, _, _, _, _, _, _, _, _, _, _, _, _, _, _ => none
 | k + 1, a0_0, a0_1, a0_2, a0_3, a0_4, a0_5, a0_6, a0_7, a0_8, a0_9, a0_10, a0_11, a0_12, l0_13 => node_Count.l0 k 1 l0_13 (l0_13.length : Int) 0
end
theorem node_Count.mono_l : ∀ k, (∀ y0 y1 y2 y3 y4 y5 y6 y7 y8 y9 y10 y11 y12 y13, LeO (node_Count.f k y0 y1 y2 y3 y4 y5 y6 y7 y8 y9 y10 y11 y12 y13) (node_Count.f (k + 1) y0 y1 y2 y3 y4 y5 y6 y7 y8 y9 y10 y11 y12 y13)) ∧ (∀ y0 y1 y2 y3, LeO (node_Count.l0 k y0 y1 y2 y3) (node_Count.l0 (k + 1) y0 y1 y2 y3))
 | 0 => ⟨fun _ _ _ _ _ _ _ _ _ _ _ _ _ _ r h => by simp [node_Count.f] at h, fun _ _ _ _ r h => by simp [node_Count.l0] at h⟩
 | k + 1 => by
  obtain ⟨ih0, ih1⟩ := node_Count.mono_l k
  refine ⟨?_, ?_⟩
  ·intro y0 y1 y2 y3 y4 y5 y6 y7 y8 y9 y10 y11 y12 y13
   unfold node_Count.f
   exact mo_
  ·intro y0 y1 y2 y3
   unfold node_Count.l0
   exact mo_
theorem node_Count.mono : ∀ a0 a1 a2 a3 a4 a5 a6 a7 a8 a9 a10 a11 a12 a13 k, LeO (node_Count.f k a0 a1 a2 a3 a4 a5 a6 a7 a8 a9 a10 a11 a12 a13) (node_Count.f (k + 1) a0 a1 a2 a3 a4 a5 a6 a7 a8 a9 a10 a11 a12 a13) := by
 intro a0 a1 a2 a3 a4 a5 a6 a7 a8 a9 a10 a11 a12 a13 k; obtain ⟨ih0, ih1⟩ := node_Count.mono_l k
 exact ih0 a0 a1 a2 a3 a4 a5 a6 a7 a8 a9 a10 a11 a12 a13
theorem node_Count.calls (k : Nat) : ∀ (a0_0 : Int) (a0_1 : Int) (a0_2 : Int) (a0_3 : Int) (a0_4 : ByteArray) (a0_5 : Int) (a0_6 : Int) (a0_7 : Bool) (a0_8 : Bool) (a0_9 : Int) (a0_10 : Int) (a0_11 : Bool) (a0_12 : Bool) (A0_13 : Option Addr) (c0_13 : Nat) (l0_13 : List (S28)) (r : Int) (w : World) (hr0_13 : Kd.C k28 w A0_13 l0_13.length l0_13) (hc0_13 : l0_13.length ≤ c0_13) (h : node_Count.f k a0_0 a0_1 a0_2 a0_3 a0_4 a0_5 a0_6 a0_7 a0_8 a0_9 a0_10 a0_11 a0_12 l0_13 = some r),
  Calls Tryd.prog 10 #[.agg #[.int .i64 a0_0, .int .i64 a0_1, .int .i64 a0_2, .int .i64 a0_3, .string a0_4, .int .i64 a0_5, .int .i64 a0_6, .bool a0_7, .bool a0_8, .int .i64 a0_9, .int .i64 a0_10, .bool a0_11, .bool a0_12, .slice A0_13 l0_13.length c0_13]] w fun e w' => e = .returned (.int .i64 r) ∧ Below w.heap.size w w' := by
 induction k using Nat.strongRecOn with
 | _ k ih =>
 intro a0_0 a0_1 a0_2 a0_3 a0_4 a0_5 a0_6 a0_7 a0_8 a0_9 a0_10 a0_11 a0_12 A0_13 c0_13 l0_13 r w hr0_13 hc0_13 h
 cases k with
 | zero => exact absurd h (by simp [node_Count.f])
 | succ k =>
 simp only [node_Count.f] at h
 have hu28 := Tryd.underlying28; have HR0_13 := A_ hr0_13; have HC0_13 := A_ hc0_13; clear hr0_13 hc0_13; have HB := A_ (Below.refl w.heap.size w)
 have H : (node_Count.l0 k 1 l0_13 (l0_13.length : Int) 0) = some r := h
 clear h
 have H' := A_ H
 clear H
 go_enter Tryd.func10, Tryd.ntmps10
 go_wp2_with (first | ((with_reducible refine gd_ 1 ?_); refine be_ (N:=1) (cs := #[.int .i64 a0_0, .int .i64 a0_1, .int .i64 a0_2, .int .i64 a0_3, .string a0_4, .int .i64 a0_5, .int .i64 a0_6, .bool a0_7, .bool a0_8, .int .i64 a0_9, .int .i64 a0_10, .bool a0_11, .bool a0_12, .slice A0_13 l0_13.length c0_13]) (t:=28) ?_; intro g1 hg w2 hbox hb; have B1 := A_ (hbox); have GW101 := hs_ HB hg; have GE101 := hs_ HB hg; replace HB := bs_ HB hb; clear hb hbox hg; have hcz3_0 : w2.cell? ⟨g1, 0, none⟩ = some (.int .i64 a0_0) := bc_ B1 0 rfl; have hcz3_1 : w2.cell? ⟨g1, 1, none⟩ = some (.int .i64 a0_1) := bc_ B1 1 rfl; have hcz3_2 : w2.cell? ⟨g1, 2, none⟩ = some (.int .i64 a0_2) := bc_ B1 2 rfl; have hcz3_3 : w2.cell? ⟨g1, 3, none⟩ = some (.int .i64 a0_3) := bc_ B1 3 rfl; have hcz3_4 : w2.cell? ⟨g1, 4, none⟩ = some (.string a0_4) := bc_ B1 4 rfl; have hcz3_5 : w2.cell? ⟨g1, 5, none⟩ = some (.int .i64 a0_5) := bc_ B1 5 rfl; have hcz3_6 : w2.cell? ⟨g1, 6, none⟩ = some (.int .i64 a0_6) := bc_ B1 6 rfl; have hcz3_7 : w2.cell? ⟨g1, 7, none⟩ = some (.bool a0_7) := bc_ B1 7 rfl; have hcz3_8 : w2.cell? ⟨g1, 8, none⟩ = some (.bool a0_8) := bc_ B1 8 rfl; have hcz3_9 : w2.cell? ⟨g1, 9, none⟩ = some (.int .i64 a0_9) := bc_ B1 9 rfl; have hcz3_10 : w2.cell? ⟨g1, 10, none⟩ = some (.int .i64 a0_10) := bc_ B1 10 rfl; have hcz3_11 : w2.cell? ⟨g1, 11, none⟩ = some (.bool a0_11) := bc_ B1 11 rfl; have hcz3_12 : w2.cell? ⟨g1, 12, none⟩ = some (.bool a0_12) := bc_ B1 12 rfl; have hcz3_13 : w2.cell? ⟨g1, 13, none⟩ = some (.slice A0_13 l0_13.length c0_13) := bc_ B1 13 rfl; have hfz3_0 := blk_frozen B1.out 0; have hfz3_1 := blk_frozen B1.out 1; have hfz3_2 := blk_frozen B1.out 2; have hfz3_3 := blk_frozen B1.out 3; have hfz3_4 := blk_frozen B1.out 4; have hfz3_5 := blk_frozen B1.out 5; have hfz3_6 := blk_frozen B1.out 6; have hfz3_7 := blk_frozen B1.out 7; have hfz3_8 := blk_frozen B1.out 8; have hfz3_9 := blk_frozen B1.out 9; have hfz3_10 := blk_frozen B1.out 10; have hfz3_11 := blk_frozen B1.out 11; have hfz3_12 := blk_frozen B1.out 12; have hfz3_13 := blk_frozen B1.out 13))
 go_loopg [3, 9] k (fun kq v3 v9 w' => ∃ (x3_1 : Int) (x9_1 : Int), v3 = .int .i64 x3_1 ∧ v9 = .int .i64 x9_1 ∧ Aside0 (node_Count.l0 kq x3_1 l0_13 (l0_13.length : Int) x9_1 = some r) ∧ Aside0 (kq ≤ k) ∧ Aside0 (w'.heap[g1]? = some (.cells #[.int .i64 a0_0, .int .i64 a0_1, .int .i64 a0_2, .int .i64 a0_3, .string a0_4, .int .i64 a0_5, .int .i64 a0_6, .bool a0_7, .bool a0_8, .int .i64 a0_9, .int .i64 a0_10, .bool a0_11, .bool a0_12, (.slice A0_13 l0_13.length c0_13)] 28 (0, 0))) ∧ Aside0 (Below w.heap.size w w'))
 case atStart => exact ⟨(1), (0), sq_, sq_, H', ⟨Nat.le_refl _⟩, ⟨pkx B1⟩, ⟨pbx HB⟩⟩
 case round =>
  clear H'; (try clear hcz3_0); (try clear hcz3_1); (try clear hcz3_10); (try clear hcz3_11); (try clear hcz3_12); (try clear hcz3_13); (try clear hcz3_2); (try clear hcz3_3); (try clear hcz3_4); (try clear hcz3_5); (try clear hcz3_6); (try clear hcz3_7); (try clear hcz3_8); (try clear hcz3_9); (try clear hfz3_0); (try clear hfz3_1); (try clear hfz3_10); (try clear hfz3_11); (try clear hfz3_12); (try clear hfz3_13); (try clear hfz3_2); (try clear hfz3_3); (try clear hfz3_4); (try clear hfz3_5); (try clear hfz3_6); (try clear hfz3_7); (try clear hfz3_8); (try clear hfz3_9); obtain ⟨x3_1, x9_1, rfl, rfl, HA, HK1, B1, HB⟩ := hrel
  cases gk with
  | zero => exact absurd HA.out (by simp [node_Count.l0])
  | succ k1 =>
   have H := HA.out; clear HA
   simp only [node_Count.l0] at H
   by_cases c4 : x9_1 < (l0_13.length : Int)
   ·rw [if_pos c4] at H; have c4b0 := decide_eq_true c4; clear c4
    by_cases c5 : 0 ≤ x9_1
    ·rw [if_pos c5] at H; have c5b0 := decide_eq_true c5; clear c5
     by_cases c6 : x9_1 < (l0_13.length : Int)
     ·rw [if_pos c6] at H; have c6b0 := decide_eq_true c6; clear c6; obtain ⟨t104, A7, H⟩ := bo_ H
      have H' := A_ H
      clear H
      have p102 : 0 ≤ (x9_1 : Int) := of_decide_eq_true as_
      have q102 : x9_1 < (l0_13.length : Int) := of_decide_eq_true as_
      obtain ⟨ad102, A102_13, c102_13, e102, hx102_0, hx102_1, hx102_2, hx102_3, hx102_4, hx102_5, hx102_6, hx102_7, hx102_8, hx102_9, hx102_10, hx102_11, hx102_12, hx102_13, hl102_13, hi102_13⟩ := at_T28 HR0_13.out x9_1 p102 q102
      cases e102
      replace hx102_0 := (HB.out.cell (World.block_lt_of_cell? w _ hx102_0)).trans hx102_0; replace hx102_1 := (HB.out.cell (World.block_lt_of_cell? w _ hx102_1)).trans hx102_1; replace hx102_2 := (HB.out.cell (World.block_lt_of_cell? w _ hx102_2)).trans hx102_2; replace hx102_3 := (HB.out.cell (World.block_lt_of_cell? w _ hx102_3)).trans hx102_3; replace hx102_4 := (HB.out.cell (World.block_lt_of_cell? w _ hx102_4)).trans hx102_4; replace hx102_5 := (HB.out.cell (World.block_lt_of_cell? w _ hx102_5)).trans hx102_5; replace hx102_6 := (HB.out.cell (World.block_lt_of_cell? w _ hx102_6)).trans hx102_6; replace hx102_7 := (HB.out.cell (World.block_lt_of_cell? w _ hx102_7)).trans hx102_7; replace hx102_8 := (HB.out.cell (World.block_lt_of_cell? w _ hx102_8)).trans hx102_8; replace hx102_9 := (HB.out.cell (World.block_lt_of_cell? w _ hx102_9)).trans hx102_9; replace hx102_10 := (HB.out.cell (World.block_lt_of_cell? w _ hx102_10)).trans hx102_10
      replace hx102_11 := (HB.out.cell (World.block_lt_of_cell? w _ hx102_11)).trans hx102_11; replace hx102_12 := (HB.out.cell (World.block_lt_of_cell? w _ hx102_12)).trans hx102_12; replace hx102_13 := (HB.out.cell (World.block_lt_of_cell? w _ hx102_13)).trans hx102_13; have HR102_13 := A_ hi102_13; have HC102_13 := A_ hl102_13; clear hi102_13 hl102_13; replace p102 := eq_true p102; replace q102 := eq_true q102
      go_wp2_with (first | ((with_reducible refine gd_ 5 ?_); refine be_ (N:=5) (cs := #[.int .i64 0, .int .i64 0, .int .i64 0, .int .i64 0, .string (⟨#[]⟩ : ByteArray), .int .i64 0, .int .i64 0, .bool false, .bool false, .int .i64 0, .int .i64 0, .bool false, .bool false, .slice none 0 0]) (t:=28) ?_; intro g3 hg w8 hbox hb; have B3 := A_ (hbox); have GW103 := hs_ HB hg; have GE103 := hs_ HB hg; have N13 := hl_ B1 hg; have N31 := hr_ B1 hg; replace B1 := bb_ B1 hb; replace HB := bs_ HB hb; clear hb hbox hg; have hnb9 := N31.out; have hnc9 := N13.out; have hcz10_0 : w8.cell? ⟨g3, 0, none⟩ = some (.int .i64 0) := bc_ B3 0 rfl; have hcz10_1 : w8.cell? ⟨g3, 1, none⟩ = some (.int .i64 0) := bc_ B3 1 rfl; have hcz10_2 : w8.cell? ⟨g3, 2, none⟩ = some (.int .i64 0) := bc_ B3 2 rfl; have hcz10_3 : w8.cell? ⟨g3, 3, none⟩ = some (.int .i64 0) := bc_ B3 3 rfl; have hcz10_4 : w8.cell? ⟨g3, 4, none⟩ = some (.string (⟨#[]⟩ : ByteArray)) := bc_ B3 4 rfl; have hcz10_5 : w8.cell? ⟨g3, 5, none⟩ = some (.int .i64 0) := bc_ B3 5 rfl; have hcz10_6 : w8.cell? ⟨g3, 6, none⟩ = some (.int .i64 0) := bc_ B3 6 rfl; have hcz10_7 : w8.cell? ⟨g3, 7, none⟩ = some (.bool false) := bc_ B3 7 rfl; have hcz10_8 : w8.cell? ⟨g3, 8, none⟩ = some (.bool false) := bc_ B3 8 rfl; have hcz10_9 : w8.cell? ⟨g3, 9, none⟩ = some (.int .i64 0) := bc_ B3 9 rfl; have hcz10_10 : w8.cell? ⟨g3, 10, none⟩ = some (.int .i64 0) := bc_ B3 10 rfl; have hcz10_11 : w8.cell? ⟨g3, 11, none⟩ = some (.bool false) := bc_ B3 11 rfl; have hcz10_12 : w8.cell? ⟨g3, 12, none⟩ = some (.bool false) := bc_ B3 12 rfl; have hcz10_13 : w8.cell? ⟨g3, 13, none⟩ = some (.slice none 0 0) := bc_ B3 13 rfl; have hfz10_0 := blk_frozen B3.out 0; have hfz10_1 := blk_frozen B3.out 1; have hfz10_2 := blk_frozen B3.out 2; have hfz10_3 := blk_frozen B3.out 3; have hfz10_4 := blk_frozen B3.out 4; have hfz10_5 := blk_frozen B3.out 5; have hfz10_6 := blk_frozen B3.out 6; have hfz10_7 := blk_frozen B3.out 7; have hfz10_8 := blk_frozen B3.out 8; have hfz10_9 := blk_frozen B3.out 9; have hfz10_10 := blk_frozen B3.out 10; have hfz10_11 := blk_frozen B3.out 11; have hfz10_12 := blk_frozen B3.out 12; have hfz10_13 := blk_frozen B3.out 13) | ((with_reducible refine gate_callee (f:=10) rfl ?_); refine gL_ (some 15) rfl rfl Tryd.func10 rfl #[.agg #[.int .i64 ((rd_T28 l0_13 x9_1).f0), .int .i64 ((rd_T28 l0_13 x9_1).f1), .int .i64 ((rd_T28 l0_13 x9_1).f2.f0), .int .i64 ((rd_T28 l0_13 x9_1).f2.f1), .string ((rd_T28 l0_13 x9_1).f2.f2), .int .i64 ((rd_T28 l0_13 x9_1).f3.f0), .int .i64 ((rd_T28 l0_13 x9_1).f3.f1), .bool ((rd_T28 l0_13 x9_1).f3.f2), .bool ((rd_T28 l0_13 x9_1).f3.f3), .int .i64 ((rd_T28 l0_13 x9_1).f4.f0), .int .i64 ((rd_T28 l0_13 x9_1).f4.f1), .bool ((rd_T28 l0_13 x9_1).f4.f2), .bool ((rd_T28 l0_13 x9_1).f4.f3), .slice A102_13 ((rd_T28 l0_13 x9_1).f5).length c102_13]] rfl ?_; (with_reducible refine (ih k1 (by have := HK1.out; omega) ((rd_T28 l0_13 x9_1).f0) ((rd_T28 l0_13 x9_1).f1) ((rd_T28 l0_13 x9_1).f2.f0) ((rd_T28 l0_13 x9_1).f2.f1) ((rd_T28 l0_13 x9_1).f2.f2) ((rd_T28 l0_13 x9_1).f3.f0) ((rd_T28 l0_13 x9_1).f3.f1) ((rd_T28 l0_13 x9_1).f3.f2) ((rd_T28 l0_13 x9_1).f3.f3) ((rd_T28 l0_13 x9_1).f4.f0) ((rd_T28 l0_13 x9_1).f4.f1) ((rd_T28 l0_13 x9_1).f4.f2) ((rd_T28 l0_13 x9_1).f4.f3) _ _ ((rd_T28 l0_13 x9_1).f5) t104 _ ?side1 ?side2 A7.out).mono ?_); (case side1 => exact Kd.C_below HR102_13.out bl_); (case side2 => exact HC102_13.out); rintro e w11 ⟨rfl, hb⟩; refine ⟨_, rfl, ?_⟩; replace B1 := A_ (blk_below (g:=g1) (o := .cells #[.int .i64 a0_0, .int .i64 a0_1, .int .i64 a0_2, .int .i64 a0_3, .string a0_4, .int .i64 a0_5, .int .i64 a0_6, .bool a0_7, .bool a0_8, .int .i64 a0_9, .int .i64 a0_10, .bool a0_11, .bool a0_12, .slice (some ad102) l0_13.length c0_13] 28 (0, 0)) (by (iterate 14 refine pf_ ?_ N13.out); exact pkx B1) hb); replace B3 := A_ (blk_below (g:=g3) (o := .cells #[.int .i64 ((rd_T28 l0_13 x9_1).f0), .int .i64 ((rd_T28 l0_13 x9_1).f1), .int .i64 ((rd_T28 l0_13 x9_1).f2.f0), .int .i64 ((rd_T28 l0_13 x9_1).f2.f1), .string ((rd_T28 l0_13 x9_1).f2.f2), .int .i64 ((rd_T28 l0_13 x9_1).f3.f0), .int .i64 ((rd_T28 l0_13 x9_1).f3.f1), .bool ((rd_T28 l0_13 x9_1).f3.f2), .bool ((rd_T28 l0_13 x9_1).f3.f3), .int .i64 ((rd_T28 l0_13 x9_1).f4.f0), .int .i64 ((rd_T28 l0_13 x9_1).f4.f1), .bool ((rd_T28 l0_13 x9_1).f4.f2), .bool ((rd_T28 l0_13 x9_1).f4.f3), .slice A102_13 ((rd_T28 l0_13 x9_1).f5).length c102_13] 28 (0, 0)) (by refine pp_ (cs := #[.int .i64 ((rd_T28 l0_13 x9_1).f0), .int .i64 ((rd_T28 l0_13 x9_1).f1), .int .i64 ((rd_T28 l0_13 x9_1).f2.f0), .int .i64 ((rd_T28 l0_13 x9_1).f2.f1), .string ((rd_T28 l0_13 x9_1).f2.f2), .int .i64 ((rd_T28 l0_13 x9_1).f3.f0), .int .i64 ((rd_T28 l0_13 x9_1).f3.f1), .bool ((rd_T28 l0_13 x9_1).f3.f2), .bool ((rd_T28 l0_13 x9_1).f3.f3), .int .i64 ((rd_T28 l0_13 x9_1).f4.f0), .int .i64 ((rd_T28 l0_13 x9_1).f4.f1), .bool ((rd_T28 l0_13 x9_1).f4.f2), .bool ((rd_T28 l0_13 x9_1).f4.f3), .slice none 0 0]) 13 ?_ rfl; refine blk_put (cs := #[.int .i64 ((rd_T28 l0_13 x9_1).f0), .int .i64 ((rd_T28 l0_13 x9_1).f1), .int .i64 ((rd_T28 l0_13 x9_1).f2.f0), .int .i64 ((rd_T28 l0_13 x9_1).f2.f1), .string ((rd_T28 l0_13 x9_1).f2.f2), .int .i64 ((rd_T28 l0_13 x9_1).f3.f0), .int .i64 ((rd_T28 l0_13 x9_1).f3.f1), .bool ((rd_T28 l0_13 x9_1).f3.f2), .bool ((rd_T28 l0_13 x9_1).f3.f3), .int .i64 ((rd_T28 l0_13 x9_1).f4.f0), .int .i64 ((rd_T28 l0_13 x9_1).f4.f1), .bool ((rd_T28 l0_13 x9_1).f4.f2), .bool false, .slice none 0 0]) ?_ 12 _ rfl; refine blk_put (cs := #[.int .i64 ((rd_T28 l0_13 x9_1).f0), .int .i64 ((rd_T28 l0_13 x9_1).f1), .int .i64 ((rd_T28 l0_13 x9_1).f2.f0), .int .i64 ((rd_T28 l0_13 x9_1).f2.f1), .string ((rd_T28 l0_13 x9_1).f2.f2), .int .i64 ((rd_T28 l0_13 x9_1).f3.f0), .int .i64 ((rd_T28 l0_13 x9_1).f3.f1), .bool ((rd_T28 l0_13 x9_1).f3.f2), .bool ((rd_T28 l0_13 x9_1).f3.f3), .int .i64 ((rd_T28 l0_13 x9_1).f4.f0), .int .i64 ((rd_T28 l0_13 x9_1).f4.f1), .bool false, .bool false, .slice none 0 0]) ?_ 11 _ rfl; refine blk_put (cs := #[.int .i64 ((rd_T28 l0_13 x9_1).f0), .int .i64 ((rd_T28 l0_13 x9_1).f1), .int .i64 ((rd_T28 l0_13 x9_1).f2.f0), .int .i64 ((rd_T28 l0_13 x9_1).f2.f1), .string ((rd_T28 l0_13 x9_1).f2.f2), .int .i64 ((rd_T28 l0_13 x9_1).f3.f0), .int .i64 ((rd_T28 l0_13 x9_1).f3.f1), .bool ((rd_T28 l0_13 x9_1).f3.f2), .bool ((rd_T28 l0_13 x9_1).f3.f3), .int .i64 ((rd_T28 l0_13 x9_1).f4.f0), .int .i64 0, .bool false, .bool false, .slice none 0 0]) ?_ 10 _ rfl; refine blk_put (cs := #[.int .i64 ((rd_T28 l0_13 x9_1).f0), .int .i64 ((rd_T28 l0_13 x9_1).f1), .int .i64 ((rd_T28 l0_13 x9_1).f2.f0), .int .i64 ((rd_T28 l0_13 x9_1).f2.f1), .string ((rd_T28 l0_13 x9_1).f2.f2), .int .i64 ((rd_T28 l0_13 x9_1).f3.f0), .int .i64 ((rd_T28 l0_13 x9_1).f3.f1), .bool ((rd_T28 l0_13 x9_1).f3.f2), .bool ((rd_T28 l0_13 x9_1).f3.f3), .int .i64 0, .int .i64 0, .bool false, .bool false, .slice none 0 0]) ?_ 9 _ rfl; refine blk_put (cs := #[.int .i64 ((rd_T28 l0_13 x9_1).f0), .int .i64 ((rd_T28 l0_13 x9_1).f1), .int .i64 ((rd_T28 l0_13 x9_1).f2.f0), .int .i64 ((rd_T28 l0_13 x9_1).f2.f1), .string ((rd_T28 l0_13 x9_1).f2.f2), .int .i64 ((rd_T28 l0_13 x9_1).f3.f0), .int .i64 ((rd_T28 l0_13 x9_1).f3.f1), .bool ((rd_T28 l0_13 x9_1).f3.f2), .bool false, .int .i64 0, .int .i64 0, .bool false, .bool false, .slice none 0 0]) ?_ 8 _ rfl; refine blk_put (cs := #[.int .i64 ((rd_T28 l0_13 x9_1).f0), .int .i64 ((rd_T28 l0_13 x9_1).f1), .int .i64 ((rd_T28 l0_13 x9_1).f2.f0), .int .i64 ((rd_T28 l0_13 x9_1).f2.f1), .string ((rd_T28 l0_13 x9_1).f2.f2), .int .i64 ((rd_T28 l0_13 x9_1).f3.f0), .int .i64 ((rd_T28 l0_13 x9_1).f3.f1), .bool false, .bool false, .int .i64 0, .int .i64 0, .bool false, .bool false, .slice none 0 0]) ?_ 7 _ rfl; refine blk_put (cs := #[.int .i64 ((rd_T28 l0_13 x9_1).f0), .int .i64 ((rd_T28 l0_13 x9_1).f1), .int .i64 ((rd_T28 l0_13 x9_1).f2.f0), .int .i64 ((rd_T28 l0_13 x9_1).f2.f1), .string ((rd_T28 l0_13 x9_1).f2.f2), .int .i64 ((rd_T28 l0_13 x9_1).f3.f0), .int .i64 0, .bool false, .bool false, .int .i64 0, .int .i64 0, .bool false, .bool false, .slice none 0 0]) ?_ 6 _ rfl; refine blk_put (cs := #[.int .i64 ((rd_T28 l0_13 x9_1).f0), .int .i64 ((rd_T28 l0_13 x9_1).f1), .int .i64 ((rd_T28 l0_13 x9_1).f2.f0), .int .i64 ((rd_T28 l0_13 x9_1).f2.f1), .string ((rd_T28 l0_13 x9_1).f2.f2), .int .i64 0, .int .i64 0, .bool false, .bool false, .int .i64 0, .int .i64 0, .bool false, .bool false, .slice none 0 0]) ?_ 5 _ rfl; refine blk_put (cs := #[.int .i64 ((rd_T28 l0_13 x9_1).f0), .int .i64 ((rd_T28 l0_13 x9_1).f1), .int .i64 ((rd_T28 l0_13 x9_1).f2.f0), .int .i64 ((rd_T28 l0_13 x9_1).f2.f1), .string (⟨#[]⟩ : ByteArray), .int .i64 0, .int .i64 0, .bool false, .bool false, .int .i64 0, .int .i64 0, .bool false, .bool false, .slice none 0 0]) ?_ 4 _ rfl; (iterate 4 apply pp_); exact pkx B3; all_goals rfl) hb); replace HB := A_ (below_step (by repeat (first | (with_reducible first | exact HB.out | apply below_alloc | apply pw_below_drewN | apply below_drew1 | refine below_set ?_ GE101.out | refine below_set ?_ GE103.out) | exact HB.out)) hb); (try clear hb); ))
      go_roundg k1
      case measure => have := HK1.out; omega
      case rel => exact ⟨(wrap64 (x3_1 + t104)), (wrap64 (x9_1 + 1)), (by first | rfl | (simp; done) | (simp [*]; done) | (cases t104 <;> simp; done)), sq_, H', ⟨by have := HK1.out; omega⟩, ⟨pkx B1⟩, ⟨pbx HB⟩⟩
     ·rw [if_neg c6] at H
      exact absurd H (by simp)
    ·rw [if_neg c5] at H
     exact absurd H (by simp)
   ·rw [if_neg c4] at H; have c4b0 := decide_eq_false c4; clear c4; obtain rfl := Option.some.inj H
    go_wp2
    go_ret
    exact fi_ (pbx HB)

mutual
def node_Deep.l0 : Nat → Int → List (S28) → Int → Int → Option (Int)
 | 0, _, _, _, _ => none
 | k + 1, x3, x7, x8, x9 => if x9 < x8 then (if 0 ≤ x9 then (if x9 < (x7.length : Int) then ((node_Deep.f k ((rd_T28 x7 x9).f0) ((rd_T28 x7 x9).f1) ((rd_T28 x7 x9).f2.f0) ((rd_T28 x7 x9).f2.f1) ((rd_T28 x7 x9).f2.f2) ((rd_T28 x7 x9).f3.f0) ((rd_T28 x7 x9).f3.f1) ((rd_T28 x7 x9).f3.f2) ((rd_T28 x7 x9).f3.f3) ((rd_T28 x7 x9).f4.f0) ((rd_T28 x7 x9).f4.f1) ((rd_T28 x7 x9).f4.f2) ((rd_T28 x7 x9).f4.f3) ((rd_T28 x7 x9).f5)).bind fun t104 => (node_Deep.l0 k (mx x3 t104) x7 x8 (wrap64 (x9 + 1)))) else (none)) else (none)) else (some (wrap64 (x3 + 1)))
def node_Deep.f : Nat → Int → Int → Int → Int → ByteArray → Int → Int → Bool → Bool → Int → Int → Bool → Bool → List (S28) → Option (Int)
 | 0, _, _, _, _, _, _, _, _, _, _, _, _, _, _ => none
 | k + 1, a0_0, a0_1, a0_2, a0_3, a0_4, a0_5, a0_6, a0_7, a0_8, a0_9, a0_10, a0_11, a0_12, l0_13 => node_Deep.l0 k 0 l0_13 (l0_13.length : Int) 0
end
theorem node_Deep.mono_l : ∀ k, (∀ y0 y1 y2 y3 y4 y5 y6 y7 y8 y9 y10 y11 y12 y13, LeO (node_Deep.f k y0 y1 y2 y3 y4 y5 y6 y7 y8 y9 y10 y11 y12 y13) (node_Deep.f (k + 1) y0 y1 y2 y3 y4 y5 y6 y7 y8 y9 y10 y11 y12 y13)) ∧ (∀ y0 y1 y2 y3, LeO (node_Deep.l0 k y0 y1 y2 y3) (node_Deep.l0 (k + 1) y0 y1 y2 y3))
 | 0 => ⟨fun _ _ _ _ _ _ _ _ _ _ _ _ _ _ r h => by simp [node_Deep.f] at h, fun _ _ _ _ r h => by simp [node_Deep.l0] at h⟩
 | k + 1 => by
  obtain ⟨ih0, ih1⟩ := node_Deep.mono_l k
  refine ⟨?_, ?_⟩
  ·intro y0 y1 y2 y3 y4 y5 y6 y7 y8 y9 y10 y11 y12 y13
   unfold node_Deep.f
   exact mo_
  ·intro y0 y1 y2 y3
   unfold node_Deep.l0
   exact mo_
theorem node_Deep.mono : ∀ a0 a1 a2 a3 a4 a5 a6 a7 a8 a9 a10 a11 a12 a13 k, LeO (node_Deep.f k a0 a1 a2 a3 a4 a5 a6 a7 a8 a9 a10 a11 a12 a13) (node_Deep.f (k + 1) a0 a1 a2 a3 a4 a5 a6 a7 a8 a9 a10 a11 a12 a13) := by
 intro a0 a1 a2 a3 a4 a5 a6 a7 a8 a9 a10 a11 a12 a13 k; obtain ⟨ih0, ih1⟩ := node_Deep.mono_l k
 exact ih0 a0 a1 a2 a3 a4 a5 a6 a7 a8 a9 a10 a11 a12 a13
theorem node_Deep.calls (k : Nat) : ∀ (a0_0 : Int) (a0_1 : Int) (a0_2 : Int) (a0_3 : Int) (a0_4 : ByteArray) (a0_5 : Int) (a0_6 : Int) (a0_7 : Bool) (a0_8 : Bool) (a0_9 : Int) (a0_10 : Int) (a0_11 : Bool) (a0_12 : Bool) (A0_13 : Option Addr) (c0_13 : Nat) (l0_13 : List (S28)) (r : Int) (w : World) (hr0_13 : Kd.C k28 w A0_13 l0_13.length l0_13) (hc0_13 : l0_13.length ≤ c0_13) (h : node_Deep.f k a0_0 a0_1 a0_2 a0_3 a0_4 a0_5 a0_6 a0_7 a0_8 a0_9 a0_10 a0_11 a0_12 l0_13 = some r),
  Calls Tryd.prog 11 #[.agg #[.int .i64 a0_0, .int .i64 a0_1, .int .i64 a0_2, .int .i64 a0_3, .string a0_4, .int .i64 a0_5, .int .i64 a0_6, .bool a0_7, .bool a0_8, .int .i64 a0_9, .int .i64 a0_10, .bool a0_11, .bool a0_12, .slice A0_13 l0_13.length c0_13]] w fun e w' => e = .returned (.int .i64 r) ∧ Below w.heap.size w w' := by
 induction k using Nat.strongRecOn with
 | _ k ih =>
 intro a0_0 a0_1 a0_2 a0_3 a0_4 a0_5 a0_6 a0_7 a0_8 a0_9 a0_10 a0_11 a0_12 A0_13 c0_13 l0_13 r w hr0_13 hc0_13 h
 cases k with
 | zero => exact absurd h (by simp [node_Deep.f])
 | succ k =>
 simp only [node_Deep.f] at h
 have hu28 := Tryd.underlying28; have HR0_13 := A_ hr0_13; have HC0_13 := A_ hc0_13; clear hr0_13 hc0_13; have HB := A_ (Below.refl w.heap.size w)
 have H : (node_Deep.l0 k 0 l0_13 (l0_13.length : Int) 0) = some r := h
 clear h
 have H' := A_ H
 clear H
 go_enter Tryd.func11, Tryd.ntmps11
 go_wp2_with (first | ((with_reducible refine gd_ 1 ?_); refine be_ (N:=1) (cs := #[.int .i64 a0_0, .int .i64 a0_1, .int .i64 a0_2, .int .i64 a0_3, .string a0_4, .int .i64 a0_5, .int .i64 a0_6, .bool a0_7, .bool a0_8, .int .i64 a0_9, .int .i64 a0_10, .bool a0_11, .bool a0_12, .slice A0_13 l0_13.length c0_13]) (t:=28) ?_; intro g1 hg w2 hbox hb; have B1 := A_ (hbox); have GW101 := hs_ HB hg; have GE101 := hs_ HB hg; replace HB := bs_ HB hb; clear hb hbox hg; have hcz3_0 : w2.cell? ⟨g1, 0, none⟩ = some (.int .i64 a0_0) := bc_ B1 0 rfl; have hcz3_1 : w2.cell? ⟨g1, 1, none⟩ = some (.int .i64 a0_1) := bc_ B1 1 rfl; have hcz3_2 : w2.cell? ⟨g1, 2, none⟩ = some (.int .i64 a0_2) := bc_ B1 2 rfl; have hcz3_3 : w2.cell? ⟨g1, 3, none⟩ = some (.int .i64 a0_3) := bc_ B1 3 rfl; have hcz3_4 : w2.cell? ⟨g1, 4, none⟩ = some (.string a0_4) := bc_ B1 4 rfl; have hcz3_5 : w2.cell? ⟨g1, 5, none⟩ = some (.int .i64 a0_5) := bc_ B1 5 rfl; have hcz3_6 : w2.cell? ⟨g1, 6, none⟩ = some (.int .i64 a0_6) := bc_ B1 6 rfl; have hcz3_7 : w2.cell? ⟨g1, 7, none⟩ = some (.bool a0_7) := bc_ B1 7 rfl; have hcz3_8 : w2.cell? ⟨g1, 8, none⟩ = some (.bool a0_8) := bc_ B1 8 rfl; have hcz3_9 : w2.cell? ⟨g1, 9, none⟩ = some (.int .i64 a0_9) := bc_ B1 9 rfl; have hcz3_10 : w2.cell? ⟨g1, 10, none⟩ = some (.int .i64 a0_10) := bc_ B1 10 rfl; have hcz3_11 : w2.cell? ⟨g1, 11, none⟩ = some (.bool a0_11) := bc_ B1 11 rfl; have hcz3_12 : w2.cell? ⟨g1, 12, none⟩ = some (.bool a0_12) := bc_ B1 12 rfl; have hcz3_13 : w2.cell? ⟨g1, 13, none⟩ = some (.slice A0_13 l0_13.length c0_13) := bc_ B1 13 rfl; have hfz3_0 := blk_frozen B1.out 0; have hfz3_1 := blk_frozen B1.out 1; have hfz3_2 := blk_frozen B1.out 2; have hfz3_3 := blk_frozen B1.out 3; have hfz3_4 := blk_frozen B1.out 4; have hfz3_5 := blk_frozen B1.out 5; have hfz3_6 := blk_frozen B1.out 6; have hfz3_7 := blk_frozen B1.out 7; have hfz3_8 := blk_frozen B1.out 8; have hfz3_9 := blk_frozen B1.out 9; have hfz3_10 := blk_frozen B1.out 10; have hfz3_11 := blk_frozen B1.out 11; have hfz3_12 := blk_frozen B1.out 12; have hfz3_13 := blk_frozen B1.out 13))
 go_loopg [3, 9] k (fun kq v3 v9 w' => ∃ (x3_1 : Int) (x9_1 : Int), v3 = .int .i64 x3_1 ∧ v9 = .int .i64 x9_1 ∧ Aside0 (node_Deep.l0 kq x3_1 l0_13 (l0_13.length : Int) x9_1 = some r) ∧ Aside0 (kq ≤ k) ∧ Aside0 (w'.heap[g1]? = some (.cells #[.int .i64 a0_0, .int .i64 a0_1, .int .i64 a0_2, .int .i64 a0_3, .string a0_4, .int .i64 a0_5, .int .i64 a0_6, .bool a0_7, .bool a0_8, .int .i64 a0_9, .int .i64 a0_10, .bool a0_11, .bool a0_12, (.slice A0_13 l0_13.length c0_13)] 28 (0, 0))) ∧ Aside0 (Below w.heap.size w w'))
 case atStart => exact ⟨(0), (0), sq_, sq_, H', ⟨Nat.le_refl _⟩, ⟨pkx B1⟩, ⟨pbx HB⟩⟩
 case round =>
  clear H'; (try clear hcz3_0); (try clear hcz3_1); (try clear hcz3_10); (try clear hcz3_11); (try clear hcz3_12); (try clear hcz3_13); (try clear hcz3_2); (try clear hcz3_3); (try clear hcz3_4); (try clear hcz3_5); (try clear hcz3_6); (try clear hcz3_7); (try clear hcz3_8); (try clear hcz3_9); (try clear hfz3_0); (try clear hfz3_1); (try clear hfz3_10); (try clear hfz3_11); (try clear hfz3_12); (try clear hfz3_13); (try clear hfz3_2); (try clear hfz3_3); (try clear hfz3_4); (try clear hfz3_5); (try clear hfz3_6); (try clear hfz3_7); (try clear hfz3_8); (try clear hfz3_9); obtain ⟨x3_1, x9_1, rfl, rfl, HA, HK1, B1, HB⟩ := hrel
  cases gk with
  | zero => exact absurd HA.out (by simp [node_Deep.l0])
  | succ k1 =>
   have H := HA.out; clear HA
   simp only [node_Deep.l0] at H
   by_cases c4 : x9_1 < (l0_13.length : Int)
   ·rw [if_pos c4] at H; have c4b0 := decide_eq_true c4; clear c4
    by_cases c5 : 0 ≤ x9_1
    ·rw [if_pos c5] at H; have c5b0 := decide_eq_true c5; clear c5
     by_cases c6 : x9_1 < (l0_13.length : Int)
     ·rw [if_pos c6] at H; have c6b0 := decide_eq_true c6; clear c6; obtain ⟨t104, A7, H⟩ := bo_ H; obtain ⟨ji8, hji8⟩ : ∃ j_ : Int, (mx x3_1 t104) = j_ := ⟨_, rfl⟩
      replace H : (node_Deep.l0 k1 ji8 l0_13 (l0_13.length : Int) (wrap64 (x9_1 + 1))) = some r := by first | (rw [hji8] at H; exact H) | (simp only [hji8] at H ⊢; exact H)
      (try rw [hji8] at A7)
      have hji8_ : (if x3_1 < t104 then t104 else x3_1) = ji8 := hji8
      have H' := A_ H
      clear H
      have p102 : 0 ≤ (x9_1 : Int) := of_decide_eq_true as_
      have q102 : x9_1 < (l0_13.length : Int) := of_decide_eq_true as_
      obtain ⟨ad102, A102_13, c102_13, e102, hx102_0, hx102_1, hx102_2, hx102_3, hx102_4, hx102_5, hx102_6, hx102_7, hx102_8, hx102_9, hx102_10, hx102_11, hx102_12, hx102_13, hl102_13, hi102_13⟩ := at_T28 HR0_13.out x9_1 p102 q102
      cases e102
      replace hx102_0 := (HB.out.cell (World.block_lt_of_cell? w _ hx102_0)).trans hx102_0; replace hx102_1 := (HB.out.cell (World.block_lt_of_cell? w _ hx102_1)).trans hx102_1; replace hx102_2 := (HB.out.cell (World.block_lt_of_cell? w _ hx102_2)).trans hx102_2; replace hx102_3 := (HB.out.cell (World.block_lt_of_cell? w _ hx102_3)).trans hx102_3; replace hx102_4 := (HB.out.cell (World.block_lt_of_cell? w _ hx102_4)).trans hx102_4; replace hx102_5 := (HB.out.cell (World.block_lt_of_cell? w _ hx102_5)).trans hx102_5; replace hx102_6 := (HB.out.cell (World.block_lt_of_cell? w _ hx102_6)).trans hx102_6; replace hx102_7 := (HB.out.cell (World.block_lt_of_cell? w _ hx102_7)).trans hx102_7; replace hx102_8 := (HB.out.cell (World.block_lt_of_cell? w _ hx102_8)).trans hx102_8; replace hx102_9 := (HB.out.cell (World.block_lt_of_cell? w _ hx102_9)).trans hx102_9; replace hx102_10 := (HB.out.cell (World.block_lt_of_cell? w _ hx102_10)).trans hx102_10
      replace hx102_11 := (HB.out.cell (World.block_lt_of_cell? w _ hx102_11)).trans hx102_11; replace hx102_12 := (HB.out.cell (World.block_lt_of_cell? w _ hx102_12)).trans hx102_12; replace hx102_13 := (HB.out.cell (World.block_lt_of_cell? w _ hx102_13)).trans hx102_13; have HR102_13 := A_ hi102_13; have HC102_13 := A_ hl102_13; clear hi102_13 hl102_13; replace p102 := eq_true p102; replace q102 := eq_true q102
      go_wp2_with (first | ((with_reducible refine gd_ 5 ?_); refine be_ (N:=5) (cs := #[.int .i64 0, .int .i64 0, .int .i64 0, .int .i64 0, .string (⟨#[]⟩ : ByteArray), .int .i64 0, .int .i64 0, .bool false, .bool false, .int .i64 0, .int .i64 0, .bool false, .bool false, .slice none 0 0]) (t:=28) ?_; intro g3 hg w9 hbox hb; have B3 := A_ (hbox); have GW103 := hs_ HB hg; have GE103 := hs_ HB hg; have N13 := hl_ B1 hg; have N31 := hr_ B1 hg; replace B1 := bb_ B1 hb; replace HB := bs_ HB hb; clear hb hbox hg; have hnb10 := N31.out; have hnc10 := N13.out; have hcz11_0 : w9.cell? ⟨g3, 0, none⟩ = some (.int .i64 0) := bc_ B3 0 rfl; have hcz11_1 : w9.cell? ⟨g3, 1, none⟩ = some (.int .i64 0) := bc_ B3 1 rfl; have hcz11_2 : w9.cell? ⟨g3, 2, none⟩ = some (.int .i64 0) := bc_ B3 2 rfl; have hcz11_3 : w9.cell? ⟨g3, 3, none⟩ = some (.int .i64 0) := bc_ B3 3 rfl; have hcz11_4 : w9.cell? ⟨g3, 4, none⟩ = some (.string (⟨#[]⟩ : ByteArray)) := bc_ B3 4 rfl; have hcz11_5 : w9.cell? ⟨g3, 5, none⟩ = some (.int .i64 0) := bc_ B3 5 rfl; have hcz11_6 : w9.cell? ⟨g3, 6, none⟩ = some (.int .i64 0) := bc_ B3 6 rfl; have hcz11_7 : w9.cell? ⟨g3, 7, none⟩ = some (.bool false) := bc_ B3 7 rfl; have hcz11_8 : w9.cell? ⟨g3, 8, none⟩ = some (.bool false) := bc_ B3 8 rfl; have hcz11_9 : w9.cell? ⟨g3, 9, none⟩ = some (.int .i64 0) := bc_ B3 9 rfl; have hcz11_10 : w9.cell? ⟨g3, 10, none⟩ = some (.int .i64 0) := bc_ B3 10 rfl; have hcz11_11 : w9.cell? ⟨g3, 11, none⟩ = some (.bool false) := bc_ B3 11 rfl; have hcz11_12 : w9.cell? ⟨g3, 12, none⟩ = some (.bool false) := bc_ B3 12 rfl; have hcz11_13 : w9.cell? ⟨g3, 13, none⟩ = some (.slice none 0 0) := bc_ B3 13 rfl; have hfz11_0 := blk_frozen B3.out 0; have hfz11_1 := blk_frozen B3.out 1; have hfz11_2 := blk_frozen B3.out 2; have hfz11_3 := blk_frozen B3.out 3; have hfz11_4 := blk_frozen B3.out 4; have hfz11_5 := blk_frozen B3.out 5; have hfz11_6 := blk_frozen B3.out 6; have hfz11_7 := blk_frozen B3.out 7; have hfz11_8 := blk_frozen B3.out 8; have hfz11_9 := blk_frozen B3.out 9; have hfz11_10 := blk_frozen B3.out 10; have hfz11_11 := blk_frozen B3.out 11; have hfz11_12 := blk_frozen B3.out 12; have hfz11_13 := blk_frozen B3.out 13) | ((with_reducible refine gate_callee (f:=11) rfl ?_); refine gL_ (some 15) rfl rfl Tryd.func11 rfl #[.agg #[.int .i64 ((rd_T28 l0_13 x9_1).f0), .int .i64 ((rd_T28 l0_13 x9_1).f1), .int .i64 ((rd_T28 l0_13 x9_1).f2.f0), .int .i64 ((rd_T28 l0_13 x9_1).f2.f1), .string ((rd_T28 l0_13 x9_1).f2.f2), .int .i64 ((rd_T28 l0_13 x9_1).f3.f0), .int .i64 ((rd_T28 l0_13 x9_1).f3.f1), .bool ((rd_T28 l0_13 x9_1).f3.f2), .bool ((rd_T28 l0_13 x9_1).f3.f3), .int .i64 ((rd_T28 l0_13 x9_1).f4.f0), .int .i64 ((rd_T28 l0_13 x9_1).f4.f1), .bool ((rd_T28 l0_13 x9_1).f4.f2), .bool ((rd_T28 l0_13 x9_1).f4.f3), .slice A102_13 ((rd_T28 l0_13 x9_1).f5).length c102_13]] rfl ?_; (with_reducible refine (ih k1 (by have := HK1.out; omega) ((rd_T28 l0_13 x9_1).f0) ((rd_T28 l0_13 x9_1).f1) ((rd_T28 l0_13 x9_1).f2.f0) ((rd_T28 l0_13 x9_1).f2.f1) ((rd_T28 l0_13 x9_1).f2.f2) ((rd_T28 l0_13 x9_1).f3.f0) ((rd_T28 l0_13 x9_1).f3.f1) ((rd_T28 l0_13 x9_1).f3.f2) ((rd_T28 l0_13 x9_1).f3.f3) ((rd_T28 l0_13 x9_1).f4.f0) ((rd_T28 l0_13 x9_1).f4.f1) ((rd_T28 l0_13 x9_1).f4.f2) ((rd_T28 l0_13 x9_1).f4.f3) _ _ ((rd_T28 l0_13 x9_1).f5) t104 _ ?side1 ?side2 A7.out).mono ?_); (case side1 => exact Kd.C_below HR102_13.out bl_); (case side2 => exact HC102_13.out); rintro e w12 ⟨rfl, hb⟩; refine ⟨_, rfl, ?_⟩; replace B1 := A_ (blk_below (g:=g1) (o := .cells #[.int .i64 a0_0, .int .i64 a0_1, .int .i64 a0_2, .int .i64 a0_3, .string a0_4, .int .i64 a0_5, .int .i64 a0_6, .bool a0_7, .bool a0_8, .int .i64 a0_9, .int .i64 a0_10, .bool a0_11, .bool a0_12, .slice (some ad102) l0_13.length c0_13] 28 (0, 0)) (by (iterate 14 refine pf_ ?_ N13.out); exact pkx B1) hb); replace B3 := A_ (blk_below (g:=g3) (o := .cells #[.int .i64 ((rd_T28 l0_13 x9_1).f0), .int .i64 ((rd_T28 l0_13 x9_1).f1), .int .i64 ((rd_T28 l0_13 x9_1).f2.f0), .int .i64 ((rd_T28 l0_13 x9_1).f2.f1), .string ((rd_T28 l0_13 x9_1).f2.f2), .int .i64 ((rd_T28 l0_13 x9_1).f3.f0), .int .i64 ((rd_T28 l0_13 x9_1).f3.f1), .bool ((rd_T28 l0_13 x9_1).f3.f2), .bool ((rd_T28 l0_13 x9_1).f3.f3), .int .i64 ((rd_T28 l0_13 x9_1).f4.f0), .int .i64 ((rd_T28 l0_13 x9_1).f4.f1), .bool ((rd_T28 l0_13 x9_1).f4.f2), .bool ((rd_T28 l0_13 x9_1).f4.f3), .slice A102_13 ((rd_T28 l0_13 x9_1).f5).length c102_13] 28 (0, 0)) (by refine pp_ (cs := #[.int .i64 ((rd_T28 l0_13 x9_1).f0), .int .i64 ((rd_T28 l0_13 x9_1).f1), .int .i64 ((rd_T28 l0_13 x9_1).f2.f0), .int .i64 ((rd_T28 l0_13 x9_1).f2.f1), .string ((rd_T28 l0_13 x9_1).f2.f2), .int .i64 ((rd_T28 l0_13 x9_1).f3.f0), .int .i64 ((rd_T28 l0_13 x9_1).f3.f1), .bool ((rd_T28 l0_13 x9_1).f3.f2), .bool ((rd_T28 l0_13 x9_1).f3.f3), .int .i64 ((rd_T28 l0_13 x9_1).f4.f0), .int .i64 ((rd_T28 l0_13 x9_1).f4.f1), .bool ((rd_T28 l0_13 x9_1).f4.f2), .bool ((rd_T28 l0_13 x9_1).f4.f3), .slice none 0 0]) 13 ?_ rfl; refine blk_put (cs := #[.int .i64 ((rd_T28 l0_13 x9_1).f0), .int .i64 ((rd_T28 l0_13 x9_1).f1), .int .i64 ((rd_T28 l0_13 x9_1).f2.f0), .int .i64 ((rd_T28 l0_13 x9_1).f2.f1), .string ((rd_T28 l0_13 x9_1).f2.f2), .int .i64 ((rd_T28 l0_13 x9_1).f3.f0), .int .i64 ((rd_T28 l0_13 x9_1).f3.f1), .bool ((rd_T28 l0_13 x9_1).f3.f2), .bool ((rd_T28 l0_13 x9_1).f3.f3), .int .i64 ((rd_T28 l0_13 x9_1).f4.f0), .int .i64 ((rd_T28 l0_13 x9_1).f4.f1), .bool ((rd_T28 l0_13 x9_1).f4.f2), .bool false, .slice none 0 0]) ?_ 12 _ rfl; refine blk_put (cs := #[.int .i64 ((rd_T28 l0_13 x9_1).f0), .int .i64 ((rd_T28 l0_13 x9_1).f1), .int .i64 ((rd_T28 l0_13 x9_1).f2.f0), .int .i64 ((rd_T28 l0_13 x9_1).f2.f1), .string ((rd_T28 l0_13 x9_1).f2.f2), .int .i64 ((rd_T28 l0_13 x9_1).f3.f0), .int .i64 ((rd_T28 l0_13 x9_1).f3.f1), .bool ((rd_T28 l0_13 x9_1).f3.f2), .bool ((rd_T28 l0_13 x9_1).f3.f3), .int .i64 ((rd_T28 l0_13 x9_1).f4.f0), .int .i64 ((rd_T28 l0_13 x9_1).f4.f1), .bool false, .bool false, .slice none 0 0]) ?_ 11 _ rfl; refine blk_put (cs := #[.int .i64 ((rd_T28 l0_13 x9_1).f0), .int .i64 ((rd_T28 l0_13 x9_1).f1), .int .i64 ((rd_T28 l0_13 x9_1).f2.f0), .int .i64 ((rd_T28 l0_13 x9_1).f2.f1), .string ((rd_T28 l0_13 x9_1).f2.f2), .int .i64 ((rd_T28 l0_13 x9_1).f3.f0), .int .i64 ((rd_T28 l0_13 x9_1).f3.f1), .bool ((rd_T28 l0_13 x9_1).f3.f2), .bool ((rd_T28 l0_13 x9_1).f3.f3), .int .i64 ((rd_T28 l0_13 x9_1).f4.f0), .int .i64 0, .bool false, .bool false, .slice none 0 0]) ?_ 10 _ rfl; refine blk_put (cs := #[.int .i64 ((rd_T28 l0_13 x9_1).f0), .int .i64 ((rd_T28 l0_13 x9_1).f1), .int .i64 ((rd_T28 l0_13 x9_1).f2.f0), .int .i64 ((rd_T28 l0_13 x9_1).f2.f1), .string ((rd_T28 l0_13 x9_1).f2.f2), .int .i64 ((rd_T28 l0_13 x9_1).f3.f0), .int .i64 ((rd_T28 l0_13 x9_1).f3.f1), .bool ((rd_T28 l0_13 x9_1).f3.f2), .bool ((rd_T28 l0_13 x9_1).f3.f3), .int .i64 0, .int .i64 0, .bool false, .bool false, .slice none 0 0]) ?_ 9 _ rfl; refine blk_put (cs := #[.int .i64 ((rd_T28 l0_13 x9_1).f0), .int .i64 ((rd_T28 l0_13 x9_1).f1), .int .i64 ((rd_T28 l0_13 x9_1).f2.f0), .int .i64 ((rd_T28 l0_13 x9_1).f2.f1), .string ((rd_T28 l0_13 x9_1).f2.f2), .int .i64 ((rd_T28 l0_13 x9_1).f3.f0), .int .i64 ((rd_T28 l0_13 x9_1).f3.f1), .bool ((rd_T28 l0_13 x9_1).f3.f2), .bool false, .int .i64 0, .int .i64 0, .bool false, .bool false, .slice none 0 0]) ?_ 8 _ rfl; refine blk_put (cs := #[.int .i64 ((rd_T28 l0_13 x9_1).f0), .int .i64 ((rd_T28 l0_13 x9_1).f1), .int .i64 ((rd_T28 l0_13 x9_1).f2.f0), .int .i64 ((rd_T28 l0_13 x9_1).f2.f1), .string ((rd_T28 l0_13 x9_1).f2.f2), .int .i64 ((rd_T28 l0_13 x9_1).f3.f0), .int .i64 ((rd_T28 l0_13 x9_1).f3.f1), .bool false, .bool false, .int .i64 0, .int .i64 0, .bool false, .bool false, .slice none 0 0]) ?_ 7 _ rfl; refine blk_put (cs := #[.int .i64 ((rd_T28 l0_13 x9_1).f0), .int .i64 ((rd_T28 l0_13 x9_1).f1), .int .i64 ((rd_T28 l0_13 x9_1).f2.f0), .int .i64 ((rd_T28 l0_13 x9_1).f2.f1), .string ((rd_T28 l0_13 x9_1).f2.f2), .int .i64 ((rd_T28 l0_13 x9_1).f3.f0), .int .i64 0, .bool false, .bool false, .int .i64 0, .int .i64 0, .bool false, .bool false, .slice none 0 0]) ?_ 6 _ rfl; refine blk_put (cs := #[.int .i64 ((rd_T28 l0_13 x9_1).f0), .int .i64 ((rd_T28 l0_13 x9_1).f1), .int .i64 ((rd_T28 l0_13 x9_1).f2.f0), .int .i64 ((rd_T28 l0_13 x9_1).f2.f1), .string ((rd_T28 l0_13 x9_1).f2.f2), .int .i64 0, .int .i64 0, .bool false, .bool false, .int .i64 0, .int .i64 0, .bool false, .bool false, .slice none 0 0]) ?_ 5 _ rfl; refine blk_put (cs := #[.int .i64 ((rd_T28 l0_13 x9_1).f0), .int .i64 ((rd_T28 l0_13 x9_1).f1), .int .i64 ((rd_T28 l0_13 x9_1).f2.f0), .int .i64 ((rd_T28 l0_13 x9_1).f2.f1), .string (⟨#[]⟩ : ByteArray), .int .i64 0, .int .i64 0, .bool false, .bool false, .int .i64 0, .int .i64 0, .bool false, .bool false, .slice none 0 0]) ?_ 4 _ rfl; (iterate 4 apply pp_); exact pkx B3; all_goals rfl) hb); replace HB := A_ (below_step (by repeat (first | (with_reducible first | exact HB.out | apply below_alloc | apply pw_below_drewN | apply below_drew1 | refine below_set ?_ GE101.out | refine below_set ?_ GE103.out) | exact HB.out)) hb); (try clear hb); ))
      go_roundg k1
      case measure => have := HK1.out; omega
      case rel => exact ⟨(ji8), (wrap64 (x9_1 + 1)), (by first | rfl | (simp; done) | (simp only [← hji8] <;> (first | rfl | simp)) | (simp [*]; done)), sq_, H', ⟨by have := HK1.out; omega⟩, ⟨pkx B1⟩, ⟨pbx HB⟩⟩
     ·rw [if_neg c6] at H
      exact absurd H (by simp)
    ·rw [if_neg c5] at H
     exact absurd H (by simp)
   ·rw [if_neg c4] at H; have c4b0 := decide_eq_false c4; clear c4; obtain rfl := Option.some.inj H
    go_wp2
    go_ret
    exact fi_ (pbx HB)

def dec_May.f (a0 : Int) : Option (Bool) := some (a0 != (-9223372036854775808))
theorem dec_May.calls (a0 : Int) (r : Bool) (w : World) (h : dec_May.f a0 = some r) :
  Calls Tryd.prog 39 #[.int .i64 a0] w fun e w' => e = .returned (.bool r) ∧ Drawn0 w w' := by
 have H : (some (a0 != (-9223372036854775808))) = some r := h
 clear h; obtain rfl := Option.some.inj H
 go_enter Tryd.func39, Tryd.ntmps39
 go_wp2
 go_ret
 exact ⟨by first | rfl | (simp; done) | (simp [*]; done), dr_⟩

def value_May.f (a0_0 : Int) (a0_1 : Int) (a0_2 : ByteArray) : Option (Bool) := if a0_0 = 0 then (if a0_1 = 0 then (some (a0_2.toList == ([] : List UInt8))) else (some false)) else (if a0_0 = 1 then ((dec_May.f a0_1).bind fun t102 => (if t102 = true then (some (a0_2.toList == ([] : List UInt8))) else (some false))) else (if a0_0 = 2 then (if a0_1 = 0 then (some (decide ((a0_2.size : Int) ≤ 256))) else (some false)) else (if a0_0 = 3 then (if a0_1 = 0 then (some (a0_2.toList == ([] : List UInt8))) else (if a0_1 = 1 then (some (a0_2.toList == ([] : List UInt8))) else (some false))) else (if a0_0 = 4 then (if a0_1 ≥ 1 then (if a0_1 ≤ 7 then (some (a0_2.toList == ([] : List UInt8))) else (some false)) else (some false)) else (some false)))))
theorem value_May.calls (a0_0 : Int) (a0_1 : Int) (a0_2 : ByteArray) (r : Bool) (w : World) (h : value_May.f a0_0 a0_1 a0_2 = some r) :
  Calls Tryd.prog 27 #[.agg #[.int .i64 a0_0, .int .i64 a0_1, .string a0_2]] w fun e w' => e = .returned (.bool r) ∧ Below w.heap.size w w' := by
 have hu23 := Tryd.underlying23; have HB := A_ (Below.refl w.heap.size w)
 have H : (if a0_0 = 0 then (if a0_1 = 0 then (some (a0_2.toList == ([] : List UInt8))) else (some false)) else (if a0_0 = 1 then ((dec_May.f a0_1).bind fun t102 => (if t102 = true then (some (a0_2.toList == ([] : List UInt8))) else (some false))) else (if a0_0 = 2 then (if a0_1 = 0 then (some (decide ((a0_2.size : Int) ≤ 256))) else (some false)) else (if a0_0 = 3 then (if a0_1 = 0 then (some (a0_2.toList == ([] : List UInt8))) else (if a0_1 = 1 then (some (a0_2.toList == ([] : List UInt8))) else (some false))) else (if a0_0 = 4 then (if a0_1 ≥ 1 then (if a0_1 ≤ 7 then (some (a0_2.toList == ([] : List UInt8))) else (some false)) else (some false)) else (some false)))))) = some r := h
 clear h
 by_cases c2 : a0_0 = 0
 ·rw [if_pos c2] at H; have ⟨c2b0,c2b1⟩ := e1_ c2; clear c2
  by_cases c3 : a0_1 = 0
  ·rw [if_pos c3] at H; have ⟨c3b0,c3b1⟩ := e1_ c3; clear c3; obtain rfl := Option.some.inj H
   go_enter Tryd.func27, Tryd.ntmps27
   go_wp2_with (first | ((with_reducible refine gd_ 1 ?_); (try (refine gate_guard (by rfl) ?_; dsimp only)); refine be_ (N:=1) (cs := #[.int .i64 a0_0, .int .i64 a0_1, .string a0_2]) (t:=23) ?_; intro g1 hg w4 hbox hb; have B1 := A_ (hbox); replace HB := bs_ HB hb; clear hb hbox hg; have hcz5_0 : w4.cell? ⟨g1, 0, none⟩ = some (.int .i64 a0_0) := bc_ B1 0 rfl; have hcz5_1 : w4.cell? ⟨g1, 1, none⟩ = some (.int .i64 a0_1) := bc_ B1 1 rfl; have hcz5_2 : w4.cell? ⟨g1, 2, none⟩ = some (.string a0_2) := bc_ B1 2 rfl))
   go_ret
   exact fi_ (pbx HB)
  ·rw [if_neg c3] at H; have ⟨c3b0,c3b1⟩ := e0_ c3; obtain rfl := Option.some.inj H
   go_enter Tryd.func27, Tryd.ntmps27
   go_wp2_with (first | ((with_reducible refine gd_ 1 ?_); (try (refine gate_guard (by rfl) ?_; dsimp only)); refine be_ (N:=1) (cs := #[.int .i64 a0_0, .int .i64 a0_1, .string a0_2]) (t:=23) ?_; intro g1 hg w6 hbox hb; have B1 := A_ (hbox); replace HB := bs_ HB hb; clear hb hbox hg; have hcz7_0 : w6.cell? ⟨g1, 0, none⟩ = some (.int .i64 a0_0) := bc_ B1 0 rfl; have hcz7_1 : w6.cell? ⟨g1, 1, none⟩ = some (.int .i64 a0_1) := bc_ B1 1 rfl; have hcz7_2 : w6.cell? ⟨g1, 2, none⟩ = some (.string a0_2) := bc_ B1 2 rfl))
   go_ret
   exact fi_ (pbx HB)
 ·rw [if_neg c2] at H; have ⟨c2b0,c2b1⟩ := e0_ c2
  by_cases c8 : a0_0 = 1
  ·rw [if_pos c8] at H; have ⟨c8b0,c8b1⟩ := e1_ c8; clear c8; obtain ⟨t102, A9, H⟩ := bo_ H
   replace H := ib_ H; rcases H with ⟨rfl,H⟩|⟨rfl,H⟩
   ·obtain rfl := Option.some.inj H
    go_enter Tryd.func27, Tryd.ntmps27
    go_wp2_with (first | ((with_reducible refine gd_ 1 ?_); (try (refine gate_guard (by rfl) ?_; dsimp only)); refine be_ (N:=1) (cs := #[.int .i64 a0_0, .int .i64 a0_1, .string a0_2]) (t:=23) ?_; intro g1 hg w11 hbox hb; have B1 := A_ (hbox); replace HB := bs_ HB hb; clear hb hbox hg; have hcz12_0 : w11.cell? ⟨g1, 0, none⟩ = some (.int .i64 a0_0) := bc_ B1 0 rfl; have hcz12_1 : w11.cell? ⟨g1, 1, none⟩ = some (.int .i64 a0_1) := bc_ B1 1 rfl; have hcz12_2 : w11.cell? ⟨g1, 2, none⟩ = some (.string a0_2) := bc_ B1 2 rfl) | ((with_reducible refine gate_callee (f:=39) rfl ?_); refine gL_ (some 19) rfl rfl Tryd.func39 rfl #[.int .i64 a0_1] rfl ?_; (with_reducible refine (dec_May.calls a0_1 true _ A9.out).mono ?_); rintro e w' ⟨rfl, ⟨nd, rfl⟩⟩; refine ⟨_, rfl, ?_⟩))
    go_ret
    exact fi_ (pbx HB)
   ·obtain rfl := Option.some.inj H
    go_enter Tryd.func27, Tryd.ntmps27
    go_wp2_with (first | ((with_reducible refine gd_ 1 ?_); (try (refine gate_guard (by rfl) ?_; dsimp only)); refine be_ (N:=1) (cs := #[.int .i64 a0_0, .int .i64 a0_1, .string a0_2]) (t:=23) ?_; intro g1 hg w13 hbox hb; have B1 := A_ (hbox); replace HB := bs_ HB hb; clear hb hbox hg; have hcz14_0 : w13.cell? ⟨g1, 0, none⟩ = some (.int .i64 a0_0) := bc_ B1 0 rfl; have hcz14_1 : w13.cell? ⟨g1, 1, none⟩ = some (.int .i64 a0_1) := bc_ B1 1 rfl; have hcz14_2 : w13.cell? ⟨g1, 2, none⟩ = some (.string a0_2) := bc_ B1 2 rfl) | ((with_reducible refine gate_callee (f:=39) rfl ?_); refine gL_ (some 19) rfl rfl Tryd.func39 rfl #[.int .i64 a0_1] rfl ?_; (with_reducible refine (dec_May.calls a0_1 false _ A9.out).mono ?_); rintro e w' ⟨rfl, ⟨nd, rfl⟩⟩; refine ⟨_, rfl, ?_⟩))
    go_ret
    exact fi_ (pbx HB)
  ·rw [if_neg c8] at H; have ⟨c8b0,c8b1⟩ := e0_ c8
   by_cases c15 : a0_0 = 2
   ·rw [if_pos c15] at H; have ⟨c15b0,c15b1⟩ := e1_ c15; clear c15
    by_cases c16 : a0_1 = 0
    ·rw [if_pos c16] at H; have ⟨c16b0,c16b1⟩ := e1_ c16; clear c16; obtain rfl := Option.some.inj H
     go_enter Tryd.func27, Tryd.ntmps27
     go_wp2_with (first | ((with_reducible refine gd_ 1 ?_); (try (refine gate_guard (by rfl) ?_; dsimp only)); refine be_ (N:=1) (cs := #[.int .i64 a0_0, .int .i64 a0_1, .string a0_2]) (t:=23) ?_; intro g1 hg w17 hbox hb; have B1 := A_ (hbox); replace HB := bs_ HB hb; clear hb hbox hg; have hcz18_0 : w17.cell? ⟨g1, 0, none⟩ = some (.int .i64 a0_0) := bc_ B1 0 rfl; have hcz18_1 : w17.cell? ⟨g1, 1, none⟩ = some (.int .i64 a0_1) := bc_ B1 1 rfl; have hcz18_2 : w17.cell? ⟨g1, 2, none⟩ = some (.string a0_2) := bc_ B1 2 rfl))
     go_ret
     exact fi_ (pbx HB)
    ·rw [if_neg c16] at H; have ⟨c16b0,c16b1⟩ := e0_ c16; obtain rfl := Option.some.inj H
     go_enter Tryd.func27, Tryd.ntmps27
     go_wp2_with (first | ((with_reducible refine gd_ 1 ?_); (try (refine gate_guard (by rfl) ?_; dsimp only)); refine be_ (N:=1) (cs := #[.int .i64 a0_0, .int .i64 a0_1, .string a0_2]) (t:=23) ?_; intro g1 hg w19 hbox hb; have B1 := A_ (hbox); replace HB := bs_ HB hb; clear hb hbox hg; have hcz20_0 : w19.cell? ⟨g1, 0, none⟩ = some (.int .i64 a0_0) := bc_ B1 0 rfl; have hcz20_1 : w19.cell? ⟨g1, 1, none⟩ = some (.int .i64 a0_1) := bc_ B1 1 rfl; have hcz20_2 : w19.cell? ⟨g1, 2, none⟩ = some (.string a0_2) := bc_ B1 2 rfl))
     go_ret
     exact fi_ (pbx HB)
   ·rw [if_neg c15] at H; have ⟨c15b0,c15b1⟩ := e0_ c15
    by_cases c21 : a0_0 = 3
    ·rw [if_pos c21] at H; have ⟨c21b0,c21b1⟩ := e1_ c21; clear c21
     by_cases c22 : a0_1 = 0
     ·rw [if_pos c22] at H; have ⟨c22b0,c22b1⟩ := e1_ c22; clear c22; obtain rfl := Option.some.inj H
      go_enter Tryd.func27, Tryd.ntmps27
      go_wp2_with (first | ((with_reducible refine gd_ 1 ?_); (try (refine gate_guard (by rfl) ?_; dsimp only)); refine be_ (N:=1) (cs := #[.int .i64 a0_0, .int .i64 a0_1, .string a0_2]) (t:=23) ?_; intro g1 hg w23 hbox hb; have B1 := A_ (hbox); replace HB := bs_ HB hb; clear hb hbox hg; have hcz24_0 : w23.cell? ⟨g1, 0, none⟩ = some (.int .i64 a0_0) := bc_ B1 0 rfl; have hcz24_1 : w23.cell? ⟨g1, 1, none⟩ = some (.int .i64 a0_1) := bc_ B1 1 rfl; have hcz24_2 : w23.cell? ⟨g1, 2, none⟩ = some (.string a0_2) := bc_ B1 2 rfl))
      go_ret
      exact fi_ (pbx HB)
     ·rw [if_neg c22] at H; have ⟨c22b0,c22b1⟩ := e0_ c22
      by_cases c25 : a0_1 = 1
      ·rw [if_pos c25] at H; have ⟨c25b0,c25b1⟩ := e1_ c25; clear c25; obtain rfl := Option.some.inj H
       go_enter Tryd.func27, Tryd.ntmps27
       go_wp2_with (first | ((with_reducible refine gd_ 1 ?_); (try (refine gate_guard (by rfl) ?_; dsimp only)); refine be_ (N:=1) (cs := #[.int .i64 a0_0, .int .i64 a0_1, .string a0_2]) (t:=23) ?_; intro g1 hg w26 hbox hb; have B1 := A_ (hbox); replace HB := bs_ HB hb; clear hb hbox hg; have hcz27_0 : w26.cell? ⟨g1, 0, none⟩ = some (.int .i64 a0_0) := bc_ B1 0 rfl; have hcz27_1 : w26.cell? ⟨g1, 1, none⟩ = some (.int .i64 a0_1) := bc_ B1 1 rfl; have hcz27_2 : w26.cell? ⟨g1, 2, none⟩ = some (.string a0_2) := bc_ B1 2 rfl))
       go_ret
       exact fi_ (pbx HB)
      ·rw [if_neg c25] at H; have ⟨c25b0,c25b1⟩ := e0_ c25; obtain rfl := Option.some.inj H
       go_enter Tryd.func27, Tryd.ntmps27
       go_wp2_with (first | ((with_reducible refine gd_ 1 ?_); (try (refine gate_guard (by rfl) ?_; dsimp only)); refine be_ (N:=1) (cs := #[.int .i64 a0_0, .int .i64 a0_1, .string a0_2]) (t:=23) ?_; intro g1 hg w28 hbox hb; have B1 := A_ (hbox); replace HB := bs_ HB hb; clear hb hbox hg; have hcz29_0 : w28.cell? ⟨g1, 0, none⟩ = some (.int .i64 a0_0) := bc_ B1 0 rfl; have hcz29_1 : w28.cell? ⟨g1, 1, none⟩ = some (.int .i64 a0_1) := bc_ B1 1 rfl; have hcz29_2 : w28.cell? ⟨g1, 2, none⟩ = some (.string a0_2) := bc_ B1 2 rfl))
       go_ret
       exact fi_ (pbx HB)
    ·rw [if_neg c21] at H; have ⟨c21b0,c21b1⟩ := e0_ c21
     by_cases c30 : a0_0 = 4
     ·rw [if_pos c30] at H; have ⟨c30b0,c30b1⟩ := e1_ c30; clear c30
      by_cases c31 : a0_1 ≥ 1
      ·rw [if_pos c31] at H; have c31b0 := decide_eq_true c31; clear c31
       by_cases c32 : a0_1 ≤ 7
       ·rw [if_pos c32] at H; have c32b0 := decide_eq_true c32; clear c32; obtain rfl := Option.some.inj H
        go_enter Tryd.func27, Tryd.ntmps27
        go_wp2_with (first | ((with_reducible refine gd_ 1 ?_); (try (refine gate_guard (by rfl) ?_; dsimp only)); refine be_ (N:=1) (cs := #[.int .i64 a0_0, .int .i64 a0_1, .string a0_2]) (t:=23) ?_; intro g1 hg w33 hbox hb; have B1 := A_ (hbox); replace HB := bs_ HB hb; clear hb hbox hg; have hcz34_0 : w33.cell? ⟨g1, 0, none⟩ = some (.int .i64 a0_0) := bc_ B1 0 rfl; have hcz34_1 : w33.cell? ⟨g1, 1, none⟩ = some (.int .i64 a0_1) := bc_ B1 1 rfl; have hcz34_2 : w33.cell? ⟨g1, 2, none⟩ = some (.string a0_2) := bc_ B1 2 rfl))
        go_ret
        exact fi_ (pbx HB)
       ·rw [if_neg c32] at H; have c32b0 := decide_eq_false c32; clear c32; obtain rfl := Option.some.inj H
        go_enter Tryd.func27, Tryd.ntmps27
        go_wp2_with (first | ((with_reducible refine gd_ 1 ?_); (try (refine gate_guard (by rfl) ?_; dsimp only)); refine be_ (N:=1) (cs := #[.int .i64 a0_0, .int .i64 a0_1, .string a0_2]) (t:=23) ?_; intro g1 hg w35 hbox hb; have B1 := A_ (hbox); replace HB := bs_ HB hb; clear hb hbox hg; have hcz36_0 : w35.cell? ⟨g1, 0, none⟩ = some (.int .i64 a0_0) := bc_ B1 0 rfl; have hcz36_1 : w35.cell? ⟨g1, 1, none⟩ = some (.int .i64 a0_1) := bc_ B1 1 rfl; have hcz36_2 : w35.cell? ⟨g1, 2, none⟩ = some (.string a0_2) := bc_ B1 2 rfl))
        go_ret
        exact fi_ (pbx HB)
      ·rw [if_neg c31] at H; have c31b0 := decide_eq_false c31; clear c31; obtain rfl := Option.some.inj H
       go_enter Tryd.func27, Tryd.ntmps27
       go_wp2_with (first | ((with_reducible refine gd_ 1 ?_); (try (refine gate_guard (by rfl) ?_; dsimp only)); refine be_ (N:=1) (cs := #[.int .i64 a0_0, .int .i64 a0_1, .string a0_2]) (t:=23) ?_; intro g1 hg w37 hbox hb; have B1 := A_ (hbox); replace HB := bs_ HB hb; clear hb hbox hg; have hcz38_0 : w37.cell? ⟨g1, 0, none⟩ = some (.int .i64 a0_0) := bc_ B1 0 rfl; have hcz38_1 : w37.cell? ⟨g1, 1, none⟩ = some (.int .i64 a0_1) := bc_ B1 1 rfl; have hcz38_2 : w37.cell? ⟨g1, 2, none⟩ = some (.string a0_2) := bc_ B1 2 rfl))
       go_ret
       exact fi_ (pbx HB)
     ·rw [if_neg c30] at H; have ⟨c30b0,c30b1⟩ := e0_ c30; obtain rfl := Option.some.inj H
      go_enter Tryd.func27, Tryd.ntmps27
      go_wp2_with (first | ((with_reducible refine gd_ 1 ?_); (try (refine gate_guard (by rfl) ?_; dsimp only)); refine be_ (N:=1) (cs := #[.int .i64 a0_0, .int .i64 a0_1, .string a0_2]) (t:=23) ?_; intro g1 hg w39 hbox hb; have B1 := A_ (hbox); replace HB := bs_ HB hb; clear hb hbox hg; have hcz40_0 : w39.cell? ⟨g1, 0, none⟩ = some (.int .i64 a0_0) := bc_ B1 0 rfl; have hcz40_1 : w39.cell? ⟨g1, 1, none⟩ = some (.int .i64 a0_1) := bc_ B1 1 rfl; have hcz40_2 : w39.cell? ⟨g1, 2, none⟩ = some (.string a0_2) := bc_ B1 2 rfl))
      go_ret
      exact fi_ (pbx HB)

def lex_plain.f (a0 : Int) : Option (Bool) := if a0 ≥ 32 then (some (a0 != 127)) else (some false)
theorem lex_plain.calls (a0 : Int) (r : Bool) (w : World) (h : lex_plain.f a0 = some r) :
  Calls Tryd.prog 40 #[.int .u8 a0] w fun e w' => e = .returned (.bool r) ∧ Drawn0 w w' := by
 have H : (if a0 ≥ 32 then (some (a0 != 127)) else (some false)) = some r := h
 clear h
 by_cases c2 : a0 ≥ 32
 ·rw [if_pos c2] at H; have c2b0 := decide_eq_true c2; clear c2; obtain rfl := Option.some.inj H
  go_enter Tryd.func40, Tryd.ntmps40
  go_wp2
  go_ret
  exact ⟨by first | rfl | (simp; done) | (simp [*]; done), dr_⟩
 ·rw [if_neg c2] at H; have c2b0 := decide_eq_false c2; clear c2; obtain rfl := Option.some.inj H
  go_enter Tryd.func40, Tryd.ntmps40
  go_wp2
  go_ret
  exact ⟨by first | rfl | (simp; done) | (simp [*]; done), dr_⟩

def lex_Plain.l0 : Nat → ByteArray → Int → Int → Option (Bool)
 | 0, _, _, _ => none
 | k + 1, x0, x5, x6 => if x6 < x5 then (if 0 ≤ x6 then (if x6 < (x0.size : Int) then ((lex_plain.f (bt x0 x6)).bind fun t101 => (if t101 = true then (lex_Plain.l0 k x0 x5 (wrap64 (x6 + 1))) else (some false))) else (none)) else (none)) else (some true)
def lex_Plain.f (k : Nat) (a0 : ByteArray) : Option (Bool) := lex_Plain.l0 k a0 (a0.size : Int) 0
theorem lex_Plain.mono_l : ∀ k, (∀ y0 y1 y2, LeO (lex_Plain.l0 k y0 y1 y2) (lex_Plain.l0 (k + 1) y0 y1 y2))
 | 0 => fun _ _ _ r h => by simp [lex_Plain.l0] at h
 | k + 1 => by
  have ih0 := lex_Plain.mono_l k
  ·intro y0 y1 y2
   unfold lex_Plain.l0
   exact mo_
theorem lex_Plain.mono : ∀ a0 k, LeO (lex_Plain.f k a0) (lex_Plain.f (k + 1) a0) := by
 intro a0 k; have ih0 := lex_Plain.mono_l k
 unfold lex_Plain.f
 exact mo_
theorem lex_Plain.calls (k : Nat) (a0 : ByteArray) (r : Bool) (w : World) (h : lex_Plain.f k a0 = some r) :
  Calls Tryd.prog 28 #[.string a0] w fun e w' => e = .returned (.bool r) ∧ Drawn0 w w' := by
 have H : (lex_Plain.l0 k a0 (a0.size : Int) 0) = some r := h
 clear h
 have H' := A_ H
 clear H
 go_enter Tryd.func28, Tryd.ntmps28
 go_wp2
 go_loopg [6] k (fun kq v6 w' => ∃ (x6_1 : Int), v6 = .int .i64 x6_1 ∧ Aside0 (lex_Plain.l0 kq a0 (a0.size : Int) x6_1 = some r) ∧ Aside0 (kq ≤ k) ∧ Drawn0 w w')
 case atStart => exact ⟨(0), sq_, H', ⟨Nat.le_refl _⟩, dr_⟩
 case round =>
  clear H'; obtain ⟨x6_1, rfl, HA, HK1, ⟨m1, rfl⟩⟩ := hrel
  cases gk with
  | zero => exact absurd HA.out (by simp [lex_Plain.l0])
  | succ k1 =>
   have H := HA.out; clear HA
   simp only [lex_Plain.l0] at H
   by_cases c2 : x6_1 < (a0.size : Int)
   ·rw [if_pos c2] at H; have c2b0 := decide_eq_true c2; clear c2
    by_cases c3 : 0 ≤ x6_1
    ·rw [if_pos c3] at H; have c3b0 := decide_eq_true c3; clear c3
     by_cases c4 : x6_1 < (a0.size : Int)
     ·rw [if_pos c4] at H; have c4b0 := decide_eq_true c4; clear c4; obtain ⟨t101, A6, H⟩ := bo_ H
      replace H := ib_ H; rcases H with ⟨rfl,H⟩|⟨rfl,H⟩
      ·have H' := A_ H
       clear H
       have p5 : 0 ≤ (x6_1 : Int) := of_decide_eq_true as_
       have q5 : x6_1 < (a0.size : Int) := of_decide_eq_true as_
       have hx5 := bt_at a0 x6_1; replace p5 := eq_true p5; replace q5 := eq_true q5
       go_wp2_with (first | ((with_reducible refine gate_callee (f:=40) rfl ?_); refine gL_ (some 12) rfl rfl Tryd.func40 rfl #[.int .u8 (bt a0 x6_1)] rfl ?_; (with_reducible refine (lex_plain.calls (bt a0 x6_1) true _ A6.out).mono ?_); rintro e w' ⟨rfl, ⟨nd, rfl⟩⟩; refine ⟨_, rfl, ?_⟩))
       go_roundg k1
       case measure => have := HK1.out; omega
       case rel => exact ⟨(wrap64 (x6_1 + 1)), sq_, H', ⟨by have := HK1.out; omega⟩, dr_⟩
      ·obtain rfl := Option.some.inj H
       have p5 : 0 ≤ (x6_1 : Int) := of_decide_eq_true as_
       have q5 : x6_1 < (a0.size : Int) := of_decide_eq_true as_
       have hx5 := bt_at a0 x6_1; replace p5 := eq_true p5; replace q5 := eq_true q5
       go_wp2_with (first | ((with_reducible refine gate_callee (f:=40) rfl ?_); refine gL_ (some 12) rfl rfl Tryd.func40 rfl #[.int .u8 (bt a0 x6_1)] rfl ?_; (with_reducible refine (lex_plain.calls (bt a0 x6_1) false _ A6.out).mono ?_); rintro e w' ⟨rfl, ⟨nd, rfl⟩⟩; refine ⟨_, rfl, ?_⟩))
       go_ret
       exact ⟨by first | rfl | (simp; done) | (simp [*]; done), dr_⟩
     ·rw [if_neg c4] at H
      exact absurd H (by simp)
    ·rw [if_neg c3] at H
     exact absurd H (by simp)
   ·rw [if_neg c2] at H; have c2b0 := decide_eq_false c2; clear c2; obtain rfl := Option.some.inj H
    go_wp2
    go_ret
    exact ⟨by first | rfl | (simp; done) | (simp [*]; done), dr_⟩

def node_literal.j0 : Nat → Int → Int → ByteArray → Option (Bool)
 | 0, _, _, _ => none
 | k + 1, x102000, x102001, x102002 => (value_May.f x102000 x102001 x102002).bind fun t104 => (some t104)
def node_literal.f (k : Nat) (a0_0 : Int) (a0_1 : Int) (a0_2 : ByteArray) : Option (Bool) := if a0_0 = 2 then ((value_May.f a0_0 a0_1 a0_2).bind fun t102 => (if t102 = true then ((lex_Plain.f k a0_2).bind fun t103 => (some t103)) else (some false))) else (if a0_0 = 1 then (if a0_1 < 0 then (some false) else (node_literal.j0 k a0_0 a0_1 a0_2)) else (if a0_0 = 3 then (node_literal.j0 k a0_0 a0_1 a0_2) else (some false)))
theorem node_literal.mono_l : ∀ k, (∀ y0 y1 y2, LeO (node_literal.j0 k y0 y1 y2) (node_literal.j0 (k + 1) y0 y1 y2))
 | 0 => fun _ _ _ r h => by simp [node_literal.j0] at h
 | k + 1 => by
  have ih0 := node_literal.mono_l k
  ·intro y0 y1 y2
   unfold node_literal.j0
   have m0 := @lex_Plain.mono; exact mo_
theorem node_literal.mono : ∀ a0 a1 a2 k, LeO (node_literal.f k a0 a1 a2) (node_literal.f (k + 1) a0 a1 a2) := by
 intro a0 a1 a2 k; have ih0 := node_literal.mono_l k
 unfold node_literal.f
 have m0 := @lex_Plain.mono; exact mo_
theorem node_literal.calls (k : Nat) (a0_0 : Int) (a0_1 : Int) (a0_2 : ByteArray) (r : Bool) (w : World) (h : node_literal.f k a0_0 a0_1 a0_2 = some r) :
  Calls Tryd.prog 21 #[.agg #[.int .i64 a0_0, .int .i64 a0_1, .string a0_2]] w fun e w' => e = .returned (.bool r) ∧ Below w.heap.size w w' := by
 have hu23 := Tryd.underlying23; have HB := A_ (Below.refl w.heap.size w)
 have H : (if a0_0 = 2 then ((value_May.f a0_0 a0_1 a0_2).bind fun t102 => (if t102 = true then ((lex_Plain.f k a0_2).bind fun t103 => (some t103)) else (some false))) else (if a0_0 = 1 then (if a0_1 < 0 then (some false) else (node_literal.j0 k a0_0 a0_1 a0_2)) else (if a0_0 = 3 then (node_literal.j0 k a0_0 a0_1 a0_2) else (some false)))) = some r := h
 clear h; have HC2 := A_ H; clear H
 go_enter Tryd.func21, Tryd.ntmps21
 go_upto_block 3 with (first | ((with_reducible refine gd_ 1 ?_); refine be_ (N:=1) (cs := #[.int .i64 a0_0, .int .i64 a0_1, .string a0_2]) (t:=23) ?_; intro g1 hg w3 hbox hb; have B1 := A_ (hbox); replace HB := bs_ HB hb; clear hb hbox hg; have hcz4_0 : w3.cell? ⟨g1, 0, none⟩ = some (.int .i64 a0_0) := bc_ B1 0 rfl; have hcz4_1 : w3.cell? ⟨g1, 1, none⟩ = some (.int .i64 a0_1) := bc_ B1 1 rfl; have hcz4_2 : w3.cell? ⟨g1, 2, none⟩ = some (.string a0_2) := bc_ B1 2 rfl))
 (try simp only [q_])
 go_cut [] (fun wc => ∃ (kq : Nat), Aside0 (node_literal.j0 kq a0_0 a0_1 a0_2 = some r) ∧ Aside0 (kq ≤ k) ∧ Aside0 (wc.heap[g1]? = some (.cells #[.int .i64 a0_0, .int .i64 a0_1, .string a0_2] 23 (0, 0))) ∧ Aside0 (Below w.heap.size w wc))
 case first =>
  have H := HC2.out; clear HC2
  by_cases c5 : a0_0 = 2
  ·rw [if_pos c5] at H; have ⟨c5b0,c5b1⟩ := e1_ c5; clear c5; (first | rw [c5b0] | (simp only [i64_w, i32_w]; rw [c5b0]) | skip)
   obtain ⟨t102, A6, H⟩ := bo_ H
   replace H := ib_ H; rcases H with ⟨rfl,H⟩|⟨rfl,H⟩
   ·obtain ⟨t103, A8, H⟩ := bo_ H; obtain rfl := Option.some.inj H
    have hcz9_0 : w3.cell? ⟨g1, 0, none⟩ = some (.int .i64 a0_0) := bc_ B1 0 rfl
    have hcz9_1 : w3.cell? ⟨g1, 1, none⟩ = some (.int .i64 a0_1) := bc_ B1 1 rfl
    have hcz9_2 : w3.cell? ⟨g1, 2, none⟩ = some (.string a0_2) := bc_ B1 2 rfl
    go_wp2_with (first | ((with_reducible refine gate_callee (f:=27) rfl ?_); refine gL_ (some 12) rfl rfl Tryd.func27 rfl #[.agg #[.int .i64 a0_0, .int .i64 a0_1, .string a0_2]] rfl ?_; (with_reducible refine (value_May.calls a0_0 a0_1 a0_2 true _ A6.out).mono ?_); rintro e w10 ⟨rfl, hb⟩; refine ⟨_, rfl, ?_⟩; replace B1 := bb_ B1 hb; replace HB := bs_ HB hb; (try clear hb); have hcz11_0 : w10.cell? ⟨g1, 0, none⟩ = some (.int .i64 a0_0) := bc_ B1 0 rfl; have hcz11_1 : w10.cell? ⟨g1, 1, none⟩ = some (.int .i64 a0_1) := bc_ B1 1 rfl; have hcz11_2 : w10.cell? ⟨g1, 2, none⟩ = some (.string a0_2) := bc_ B1 2 rfl) | (go_at_call 28; (with_reducible refine (lex_Plain.calls k a0_2 t103 _ A8.out).mono ?_); rintro e w' ⟨rfl, ⟨nd, rfl⟩⟩))
    go_ret
    exact fi_ (pbx HB)
   ·obtain rfl := Option.some.inj H
    have hcz12_0 : w3.cell? ⟨g1, 0, none⟩ = some (.int .i64 a0_0) := bc_ B1 0 rfl
    have hcz12_1 : w3.cell? ⟨g1, 1, none⟩ = some (.int .i64 a0_1) := bc_ B1 1 rfl
    have hcz12_2 : w3.cell? ⟨g1, 2, none⟩ = some (.string a0_2) := bc_ B1 2 rfl
    go_wp2_with (first | ((with_reducible refine gate_callee (f:=27) rfl ?_); refine gL_ (some 12) rfl rfl Tryd.func27 rfl #[.agg #[.int .i64 a0_0, .int .i64 a0_1, .string a0_2]] rfl ?_; (with_reducible refine (value_May.calls a0_0 a0_1 a0_2 false _ A6.out).mono ?_); rintro e w13 ⟨rfl, hb⟩; refine ⟨_, rfl, ?_⟩; replace B1 := bb_ B1 hb; replace HB := bs_ HB hb; (try clear hb); ))
    go_ret
    exact fi_ (pbx HB)
  ·rw [if_neg c5] at H; have ⟨c5b0,c5b1⟩ := e0_ c5; (first | rw [c5b0] | (simp only [i64_w, i32_w]; rw [c5b0]) | skip)
   by_cases c14 : a0_0 = 1
   ·rw [if_pos c14] at H; have ⟨c14b0,c14b1⟩ := e1_ c14; clear c14
    by_cases c15 : a0_1 < 0
    ·rw [if_pos c15] at H; have c15b0 := decide_eq_true c15; clear c15; obtain rfl := Option.some.inj H
     have hcz16_0 : w3.cell? ⟨g1, 0, none⟩ = some (.int .i64 a0_0) := bc_ B1 0 rfl
     have hcz16_1 : w3.cell? ⟨g1, 1, none⟩ = some (.int .i64 a0_1) := bc_ B1 1 rfl
     have hcz16_2 : w3.cell? ⟨g1, 2, none⟩ = some (.string a0_2) := bc_ B1 2 rfl
     go_wp2
     go_ret
     exact fi_ (pbx HB)
    ·rw [if_neg c15] at H; have c15b0 := decide_eq_false c15; clear c15
     have H' := A_ H
     clear H
     have hcz17_0 : w3.cell? ⟨g1, 0, none⟩ = some (.int .i64 a0_0) := bc_ B1 0 rfl
     have hcz17_1 : w3.cell? ⟨g1, 1, none⟩ = some (.int .i64 a0_1) := bc_ B1 1 rfl
     have hcz17_2 : w3.cell? ⟨g1, 2, none⟩ = some (.string a0_2) := bc_ B1 2 rfl
     go_wp2
     go_meet
     case rel => exact ⟨_, H', le_, ⟨pkx B1⟩, ⟨pbx HB⟩⟩
   ·rw [if_neg c14] at H; have ⟨c14b0,c14b1⟩ := e0_ c14
    by_cases c18 : a0_0 = 3
    ·rw [if_pos c18] at H; have ⟨c18b0,c18b1⟩ := e1_ c18; clear c18
     have H' := A_ H
     clear H
     go_wp2
     go_meet
     case rel => exact ⟨_, H', le_, ⟨pkx B1⟩, ⟨pbx HB⟩⟩
    ·rw [if_neg c18] at H; have ⟨c18b0,c18b1⟩ := e0_ c18; obtain rfl := Option.some.inj H
     go_wp2
     go_ret
     exact fi_ (pbx HB)
 case rest =>
  clear HC2; (try clear hcz4_0); (try clear hcz4_1); (try clear hcz4_2); obtain ⟨kq, HA, HJ1, B1, HB⟩ := hcut
  cases kq with
  | zero => exact absurd HA.out (by simp [node_literal.j0])
  | succ kj1 =>
   have H := HA.out; clear HA
   simp only [node_literal.j0] at H
   obtain ⟨t104, A19, H⟩ := bo_ H; obtain rfl := Option.some.inj H
   have hcz20_0 : wc.cell? ⟨g1, 0, none⟩ = some (.int .i64 a0_0) := bc_ B1 0 rfl
   have hcz20_1 : wc.cell? ⟨g1, 1, none⟩ = some (.int .i64 a0_1) := bc_ B1 1 rfl
   have hcz20_2 : wc.cell? ⟨g1, 2, none⟩ = some (.string a0_2) := bc_ B1 2 rfl
   go_wp2_with (first | ((with_reducible refine gate_callee (f:=27) rfl ?_); refine gL_ (some 22) rfl rfl Tryd.func27 rfl #[.agg #[.int .i64 a0_0, .int .i64 a0_1, .string a0_2]] rfl ?_; (with_reducible refine (value_May.calls a0_0 a0_1 a0_2 t104 _ A19.out).mono ?_); rintro e w21 ⟨rfl, hb⟩; refine ⟨_, rfl, ?_⟩; replace B1 := bb_ B1 hb; replace HB := bs_ HB hb; (try clear hb); ))
   go_ret
   exact fi_ (pbx HB)

def addr_May.f (a0_0 : Int) (a0_1 : Int) : Option (Bool) := if a0_0 ≥ 0 then (if a0_0 < 999 then (if a0_1 ≥ 0 then (some (decide (a0_1 < 702))) else (some false)) else (some false)) else (some false)
theorem addr_May.calls (a0_0 : Int) (a0_1 : Int) (r : Bool) (w : World) (h : addr_May.f a0_0 a0_1 = some r) :
  Calls Tryd.prog 29 #[.agg #[.int .i64 a0_0, .int .i64 a0_1]] w fun e w' => e = .returned (.bool r) ∧ Below w.heap.size w w' := by
 have hu46 := Tryd.underlying46; have HB := A_ (Below.refl w.heap.size w)
 have H : (if a0_0 ≥ 0 then (if a0_0 < 999 then (if a0_1 ≥ 0 then (some (decide (a0_1 < 702))) else (some false)) else (some false)) else (some false)) = some r := h
 clear h
 by_cases c2 : a0_0 ≥ 0
 ·rw [if_pos c2] at H; have c2b0 := decide_eq_true c2; clear c2
  by_cases c3 : a0_0 < 999
  ·rw [if_pos c3] at H; have c3b0 := decide_eq_true c3; clear c3
   by_cases c4 : a0_1 ≥ 0
   ·rw [if_pos c4] at H; have c4b0 := decide_eq_true c4; clear c4; obtain rfl := Option.some.inj H
    go_enter Tryd.func29, Tryd.ntmps29
    go_wp2_with (first | ((with_reducible refine gd_ 1 ?_); refine be_ (N:=1) (cs := #[.int .i64 a0_0, .int .i64 a0_1]) (t:=46) ?_; intro g1 hg w5 hbox hb; have B1 := A_ (hbox); replace HB := bs_ HB hb; clear hb hbox hg; have hcz6_0 : w5.cell? ⟨g1, 0, none⟩ = some (.int .i64 a0_0) := bc_ B1 0 rfl; have hcz6_1 : w5.cell? ⟨g1, 1, none⟩ = some (.int .i64 a0_1) := bc_ B1 1 rfl))
    go_ret
    exact fi_ (pbx HB)
   ·rw [if_neg c4] at H; have c4b0 := decide_eq_false c4; clear c4; obtain rfl := Option.some.inj H
    go_enter Tryd.func29, Tryd.ntmps29
    go_wp2_with (first | ((with_reducible refine gd_ 1 ?_); refine be_ (N:=1) (cs := #[.int .i64 a0_0, .int .i64 a0_1]) (t:=46) ?_; intro g1 hg w7 hbox hb; have B1 := A_ (hbox); replace HB := bs_ HB hb; clear hb hbox hg; have hcz8_0 : w7.cell? ⟨g1, 0, none⟩ = some (.int .i64 a0_0) := bc_ B1 0 rfl; have hcz8_1 : w7.cell? ⟨g1, 1, none⟩ = some (.int .i64 a0_1) := bc_ B1 1 rfl))
    go_ret
    exact fi_ (pbx HB)
  ·rw [if_neg c3] at H; have c3b0 := decide_eq_false c3; clear c3; obtain rfl := Option.some.inj H
   go_enter Tryd.func29, Tryd.ntmps29
   go_wp2_with (first | ((with_reducible refine gd_ 1 ?_); refine be_ (N:=1) (cs := #[.int .i64 a0_0, .int .i64 a0_1]) (t:=46) ?_; intro g1 hg w9 hbox hb; have B1 := A_ (hbox); replace HB := bs_ HB hb; clear hb hbox hg; have hcz10_0 : w9.cell? ⟨g1, 0, none⟩ = some (.int .i64 a0_0) := bc_ B1 0 rfl; have hcz10_1 : w9.cell? ⟨g1, 1, none⟩ = some (.int .i64 a0_1) := bc_ B1 1 rfl))
   go_ret
   exact fi_ (pbx HB)
 ·rw [if_neg c2] at H; have c2b0 := decide_eq_false c2; clear c2; obtain rfl := Option.some.inj H
  go_enter Tryd.func29, Tryd.ntmps29
  go_wp2_with (first | ((with_reducible refine gd_ 1 ?_); refine be_ (N:=1) (cs := #[.int .i64 a0_0, .int .i64 a0_1]) (t:=46) ?_; intro g1 hg w11 hbox hb; have B1 := A_ (hbox); replace HB := bs_ HB hb; clear hb hbox hg; have hcz12_0 : w11.cell? ⟨g1, 0, none⟩ = some (.int .i64 a0_0) := bc_ B1 0 rfl; have hcz12_1 : w11.cell? ⟨g1, 1, none⟩ = some (.int .i64 a0_1) := bc_ B1 1 rfl))
  go_ret
  exact fi_ (pbx HB)

def node_ref.f (a0_0 : Int) (a0_1 : Int) (a0_2 : Bool) (a0_3 : Bool) : Option (Bool) := (addr_May.f a0_0 a0_1).bind fun t102 => (some t102)
theorem node_ref.calls (a0_0 : Int) (a0_1 : Int) (a0_2 : Bool) (a0_3 : Bool) (r : Bool) (w : World) (h : node_ref.f a0_0 a0_1 a0_2 a0_3 = some r) :
  Calls Tryd.prog 22 #[.agg #[.int .i64 a0_0, .int .i64 a0_1, .bool a0_2, .bool a0_3]] w fun e w' => e = .returned (.bool r) ∧ Below w.heap.size w w' := by
 have hu25 := Tryd.underlying25; have hu46 := Tryd.underlying46; have HB := A_ (Below.refl w.heap.size w)
 have H : ((addr_May.f a0_0 a0_1).bind fun t102 => (some t102)) = some r := h
 clear h; obtain ⟨t102, A2, H⟩ := bo_ H; obtain rfl := Option.some.inj H
 go_enter Tryd.func22, Tryd.ntmps22
 go_wp2_with (first | ((with_reducible refine gd_ 1 ?_); refine be_ (N:=1) (cs := #[.int .i64 a0_0, .int .i64 a0_1, .bool a0_2, .bool a0_3]) (t:=25) ?_; intro g1 hg w3 hbox hb; have B1 := A_ (hbox); replace HB := bs_ HB hb; clear hb hbox hg; have hcz4_0 : w3.cell? ⟨g1, 0, none⟩ = some (.int .i64 a0_0) := bc_ B1 0 rfl; have hcz4_1 : w3.cell? ⟨g1, 1, none⟩ = some (.int .i64 a0_1) := bc_ B1 1 rfl; have hcz4_2 : w3.cell? ⟨g1, 2, none⟩ = some (.bool a0_2) := bc_ B1 2 rfl; have hcz4_3 : w3.cell? ⟨g1, 3, none⟩ = some (.bool a0_3) := bc_ B1 3 rfl) | ((with_reducible refine gate_callee (f:=29) rfl ?_); refine gL_ (some 8) rfl rfl Tryd.func29 rfl #[.agg #[.int .i64 a0_0, .int .i64 a0_1]] rfl ?_; (with_reducible refine (addr_May.calls a0_0 a0_1 t102 _ A2.out).mono ?_); rintro e w5 ⟨rfl, hb⟩; refine ⟨_, rfl, ?_⟩; replace B1 := bb_ B1 hb; replace HB := bs_ HB hb; ))
 go_ret
 exact fi_ (pbx HB)

theorem eqA49 (d : Nat) (w : World) (x0 y0 : Int) (x1 y1 : Int) :
  (Op.equalIn (d + 2) 49 (.agg #[.int .i64 x0, .int .u64 x1]) (.agg #[.int .i64 y0, .int .u64 y1])).run Tryd.prog w = .ok (x0 == y0 && (x1 == y1)) w := by
 refine eqA_of Tryd.underlying49 (by kernel_rfl) ?_
 refine eqf_cons (by rfl) (by go_simp; rfl) (by go_simp; rfl) (by go_simp) ?_
 exact eqf_last (by rfl) (by go_simp; rfl) (by go_simp; rfl) (by go_simp)
def label_Top.f  : Option (Int × Int) := some (15, 18446744073709551615)
theorem label_Top.calls  (r1 : Int) (r2 : Int) (w : World) (h : label_Top.f  = some (r1, r2)) :
  Calls Tryd.prog 41 #[] w fun e w' => e = .returned (.agg #[.int .i64 r1, .int .u64 r2]) ∧ Below w.heap.size w w' := by
 have hu49 := Tryd.underlying49; have HB := A_ (Below.refl w.heap.size w)
 have H : (some (15, 18446744073709551615)) = some (r1, r2) := h
 clear h
 simp only [Option.some.injEq, Prod.mk.injEq] at H
 obtain ⟨rfl, rfl⟩ := H
 go_enter Tryd.func41, Tryd.ntmps41
 go_wp2_with (first | ((with_reducible refine gd_ 0 ?_); refine be_ (N:=0) (cs := #[.int .i64 0, .int .u64 0]) (t:=49) ?_; intro g1 hg w1 hbox hb; have B1 := A_ (hbox); have GW101 := hs_ HB hg; have GE101 := hs_ HB hg; replace HB := bs_ HB hb; clear hb hbox hg; have ⟨hcz2_0,hcz2_1,hfz2_0,hfz2_1⟩ := z2_ B1))
 refine bodyPost_ret (results_cell_row rfl _ _ g1 49 #[.int .i64 15, .int .u64 18446744073709551615] (0, 0) _ rfl (by refine pp_ (cs := #[.int .i64 15, .int .u64 0]) 1 ?_ rfl; refine blk_put (cs := #[.int .i64 0, .int .u64 0]) ?_ 0 _ rfl; exact pkx B1) Tryd.underlying49 rfl (by kernel_rfl)) rfl ?_
 exact fi_ bl_

end Go.Proofs.YtdddhabemdbooaaDoor.X
/-
 DERIVED: THE SHELF's CONTRACTS AT THIS DUMP, IN PLAIN WORDS (tools/lay-plain.mjs out of 'TrydShelf.lean', which tools/lay-shelf.mjs wrote): THE SAME DECLARATIONS UNDER THE SAME NAMES: 'import', 'namespace', 'open', 'def', 'theorem' AND NOTHING ELSE: no command of the shelf's: FOR A HAND-IN. Each laying: the table of numbers ('.._ren') and one theorem, a field a fact of the dump's own or the kernel's comparison; each contract: ONE APPLICATION.
-/
namespace Go.Proofs
open Go.Shelf
def Tryd.laysM171_ren : Go.Shelf.Ren := ⟨fun | 171 => 43 | 243 => 51 | 246 => 59 | 283 => 69 | 284 => 70 | 285 => 71 | 286 => 72 | 129 => 81 | 317 => 80 | 318 => 82 | 319 => 83 | 320 => 84 | 337 => 88 | 338 => 89 | n => n, fun | 3 => 3 | 9 => 9 | 2 => 2 | 4 => 4 | 171 => 86 | 0 => 0 | 53 => 47 | 37 => 80 | 5 => 5 | 173 => 89 | 212 => 99 | 51 => 95 | 20 => 20 | 213 => 100 | 46 => 35 | 232 => 107 | 233 => 108 | n => n, fun | 17 => 1 | 18 => 2 | 19 => 3 | n => n⟩
theorem Tryd.laysM171 : Go.Proofs.LaysM.n171 Tryd.prog Tryd.laysM171_ren := {
 mixed := by kernel_rfl
 f129 := Tryd.func81.trans (congrArg some (by kernel_rfl))
 f171 := Tryd.func43.trans (congrArg some (by kernel_rfl))
 f243 := Tryd.func51.trans (congrArg some (by kernel_rfl))
 f246 := Tryd.func59.trans (congrArg some (by kernel_rfl))
 f283 := Tryd.func69.trans (congrArg some (by kernel_rfl))
 f284 := Tryd.func70.trans (congrArg some (by kernel_rfl))
 f285 := Tryd.func71.trans (congrArg some (by kernel_rfl))
 f286 := Tryd.func72.trans (congrArg some (by kernel_rfl))
 f317 := Tryd.func80.trans (congrArg some (by kernel_rfl))
 f318 := Tryd.func82.trans (congrArg some (by kernel_rfl))
 f319 := Tryd.func83.trans (congrArg some (by kernel_rfl))
 f320 := Tryd.func84.trans (congrArg some (by kernel_rfl))
 f337 := Tryd.func88.trans (congrArg some (by kernel_rfl))
 f338 := Tryd.func89.trans (congrArg some (by kernel_rfl))
 t0 := Tryd.underlying0
 a0 := Tryd.isAgg0
 z0 := Tryd.sizeOf0
 v0 := Tryd.zeroValue0
 t2 := Tryd.underlying2
 a2 := Tryd.isAgg2
 z2 := Tryd.sizeOf2
 v2 := Tryd.zeroValue2
 t3 := Tryd.underlying3
 a3 := Tryd.isAgg3
 z3 := Tryd.sizeOf3
 v3 := Tryd.zeroValue3
 t4 := Tryd.underlying4
 a4 := Tryd.isAgg4
 z4 := Tryd.sizeOf4
 v4 := Tryd.zeroValue4
 t5 := Tryd.underlying5
 a5 := Tryd.isAgg5
 z5 := Tryd.sizeOf5
 v5 := Tryd.zeroValue5
 t9 := Tryd.underlying9
 a9 := Tryd.isAgg9
 z9 := Tryd.sizeOf9
 v9 := Tryd.zeroValue9
 t20 := Tryd.underlying20
 a20 := Tryd.isAgg20
 z20 := Tryd.sizeOf20
 v20 := Tryd.zeroValue20
 t37 := Tryd.underlying80
 a37 := Tryd.isAgg80
 z37 := Tryd.sizeOf80
 v37 := Tryd.zeroValue80
 t46 := Tryd.underlying35
 a46 := Tryd.isAgg35
 z46 := Tryd.sizeOf35
 v46 := Tryd.zeroValue35
 t51 := Tryd.underlying95
 a51 := Tryd.isAgg95
 z51 := Tryd.sizeOf95
 v51 := Tryd.zeroValue95
 t53 := Tryd.underlying47
 a53 := Tryd.isAgg47
 z53 := Tryd.sizeOf47
 v53 := Tryd.zeroValue47
 t171 := Tryd.underlying86
 a171 := Tryd.isAgg86
 z171 := Tryd.sizeOf86
 v171 := Tryd.zeroValue86
 t173 := Tryd.underlying89
 a173 := Tryd.isAgg89
 z173 := Tryd.sizeOf89
 v173 := Tryd.zeroValue89
 t212 := Tryd.underlying99
 a212 := Tryd.isAgg99
 z212 := Tryd.sizeOf99
 v212 := Tryd.zeroValue99
 t213 := Tryd.underlying100
 a213 := Tryd.isAgg100
 z213 := Tryd.sizeOf100
 t232 := Tryd.underlying107
 a232 := Tryd.isAgg107
 z232 := Tryd.sizeOf107
 v232 := Tryd.zeroValue107
 t233 := Tryd.underlying108
 a233 := Tryd.isAgg108
 z233 := Tryd.sizeOf108
 v233 := Tryd.zeroValue108
 g17 := by kernel_rfl
 g18 := by kernel_rfl
 g19 := by kernel_rfl
 i0 := by kernel_rfl
 i2 := by kernel_rfl
 i3 := by kernel_rfl
 i4 := by kernel_rfl
 i5 := by kernel_rfl
 i9 := by kernel_rfl
 i20 := by kernel_rfl
 i37 := by kernel_rfl
 i46 := by kernel_rfl
 i51 := by kernel_rfl
 i53 := by kernel_rfl
 i171 := by kernel_rfl
 i173 := by kernel_rfl
 i212 := by kernel_rfl
 i232 := by kernel_rfl
 i233 := by kernel_rfl
 m17 := by kernel_rfl
 m18 := by kernel_rfl
 m19 := by kernel_rfl }
open Go.RowKit Go.Sort Go.Lib in
theorem Tryd.strconv_Itoa (n : Int) (h0 : -9223372036854775808 ≤ n) (h1 : n ≤ 9223372036854775807) (w : World) (htab : Lib.TabIs Tryd.prog w "internal/strconv.uint64pow10" .u64 Lib.pow10Tab) :
  Calls Tryd.prog 43 #[.int .i64 n] w fun e w' => e = .returned (.string ⟨(Lib.itoa n).toArray⟩) ∧ ∃ k os, w' = grow (w.drewN k) os := Any.strconv_Itoa Tryd.laysM171 n h0 h1 w htab
def Tryd.lays219_ren : Go.Shelf.Ren := ⟨fun | 219 => 58 | 217 => 65 | 225 => 66 | 224 => 67 | 267 => 68 | 266 => 78 | 314 => 79 | n => n, fun | 9 => 9 | 3 => 3 | 4 => 4 | 5 => 5 | 46 => 35 | 146 => 96 | 51 => 95 | n => n, fun | 1 => 0 | n => n⟩
theorem Tryd.lays219 : Go.Proofs.Lays.n219 Tryd.prog Tryd.lays219_ren := {
 mixed := by kernel_rfl
 f217 := Tryd.func65.trans (congrArg some (by kernel_rfl))
 f219 := Tryd.func58.trans (congrArg some (by kernel_rfl))
 f224 := Tryd.func67.trans (congrArg some (by kernel_rfl))
 f225 := Tryd.func66.trans (congrArg some (by kernel_rfl))
 f266 := Tryd.func78.trans (congrArg some (by kernel_rfl))
 f267 := Tryd.func68.trans (congrArg some (by kernel_rfl))
 f314 := Tryd.func79.trans (congrArg some (by kernel_rfl))
 t3 := Tryd.underlying3
 a3 := Tryd.isAgg3
 z3 := Tryd.sizeOf3
 v3 := Tryd.zeroValue3
 t4 := Tryd.underlying4
 a4 := Tryd.isAgg4
 z4 := Tryd.sizeOf4
 v4 := Tryd.zeroValue4
 t5 := Tryd.underlying5
 a5 := Tryd.isAgg5
 z5 := Tryd.sizeOf5
 v5 := Tryd.zeroValue5
 t9 := Tryd.underlying9
 a9 := Tryd.isAgg9
 z9 := Tryd.sizeOf9
 v9 := Tryd.zeroValue9
 t46 := Tryd.underlying35
 a46 := Tryd.isAgg35
 z46 := Tryd.sizeOf35
 v46 := Tryd.zeroValue35
 t51 := Tryd.underlying95
 a51 := Tryd.isAgg95
 z51 := Tryd.sizeOf95
 v51 := Tryd.zeroValue95
 t146 := Tryd.underlying96
 a146 := Tryd.isAgg96
 z146 := Tryd.sizeOf96
 v146 := Tryd.zeroValue96
 g1 := by kernel_rfl }
open Go.RowKit Go.Lib in
theorem Tryd.stringslite_Index_one (s : ByteArray) (c : UInt8) (w : World) :
  Calls Tryd.prog 58 #[.string s, .string ⟨#[c]⟩] w fun e w' => e = .returned (.int .i64 (Lib.indexByte s.data.toList c)) ∧ w' = w := Any.stringslite_Index_one Tryd.lays219 s c w
open Go.RowKit Go.Lib in
theorem Tryd.stringslite_Index (s sub : ByteArray) (m : Int) (w : World) (hs : s.size < 4294967281) (hm : w.cell? ⟨0, 0, none⟩ = some (.int .i64 m)) :
  Calls Tryd.prog 58 #[.string s, .string sub] w fun e w' => e = .returned (.int .i64 (Lib.index s.data.toList sub.data.toList)) ∧ w' = w := Any.stringslite_Index Tryd.lays219 s sub m w hs hm
def Tryd.lays143_ren : Go.Shelf.Ren := ⟨fun | 143 => 75 | 219 => 58 | 217 => 65 | 225 => 66 | 224 => 67 | 267 => 68 | 266 => 78 | 314 => 79 | n => n, fun | 9 => 9 | 3 => 3 | 4 => 4 | 5 => 5 | 46 => 35 | 146 => 96 | 51 => 95 | n => n, fun | 1 => 0 | n => n⟩
theorem Tryd.lays143 : Go.Proofs.Lays.n143 Tryd.prog Tryd.lays143_ren := {
 mixed := by kernel_rfl
 f143 := Tryd.func75.trans (congrArg some (by kernel_rfl))
 f217 := Tryd.func65.trans (congrArg some (by kernel_rfl))
 f219 := Tryd.func58.trans (congrArg some (by kernel_rfl))
 f224 := Tryd.func67.trans (congrArg some (by kernel_rfl))
 f225 := Tryd.func66.trans (congrArg some (by kernel_rfl))
 f266 := Tryd.func78.trans (congrArg some (by kernel_rfl))
 f267 := Tryd.func68.trans (congrArg some (by kernel_rfl))
 f314 := Tryd.func79.trans (congrArg some (by kernel_rfl))
 t3 := Tryd.underlying3
 a3 := Tryd.isAgg3
 z3 := Tryd.sizeOf3
 v3 := Tryd.zeroValue3
 t4 := Tryd.underlying4
 a4 := Tryd.isAgg4
 z4 := Tryd.sizeOf4
 v4 := Tryd.zeroValue4
 t5 := Tryd.underlying5
 a5 := Tryd.isAgg5
 z5 := Tryd.sizeOf5
 v5 := Tryd.zeroValue5
 t9 := Tryd.underlying9
 a9 := Tryd.isAgg9
 z9 := Tryd.sizeOf9
 v9 := Tryd.zeroValue9
 t46 := Tryd.underlying35
 a46 := Tryd.isAgg35
 z46 := Tryd.sizeOf35
 v46 := Tryd.zeroValue35
 t51 := Tryd.underlying95
 a51 := Tryd.isAgg95
 z51 := Tryd.sizeOf95
 v51 := Tryd.zeroValue95
 t146 := Tryd.underlying96
 a146 := Tryd.isAgg96
 z146 := Tryd.sizeOf96
 v146 := Tryd.zeroValue96
 g1 := by kernel_rfl }
open Go.RowKit Go.Lib in
theorem Tryd.strings_Index_one (s : ByteArray) (c : UInt8) (w : World) :
  Calls Tryd.prog 75 #[.string s, .string ⟨#[c]⟩] w fun e w' => e = .returned (.int .i64 (Lib.indexByte s.data.toList c)) ∧ w' = w := Any.strings_Index_one Tryd.lays143 s c w
def Tryd.lays220_ren : Go.Shelf.Ren := ⟨fun | 220 => 50 | 219 => 58 | 217 => 65 | 225 => 66 | 224 => 67 | 267 => 68 | 266 => 78 | 314 => 79 | n => n, fun | 9 => 9 | 4 => 4 | 3 => 3 | 5 => 5 | 46 => 35 | 146 => 96 | 51 => 95 | n => n, fun | 1 => 0 | n => n⟩
theorem Tryd.lays220 : Go.Proofs.Lays.n220 Tryd.prog Tryd.lays220_ren := {
 mixed := by kernel_rfl
 f217 := Tryd.func65.trans (congrArg some (by kernel_rfl))
 f219 := Tryd.func58.trans (congrArg some (by kernel_rfl))
 f220 := Tryd.func50.trans (congrArg some (by kernel_rfl))
 f224 := Tryd.func67.trans (congrArg some (by kernel_rfl))
 f225 := Tryd.func66.trans (congrArg some (by kernel_rfl))
 f266 := Tryd.func78.trans (congrArg some (by kernel_rfl))
 f267 := Tryd.func68.trans (congrArg some (by kernel_rfl))
 f314 := Tryd.func79.trans (congrArg some (by kernel_rfl))
 t3 := Tryd.underlying3
 a3 := Tryd.isAgg3
 z3 := Tryd.sizeOf3
 v3 := Tryd.zeroValue3
 t4 := Tryd.underlying4
 a4 := Tryd.isAgg4
 z4 := Tryd.sizeOf4
 v4 := Tryd.zeroValue4
 t5 := Tryd.underlying5
 a5 := Tryd.isAgg5
 z5 := Tryd.sizeOf5
 v5 := Tryd.zeroValue5
 t9 := Tryd.underlying9
 a9 := Tryd.isAgg9
 z9 := Tryd.sizeOf9
 v9 := Tryd.zeroValue9
 t46 := Tryd.underlying35
 a46 := Tryd.isAgg35
 z46 := Tryd.sizeOf35
 v46 := Tryd.zeroValue35
 t51 := Tryd.underlying95
 a51 := Tryd.isAgg95
 z51 := Tryd.sizeOf95
 v51 := Tryd.zeroValue95
 t146 := Tryd.underlying96
 a146 := Tryd.isAgg96
 z146 := Tryd.sizeOf96
 v146 := Tryd.zeroValue96
 g1 := by kernel_rfl }
open Go.RowKit Go.Lib in
theorem Tryd.stringslite_Cut (s sep : ByteArray) (m : Int) (w : World) (hs : s.size < 4294967281) (hm : w.cell? ⟨0, 0, none⟩ = some (.int .i64 m)) :
  Calls Tryd.prog 50 #[.string s, .string sep] w fun e w' => e = .returned (.tuple #[.string ⟨(Lib.cut s.data.toList sep.data.toList).1.toArray⟩, .string ⟨(Lib.cut s.data.toList sep.data.toList).2.1.toArray⟩, .bool (Lib.cut s.data.toList sep.data.toList).2.2]) ∧ ∃ n, w' = w.drewN n := Any.stringslite_Cut Tryd.lays220 s sep m w hs hm
def Tryd.lays145_ren : Go.Shelf.Ren := ⟨fun | 145 => 42 | 220 => 50 | 219 => 58 | 217 => 65 | 225 => 66 | 224 => 67 | 267 => 68 | 266 => 78 | 314 => 79 | n => n, fun | 9 => 9 | 4 => 4 | 59 => 57 | 3 => 3 | 5 => 5 | 46 => 35 | 146 => 96 | 51 => 95 | n => n, fun | 1 => 0 | n => n⟩
theorem Tryd.lays145 : Go.Proofs.Lays.n145 Tryd.prog Tryd.lays145_ren := {
 mixed := by kernel_rfl
 f145 := Tryd.func42.trans (congrArg some (by kernel_rfl))
 f217 := Tryd.func65.trans (congrArg some (by kernel_rfl))
 f219 := Tryd.func58.trans (congrArg some (by kernel_rfl))
 f220 := Tryd.func50.trans (congrArg some (by kernel_rfl))
 f224 := Tryd.func67.trans (congrArg some (by kernel_rfl))
 f225 := Tryd.func66.trans (congrArg some (by kernel_rfl))
 f266 := Tryd.func78.trans (congrArg some (by kernel_rfl))
 f267 := Tryd.func68.trans (congrArg some (by kernel_rfl))
 f314 := Tryd.func79.trans (congrArg some (by kernel_rfl))
 t3 := Tryd.underlying3
 a3 := Tryd.isAgg3
 z3 := Tryd.sizeOf3
 v3 := Tryd.zeroValue3
 t4 := Tryd.underlying4
 a4 := Tryd.isAgg4
 z4 := Tryd.sizeOf4
 v4 := Tryd.zeroValue4
 t5 := Tryd.underlying5
 a5 := Tryd.isAgg5
 z5 := Tryd.sizeOf5
 v5 := Tryd.zeroValue5
 t9 := Tryd.underlying9
 a9 := Tryd.isAgg9
 z9 := Tryd.sizeOf9
 v9 := Tryd.zeroValue9
 t46 := Tryd.underlying35
 a46 := Tryd.isAgg35
 z46 := Tryd.sizeOf35
 v46 := Tryd.zeroValue35
 t51 := Tryd.underlying95
 a51 := Tryd.isAgg95
 z51 := Tryd.sizeOf95
 v51 := Tryd.zeroValue95
 t59 := Tryd.underlying57
 a59 := Tryd.isAgg57
 z59 := Tryd.sizeOf57
 v59 := Tryd.zeroValue57
 t146 := Tryd.underlying96
 a146 := Tryd.isAgg96
 z146 := Tryd.sizeOf96
 v146 := Tryd.zeroValue96
 g1 := by kernel_rfl }
open Go.RowKit Go.Lib in
theorem Tryd.strings_Cut (s sep : ByteArray) (m : Int) (w : World) (hs : s.size < 4294967281) (hm : w.cell? ⟨0, 0, none⟩ = some (.int .i64 m)) :
  Calls Tryd.prog 42 #[.string s, .string sep] w fun e w' => e = .returned (.tuple #[.string ⟨(Lib.cut s.data.toList sep.data.toList).1.toArray⟩, .string ⟨(Lib.cut s.data.toList sep.data.toList).2.1.toArray⟩, .bool (Lib.cut s.data.toList sep.data.toList).2.2]) ∧ ∃ n, w' = w.drewN n := Any.strings_Cut Tryd.lays145 s sep m w hs hm
def Tryd.lays138_ren : Go.Shelf.Ren := ⟨fun | 138 => 74 | 195 => 85 | 218 => 87 | 143 => 75 | 219 => 58 | 217 => 65 | 225 => 66 | 224 => 67 | 267 => 68 | 266 => 78 | 314 => 79 | n => n, fun | 9 => 9 | 3 => 3 | 4 => 4 | 5 => 5 | 0 => 0 | 46 => 35 | 146 => 96 | 51 => 95 | n => n, fun | 1 => 0 | n => n⟩
theorem Tryd.lays138 : Go.Proofs.Lays.n138 Tryd.prog Tryd.lays138_ren := {
 mixed := by kernel_rfl
 f138 := Tryd.func74.trans (congrArg some (by kernel_rfl))
 f143 := Tryd.func75.trans (congrArg some (by kernel_rfl))
 f195 := Tryd.func85.trans (congrArg some (by kernel_rfl))
 f217 := Tryd.func65.trans (congrArg some (by kernel_rfl))
 f218 := Tryd.func87.trans (congrArg some (by kernel_rfl))
 f219 := Tryd.func58.trans (congrArg some (by kernel_rfl))
 f224 := Tryd.func67.trans (congrArg some (by kernel_rfl))
 f225 := Tryd.func66.trans (congrArg some (by kernel_rfl))
 f266 := Tryd.func78.trans (congrArg some (by kernel_rfl))
 f267 := Tryd.func68.trans (congrArg some (by kernel_rfl))
 f314 := Tryd.func79.trans (congrArg some (by kernel_rfl))
 t0 := Tryd.underlying0
 a0 := Tryd.isAgg0
 z0 := Tryd.sizeOf0
 v0 := Tryd.zeroValue0
 t3 := Tryd.underlying3
 a3 := Tryd.isAgg3
 z3 := Tryd.sizeOf3
 v3 := Tryd.zeroValue3
 t4 := Tryd.underlying4
 a4 := Tryd.isAgg4
 z4 := Tryd.sizeOf4
 v4 := Tryd.zeroValue4
 t5 := Tryd.underlying5
 a5 := Tryd.isAgg5
 z5 := Tryd.sizeOf5
 v5 := Tryd.zeroValue5
 t9 := Tryd.underlying9
 a9 := Tryd.isAgg9
 z9 := Tryd.sizeOf9
 v9 := Tryd.zeroValue9
 t46 := Tryd.underlying35
 a46 := Tryd.isAgg35
 z46 := Tryd.sizeOf35
 v46 := Tryd.zeroValue35
 t51 := Tryd.underlying95
 a51 := Tryd.isAgg95
 z51 := Tryd.sizeOf95
 v51 := Tryd.zeroValue95
 t146 := Tryd.underlying96
 a146 := Tryd.isAgg96
 z146 := Tryd.sizeOf96
 v146 := Tryd.zeroValue96
 g1 := by kernel_rfl }
open Go.RowKit Go.Lib in
theorem Tryd.strings_Count_one (s : ByteArray) (c : UInt8) (w : World) :
  Calls Tryd.prog 74 #[.string s, .string ⟨#[c]⟩] w fun e w' => e = .returned (.int .i64 (Lib.countByte s.data.toList c)) ∧ w' = w := Any.strings_Count_one Tryd.lays138 s c w
def Tryd.lays221_ren : Go.Shelf.Ren := ⟨fun | 221 => 60 | 268 => 73 | 138 => 74 | 143 => 75 | 195 => 85 | 197 => 86 | 218 => 87 | 219 => 58 | 260 => 90 | 217 => 65 | 225 => 66 | 224 => 67 | 267 => 68 | 266 => 78 | 314 => 79 | n => n, fun | 9 => 9 | 3 => 3 | 31 => 67 | 4 => 4 | 0 => 0 | 105 => 104 | 21 => 21 | 5 => 5 | 46 => 35 | 119 => 109 | 139 => 112 | 138 => 111 | 146 => 96 | 51 => 95 | n => n, fun | 1 => 0 | 3 => 4 | 4 => 5 | n => n⟩
theorem Tryd.lays221 : Go.Proofs.Lays.n221 Tryd.prog Tryd.lays221_ren := {
 mixed := by kernel_rfl
 f138 := Tryd.func74.trans (congrArg some (by kernel_rfl))
 f143 := Tryd.func75.trans (congrArg some (by kernel_rfl))
 f195 := Tryd.func85.trans (congrArg some (by kernel_rfl))
 f197 := Tryd.func86.trans (congrArg some (by kernel_rfl))
 f217 := Tryd.func65.trans (congrArg some (by kernel_rfl))
 f218 := Tryd.func87.trans (congrArg some (by kernel_rfl))
 f219 := Tryd.func58.trans (congrArg some (by kernel_rfl))
 f221 := Tryd.func60.trans (congrArg some (by kernel_rfl))
 f224 := Tryd.func67.trans (congrArg some (by kernel_rfl))
 f225 := Tryd.func66.trans (congrArg some (by kernel_rfl))
 f260 := Tryd.func90.trans (congrArg some (by kernel_rfl))
 f266 := Tryd.func78.trans (congrArg some (by kernel_rfl))
 f267 := Tryd.func68.trans (congrArg some (by kernel_rfl))
 f268 := Tryd.func73.trans (congrArg some (by kernel_rfl))
 f314 := Tryd.func79.trans (congrArg some (by kernel_rfl))
 t0 := Tryd.underlying0
 a0 := Tryd.isAgg0
 z0 := Tryd.sizeOf0
 v0 := Tryd.zeroValue0
 t3 := Tryd.underlying3
 a3 := Tryd.isAgg3
 z3 := Tryd.sizeOf3
 v3 := Tryd.zeroValue3
 t4 := Tryd.underlying4
 a4 := Tryd.isAgg4
 z4 := Tryd.sizeOf4
 v4 := Tryd.zeroValue4
 t5 := Tryd.underlying5
 a5 := Tryd.isAgg5
 z5 := Tryd.sizeOf5
 v5 := Tryd.zeroValue5
 t9 := Tryd.underlying9
 a9 := Tryd.isAgg9
 z9 := Tryd.sizeOf9
 v9 := Tryd.zeroValue9
 t21 := Tryd.underlying21
 a21 := Tryd.isAgg21
 z21 := Tryd.sizeOf21
 v21 := Tryd.zeroValue21
 t31 := Tryd.underlying67
 a31 := Tryd.isAgg67
 z31 := Tryd.sizeOf67
 v31 := Tryd.zeroValue67
 t46 := Tryd.underlying35
 a46 := Tryd.isAgg35
 z46 := Tryd.sizeOf35
 v46 := Tryd.zeroValue35
 t51 := Tryd.underlying95
 a51 := Tryd.isAgg95
 z51 := Tryd.sizeOf95
 v51 := Tryd.zeroValue95
 t105 := Tryd.underlying104
 a105 := Tryd.isAgg104
 z105 := Tryd.sizeOf104
 v105 := Tryd.zeroValue104
 t119 := Tryd.underlying109
 a119 := Tryd.isAgg109
 z119 := Tryd.sizeOf109
 t138 := Tryd.underlying111
 a138 := Tryd.isAgg111
 z138 := Tryd.sizeOf111
 v138 := Tryd.zeroValue111
 t139 := Tryd.underlying112
 a139 := Tryd.isAgg112
 z139 := Tryd.sizeOf112
 v139 := Tryd.zeroValue112
 t146 := Tryd.underlying96
 a146 := Tryd.isAgg96
 z146 := Tryd.sizeOf96
 v146 := Tryd.zeroValue96
 g1 := by kernel_rfl
 g3 := by kernel_rfl
 g4 := by kernel_rfl }
def Tryd.lays146_ren : Go.Shelf.Ren := ⟨fun | 146 => 52 | 221 => 60 | 268 => 73 | 138 => 74 | 143 => 75 | 195 => 85 | 197 => 86 | 218 => 87 | 219 => 58 | 260 => 90 | 217 => 65 | 225 => 66 | 224 => 67 | 267 => 68 | 266 => 78 | 314 => 79 | n => n, fun | 9 => 9 | 31 => 67 | 3 => 3 | 4 => 4 | 0 => 0 | 105 => 104 | 21 => 21 | 5 => 5 | 46 => 35 | 119 => 109 | 139 => 112 | 138 => 111 | 146 => 96 | 51 => 95 | n => n, fun | 1 => 0 | 3 => 4 | 4 => 5 | n => n⟩
theorem Tryd.lays146 : Go.Proofs.Lays.n146 Tryd.prog Tryd.lays146_ren := {
 mixed := by kernel_rfl
 f138 := Tryd.func74.trans (congrArg some (by kernel_rfl))
 f143 := Tryd.func75.trans (congrArg some (by kernel_rfl))
 f146 := Tryd.func52.trans (congrArg some (by kernel_rfl))
 f195 := Tryd.func85.trans (congrArg some (by kernel_rfl))
 f197 := Tryd.func86.trans (congrArg some (by kernel_rfl))
 f217 := Tryd.func65.trans (congrArg some (by kernel_rfl))
 f218 := Tryd.func87.trans (congrArg some (by kernel_rfl))
 f219 := Tryd.func58.trans (congrArg some (by kernel_rfl))
 f221 := Tryd.func60.trans (congrArg some (by kernel_rfl))
 f224 := Tryd.func67.trans (congrArg some (by kernel_rfl))
 f225 := Tryd.func66.trans (congrArg some (by kernel_rfl))
 f260 := Tryd.func90.trans (congrArg some (by kernel_rfl))
 f266 := Tryd.func78.trans (congrArg some (by kernel_rfl))
 f267 := Tryd.func68.trans (congrArg some (by kernel_rfl))
 f268 := Tryd.func73.trans (congrArg some (by kernel_rfl))
 f314 := Tryd.func79.trans (congrArg some (by kernel_rfl))
 t0 := Tryd.underlying0
 a0 := Tryd.isAgg0
 z0 := Tryd.sizeOf0
 v0 := Tryd.zeroValue0
 t3 := Tryd.underlying3
 a3 := Tryd.isAgg3
 z3 := Tryd.sizeOf3
 v3 := Tryd.zeroValue3
 t4 := Tryd.underlying4
 a4 := Tryd.isAgg4
 z4 := Tryd.sizeOf4
 v4 := Tryd.zeroValue4
 t5 := Tryd.underlying5
 a5 := Tryd.isAgg5
 z5 := Tryd.sizeOf5
 v5 := Tryd.zeroValue5
 t9 := Tryd.underlying9
 a9 := Tryd.isAgg9
 z9 := Tryd.sizeOf9
 v9 := Tryd.zeroValue9
 t21 := Tryd.underlying21
 a21 := Tryd.isAgg21
 z21 := Tryd.sizeOf21
 v21 := Tryd.zeroValue21
 t31 := Tryd.underlying67
 a31 := Tryd.isAgg67
 z31 := Tryd.sizeOf67
 v31 := Tryd.zeroValue67
 t46 := Tryd.underlying35
 a46 := Tryd.isAgg35
 z46 := Tryd.sizeOf35
 v46 := Tryd.zeroValue35
 t51 := Tryd.underlying95
 a51 := Tryd.isAgg95
 z51 := Tryd.sizeOf95
 v51 := Tryd.zeroValue95
 t105 := Tryd.underlying104
 a105 := Tryd.isAgg104
 z105 := Tryd.sizeOf104
 v105 := Tryd.zeroValue104
 t119 := Tryd.underlying109
 a119 := Tryd.isAgg109
 z119 := Tryd.sizeOf109
 t138 := Tryd.underlying111
 a138 := Tryd.isAgg111
 z138 := Tryd.sizeOf111
 v138 := Tryd.zeroValue111
 t139 := Tryd.underlying112
 a139 := Tryd.isAgg112
 z139 := Tryd.sizeOf112
 v139 := Tryd.zeroValue112
 t146 := Tryd.underlying96
 a146 := Tryd.isAgg96
 z146 := Tryd.sizeOf96
 v146 := Tryd.zeroValue96
 g1 := by kernel_rfl
 g3 := by kernel_rfl
 g4 := by kernel_rfl }
open Go.RowKit Go.Lib in
theorem Tryd.strings_Split (s sep : ByteArray) (m : Int) (w : World) (hs : s.size < 4294967281) (hm : w.cell? ⟨0, 0, none⟩ = some (.int .i64 m)) (h1 : 1 ≤ sep.size) :
  Calls Tryd.prog 52 #[.string s, .string sep] w fun e w' =>
   e = .returned (.slice (some ⟨w.heap.size, 0, none⟩) (Lib.countB s sep + 1) (Lib.countB s sep + 1)) ∧ w' = w.alloc (.cells ((Lib.splitB sep 0 (Lib.countB s sep) s).map Value.string).toArray 9) := Any.strings_Split Tryd.lays146 (by kernel_rfl) s sep m w hs hm h1
end Go.Proofs
/- The contract, by hand, of internal/stringslite.Index at a needle of one byte: out of the shelf's. -/
set_option linter.unusedVariables false
namespace Go.Proofs.YtdddhabemdbooaaDoor.X
open Go.RowKit Go.Proofs.YtdddhabemdbooaaDoorW.PrintWords Go.Proofs.YtdddhabemdbooaaDoorW.PrintLast Go.Proofs.YtdddhabemdbooaaDoorW.PrintMore
def stringslite_Index.f (a0 : ByteArray) (a1 : ByteArray) : Option Int := if h : a1.size = 1 then some (Lib.indexByte a0.data.toList (a1[0]'(by omega))) else none
theorem stringslite_Index.calls (a0 : ByteArray) (a1 : ByteArray) (r : Int) (w : World) (h : stringslite_Index.f a0 a1 = some r) :
  Calls Tryd.prog 58 #[.string a0, .string a1] w fun e w' => e = .returned (.int .i64 r) ∧ Drawn0 w w' := by
 unfold stringslite_Index.f at h
 by_cases hs : a1.size = 1
 ·rw [dif_pos hs] at h
  obtain rfl := Option.some.inj h
  obtain ⟨⟨l⟩⟩ := a1
  obtain ⟨c, rfl⟩ : ∃ c, l = [c] := by
   match l, hs with
   | [c], _ => exact ⟨c, rfl⟩
  refine (Tryd.stringslite_Index_one a0 c w).mono ?_
  rintro e w' ⟨rfl, rfl⟩
  exact ⟨rfl, Drawn0.refl _⟩
 ·rw [dif_neg hs] at h
  cases h
end Go.Proofs.YtdddhabemdbooaaDoor.X
namespace Go.Proofs.YtdddhabemdbooaaDoor.X
open Go.RowKit Go.Proofs.YtdddhabemdbooaaDoorW.PrintWords Go.Proofs.YtdddhabemdbooaaDoorW.PrintLast Go.Proofs.YtdddhabemdbooaaDoorW.PrintMore
attribute [local go_sem] max2_int min2_int max_two min_two max_three min_three max_four min_four
set_option linter.unusedVariables false
set_option linter.unusedSimpArgs false
def stringslite_Cut.f (a0 : ByteArray) (a1 : ByteArray) : Option (ByteArray × ByteArray × Bool) := (stringslite_Index.f a0 a1).bind fun t101 => (if t101 ≥ 0 then (if 0 ≤ t101 then (if t101 ≤ (a0.size : Int) then (if 0 ≤ (wrap64 (t101 + (a1.size : Int))) then (if (wrap64 (t101 + (a1.size : Int))) ≤ (a0.size : Int) then (some (a0.extract 0 (t101 : Int).toNat, a0.extract ((wrap64 (t101 + (a1.size : Int))) : Int).toNat a0.size, true)) else (none)) else (none)) else (none)) else (none)) else (some (a0, (⟨#[]⟩ : ByteArray), false)))
theorem stringslite_Cut.calls (a0 : ByteArray) (a1 : ByteArray) (r1 : ByteArray) (r2 : ByteArray) (r3 : Bool) (w : World) (h : stringslite_Cut.f a0 a1 = some (r1, r2, r3)) :
  Calls Tryd.prog 50 #[.string a0, .string a1] w fun e w' => e = .returned (.tuple #[.string r1, .string r2, .bool r3]) ∧ Drawn0 w w' := by
 have H : ((stringslite_Index.f a0 a1).bind fun t101 => (if t101 ≥ 0 then (if 0 ≤ t101 then (if t101 ≤ (a0.size : Int) then (if 0 ≤ (wrap64 (t101 + (a1.size : Int))) then (if (wrap64 (t101 + (a1.size : Int))) ≤ (a0.size : Int) then (some (a0.extract 0 (t101 : Int).toNat, a0.extract ((wrap64 (t101 + (a1.size : Int))) : Int).toNat a0.size, true)) else (none)) else (none)) else (none)) else (none)) else (some (a0, (⟨#[]⟩ : ByteArray), false)))) = some (r1, r2, r3) := h
 clear h; obtain ⟨t101, A3, H⟩ := bo_ H
 by_cases c4 : t101 ≥ 0
 ·rw [if_pos c4] at H; have c4b0 := decide_eq_true c4; clear c4
  by_cases c5 : 0 ≤ t101
  ·rw [if_pos c5] at H; have c5b0 := eq_true c5; have c5b1 := decide_eq_true c5; clear c5
   by_cases c6 : t101 ≤ (a0.size : Int)
   ·rw [if_pos c6] at H; have c6b0 := eq_true c6; have c6b1 := decide_eq_true c6; clear c6; obtain ⟨ji7, hji7⟩ : ∃ j_ : Int, (wrap64 (t101 + (a1.size : Int))) = j_ := ⟨_, rfl⟩
    replace H : (if 0 ≤ (ji7) then (if (ji7) ≤ (a0.size : Int) then (some (a0.extract 0 (t101 : Int).toNat, a0.extract ((ji7) : Int).toNat a0.size, true)) else (none)) else (none)) = some (r1, r2, r3) := by first | (rw [hji7] at H; exact H) | (simp only [hji7] at H ⊢; exact H)
    (try rw [hji7] at A3)
    have hji7w : (IntKind.i64.wrap (t101 + (a1.size : Int))) = ji7 := (i64_w _).trans hji7
    by_cases c8 : 0 ≤ (ji7)
    ·rw [if_pos c8] at H; have c8b0 := eq_true c8; have c8b1 := decide_eq_true c8; clear c8
     by_cases c9 : (ji7) ≤ (a0.size : Int)
     ·rw [if_pos c9] at H; have c9b0 := eq_true c9; have c9b1 := decide_eq_true c9; clear c9
      simp only [Option.some.injEq, Prod.mk.injEq] at H
      obtain ⟨rfl, rfl, rfl⟩ := H
      go_enter Tryd.func50, Tryd.ntmps50
      go_wp2_with (first | (go_at_call 58; (with_reducible refine (stringslite_Index.calls a0 a1 t101 _ A3.out).mono ?_); rintro e w' ⟨rfl, ⟨nd, rfl⟩⟩; (try first | exact ⟨rfl, _, World.drewN_drewN _ _ _⟩ | exact ⟨rfl, _, Eq.trans (World.drewN_drewN _ _ _) (congrArg (World.drewN _) (Nat.add_assoc _ _ _))⟩)))
      repeat (go_quiet (first | (go_at_call 58; (with_reducible refine (stringslite_Index.calls a0 a1 t101 _ A3.out).mono ?_); rintro e w' ⟨rfl, ⟨nd, rfl⟩⟩; (try first | exact ⟨rfl, _, World.drewN_drewN _ _ _⟩ | exact ⟨rfl, _, Eq.trans (World.drewN_drewN _ _ _) (congrArg (World.drewN _) (Nat.add_assoc _ _ _))⟩))); try go_wp2_with (first | (go_at_call 58; (with_reducible refine (stringslite_Index.calls a0 a1 t101 _ A3.out).mono ?_); rintro e w' ⟨rfl, ⟨nd, rfl⟩⟩; (try first | exact ⟨rfl, _, World.drewN_drewN _ _ _⟩ | exact ⟨rfl, _, Eq.trans (World.drewN_drewN _ _ _) (congrArg (World.drewN _) (Nat.add_assoc _ _ _))⟩))))
      go_ret3
      exact ⟨by first | rfl | (simp; done) | (simp only [← hji7] <;> (first | rfl | simp)) | (simp [*]; done), dr_⟩
     ·rw [if_neg c9] at H
      exact absurd H (by simp)
    ·rw [if_neg c8] at H
     exact absurd H (by simp)
   ·rw [if_neg c6] at H
    exact absurd H (by simp)
  ·rw [if_neg c5] at H
   exact absurd H (by simp)
 ·rw [if_neg c4] at H; have c4b0 := decide_eq_false c4; clear c4
  simp only [Option.some.injEq, Prod.mk.injEq] at H
  obtain ⟨rfl, rfl, rfl⟩ := H
  go_enter Tryd.func50, Tryd.ntmps50
  go_wp2_with (first | (go_at_call 58; (with_reducible refine (stringslite_Index.calls a0 a1 t101 _ A3.out).mono ?_); rintro e w' ⟨rfl, ⟨nd, rfl⟩⟩; (try first | exact ⟨rfl, _, World.drewN_drewN _ _ _⟩ | exact ⟨rfl, _, Eq.trans (World.drewN_drewN _ _ _) (congrArg (World.drewN _) (Nat.add_assoc _ _ _))⟩)))
  repeat (go_quiet (first | (go_at_call 58; (with_reducible refine (stringslite_Index.calls a0 a1 t101 _ A3.out).mono ?_); rintro e w' ⟨rfl, ⟨nd, rfl⟩⟩; (try first | exact ⟨rfl, _, World.drewN_drewN _ _ _⟩ | exact ⟨rfl, _, Eq.trans (World.drewN_drewN _ _ _) (congrArg (World.drewN _) (Nat.add_assoc _ _ _))⟩))); try go_wp2_with (first | (go_at_call 58; (with_reducible refine (stringslite_Index.calls a0 a1 t101 _ A3.out).mono ?_); rintro e w' ⟨rfl, ⟨nd, rfl⟩⟩; (try first | exact ⟨rfl, _, World.drewN_drewN _ _ _⟩ | exact ⟨rfl, _, Eq.trans (World.drewN_drewN _ _ _) (congrArg (World.drewN _) (Nat.add_assoc _ _ _))⟩))))
  go_ret3
  exact ⟨by first | rfl | (simp; done) | (simp [*]; done), dr_⟩

def strings_Cut.f (a0 : ByteArray) (a1 : ByteArray) : Option (ByteArray × ByteArray × Bool) := (stringslite_Cut.f a0 a1).bind fun bt101 => (some (bt101.1, bt101.2.1, bt101.2.2))
theorem strings_Cut.calls (a0 : ByteArray) (a1 : ByteArray) (r1 : ByteArray) (r2 : ByteArray) (r3 : Bool) (w : World) (h : strings_Cut.f a0 a1 = some (r1, r2, r3)) :
  Calls Tryd.prog 42 #[.string a0, .string a1] w fun e w' => e = .returned (.tuple #[.string r1, .string r2, .bool r3]) ∧ Drawn0 w w' := by
 have H : ((stringslite_Cut.f a0 a1).bind fun bt101 => (some (bt101.1, bt101.2.1, bt101.2.2))) = some (r1, r2, r3) := h
 clear h; obtain ⟨⟨t101, t102, t103⟩, A3, H⟩ := bo_ H; dsimp only at H
 simp only [Option.some.injEq, Prod.mk.injEq] at H
 obtain ⟨rfl, rfl, rfl⟩ := H
 go_enter Tryd.func42, Tryd.ntmps42
 go_wp2_with (first | ((with_reducible refine gate_callee (f:=50) rfl ?_); refine gL_ (some 9) rfl rfl Tryd.func50 rfl #[.string a0, .string a1] rfl ?_; (with_reducible refine (stringslite_Cut.calls a0 a1 t101 t102 t103 _ A3.out).mono ?_); rintro e w' ⟨rfl, ⟨nd, rfl⟩⟩; refine ⟨_, rfl, ?_⟩))
 go_ret3
 exact ⟨by first | rfl | (simp; done) | (simp [*]; done), dr_⟩

end Go.Proofs.YtdddhabemdbooaaDoor.X
