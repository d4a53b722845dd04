/- Contracts of the functions that the law NodeSame reaches, and what they answer (a session's own texts, joined; part 1). -/
import Derived.Test.YtdddhabemdbooaaDoorProg
import Derived.Below
import Derived.Deep.Draws
import Derived.Deep.AppendLies
import Derived.Maps.AppendAt
import Derived.OwnWalk
import Derived.Laws.BytesArg
import Derived.Laws.MakeOwn
import Derived.Laws.OwnMore
import Derived.Deep.OwnRows
import Derived.Tactics
import Derived.Lib.ConvBytes
import Derived.Laws.Slices
import Derived.WalkKit
import Derived.KernelRfl
import Derived.RowKit3
import Derived.Deep.LoopGhost
import Derived.Deep.QuietTactic
import Derived.BigQuiet
import Derived.WideLaws
import Derived.Deep.DeepCutAuto
import Derived.Deep.CutBlock
import Derived.Deep.RegionHeld3
import Derived.Laws.Rows
import Derived.Lib.AppendStr
import Derived.ArgAppend
import Derived.Laws.IdiomCopy
import Derived.OrdersHeld
import Derived.Laws.BitsLemmas
import Derived.RowKit
import Derived.Lib.LaidTab
import Derived.Lib.ItoaNum
import Derived.Test.YtdddhabemdbooaaDoorBNodeSame0
/- What holds of a block, or of all that is old, holds where nothing but new blocks and draws came since: found by instances, so that a walk's text need not say how. -/
set_option linter.unusedVariables false
namespace Go.Proofs.YtdddhabemdbooaaDoorW.PrintWords
open Go.RowKit Go.Proofs.YtdddhabemdbooaaDoorW.PrintLast Go.Proofs.YtdddhabemdbooaaDoorW.PrintMore
class Peel (W0 W1 : World) : Prop where
  blk : ∀ (g : Nat) (o : Obj), W0.heap[g]? = some o → W1.heap[g]? = some o
  bel : ∀ w : World, Below w.heap.size w W0 → Below w.heap.size w W1
instance (priority := high) Peel.self (W : World) : Peel W W := ⟨fun _ _ h => h, fun _ h => h⟩
instance Peel.alloc (W0 W1 : World) (o' : Obj) [h : Peel W0 W1] : Peel W0 (W1.alloc o') := ⟨fun g o hk => blk_alloc (h.blk g o hk) o', fun w hb => below_alloc (h.bel w hb) o'⟩
instance Peel.drewN (W0 W1 : World) (n : Nat) [h : Peel W0 W1] : Peel W0 (W1.drewN n) := ⟨fun g o hk => blk_drewN (h.blk g o hk) n, fun w hb => pw_below_drewN (h.bel w hb) n⟩
instance Peel.drew (W0 W1 : World) [h : Peel W0 W1] : Peel W0 W1.drew := ⟨fun g o hk => blk_drew (h.blk g o hk), fun w hb => below_drew1 (h.bel w hb)⟩
theorem pkx {W0 W1 : World} [h : Peel W0 W1] {g : Nat} {o : Obj} (k : Aside0 (W0.heap[g]? = some o)) : W1.heap[g]? = some o := h.blk _ _ k.out
theorem pbx {W0 W1 w : World} [h : Peel W0 W1] (k : Aside0 (Below w.heap.size w W0)) : Below w.heap.size w W1 := h.bel _ k.out
end Go.Proofs.YtdddhabemdbooaaDoorW.PrintWords
namespace Go.Proofs.YtdddhabemdbooaaDoor.X
open Go.RowKit Go.Proofs.YtdddhabemdbooaaDoorW.PrintWords Go.Proofs.YtdddhabemdbooaaDoorW.PrintLast Go.Proofs.YtdddhabemdbooaaDoorW.PrintMore
attribute [local go_sem] max2_int min2_int max_two min_two max_three min_three max_four min_four   -- for this text's walks alone
set_option linter.unusedVariables false
set_option linter.unusedSimpArgs false
def errW : Option Int → Value
  | none => .nilIface
  | some c => .iface 0 (.int .i64 c)
theorem errW_none : errW none = .nilIface := rfl
theorem errW_some (c : Int) : errW (some c) = .iface 0 (.int .i64 c) := rfl

theorem info28 : (Tryd.prog.info? 28).map (fun i => (i.zero, i.size, i.bytes)) = some (some (.agg #[(.int .i64 0), (.int .i64 0), (.int .i64 0), (.int .i64 0), (.string ⟨#[]⟩), (.int .i64 0), (.int .i64 0), (.bool false), (.bool false), (.int .i64 0), (.int .i64 0), (.bool false), (.bool false), (.slice none 0 0)]), 14, 120) := by kernel_rfl
-- the values' own types
structure S23 where
  f0 : Int
  f1 : Int
  f2 : ByteArray
def z23 : S23 := ⟨(0 : Int), (0 : Int), (⟨#[]⟩ : ByteArray)⟩
def k23 : Kd S23 := Kd.iso (Kd.pair (Kd.int .i64) (Kd.pair (Kd.int .i64) Kd.string)) (fun x : S23 => (x.f0, x.f1, x.f2))
theorem k23_heap : Kd.Heap k23 := Kd.heap_iso _ (Kd.heap_pair (Kd.heap_int .i64) (Kd.heap_pair (Kd.heap_int .i64) Kd.heap_string))
theorem k23_open {w : World} {x : S23} {cs : List Value} (h : k23.K w x cs) : cs = [.int .i64 x.f0, .int .i64 x.f1, .string x.f2] := by
  obtain ⟨_, _, rfl, rfl, ⟨_, _, rfl, rfl, rfl⟩⟩ := h
  exact rfl
theorem k23_mk (w : World) (x : S23)  : k23.K w x [.int .i64 x.f0, .int .i64 x.f1, .string x.f2] := ⟨[.int .i64 x.f0], [.int .i64 x.f1, .string x.f2], rfl, rfl, ⟨[.int .i64 x.f1], [.string x.f2], rfl, rfl, rfl⟩⟩
structure S25 where
  f0 : Int
  f1 : Int
  f2 : Bool
  f3 : Bool
def z25 : S25 := ⟨(0 : Int), (0 : Int), false, false⟩
def k25 : Kd S25 := Kd.iso (Kd.pair (Kd.int .i64) (Kd.pair (Kd.int .i64) (Kd.pair Kd.bool Kd.bool))) (fun x : S25 => (x.f0, x.f1, x.f2, x.f3))
theorem k25_heap : Kd.Heap k25 := Kd.heap_iso _ (Kd.heap_pair (Kd.heap_int .i64) (Kd.heap_pair (Kd.heap_int .i64) (Kd.heap_pair Kd.heap_bool Kd.heap_bool)))
theorem k25_open {w : World} {x : S25} {cs : List Value} (h : k25.K w x cs) : cs = [.int .i64 x.f0, .int .i64 x.f1, .bool x.f2, .bool x.f3] := by
  obtain ⟨_, _, rfl, rfl, ⟨_, _, rfl, rfl, ⟨_, _, rfl, rfl, rfl⟩⟩⟩ := h
  exact rfl
theorem k25_mk (w : World) (x : S25)  : k25.K w x [.int .i64 x.f0, .int .i64 x.f1, .bool x.f2, .bool x.f3] := ⟨[.int .i64 x.f0], [.int .i64 x.f1, .bool x.f2, .bool x.f3], rfl, rfl, ⟨[.int .i64 x.f1], [.bool x.f2, .bool x.f3], rfl, rfl, ⟨[.bool x.f2], [.bool x.f3], rfl, rfl, rfl⟩⟩⟩
structure S28 where
  f0 : Int
  f1 : Int
  f2 : S23
  f3 : S25
  f4 : S25
  f5 : (List S28)
def z28 : S28 := ⟨(0 : Int), (0 : Int), z23, z25, z25, ([] : List S28)⟩
def F28 (d : Kd S28) : Kd S28 := Kd.iso (Kd.pair (Kd.int .i64) (Kd.pair (Kd.int .i64) (Kd.pair k23 (Kd.pair k25 (Kd.pair k25 (Kd.slice 28 d)))))) (fun x : S28 => (x.f0, x.f1, x.f2, x.f3, x.f4, x.f5))
theorem mono28 : Kd.Mono F28 := Kd.mono_iso _ (Kd.mono_pair (Kd.mono_const _) (Kd.mono_pair (Kd.mono_const _) (Kd.mono_pair (Kd.mono_const _) (Kd.mono_pair (Kd.mono_const _) (Kd.mono_pair (Kd.mono_const _) (Kd.mono_slice 28 Kd.mono_id))))))
theorem sub28 : Kd.Sub F28 [28] := Kd.sub_iso _ (Kd.sub_pair (Kd.sub_const _ (by decide)) (Kd.sub_pair (Kd.sub_const _ (by decide)) (Kd.sub_pair (Kd.sub_const _ (by decide)) (Kd.sub_pair (Kd.sub_const _ (by decide)) (Kd.sub_pair (Kd.sub_const _ (by decide)) (Kd.sub_slice 28 (by decide) Kd.sub_id))))))
theorem sz28 : ∀ n, (Kd.upto F28 14 [28] n).sz = 14 := Kd.upto_sz (fun _ => rfl)
def k28 : Kd S28 := Kd.fix F28 14 [28] sz28 (Kd.upto_E sub28)
theorem k28_heap : Kd.Heap k28 := Kd.heap_fix (fun _ h_ => Kd.heap_iso _ (Kd.heap_pair (Kd.heap_int .i64) (Kd.heap_pair (Kd.heap_int .i64) (Kd.heap_pair k23_heap (Kd.heap_pair k25_heap (Kd.heap_pair k25_heap (Kd.heap_slice 28 h_)))))))
theorem k28_open {w : World} {x : S28} {cs : List Value} (h : k28.K w x cs) : ∃ A13 c13, cs = [.int .i64 x.f0, .int .i64 x.f1, .int .i64 x.f2.f0, .int .i64 x.f2.f1, .string x.f2.f2, .int .i64 x.f3.f0, .int .i64 x.f3.f1, .bool x.f3.f2, .bool x.f3.f3, .int .i64 x.f4.f0, .int .i64 x.f4.f1, .bool x.f4.f2, .bool x.f4.f3, .slice A13 x.f5.length c13] ∧ x.f5.length ≤ c13 ∧ k28.C w A13 x.f5.length x.f5 := by
  obtain ⟨n, h⟩ := h
  cases n with
  | zero => exact h.elim
  | succ n =>
    obtain ⟨_, _, rfl, rfl, ⟨_, _, rfl, rfl, ⟨_, _, rfl, s2, ⟨_, _, rfl, s5, ⟨_, _, rfl, s9, ⟨A13, c13, rfl, l13, g13⟩⟩⟩⟩⟩⟩ := h
    obtain rfl := k23_open s2
    obtain rfl := k25_open s5
    obtain rfl := k25_open s9
    exact ⟨A13, c13, rfl, l13, Kd.fix_C g13⟩
theorem k28_mk (w : World) (x : S28) {A13 : Option Addr} {c13 : Nat} (l13 : x.f5.length ≤ c13) (g13 : k28.C w A13 x.f5.length x.f5) : k28.K w x [.int .i64 x.f0, .int .i64 x.f1, .int .i64 x.f2.f0, .int .i64 x.f2.f1, .string x.f2.f2, .int .i64 x.f3.f0, .int .i64 x.f3.f1, .bool x.f3.f2, .bool x.f3.f3, .int .i64 x.f4.f0, .int .i64 x.f4.f1, .bool x.f4.f2, .bool x.f4.f3, .slice A13 x.f5.length c13] := by
  obtain ⟨n13, q13⟩ := Kd.fix_C_back mono28 g13
  have r13 := Kd.upto_C_le mono28 sz28 (show n13 ≤ n13 by omega) q13
  exact ⟨n13 + 1, ⟨[.int .i64 x.f0], [.int .i64 x.f1, .int .i64 x.f2.f0, .int .i64 x.f2.f1, .string x.f2.f2, .int .i64 x.f3.f0, .int .i64 x.f3.f1, .bool x.f3.f2, .bool x.f3.f3, .int .i64 x.f4.f0, .int .i64 x.f4.f1, .bool x.f4.f2, .bool x.f4.f3, .slice A13 x.f5.length c13], rfl, rfl, ⟨[.int .i64 x.f1], [.int .i64 x.f2.f0, .int .i64 x.f2.f1, .string x.f2.f2, .int .i64 x.f3.f0, .int .i64 x.f3.f1, .bool x.f3.f2, .bool x.f3.f3, .int .i64 x.f4.f0, .int .i64 x.f4.f1, .bool x.f4.f2, .bool x.f4.f3, .slice A13 x.f5.length c13], rfl, rfl, ⟨[.int .i64 x.f2.f0, .int .i64 x.f2.f1, .string x.f2.f2], [.int .i64 x.f3.f0, .int .i64 x.f3.f1, .bool x.f3.f2, .bool x.f3.f3, .int .i64 x.f4.f0, .int .i64 x.f4.f1, .bool x.f4.f2, .bool x.f4.f3, .slice A13 x.f5.length c13], rfl, (k23_mk w x.f2 ), ⟨[.int .i64 x.f3.f0, .int .i64 x.f3.f1, .bool x.f3.f2, .bool x.f3.f3], [.int .i64 x.f4.f0, .int .i64 x.f4.f1, .bool x.f4.f2, .bool x.f4.f3, .slice A13 x.f5.length c13], rfl, (k25_mk w x.f3 ), ⟨[.int .i64 x.f4.f0, .int .i64 x.f4.f1, .bool x.f4.f2, .bool x.f4.f3], [.slice A13 x.f5.length c13], rfl, (k25_mk w x.f4 ), ⟨A13, c13, rfl, l13, r13⟩⟩⟩⟩⟩⟩⟩
theorem k28_openF {W : World} {ok : Nat → Prop} {x : S28} {cs : List Value} (h : Kd.FK k28 W ok x cs) : ∃ A13 c13, cs = [.int .i64 x.f0, .int .i64 x.f1, .int .i64 x.f2.f0, .int .i64 x.f2.f1, .string x.f2.f2, .int .i64 x.f3.f0, .int .i64 x.f3.f1, .bool x.f3.f2, .bool x.f3.f3, .int .i64 x.f4.f0, .int .i64 x.f4.f1, .bool x.f4.f2, .bool x.f4.f3, .slice A13 x.f5.length c13] ∧ x.f5.length ≤ c13 ∧ Kd.F k28 W ok A13 x.f5.length x.f5 := by
  obtain ⟨A13, c13, rfl, l13, _⟩ := k28_open (Kd.FK_now h)
  exact ⟨A13, c13, rfl, l13, (fun W' hW => by obtain ⟨A13_, c13_, he, l13_, g13_⟩ := k28_open (h W' hW); injection (Option.some.inj (show some (Value.slice A13 x.f5.length c13) = some (Value.slice A13_ x.f5.length c13_) from congrArg (fun l => l[13]?) he)) with ha_ _ _; rw [ha_]; exact g13_)⟩
theorem k28_mkF (W : World) (ok : Nat → Prop) (x : S28) {A13 : Option Addr} {c13 : Nat} (l13 : x.f5.length ≤ c13) (g13 : Kd.F k28 W ok A13 x.f5.length x.f5) : Kd.FK k28 W ok x [.int .i64 x.f0, .int .i64 x.f1, .int .i64 x.f2.f0, .int .i64 x.f2.f1, .string x.f2.f2, .int .i64 x.f3.f0, .int .i64 x.f3.f1, .bool x.f3.f2, .bool x.f3.f3, .int .i64 x.f4.f0, .int .i64 x.f4.f1, .bool x.f4.f2, .bool x.f4.f3, .slice A13 x.f5.length c13] := fun W2 hW => k28_mk W2 x l13 (g13 W2 hW)
def rd_T28 (xs : List S28) (i : Int) : S28 := xs.getD i.toNat z28
theorem at_T28 {w : World} {A : Option Addr} {n : Nat} {xs : List S28} (h : Kd.C k28 w A n xs) (i : Int) (h0 : 0 ≤ i) (h1 : i < n) : ∃ ad A13 c13, A = some ad ∧ w.cell? (ad.add (i.toNat * 14)) = some (.int .i64 (rd_T28 xs i).f0) ∧ w.cell? ⟨(ad.add (i.toNat * 14)).block, (ad.add (i.toNat * 14)).off + 1, none⟩ = some (.int .i64 (rd_T28 xs i).f1) ∧ w.cell? ⟨(ad.add (i.toNat * 14)).block, (ad.add (i.toNat * 14)).off + 2, none⟩ = some (.int .i64 (rd_T28 xs i).f2.f0) ∧ w.cell? ⟨(ad.add (i.toNat * 14)).block, (ad.add (i.toNat * 14)).off + 3, none⟩ = some (.int .i64 (rd_T28 xs i).f2.f1) ∧ w.cell? ⟨(ad.add (i.toNat * 14)).block, (ad.add (i.toNat * 14)).off + 4, none⟩ = some (.string (rd_T28 xs i).f2.f2) ∧ w.cell? ⟨(ad.add (i.toNat * 14)).block, (ad.add (i.toNat * 14)).off + 5, none⟩ = some (.int .i64 (rd_T28 xs i).f3.f0) ∧ w.cell? ⟨(ad.add (i.toNat * 14)).block, (ad.add (i.toNat * 14)).off + 6, none⟩ = some (.int .i64 (rd_T28 xs i).f3.f1) ∧ w.cell? ⟨(ad.add (i.toNat * 14)).block, (ad.add (i.toNat * 14)).off + 7, none⟩ = some (.bool (rd_T28 xs i).f3.f2) ∧ w.cell? ⟨(ad.add (i.toNat * 14)).block, (ad.add (i.toNat * 14)).off + 8, none⟩ = some (.bool (rd_T28 xs i).f3.f3) ∧ w.cell? ⟨(ad.add (i.toNat * 14)).block, (ad.add (i.toNat * 14)).off + 9, none⟩ = some (.int .i64 (rd_T28 xs i).f4.f0) ∧ w.cell? ⟨(ad.add (i.toNat * 14)).block, (ad.add (i.toNat * 14)).off + 10, none⟩ = some (.int .i64 (rd_T28 xs i).f4.f1) ∧ w.cell? ⟨(ad.add (i.toNat * 14)).block, (ad.add (i.toNat * 14)).off + 11, none⟩ = some (.bool (rd_T28 xs i).f4.f2) ∧ w.cell? ⟨(ad.add (i.toNat * 14)).block, (ad.add (i.toNat * 14)).off + 12, none⟩ = some (.bool (rd_T28 xs i).f4.f3) ∧ w.cell? ⟨(ad.add (i.toNat * 14)).block, (ad.add (i.toNat * 14)).off + 13, none⟩ = some (.slice A13 (rd_T28 xs i).f5.length c13) ∧ (rd_T28 xs i).f5.length ≤ c13 ∧ k28.C w A13 (rd_T28 xs i).f5.length (rd_T28 xs i).f5 := by
  obtain ⟨ad, c, e, _, hK, hc0⟩ := Kd.C_get h z28 i h0 h1
  have hc : ∀ j u, c[j]? = some u → w.cell? (ad.add (i.toNat * 14 + j)) = some u := hc0
  obtain ⟨A13, c13, rfl, l13, g13⟩ := k28_open hK
  exact ⟨ad, A13, c13, e, hc 0 _ rfl, by rw [← add_field _ _ 1 (by omega)]; exact hc 1 _ rfl, by rw [← add_field _ _ 2 (by omega)]; exact hc 2 _ rfl, by rw [← add_field _ _ 3 (by omega)]; exact hc 3 _ rfl, by rw [← add_field _ _ 4 (by omega)]; exact hc 4 _ rfl, by rw [← add_field _ _ 5 (by omega)]; exact hc 5 _ rfl, by rw [← add_field _ _ 6 (by omega)]; exact hc 6 _ rfl, by rw [← add_field _ _ 7 (by omega)]; exact hc 7 _ rfl, by rw [← add_field _ _ 8 (by omega)]; exact hc 8 _ rfl, by rw [← add_field _ _ 9 (by omega)]; exact hc 9 _ rfl, by rw [← add_field _ _ 10 (by omega)]; exact hc 10 _ rfl, by rw [← add_field _ _ 11 (by omega)]; exact hc 11 _ rfl, by rw [← add_field _ _ 12 (by omega)]; exact hc 12 _ rfl, by rw [← add_field _ _ 13 (by omega)]; exact hc 13 _ rfl, l13, g13⟩

end Go.Proofs.YtdddhabemdbooaaDoor.X
/- The tables that the library reads: a world that holds them, and what follows it. -/
set_option linter.unusedVariables false
namespace Go.Proofs.YtdddhabemdbooaaDoor.X
open Go.RowKit Go.Proofs.YtdddhabemdbooaaDoorW.PrintWords Go.Proofs.YtdddhabemdbooaaDoorW.PrintLast Go.Proofs.YtdddhabemdbooaaDoorW.PrintMore
def bru64 : List Int := [0, 1, 56, 2, 57, 49, 28, 3, 61, 58, 42, 50, 38, 29, 17, 4, 62, 47, 59, 36, 45, 43, 51, 22, 53, 39, 33, 30, 24, 18, 12, 5, 63, 55, 48, 27, 60, 41, 37, 16, 46, 35, 44, 21, 52, 32, 23, 11, 54, 26, 40, 15, 34, 20, 31, 10, 25, 14, 19, 9, 13, 8, 7, 6]
structure Tab (w : World) : Prop where
  pow : Lib.TabIs Tryd.prog w "internal/strconv.uint64pow10" .u64 Lib.pow10Tab
  bru : Lib.TabIs Tryd.prog w "math/bits.deBruijn64tab" .u8 bru64
theorem tabIs_below {w w' : World} {n : String} {k : IntKind} {zs : List Int} (h : Lib.TabIs Tryd.prog w n k zs) (hb : Below w.heap.size w w') : Lib.TabIs Tryd.prog w' n k zs := by
  unfold Lib.TabIs World.var? at *
  obtain ⟨g, hg, h⟩ := Option.bind_eq_some_iff.1 h
  rw [hg, Option.bind_some]
  have hlt : g < w.heap.size := by
    rcases Nat.lt_or_ge g w.heap.size with hh | hh
    · exact hh
    · rw [Array.getElem?_eq_none hh] at h; simp at h
  rw [hb.block g hlt]
  exact h
theorem Tab.below {w w' : World} (h : Tab w) (hb : Below w.heap.size w w') : Tab w' := ⟨tabIs_below h.pow hb, tabIs_below h.bru hb⟩
theorem tb_ {w w' : World} (hb : Below w.heap.size w w') (h : Aside0 (Tab w)) : Aside0 (Tab w') := ⟨h.out.below hb⟩
end Go.Proofs.YtdddhabemdbooaaDoor.X
namespace Go.Proofs.YtdddhabemdbooaaDoor.X
open Go.RowKit Go.Proofs.YtdddhabemdbooaaDoorW.PrintWords
abbrev T_ : Bool := true
abbrev F_ : Bool := false
theorem hl_ {W0 W1 : World} [Peel W0 W1] {g gb : Nat} {o : Obj} (k : Aside0 (W0.heap[g]? = some o)) (hg : gb = W1.heap.size) : Aside0 (g ≠ gb) := ⟨by rw [hg]; exact Nat.ne_of_lt (blk_lt (pkx k))⟩
theorem hr_ {W0 W1 : World} [Peel W0 W1] {g gb : Nat} {o : Obj} (k : Aside0 (W0.heap[g]? = some o)) (hg : gb = W1.heap.size) : Aside0 (gb ≠ g) := ⟨by rw [hg]; exact Nat.ne_of_gt (blk_lt (pkx k))⟩
theorem hs_ {W0 W1 w : World} [Peel W0 W1] {gb : Nat} (k : Aside0 (Below w.heap.size w W0)) (hg : gb = W1.heap.size) : Aside0 (w.heap.size ≤ gb) := ⟨by rw [hg]; exact below_size (pbx k)⟩
abbrev T : Bool := true
abbrev F : Bool := false
def m_ : Nat → Nat → List Bool
  | 0, _ => []
  | n + 1, x => (x % 2 == 1) :: m_ n (x / 2)
theorem bb_ {W0 W1 W2 : World} [h : Peel W0 W1] {g : Nat} {o : Obj} (k : Aside0 (W0.heap[g]? = some o)) (hb : Below W1.heap.size W1 W2) : Aside0 (W2.heap[g]? = some o) := Aside0.mk (blk_below (pkx k) hb)
theorem bs_ {W0 W1 W2 w : World} [h : Peel W0 W1] (k : Aside0 (Below w.heap.size w W0)) (hb : Below W1.heap.size W1 W2) : Aside0 (Below w.heap.size w W2) := Aside0.mk (below_step (pbx k) hb)
theorem bc_ {w : World} {g : Nat} {t : TypeId} {cs : Array Value} {v : Value} (h : Aside0 (w.heap[g]? = some (.cells cs t (0, 0)))) (i : Nat) (e : cs[i]? = some v) : w.cell? ⟨g, i, none⟩ = some v := (blk_cell h.out i).trans e
theorem q_ : (∀ (a : Act) (v : Value), a.put none v = a) ∧ (∀ (a : Act) (t : Tmp) (v : Value), a.put (some t) v = { a with tmps := a.tmps.setIfInBounds t v }) ∧ (∀ (l : List Value) (i : Nat) (v : Value), l.toArray.setIfInBounds i v = (l.set i v).toArray) ∧ (∀ (a b : Value) (l : List Value), (a :: l).set 0 b = b :: l) ∧ (∀ (a b : Value) (l : List Value) (n : Nat), (a :: l).set (n + 1) b = a :: l.set n b) := ⟨fun _ _ => rfl, fun _ _ _ => rfl, fun _ _ _ => List.setIfInBounds_toArray .., fun _ _ _ => rfl, fun _ _ _ _ => rfl⟩
end Go.Proofs.YtdddhabemdbooaaDoor.X
namespace Go.Proofs.YtdddhabemdbooaaDoor.X
open Go.RowKit Go.Proofs.YtdddhabemdbooaaDoorW.PrintWords Go.Proofs.YtdddhabemdbooaaDoorW.PrintLast Go.Proofs.YtdddhabemdbooaaDoorW.PrintMore
class PO (W0 : outParam World) (W1 : World) : Prop where
  of : ∀ (g : Nat) (o : Obj), W0.heap[g]? = some o → W1.heap[g]? = some o
instance (priority := low) PO.self (W : World) : PO W W := ⟨fun _ _ h => h⟩
instance PO.alloc (W0 W1 : World) (o9 : Obj) [h : PO W0 W1] : PO W0 (W1.alloc o9) := ⟨fun g o k => blk_alloc (h.of g o k) o9⟩
instance PO.drewN (W0 W1 : World) (n : Nat) [h : PO W0 W1] : PO W0 (W1.drewN n) := ⟨fun g o k => blk_drewN (h.of g o k) n⟩
instance PO.drew (W0 W1 : World) [h : PO W0 W1] : PO W0 W1.drew := ⟨fun g o k => blk_drew (h.of g o k)⟩
theorem pf_ {W W1 : World} {g : Nat} {cs : Array Value} {t : TypeId} {p : Addr} {v : Value} [h : PO (W.setCell p v) W1] (k : W.heap[g]? = some (.cells cs t (0, 0))) (hne : g ≠ p.block) : W1.heap[g]? = some (.cells cs t (0, 0)) := h.of _ _ (blk_far k hne v)
theorem pp_ {W W1 : World} {g : Nat} {cs cs2 : Array Value} {t : TypeId} {v : Value} (i : Nat) [h : PO (W.setCell ⟨g, i, none⟩ v) W1] (k : W.heap[g]? = some (.cells cs t (0, 0))) (e : cs.setIfInBounds i v = cs2) : W1.heap[g]? = some (.cells cs2 t (0, 0)) := h.of _ _ (blk_put k i v e)
theorem gL_ {P : Program} {ops : Array Oper} {Q : Exit → Act → World → Prop} {rest : List Oper} {oi : Oper} {a : Act} {w : World} (N : Option Tmp) (hd : oi.dst = N) (hg : oi.guard = none) {f : FuncId} {fn : Func} {asx : Array Operand} {ts : Array TypeId} (hf : P.funcs[f]? = some fn) (hb : fn.body.isSome = true) (args : Array Value) (hop : oi.op = .call { callee := .value (.func f), args := asx, argTypes := ts })
    (h : Calls P f args w fun e w9 => ∃ v, e = .returned v ∧ wpList P ops Q rest (a.put N v) w9) (hname : (fn.name == "runtime.NumGoroutine") = false := by kernel_rfl) (hargs : asx.map a.eval = args := by (try simp only [List.map_toArray, List.map_cons, List.map_nil]); first | done | rfl | (simp only [List.length_drop, List.length_take]; rfl)) : wpList P ops Q (oi :: rest) a w := goesL_ N hd hg hf hname hb args hop hargs h
theorem be_ {P : Program} {ops : Array Oper} {Q : Exit → Act → World → Prop} {rest : List Oper} {o : Oper} {a : Act} {W : World} {N : Tmp} {cs : Array Value} {t : TypeId} (h : ∀ g, g = W.heap.size → ∀ w1, w1.heap[g]? = some (.cells cs t (0, 0)) → Below W.heap.size W w1 → wpList P ops Q rest (a.put o.dst (.pointer (some ⟨g, 0, none⟩))) w1) (hgd : o.guard = none := by rfl) (hd : o.dst = some N := by rfl) (hrun : (execOp a.eval o).run P W = .ok (.value (.pointer (some ⟨W.heap.size, 0, none⟩))) (W.alloc (.cells cs t (0, 0))) := by first | (go_simp; done) | (go_simp; rfl)) : wpList P ops Q (o :: rest) a W := box_event hgd hd hrun h
end Go.Proofs.YtdddhabemdbooaaDoor.X
namespace Go.Proofs.YtdddhabemdbooaaDoor.X
open Go.RowKit Go.Proofs.YtdddhabemdbooaaDoorW.PrintWords Go.Proofs.YtdddhabemdbooaaDoorW.PrintLast Go.Proofs.YtdddhabemdbooaaDoorW.PrintMore
attribute [local go_sem] max2_int min2_int max_two min_two max_three min_three max_four min_four
set_option linter.unusedVariables false
set_option linter.unusedSimpArgs false
mutual
def oculusref22_Left.l0 : Nat → Int → Int → Int → Int → Int → Int → ByteArray → Int → Int → Bool → Bool → Int → Int → Bool → Bool → List (S28) → Option (Int)
 | 0, _, _, _, _, _, _, _, _, _, _, _, _, _, _, _, _ => none
 | k + 1, x1, x5, x102000, x102001, x102002, x102003, x102004, x102005, x102006, x102007, x102008, x102009, x102010, x102011, x102012, x102013 => if x5 < (x102013.length : Int) then (if x1 ≥ 0 then (if 0 ≤ x5 then ((oculusref22_Left.f k ((rd_T28 x102013 x5).f0) ((rd_T28 x102013 x5).f1) ((rd_T28 x102013 x5).f2.f0) ((rd_T28 x102013 x5).f2.f1) ((rd_T28 x102013 x5).f2.f2) ((rd_T28 x102013 x5).f3.f0) ((rd_T28 x102013 x5).f3.f1) ((rd_T28 x102013 x5).f3.f2) ((rd_T28 x102013 x5).f3.f3) ((rd_T28 x102013 x5).f4.f0) ((rd_T28 x102013 x5).f4.f1) ((rd_T28 x102013 x5).f4.f2) ((rd_T28 x102013 x5).f4.f3) ((rd_T28 x102013 x5).f5) x1).bind fun t103 => (oculusref22_Left.l0 k t103 (wrap64 (x5 + 1)) x102000 x102001 x102002 x102003 x102004 x102005 x102006 x102007 x102008 x102009 x102010 x102011 x102012 x102013)) else (none)) else (some x1)) else (some x1)
def oculusref22_Left.f : Nat → Int → Int → Int → Int → ByteArray → Int → Int → Bool → Bool → Int → Int → Bool → Bool → List (S28) → Int → Option (Int)
 | 0, _, _, _, _, _, _, _, _, _, _, _, _, _, _, _ => none
 | k + 1, a0_0, a0_1, a0_2, a0_3, a0_4, a0_5, a0_6, a0_7, a0_8, a0_9, a0_10, a0_11, a0_12, l0_13, a1 => oculusref22_Left.l0 k (wrap64 (a1 - 1)) 0 a0_0 a0_1 a0_2 a0_3 a0_4 a0_5 a0_6 a0_7 a0_8 a0_9 a0_10 a0_11 a0_12 l0_13
end
set_option maxHeartbeats 8000000 in
set_option maxRecDepth 100000 in
theorem oculusref22_Left.calls (k : Nat) : ∀ (a0_0 : Int) (a0_1 : Int) (a0_2 : Int) (a0_3 : Int) (a0_4 : ByteArray) (a0_5 : Int) (a0_6 : Int) (a0_7 : Bool) (a0_8 : Bool) (a0_9 : Int) (a0_10 : Int) (a0_11 : Bool) (a0_12 : Bool) (A0_13 : Option Addr) (c0_13 : Nat) (l0_13 : List (S28)) (a1 : Int) (r : Int) (w : World) (hr0_13 : Kd.C k28 w A0_13 l0_13.length l0_13) (hc0_13 : l0_13.length ≤ c0_13) (h : oculusref22_Left.f k a0_0 a0_1 a0_2 a0_3 a0_4 a0_5 a0_6 a0_7 a0_8 a0_9 a0_10 a0_11 a0_12 l0_13 a1 = some r),
  Calls Tryd.prog 26 #[.agg #[.int .i64 a0_0, .int .i64 a0_1, .int .i64 a0_2, .int .i64 a0_3, .string a0_4, .int .i64 a0_5, .int .i64 a0_6, .bool a0_7, .bool a0_8, .int .i64 a0_9, .int .i64 a0_10, .bool a0_11, .bool a0_12, .slice A0_13 l0_13.length c0_13], .int .i64 a1] w fun e w' => e = .returned (.int .i64 r) ∧ Below w.heap.size w w' := by
 induction k using Nat.strongRecOn with
 | _ k ih =>
 intro a0_0 a0_1 a0_2 a0_3 a0_4 a0_5 a0_6 a0_7 a0_8 a0_9 a0_10 a0_11 a0_12 A0_13 c0_13 l0_13 a1 r w hr0_13 hc0_13 h
 cases k with
 | zero => exact absurd h (by simp [oculusref22_Left.f])
 | succ k =>
 simp only [oculusref22_Left.f] at h
 have hu28 := Tryd.underlying28; have HR0_13 := Aside0.mk hr0_13; have HC0_13 := Aside0.mk hc0_13; clear hr0_13 hc0_13; have HB := Aside0.mk (Below.refl w.heap.size w)
 have H : (oculusref22_Left.l0 k (wrap64 (a1 - 1)) 0 a0_0 a0_1 a0_2 a0_3 a0_4 a0_5 a0_6 a0_7 a0_8 a0_9 a0_10 a0_11 a0_12 l0_13) = some r := h
 clear h
 have H' := Aside0.mk H
 clear H
 go_enter Tryd.func26, Tryd.ntmps26
 go_wp2_with (first | ((with_reducible refine gate_dst (N:=2) rfl ?_); refine be_ (N:=2) (cs := #[.int .i64 a0_0, .int .i64 a0_1, .int .i64 a0_2, .int .i64 a0_3, .string a0_4, .int .i64 a0_5, .int .i64 a0_6, .bool a0_7, .bool a0_8, .int .i64 a0_9, .int .i64 a0_10, .bool a0_11, .bool a0_12, .slice A0_13 l0_13.length c0_13]) (t:=28) ?_; intro gb101 hg w3 hbox hb; have BK101 := Aside0.mk (hbox); replace HB := bs_ HB hb; clear hb hbox hg))
 go_loopg [1, 5] k (fun kq v1 v5 w' => ∃ (x1_1 : Int) (x5_1 : Int), v1 = .int .i64 x1_1 ∧ v5 = .int .i64 x5_1 ∧ Aside0 (oculusref22_Left.l0 kq x1_1 x5_1 a0_0 a0_1 a0_2 a0_3 a0_4 a0_5 a0_6 a0_7 a0_8 a0_9 a0_10 a0_11 a0_12 l0_13 = some r) ∧ Aside0 (kq ≤ k) ∧ Aside0 (w'.heap[gb101]? = some (.cells #[.int .i64 a0_0, .int .i64 a0_1, .int .i64 a0_2, .int .i64 a0_3, .string a0_4, .int .i64 a0_5, .int .i64 a0_6, .bool a0_7, .bool a0_8, .int .i64 a0_9, .int .i64 a0_10, .bool a0_11, .bool a0_12, (.slice A0_13 l0_13.length c0_13)] 28 (0, 0))) ∧ Aside0 (Below w.heap.size w w'))
 case atStart => exact ⟨(wrap64 (a1 - 1)), (0), (by first | rfl | (simp; done) | (simp [*]; done)), (by first | rfl | (simp; done) | (simp [*]; done)), H', ⟨Nat.le_refl _⟩, ⟨pkx BK101⟩, ⟨pbx HB⟩⟩
 case round =>
  clear H'; (try clear c2); (try clear p2); obtain ⟨x1_1, x5_1, rfl, rfl, HA, HK1, BK101, HB⟩ := hrel
  cases gk with
  | zero => exact absurd HA.out (by simp [oculusref22_Left.l0])
  | succ k1 =>
   have H := HA.out; clear HA
   simp only [oculusref22_Left.l0] at H
   by_cases c4 : x5_1 < (l0_13.length : Int)
   ·rw [if_pos c4] at H; have c4b0 : decide (x5_1 < (l0_13.length : Int)) = true := decide_eq_true c4; clear c4
    by_cases c5 : x1_1 ≥ 0
    ·rw [if_pos c5] at H; have c5b0 : decide (0 ≤ x1_1) = true := decide_eq_true c5; clear c5
     by_cases c6 : 0 ≤ x5_1
     ·rw [if_pos c6] at H; have c6b0 : decide (0 ≤ x5_1) = true := decide_eq_true c6; clear c6; replace H := Option.bind_eq_some_iff.mp H; obtain ⟨t103, A70, H⟩ := H
      replace H : (oculusref22_Left.l0 k1 t103 (wrap64 (x5_1 + 1)) a0_0 a0_1 a0_2 a0_3 a0_4 a0_5 a0_6 a0_7 a0_8 a0_9 a0_10 a0_11 a0_12 l0_13) = some r := H
      have A7 := Aside0.mk A70; clear A70
      have H' := Aside0.mk H
      clear H
      have hcz8_0 : wr.cell? ⟨gb101, 0, none⟩ = some (.int .i64 a0_0) := bc_ BK101 0 rfl
      have hcz8_1 : wr.cell? ⟨gb101, 1, none⟩ = some (.int .i64 a0_1) := bc_ BK101 1 rfl
      have hcz8_2 : wr.cell? ⟨gb101, 2, none⟩ = some (.int .i64 a0_2) := bc_ BK101 2 rfl
      have hcz8_3 : wr.cell? ⟨gb101, 3, none⟩ = some (.int .i64 a0_3) := bc_ BK101 3 rfl
      have hcz8_4 : wr.cell? ⟨gb101, 4, none⟩ = some (.string a0_4) := bc_ BK101 4 rfl
      have hcz8_5 : wr.cell? ⟨gb101, 5, none⟩ = some (.int .i64 a0_5) := bc_ BK101 5 rfl
      have hcz8_6 : wr.cell? ⟨gb101, 6, none⟩ = some (.int .i64 a0_6) := bc_ BK101 6 rfl
      have hcz8_7 : wr.cell? ⟨gb101, 7, none⟩ = some (.bool a0_7) := bc_ BK101 7 rfl
      have hcz8_8 : wr.cell? ⟨gb101, 8, none⟩ = some (.bool a0_8) := bc_ BK101 8 rfl
      have hcz8_9 : wr.cell? ⟨gb101, 9, none⟩ = some (.int .i64 a0_9) := bc_ BK101 9 rfl
      have hcz8_10 : wr.cell? ⟨gb101, 10, none⟩ = some (.int .i64 a0_10) := bc_ BK101 10 rfl
      have hcz8_11 : wr.cell? ⟨gb101, 11, none⟩ = some (.bool a0_11) := bc_ BK101 11 rfl
      have hcz8_12 : wr.cell? ⟨gb101, 12, none⟩ = some (.bool a0_12) := bc_ BK101 12 rfl
      have hcz8_13 : wr.cell? ⟨gb101, 13, none⟩ = some (.slice A0_13 l0_13.length c0_13) := bc_ BK101 13 rfl
      have p102 : 0 ≤ (x5_1 : Int) := of_decide_eq_true (by first | (with_reducible assumption) | assumption)
      have q102 : x5_1 < (l0_13.length : Int) := of_decide_eq_true (by first | (with_reducible assumption) | assumption)
      obtain ⟨ad102, A102_13, c102_13, e102, hx102_0, hx102_1, hx102_2, hx102_3, hx102_4, hx102_5, hx102_6, hx102_7, hx102_8, hx102_9, hx102_10, hx102_11, hx102_12, hx102_13, hl102_13, hi102_13⟩ := at_T28 HR0_13.out x5_1 p102 q102
      cases e102
      replace hx102_0 := (HB.out.cell (World.block_lt_of_cell? w _ hx102_0)).trans hx102_0; replace hx102_1 := (HB.out.cell (World.block_lt_of_cell? w _ hx102_1)).trans hx102_1; replace hx102_2 := (HB.out.cell (World.block_lt_of_cell? w _ hx102_2)).trans hx102_2; replace hx102_3 := (HB.out.cell (World.block_lt_of_cell? w _ hx102_3)).trans hx102_3; replace hx102_4 := (HB.out.cell (World.block_lt_of_cell? w _ hx102_4)).trans hx102_4; replace hx102_5 := (HB.out.cell (World.block_lt_of_cell? w _ hx102_5)).trans hx102_5; replace hx102_6 := (HB.out.cell (World.block_lt_of_cell? w _ hx102_6)).trans hx102_6; replace hx102_7 := (HB.out.cell (World.block_lt_of_cell? w _ hx102_7)).trans hx102_7; replace hx102_8 := (HB.out.cell (World.block_lt_of_cell? w _ hx102_8)).trans hx102_8; replace hx102_9 := (HB.out.cell (World.block_lt_of_cell? w _ hx102_9)).trans hx102_9; replace hx102_10 := (HB.out.cell (World.block_lt_of_cell? w _ hx102_10)).trans hx102_10
      replace hx102_11 := (HB.out.cell (World.block_lt_of_cell? w _ hx102_11)).trans hx102_11; replace hx102_12 := (HB.out.cell (World.block_lt_of_cell? w _ hx102_12)).trans hx102_12; replace hx102_13 := (HB.out.cell (World.block_lt_of_cell? w _ hx102_13)).trans hx102_13; have HR102_13 := Aside0.mk hi102_13; have HC102_13 := Aside0.mk hl102_13; clear hi102_13 hl102_13; replace p102 := eq_true p102; replace q102 := eq_true q102
      go_wp2_with (first | ((with_reducible refine gate_callee (f:=26) rfl ?_); refine gL_ (some 25) rfl rfl Tryd.func26 rfl #[.agg #[.int .i64 ((rd_T28 l0_13 x5_1).f0), .int .i64 ((rd_T28 l0_13 x5_1).f1), .int .i64 ((rd_T28 l0_13 x5_1).f2.f0), .int .i64 ((rd_T28 l0_13 x5_1).f2.f1), .string ((rd_T28 l0_13 x5_1).f2.f2), .int .i64 ((rd_T28 l0_13 x5_1).f3.f0), .int .i64 ((rd_T28 l0_13 x5_1).f3.f1), .bool ((rd_T28 l0_13 x5_1).f3.f2), .bool ((rd_T28 l0_13 x5_1).f3.f3), .int .i64 ((rd_T28 l0_13 x5_1).f4.f0), .int .i64 ((rd_T28 l0_13 x5_1).f4.f1), .bool ((rd_T28 l0_13 x5_1).f4.f2), .bool ((rd_T28 l0_13 x5_1).f4.f3), .slice A102_13 ((rd_T28 l0_13 x5_1).f5).length c102_13], .int .i64 x1_1] rfl ?_; (with_reducible refine (ih k1 (by have := HK1.out; omega) ((rd_T28 l0_13 x5_1).f0) ((rd_T28 l0_13 x5_1).f1) ((rd_T28 l0_13 x5_1).f2.f0) ((rd_T28 l0_13 x5_1).f2.f1) ((rd_T28 l0_13 x5_1).f2.f2) ((rd_T28 l0_13 x5_1).f3.f0) ((rd_T28 l0_13 x5_1).f3.f1) ((rd_T28 l0_13 x5_1).f3.f2) ((rd_T28 l0_13 x5_1).f3.f3) ((rd_T28 l0_13 x5_1).f4.f0) ((rd_T28 l0_13 x5_1).f4.f1) ((rd_T28 l0_13 x5_1).f4.f2) ((rd_T28 l0_13 x5_1).f4.f3) _ _ ((rd_T28 l0_13 x5_1).f5) x1_1 t103 _ ?side1 ?side2 A7.out).mono ?_); (case side1 => repeat (first | exact (Kd.C_below HR102_13.out HB.out) | (with_reducible refine Kd.C_alloc ?_ _) | (with_reducible refine Kd.C_drewN ?_ _) | (with_reducible refine Kd.C_drew ?_))); (case side2 => exact HC102_13.out); rintro e w9 ⟨rfl, hb⟩; refine ⟨_, rfl, ?_⟩; replace BK101 := bb_ BK101 hb; replace HB := bs_ HB hb; (try clear hb); (try clear hb2); (try clear hk); (try clear hi)))
      go_roundg k1
      case measure => have := HK1.out; omega
      case rel => exact ⟨(t103), (wrap64 (x5_1 + 1)), (by first | rfl | (simp; done) | (simp [*]; done) | (cases t103 <;> simp; done)), (by first | rfl | (simp; done) | (simp [*]; done)), H', ⟨by have := HK1.out; omega⟩, ⟨pkx BK101⟩, ⟨pbx HB⟩⟩
     ·rw [if_neg c6] at H
      exact absurd H (by simp)
    ·rw [if_neg c5] at H; have c5b0 : decide (0 ≤ x1_1) = false := decide_eq_false c5; clear c5; obtain rfl := Option.some.inj H
     have hcz10_0 : wr.cell? ⟨gb101, 0, none⟩ = some (.int .i64 a0_0) := bc_ BK101 0 rfl
     have hcz10_1 : wr.cell? ⟨gb101, 1, none⟩ = some (.int .i64 a0_1) := bc_ BK101 1 rfl
     have hcz10_2 : wr.cell? ⟨gb101, 2, none⟩ = some (.int .i64 a0_2) := bc_ BK101 2 rfl
     have hcz10_3 : wr.cell? ⟨gb101, 3, none⟩ = some (.int .i64 a0_3) := bc_ BK101 3 rfl
     have hcz10_4 : wr.cell? ⟨gb101, 4, none⟩ = some (.string a0_4) := bc_ BK101 4 rfl
     have hcz10_5 : wr.cell? ⟨gb101, 5, none⟩ = some (.int .i64 a0_5) := bc_ BK101 5 rfl
     have hcz10_6 : wr.cell? ⟨gb101, 6, none⟩ = some (.int .i64 a0_6) := bc_ BK101 6 rfl
     have hcz10_7 : wr.cell? ⟨gb101, 7, none⟩ = some (.bool a0_7) := bc_ BK101 7 rfl
     have hcz10_8 : wr.cell? ⟨gb101, 8, none⟩ = some (.bool a0_8) := bc_ BK101 8 rfl
     have hcz10_9 : wr.cell? ⟨gb101, 9, none⟩ = some (.int .i64 a0_9) := bc_ BK101 9 rfl
     have hcz10_10 : wr.cell? ⟨gb101, 10, none⟩ = some (.int .i64 a0_10) := bc_ BK101 10 rfl
     have hcz10_11 : wr.cell? ⟨gb101, 11, none⟩ = some (.bool a0_11) := bc_ BK101 11 rfl
     have hcz10_12 : wr.cell? ⟨gb101, 12, none⟩ = some (.bool a0_12) := bc_ BK101 12 rfl
     have hcz10_13 : wr.cell? ⟨gb101, 13, none⟩ = some (.slice A0_13 l0_13.length c0_13) := bc_ BK101 13 rfl
     go_wp2
     go_ret
     exact ⟨by first | rfl | (simp [errW_none, errW_some] <;> rfl) | (simp [*, errW_none, errW_some] <;> rfl), pbx HB⟩
   ·rw [if_neg c4] at H; have c4b0 : decide (x5_1 < (l0_13.length : Int)) = false := decide_eq_false c4; clear c4; obtain rfl := Option.some.inj H
    have hcz11_0 : wr.cell? ⟨gb101, 0, none⟩ = some (.int .i64 a0_0) := bc_ BK101 0 rfl
    have hcz11_1 : wr.cell? ⟨gb101, 1, none⟩ = some (.int .i64 a0_1) := bc_ BK101 1 rfl
    have hcz11_2 : wr.cell? ⟨gb101, 2, none⟩ = some (.int .i64 a0_2) := bc_ BK101 2 rfl
    have hcz11_3 : wr.cell? ⟨gb101, 3, none⟩ = some (.int .i64 a0_3) := bc_ BK101 3 rfl
    have hcz11_4 : wr.cell? ⟨gb101, 4, none⟩ = some (.string a0_4) := bc_ BK101 4 rfl
    have hcz11_5 : wr.cell? ⟨gb101, 5, none⟩ = some (.int .i64 a0_5) := bc_ BK101 5 rfl
    have hcz11_6 : wr.cell? ⟨gb101, 6, none⟩ = some (.int .i64 a0_6) := bc_ BK101 6 rfl
    have hcz11_7 : wr.cell? ⟨gb101, 7, none⟩ = some (.bool a0_7) := bc_ BK101 7 rfl
    have hcz11_8 : wr.cell? ⟨gb101, 8, none⟩ = some (.bool a0_8) := bc_ BK101 8 rfl
    have hcz11_9 : wr.cell? ⟨gb101, 9, none⟩ = some (.int .i64 a0_9) := bc_ BK101 9 rfl
    have hcz11_10 : wr.cell? ⟨gb101, 10, none⟩ = some (.int .i64 a0_10) := bc_ BK101 10 rfl
    have hcz11_11 : wr.cell? ⟨gb101, 11, none⟩ = some (.bool a0_11) := bc_ BK101 11 rfl
    have hcz11_12 : wr.cell? ⟨gb101, 12, none⟩ = some (.bool a0_12) := bc_ BK101 12 rfl
    have hcz11_13 : wr.cell? ⟨gb101, 13, none⟩ = some (.slice A0_13 l0_13.length c0_13) := bc_ BK101 13 rfl
    go_wp2
    go_ret
    exact ⟨by first | rfl | (simp [errW_none, errW_some] <;> rfl) | (simp [*, errW_none, errW_some] <;> rfl), pbx HB⟩

def oculusref22_Few.f (k : Nat) (a0_0 : Int) (a0_1 : Int) (a0_2 : Int) (a0_3 : Int) (a0_4 : ByteArray) (a0_5 : Int) (a0_6 : Int) (a0_7 : Bool) (a0_8 : Bool) (a0_9 : Int) (a0_10 : Int) (a0_11 : Bool) (a0_12 : Bool) (l0_13 : List (S28)) (a1 : Int) : Option (Bool) := (oculusref22_Left.f k a0_0 a0_1 a0_2 a0_3 a0_4 a0_5 a0_6 a0_7 a0_8 a0_9 a0_10 a0_11 a0_12 l0_13 a1).bind fun t102 => (some (decide (t102 ≥ 0)))
set_option maxHeartbeats 8000000 in
set_option maxRecDepth 100000 in
theorem oculusref22_Few.calls (k : Nat) (a0_0 : Int) (a0_1 : Int) (a0_2 : Int) (a0_3 : Int) (a0_4 : ByteArray) (a0_5 : Int) (a0_6 : Int) (a0_7 : Bool) (a0_8 : Bool) (a0_9 : Int) (a0_10 : Int) (a0_11 : Bool) (a0_12 : Bool) (A0_13 : Option Addr) (c0_13 : Nat) (l0_13 : List (S28)) (a1 : Int) (r : Bool) (w : World) (hr0_13 : Kd.C k28 w A0_13 l0_13.length l0_13) (hc0_13 : l0_13.length ≤ c0_13) (h : oculusref22_Few.f k a0_0 a0_1 a0_2 a0_3 a0_4 a0_5 a0_6 a0_7 a0_8 a0_9 a0_10 a0_11 a0_12 l0_13 a1 = some r) :
  Calls Tryd.prog 19 #[.agg #[.int .i64 a0_0, .int .i64 a0_1, .int .i64 a0_2, .int .i64 a0_3, .string a0_4, .int .i64 a0_5, .int .i64 a0_6, .bool a0_7, .bool a0_8, .int .i64 a0_9, .int .i64 a0_10, .bool a0_11, .bool a0_12, .slice A0_13 l0_13.length c0_13], .int .i64 a1] w fun e w' => e = .returned (.bool r) ∧ Below w.heap.size w w' := by
 have hu28 := Tryd.underlying28; have HR0_13 := Aside0.mk hr0_13; have HC0_13 := Aside0.mk hc0_13; clear hr0_13 hc0_13; have HB := Aside0.mk (Below.refl w.heap.size w)
 have H : ((oculusref22_Left.f k a0_0 a0_1 a0_2 a0_3 a0_4 a0_5 a0_6 a0_7 a0_8 a0_9 a0_10 a0_11 a0_12 l0_13 a1).bind fun t102 => (some (decide (t102 ≥ 0)))) = some r := h
 clear h; replace H := Option.bind_eq_some_iff.mp H; obtain ⟨t102, A30, H⟩ := H
 replace H : (some (decide (t102 ≥ 0))) = some r := H
 have A3 := Aside0.mk A30; clear A30; obtain rfl := Option.some.inj H
 go_enter Tryd.func19, Tryd.ntmps19
 go_wp2_with (first | ((with_reducible refine gate_dst (N:=2) rfl ?_); refine be_ (N:=2) (cs := #[.int .i64 a0_0, .int .i64 a0_1, .int .i64 a0_2, .int .i64 a0_3, .string a0_4, .int .i64 a0_5, .int .i64 a0_6, .bool a0_7, .bool a0_8, .int .i64 a0_9, .int .i64 a0_10, .bool a0_11, .bool a0_12, .slice A0_13 l0_13.length c0_13]) (t:=28) ?_; intro gb101 hg w4 hbox hb; have BK101 := Aside0.mk (hbox); replace HB := bs_ HB hb; clear hb hbox hg; have hcz5_0 : w4.cell? ⟨gb101, 0, none⟩ = some (.int .i64 a0_0) := bc_ BK101 0 rfl; have hcz5_1 : w4.cell? ⟨gb101, 1, none⟩ = some (.int .i64 a0_1) := bc_ BK101 1 rfl; have hcz5_2 : w4.cell? ⟨gb101, 2, none⟩ = some (.int .i64 a0_2) := bc_ BK101 2 rfl; have hcz5_3 : w4.cell? ⟨gb101, 3, none⟩ = some (.int .i64 a0_3) := bc_ BK101 3 rfl; have hcz5_4 : w4.cell? ⟨gb101, 4, none⟩ = some (.string a0_4) := bc_ BK101 4 rfl; have hcz5_5 : w4.cell? ⟨gb101, 5, none⟩ = some (.int .i64 a0_5) := bc_ BK101 5 rfl; have hcz5_6 : w4.cell? ⟨gb101, 6, none⟩ = some (.int .i64 a0_6) := bc_ BK101 6 rfl; have hcz5_7 : w4.cell? ⟨gb101, 7, none⟩ = some (.bool a0_7) := bc_ BK101 7 rfl; have hcz5_8 : w4.cell? ⟨gb101, 8, none⟩ = some (.bool a0_8) := bc_ BK101 8 rfl; have hcz5_9 : w4.cell? ⟨gb101, 9, none⟩ = some (.int .i64 a0_9) := bc_ BK101 9 rfl; have hcz5_10 : w4.cell? ⟨gb101, 10, none⟩ = some (.int .i64 a0_10) := bc_ BK101 10 rfl; have hcz5_11 : w4.cell? ⟨gb101, 11, none⟩ = some (.bool a0_11) := bc_ BK101 11 rfl; have hcz5_12 : w4.cell? ⟨gb101, 12, none⟩ = some (.bool a0_12) := bc_ BK101 12 rfl; have hcz5_13 : w4.cell? ⟨gb101, 13, none⟩ = some (.slice A0_13 l0_13.length c0_13) := bc_ BK101 13 rfl) | ((with_reducible refine gate_callee (f:=26) rfl ?_); refine gL_ (some 7) rfl rfl Tryd.func26 rfl #[.agg #[.int .i64 a0_0, .int .i64 a0_1, .int .i64 a0_2, .int .i64 a0_3, .string a0_4, .int .i64 a0_5, .int .i64 a0_6, .bool a0_7, .bool a0_8, .int .i64 a0_9, .int .i64 a0_10, .bool a0_11, .bool a0_12, .slice A0_13 l0_13.length c0_13], .int .i64 a1] rfl ?_; (with_reducible refine (oculusref22_Left.calls k a0_0 a0_1 a0_2 a0_3 a0_4 a0_5 a0_6 a0_7 a0_8 a0_9 a0_10 a0_11 a0_12 _ _ l0_13 a1 t102 _ ?side1 ?side2 A3.out).mono ?_); (case side1 => repeat (first | exact (Kd.C_below HR0_13.out HB.out) | (with_reducible refine Kd.C_alloc ?_ _) | (with_reducible refine Kd.C_drewN ?_ _) | (with_reducible refine Kd.C_drew ?_))); (case side2 => exact HC0_13.out); rintro e w6 ⟨rfl, hb⟩; refine ⟨_, rfl, ?_⟩; replace BK101 := bb_ BK101 hb; replace HB := bs_ HB hb; (try clear hb); (try clear hb2); (try clear hk); (try clear hi)))
 go_ret
 exact ⟨by first | rfl | (simp [errW_none, errW_some] <;> rfl) | (simp [*, errW_none, errW_some] <;> rfl), pbx HB⟩

def oculuslaw22_few.f (k : Nat) (a0_0 : Int) (a0_1 : Int) (a0_2 : Int) (a0_3 : Int) (a0_4 : ByteArray) (a0_5 : Int) (a0_6 : Int) (a0_7 : Bool) (a0_8 : Bool) (a0_9 : Int) (a0_10 : Int) (a0_11 : Bool) (a0_12 : Bool) (l0_13 : List (S28)) (a1 : Int) : Option (Bool) := (oculusref22_Few.f k a0_0 a0_1 a0_2 a0_3 a0_4 a0_5 a0_6 a0_7 a0_8 a0_9 a0_10 a0_11 a0_12 l0_13 a1).bind fun t102 => (some t102)
set_option maxHeartbeats 8000000 in
set_option maxRecDepth 100000 in
theorem oculuslaw22_few.calls (k : Nat) (a0_0 : Int) (a0_1 : Int) (a0_2 : Int) (a0_3 : Int) (a0_4 : ByteArray) (a0_5 : Int) (a0_6 : Int) (a0_7 : Bool) (a0_8 : Bool) (a0_9 : Int) (a0_10 : Int) (a0_11 : Bool) (a0_12 : Bool) (A0_13 : Option Addr) (c0_13 : Nat) (l0_13 : List (S28)) (a1 : Int) (r : Bool) (w : World) (hr0_13 : Kd.C k28 w A0_13 l0_13.length l0_13) (hc0_13 : l0_13.length ≤ c0_13) (h : oculuslaw22_few.f k a0_0 a0_1 a0_2 a0_3 a0_4 a0_5 a0_6 a0_7 a0_8 a0_9 a0_10 a0_11 a0_12 l0_13 a1 = some r) :
  Calls Tryd.prog 6 #[.agg #[.int .i64 a0_0, .int .i64 a0_1, .int .i64 a0_2, .int .i64 a0_3, .string a0_4, .int .i64 a0_5, .int .i64 a0_6, .bool a0_7, .bool a0_8, .int .i64 a0_9, .int .i64 a0_10, .bool a0_11, .bool a0_12, .slice A0_13 l0_13.length c0_13], .int .i64 a1] w fun e w' => e = .returned (.bool r) ∧ Below w.heap.size w w' := by
 have hu28 := Tryd.underlying28; have HR0_13 := Aside0.mk hr0_13; have HC0_13 := Aside0.mk hc0_13; clear hr0_13 hc0_13; have HB := Aside0.mk (Below.refl w.heap.size w)
 have H : ((oculusref22_Few.f k a0_0 a0_1 a0_2 a0_3 a0_4 a0_5 a0_6 a0_7 a0_8 a0_9 a0_10 a0_11 a0_12 l0_13 a1).bind fun t102 => (some t102)) = some r := h
 clear h; replace H := Option.bind_eq_some_iff.mp H; obtain ⟨t102, A30, H⟩ := H
 replace H : (some t102) = some r := H
 have A3 := Aside0.mk A30; clear A30; obtain rfl := Option.some.inj H
 go_enter Tryd.func6, Tryd.ntmps6
 go_wp2_with (first | ((with_reducible refine gate_dst (N:=2) rfl ?_); refine be_ (N:=2) (cs := #[.int .i64 a0_0, .int .i64 a0_1, .int .i64 a0_2, .int .i64 a0_3, .string a0_4, .int .i64 a0_5, .int .i64 a0_6, .bool a0_7, .bool a0_8, .int .i64 a0_9, .int .i64 a0_10, .bool a0_11, .bool a0_12, .slice A0_13 l0_13.length c0_13]) (t:=28) ?_; intro gb101 hg w4 hbox hb; have BK101 := Aside0.mk (hbox); replace HB := bs_ HB hb; clear hb hbox hg; have hcz5_0 : w4.cell? ⟨gb101, 0, none⟩ = some (.int .i64 a0_0) := bc_ BK101 0 rfl; have hcz5_1 : w4.cell? ⟨gb101, 1, none⟩ = some (.int .i64 a0_1) := bc_ BK101 1 rfl; have hcz5_2 : w4.cell? ⟨gb101, 2, none⟩ = some (.int .i64 a0_2) := bc_ BK101 2 rfl; have hcz5_3 : w4.cell? ⟨gb101, 3, none⟩ = some (.int .i64 a0_3) := bc_ BK101 3 rfl; have hcz5_4 : w4.cell? ⟨gb101, 4, none⟩ = some (.string a0_4) := bc_ BK101 4 rfl; have hcz5_5 : w4.cell? ⟨gb101, 5, none⟩ = some (.int .i64 a0_5) := bc_ BK101 5 rfl; have hcz5_6 : w4.cell? ⟨gb101, 6, none⟩ = some (.int .i64 a0_6) := bc_ BK101 6 rfl; have hcz5_7 : w4.cell? ⟨gb101, 7, none⟩ = some (.bool a0_7) := bc_ BK101 7 rfl; have hcz5_8 : w4.cell? ⟨gb101, 8, none⟩ = some (.bool a0_8) := bc_ BK101 8 rfl; have hcz5_9 : w4.cell? ⟨gb101, 9, none⟩ = some (.int .i64 a0_9) := bc_ BK101 9 rfl; have hcz5_10 : w4.cell? ⟨gb101, 10, none⟩ = some (.int .i64 a0_10) := bc_ BK101 10 rfl; have hcz5_11 : w4.cell? ⟨gb101, 11, none⟩ = some (.bool a0_11) := bc_ BK101 11 rfl; have hcz5_12 : w4.cell? ⟨gb101, 12, none⟩ = some (.bool a0_12) := bc_ BK101 12 rfl; have hcz5_13 : w4.cell? ⟨gb101, 13, none⟩ = some (.slice A0_13 l0_13.length c0_13) := bc_ BK101 13 rfl) | ((with_reducible refine gate_callee (f:=19) rfl ?_); refine gL_ (some 7) rfl rfl Tryd.func19 rfl #[.agg #[.int .i64 a0_0, .int .i64 a0_1, .int .i64 a0_2, .int .i64 a0_3, .string a0_4, .int .i64 a0_5, .int .i64 a0_6, .bool a0_7, .bool a0_8, .int .i64 a0_9, .int .i64 a0_10, .bool a0_11, .bool a0_12, .slice A0_13 l0_13.length c0_13], .int .i64 a1] rfl ?_; (with_reducible refine (oculusref22_Few.calls k a0_0 a0_1 a0_2 a0_3 a0_4 a0_5 a0_6 a0_7 a0_8 a0_9 a0_10 a0_11 a0_12 _ _ l0_13 a1 t102 _ ?side1 ?side2 A3.out).mono ?_); (case side1 => repeat (first | exact (Kd.C_below HR0_13.out HB.out) | (with_reducible refine Kd.C_alloc ?_ _) | (with_reducible refine Kd.C_drewN ?_ _) | (with_reducible refine Kd.C_drew ?_))); (case side2 => exact HC0_13.out); rintro e w6 ⟨rfl, hb⟩; refine ⟨_, rfl, ?_⟩; replace BK101 := bb_ BK101 hb; replace HB := bs_ HB hb; (try clear hb); (try clear hb2); (try clear hk); (try clear hi)))
 go_ret
 exact ⟨by first | rfl | (simp [errW_none, errW_some] <;> rfl) | (simp [*, errW_none, errW_some] <;> rfl), pbx HB⟩

mutual
def node_Count.l0 : Nat → Int → List (S28) → Int → Int → Option (Int)
 | 0, _, _, _, _ => none
 | k + 1, x3, x7, x8, x9 => if x9 < x8 then (if 0 ≤ x9 then (if x9 < (x7.length : Int) then ((node_Count.f k ((rd_T28 x7 x9).f0) ((rd_T28 x7 x9).f1) ((rd_T28 x7 x9).f2.f0) ((rd_T28 x7 x9).f2.f1) ((rd_T28 x7 x9).f2.f2) ((rd_T28 x7 x9).f3.f0) ((rd_T28 x7 x9).f3.f1) ((rd_T28 x7 x9).f3.f2) ((rd_T28 x7 x9).f3.f3) ((rd_T28 x7 x9).f4.f0) ((rd_T28 x7 x9).f4.f1) ((rd_T28 x7 x9).f4.f2) ((rd_T28 x7 x9).f4.f3) ((rd_T28 x7 x9).f5)).bind fun t104 => (node_Count.l0 k (wrap64 (x3 + t104)) x7 x8 (wrap64 (x9 + 1)))) else (none)) else (none)) else (some x3)
def node_Count.f : Nat → Int → Int → Int → Int → ByteArray → Int → Int → Bool → Bool → Int → Int → Bool → Bool → List (S28) → Option (Int)
 | 0, _, _, _, _, _, _, _, _, _, _, _, _, _, _ => none
 | k + 1, a0_0, a0_1, a0_2, a0_3, a0_4, a0_5, a0_6, a0_7, a0_8, a0_9, a0_10, a0_11, a0_12, l0_13 => node_Count.l0 k 1 l0_13 (l0_13.length : Int) 0
end
theorem node_Count.mono_l : ∀ k, (∀ y0 y1 y2 y3 y4 y5 y6 y7 y8 y9 y10 y11 y12 y13, LeO (node_Count.f k y0 y1 y2 y3 y4 y5 y6 y7 y8 y9 y10 y11 y12 y13) (node_Count.f (k + 1) y0 y1 y2 y3 y4 y5 y6 y7 y8 y9 y10 y11 y12 y13)) ∧ (∀ y0 y1 y2 y3, LeO (node_Count.l0 k y0 y1 y2 y3) (node_Count.l0 (k + 1) y0 y1 y2 y3))
 | 0 => ⟨fun _ _ _ _ _ _ _ _ _ _ _ _ _ _ r h => by simp [node_Count.f] at h, fun _ _ _ _ r h => by simp [node_Count.l0] at h⟩
 | k + 1 => by
  obtain ⟨ih0, ih1⟩ := node_Count.mono_l k
  refine ⟨?_, ?_⟩
  ·intro y0 y1 y2 y3 y4 y5 y6 y7 y8 y9 y10 y11 y12 y13
   unfold node_Count.f
   repeat' first
   | (with_reducible exact ih0 _ _ _ _ _ _ _ _ _ _ _ _ _ _)
   | (with_reducible exact ih1 _ _ _ _)
   | (with_reducible exact LeO.refl _)
   | (with_reducible exact LeO.none _)
   | (with_reducible refine LeO.ite ?_ ?_)
   | (with_reducible refine LeO.bind ?_ (fun _ => ?_))
  ·intro y0 y1 y2 y3
   unfold node_Count.l0
   repeat' first
   | (with_reducible exact ih0 _ _ _ _ _ _ _ _ _ _ _ _ _ _)
   | (with_reducible exact ih1 _ _ _ _)
   | (with_reducible exact LeO.refl _)
   | (with_reducible exact LeO.none _)
   | (with_reducible refine LeO.ite ?_ ?_)
   | (with_reducible refine LeO.bind ?_ (fun _ => ?_))
theorem node_Count.mono : ∀ a0 a1 a2 a3 a4 a5 a6 a7 a8 a9 a10 a11 a12 a13 k, LeO (node_Count.f k a0 a1 a2 a3 a4 a5 a6 a7 a8 a9 a10 a11 a12 a13) (node_Count.f (k + 1) a0 a1 a2 a3 a4 a5 a6 a7 a8 a9 a10 a11 a12 a13) := by
 intro a0 a1 a2 a3 a4 a5 a6 a7 a8 a9 a10 a11 a12 a13 k; obtain ⟨ih0, ih1⟩ := node_Count.mono_l k
 exact ih0 a0 a1 a2 a3 a4 a5 a6 a7 a8 a9 a10 a11 a12 a13
set_option maxHeartbeats 8000000 in
set_option maxRecDepth 100000 in
theorem node_Count.calls (k : Nat) : ∀ (a0_0 : Int) (a0_1 : Int) (a0_2 : Int) (a0_3 : Int) (a0_4 : ByteArray) (a0_5 : Int) (a0_6 : Int) (a0_7 : Bool) (a0_8 : Bool) (a0_9 : Int) (a0_10 : Int) (a0_11 : Bool) (a0_12 : Bool) (A0_13 : Option Addr) (c0_13 : Nat) (l0_13 : List (S28)) (r : Int) (w : World) (hr0_13 : Kd.C k28 w A0_13 l0_13.length l0_13) (hc0_13 : l0_13.length ≤ c0_13) (h : node_Count.f k a0_0 a0_1 a0_2 a0_3 a0_4 a0_5 a0_6 a0_7 a0_8 a0_9 a0_10 a0_11 a0_12 l0_13 = some r),
  Calls Tryd.prog 10 #[.agg #[.int .i64 a0_0, .int .i64 a0_1, .int .i64 a0_2, .int .i64 a0_3, .string a0_4, .int .i64 a0_5, .int .i64 a0_6, .bool a0_7, .bool a0_8, .int .i64 a0_9, .int .i64 a0_10, .bool a0_11, .bool a0_12, .slice A0_13 l0_13.length c0_13]] w fun e w' => e = .returned (.int .i64 r) ∧ Below w.heap.size w w' := by
 induction k using Nat.strongRecOn with
 | _ k ih =>
 intro a0_0 a0_1 a0_2 a0_3 a0_4 a0_5 a0_6 a0_7 a0_8 a0_9 a0_10 a0_11 a0_12 A0_13 c0_13 l0_13 r w hr0_13 hc0_13 h
 cases k with
 | zero => exact absurd h (by simp [node_Count.f])
 | succ k =>
 simp only [node_Count.f] at h
 have hu28 := Tryd.underlying28; have HR0_13 := Aside0.mk hr0_13; have HC0_13 := Aside0.mk hc0_13; clear hr0_13 hc0_13; have HB := Aside0.mk (Below.refl w.heap.size w)
 have H : (node_Count.l0 k 1 l0_13 (l0_13.length : Int) 0) = some r := h
 clear h
 have H' := Aside0.mk H
 clear H
 go_enter Tryd.func10, Tryd.ntmps10
 go_wp2_with (first | ((with_reducible refine gate_dst (N:=1) rfl ?_); refine be_ (N:=1) (cs := #[.int .i64 a0_0, .int .i64 a0_1, .int .i64 a0_2, .int .i64 a0_3, .string a0_4, .int .i64 a0_5, .int .i64 a0_6, .bool a0_7, .bool a0_8, .int .i64 a0_9, .int .i64 a0_10, .bool a0_11, .bool a0_12, .slice A0_13 l0_13.length c0_13]) (t:=28) ?_; intro gb101 hg w2 hbox hb; have BK101 := Aside0.mk (hbox); have GW101 := hs_ HB hg; have GE101 := hs_ HB hg; replace HB := bs_ HB hb; clear hb hbox hg; have hcz3_0 : w2.cell? ⟨gb101, 0, none⟩ = some (.int .i64 a0_0) := bc_ BK101 0 rfl; have hcz3_1 : w2.cell? ⟨gb101, 1, none⟩ = some (.int .i64 a0_1) := bc_ BK101 1 rfl; have hcz3_2 : w2.cell? ⟨gb101, 2, none⟩ = some (.int .i64 a0_2) := bc_ BK101 2 rfl; have hcz3_3 : w2.cell? ⟨gb101, 3, none⟩ = some (.int .i64 a0_3) := bc_ BK101 3 rfl; have hcz3_4 : w2.cell? ⟨gb101, 4, none⟩ = some (.string a0_4) := bc_ BK101 4 rfl; have hcz3_5 : w2.cell? ⟨gb101, 5, none⟩ = some (.int .i64 a0_5) := bc_ BK101 5 rfl; have hcz3_6 : w2.cell? ⟨gb101, 6, none⟩ = some (.int .i64 a0_6) := bc_ BK101 6 rfl; have hcz3_7 : w2.cell? ⟨gb101, 7, none⟩ = some (.bool a0_7) := bc_ BK101 7 rfl; have hcz3_8 : w2.cell? ⟨gb101, 8, none⟩ = some (.bool a0_8) := bc_ BK101 8 rfl; have hcz3_9 : w2.cell? ⟨gb101, 9, none⟩ = some (.int .i64 a0_9) := bc_ BK101 9 rfl; have hcz3_10 : w2.cell? ⟨gb101, 10, none⟩ = some (.int .i64 a0_10) := bc_ BK101 10 rfl; have hcz3_11 : w2.cell? ⟨gb101, 11, none⟩ = some (.bool a0_11) := bc_ BK101 11 rfl; have hcz3_12 : w2.cell? ⟨gb101, 12, none⟩ = some (.bool a0_12) := bc_ BK101 12 rfl; have hcz3_13 : w2.cell? ⟨gb101, 13, none⟩ = some (.slice A0_13 l0_13.length c0_13) := bc_ BK101 13 rfl; have hfz3_0 := blk_frozen BK101.out 0; have hfz3_1 := blk_frozen BK101.out 1; have hfz3_2 := blk_frozen BK101.out 2; have hfz3_3 := blk_frozen BK101.out 3; have hfz3_4 := blk_frozen BK101.out 4; have hfz3_5 := blk_frozen BK101.out 5; have hfz3_6 := blk_frozen BK101.out 6; have hfz3_7 := blk_frozen BK101.out 7; have hfz3_8 := blk_frozen BK101.out 8; have hfz3_9 := blk_frozen BK101.out 9; have hfz3_10 := blk_frozen BK101.out 10; have hfz3_11 := blk_frozen BK101.out 11; have hfz3_12 := blk_frozen BK101.out 12; have hfz3_13 := blk_frozen BK101.out 13))
 go_loopg [3, 9] k (fun kq v3 v9 w' => ∃ (x3_1 : Int) (x9_1 : Int), v3 = .int .i64 x3_1 ∧ v9 = .int .i64 x9_1 ∧ Aside0 (node_Count.l0 kq x3_1 l0_13 (l0_13.length : Int) x9_1 = some r) ∧ Aside0 (kq ≤ k) ∧ Aside0 (w'.heap[gb101]? = some (.cells #[.int .i64 a0_0, .int .i64 a0_1, .int .i64 a0_2, .int .i64 a0_3, .string a0_4, .int .i64 a0_5, .int .i64 a0_6, .bool a0_7, .bool a0_8, .int .i64 a0_9, .int .i64 a0_10, .bool a0_11, .bool a0_12, (.slice A0_13 l0_13.length c0_13)] 28 (0, 0))) ∧ Aside0 (Below w.heap.size w w'))
 case atStart => exact ⟨(1), (0), (by first | rfl | (simp; done) | (simp [*]; done)), (by first | rfl | (simp; done) | (simp [*]; done)), H', ⟨Nat.le_refl _⟩, ⟨pkx BK101⟩, ⟨pbx HB⟩⟩
 case round =>
  clear H'; (try clear c1); (try clear p2); (try clear hcz3_0); (try clear hcz3_1); (try clear hcz3_10); (try clear hcz3_11); (try clear hcz3_12); (try clear hcz3_13); (try clear hcz3_2); (try clear hcz3_3); (try clear hcz3_4); (try clear hcz3_5); (try clear hcz3_6); (try clear hcz3_7); (try clear hcz3_8); (try clear hcz3_9); (try clear hfz3_0); (try clear hfz3_1); (try clear hfz3_10); (try clear hfz3_11); (try clear hfz3_12); (try clear hfz3_13); (try clear hfz3_2); (try clear hfz3_3); (try clear hfz3_4); (try clear hfz3_5); (try clear hfz3_6); (try clear hfz3_7); (try clear hfz3_8); (try clear hfz3_9); obtain ⟨x3_1, x9_1, rfl, rfl, HA, HK1, BK101, HB⟩ := hrel
  cases gk with
  | zero => exact absurd HA.out (by simp [node_Count.l0])
  | succ k1 =>
   have H := HA.out; clear HA
   simp only [node_Count.l0] at H
   by_cases c4 : x9_1 < (l0_13.length : Int)
   ·rw [if_pos c4] at H; have c4b0 : decide (x9_1 < (l0_13.length : Int)) = true := decide_eq_true c4; clear c4
    by_cases c5 : 0 ≤ x9_1
    ·rw [if_pos c5] at H; have c5b0 : decide (0 ≤ x9_1) = true := decide_eq_true c5; clear c5
     by_cases c6 : x9_1 < (l0_13.length : Int)
     ·rw [if_pos c6] at H; have c6b0 : decide (x9_1 < (l0_13.length : Int)) = true := decide_eq_true c6; clear c6; replace H := Option.bind_eq_some_iff.mp H; obtain ⟨t104, A70, H⟩ := H
      replace H : (node_Count.l0 k1 (wrap64 (x3_1 + t104)) l0_13 (l0_13.length : Int) (wrap64 (x9_1 + 1))) = some r := H
      have A7 := Aside0.mk A70; clear A70
      have H' := Aside0.mk H
      clear H
      have p102 : 0 ≤ (x9_1 : Int) := of_decide_eq_true (by first | (with_reducible assumption) | assumption)
      have q102 : x9_1 < (l0_13.length : Int) := of_decide_eq_true (by first | (with_reducible assumption) | assumption)
      obtain ⟨ad102, A102_13, c102_13, e102, hx102_0, hx102_1, hx102_2, hx102_3, hx102_4, hx102_5, hx102_6, hx102_7, hx102_8, hx102_9, hx102_10, hx102_11, hx102_12, hx102_13, hl102_13, hi102_13⟩ := at_T28 HR0_13.out x9_1 p102 q102
      cases e102
      replace hx102_0 := (HB.out.cell (World.block_lt_of_cell? w _ hx102_0)).trans hx102_0; replace hx102_1 := (HB.out.cell (World.block_lt_of_cell? w _ hx102_1)).trans hx102_1; replace hx102_2 := (HB.out.cell (World.block_lt_of_cell? w _ hx102_2)).trans hx102_2; replace hx102_3 := (HB.out.cell (World.block_lt_of_cell? w _ hx102_3)).trans hx102_3; replace hx102_4 := (HB.out.cell (World.block_lt_of_cell? w _ hx102_4)).trans hx102_4; replace hx102_5 := (HB.out.cell (World.block_lt_of_cell? w _ hx102_5)).trans hx102_5; replace hx102_6 := (HB.out.cell (World.block_lt_of_cell? w _ hx102_6)).trans hx102_6; replace hx102_7 := (HB.out.cell (World.block_lt_of_cell? w _ hx102_7)).trans hx102_7; replace hx102_8 := (HB.out.cell (World.block_lt_of_cell? w _ hx102_8)).trans hx102_8; replace hx102_9 := (HB.out.cell (World.block_lt_of_cell? w _ hx102_9)).trans hx102_9; replace hx102_10 := (HB.out.cell (World.block_lt_of_cell? w _ hx102_10)).trans hx102_10
      replace hx102_11 := (HB.out.cell (World.block_lt_of_cell? w _ hx102_11)).trans hx102_11; replace hx102_12 := (HB.out.cell (World.block_lt_of_cell? w _ hx102_12)).trans hx102_12; replace hx102_13 := (HB.out.cell (World.block_lt_of_cell? w _ hx102_13)).trans hx102_13; have HR102_13 := Aside0.mk hi102_13; have HC102_13 := Aside0.mk hl102_13; clear hi102_13 hl102_13; replace p102 := eq_true p102; replace q102 := eq_true q102
      go_wp2_with (first | ((with_reducible refine gate_dst (N:=5) rfl ?_); refine be_ (N:=5) (cs := #[.int .i64 0, .int .i64 0, .int .i64 0, .int .i64 0, .string (⟨#[]⟩ : ByteArray), .int .i64 0, .int .i64 0, .bool false, .bool false, .int .i64 0, .int .i64 0, .bool false, .bool false, .slice none 0 0]) (t:=28) ?_; intro gb103 hg w8 hbox hb; have BK103 := Aside0.mk (hbox); have GW103 := hs_ HB hg; have GE103 := hs_ HB hg; have NB101_103 := hl_ BK101 hg; have NB103_101 := hr_ BK101 hg; replace BK101 := bb_ BK101 hb; replace HB := bs_ HB hb; clear hb hbox hg; have hnb9 := NB103_101.out; have hnc9 := NB101_103.out; have hcz10_0 : w8.cell? ⟨gb103, 0, none⟩ = some (.int .i64 0) := bc_ BK103 0 rfl; have hcz10_1 : w8.cell? ⟨gb103, 1, none⟩ = some (.int .i64 0) := bc_ BK103 1 rfl; have hcz10_2 : w8.cell? ⟨gb103, 2, none⟩ = some (.int .i64 0) := bc_ BK103 2 rfl; have hcz10_3 : w8.cell? ⟨gb103, 3, none⟩ = some (.int .i64 0) := bc_ BK103 3 rfl; have hcz10_4 : w8.cell? ⟨gb103, 4, none⟩ = some (.string (⟨#[]⟩ : ByteArray)) := bc_ BK103 4 rfl; have hcz10_5 : w8.cell? ⟨gb103, 5, none⟩ = some (.int .i64 0) := bc_ BK103 5 rfl; have hcz10_6 : w8.cell? ⟨gb103, 6, none⟩ = some (.int .i64 0) := bc_ BK103 6 rfl; have hcz10_7 : w8.cell? ⟨gb103, 7, none⟩ = some (.bool false) := bc_ BK103 7 rfl; have hcz10_8 : w8.cell? ⟨gb103, 8, none⟩ = some (.bool false) := bc_ BK103 8 rfl; have hcz10_9 : w8.cell? ⟨gb103, 9, none⟩ = some (.int .i64 0) := bc_ BK103 9 rfl; have hcz10_10 : w8.cell? ⟨gb103, 10, none⟩ = some (.int .i64 0) := bc_ BK103 10 rfl; have hcz10_11 : w8.cell? ⟨gb103, 11, none⟩ = some (.bool false) := bc_ BK103 11 rfl; have hcz10_12 : w8.cell? ⟨gb103, 12, none⟩ = some (.bool false) := bc_ BK103 12 rfl; have hcz10_13 : w8.cell? ⟨gb103, 13, none⟩ = some (.slice none 0 0) := bc_ BK103 13 rfl; have hfz10_0 := blk_frozen BK103.out 0; have hfz10_1 := blk_frozen BK103.out 1; have hfz10_2 := blk_frozen BK103.out 2; have hfz10_3 := blk_frozen BK103.out 3; have hfz10_4 := blk_frozen BK103.out 4; have hfz10_5 := blk_frozen BK103.out 5; have hfz10_6 := blk_frozen BK103.out 6; have hfz10_7 := blk_frozen BK103.out 7; have hfz10_8 := blk_frozen BK103.out 8; have hfz10_9 := blk_frozen BK103.out 9; have hfz10_10 := blk_frozen BK103.out 10; have hfz10_11 := blk_frozen BK103.out 11; have hfz10_12 := blk_frozen BK103.out 12; have hfz10_13 := blk_frozen BK103.out 13) | ((with_reducible refine gate_callee (f:=10) rfl ?_); refine gL_ (some 15) rfl rfl Tryd.func10 rfl #[.agg #[.int .i64 ((rd_T28 l0_13 x9_1).f0), .int .i64 ((rd_T28 l0_13 x9_1).f1), .int .i64 ((rd_T28 l0_13 x9_1).f2.f0), .int .i64 ((rd_T28 l0_13 x9_1).f2.f1), .string ((rd_T28 l0_13 x9_1).f2.f2), .int .i64 ((rd_T28 l0_13 x9_1).f3.f0), .int .i64 ((rd_T28 l0_13 x9_1).f3.f1), .bool ((rd_T28 l0_13 x9_1).f3.f2), .bool ((rd_T28 l0_13 x9_1).f3.f3), .int .i64 ((rd_T28 l0_13 x9_1).f4.f0), .int .i64 ((rd_T28 l0_13 x9_1).f4.f1), .bool ((rd_T28 l0_13 x9_1).f4.f2), .bool ((rd_T28 l0_13 x9_1).f4.f3), .slice A102_13 ((rd_T28 l0_13 x9_1).f5).length c102_13]] rfl ?_; (with_reducible refine (ih k1 (by have := HK1.out; omega) ((rd_T28 l0_13 x9_1).f0) ((rd_T28 l0_13 x9_1).f1) ((rd_T28 l0_13 x9_1).f2.f0) ((rd_T28 l0_13 x9_1).f2.f1) ((rd_T28 l0_13 x9_1).f2.f2) ((rd_T28 l0_13 x9_1).f3.f0) ((rd_T28 l0_13 x9_1).f3.f1) ((rd_T28 l0_13 x9_1).f3.f2) ((rd_T28 l0_13 x9_1).f3.f3) ((rd_T28 l0_13 x9_1).f4.f0) ((rd_T28 l0_13 x9_1).f4.f1) ((rd_T28 l0_13 x9_1).f4.f2) ((rd_T28 l0_13 x9_1).f4.f3) _ _ ((rd_T28 l0_13 x9_1).f5) t104 _ ?side1 ?side2 A7.out).mono ?_); (case side1 => exact Kd.C_below HR102_13.out (by repeat (first | (with_reducible first | exact HB.out | apply below_alloc | apply pw_below_drewN | apply below_drew1 | refine below_set ?_ GE101.out | refine below_set ?_ GE103.out) | exact HB.out))); (case side2 => exact HC102_13.out); rintro e w11 ⟨rfl, hb⟩; refine ⟨_, rfl, ?_⟩; replace BK101 := Aside0.mk (blk_below (g:=gb101) (o := .cells #[.int .i64 a0_0, .int .i64 a0_1, .int .i64 a0_2, .int .i64 a0_3, .string a0_4, .int .i64 a0_5, .int .i64 a0_6, .bool a0_7, .bool a0_8, .int .i64 a0_9, .int .i64 a0_10, .bool a0_11, .bool a0_12, .slice (some ad102) l0_13.length c0_13] 28 (0, 0)) (by refine pf_ ?_ NB101_103.out; refine blk_far ?_ NB101_103.out _; refine blk_far ?_ NB101_103.out _; refine blk_far ?_ NB101_103.out _; refine blk_far ?_ NB101_103.out _; refine blk_far ?_ NB101_103.out _; refine blk_far ?_ NB101_103.out _; refine blk_far ?_ NB101_103.out _; refine blk_far ?_ NB101_103.out _; refine blk_far ?_ NB101_103.out _; refine blk_far ?_ NB101_103.out _; refine blk_far ?_ NB101_103.out _; refine blk_far ?_ NB101_103.out _; refine blk_far ?_ NB101_103.out _; exact pkx BK101) hb); replace BK103 := Aside0.mk (blk_below (g:=gb103) (o := .cells #[.int .i64 ((rd_T28 l0_13 x9_1).f0), .int .i64 ((rd_T28 l0_13 x9_1).f1), .int .i64 ((rd_T28 l0_13 x9_1).f2.f0), .int .i64 ((rd_T28 l0_13 x9_1).f2.f1), .string ((rd_T28 l0_13 x9_1).f2.f2), .int .i64 ((rd_T28 l0_13 x9_1).f3.f0), .int .i64 ((rd_T28 l0_13 x9_1).f3.f1), .bool ((rd_T28 l0_13 x9_1).f3.f2), .bool ((rd_T28 l0_13 x9_1).f3.f3), .int .i64 ((rd_T28 l0_13 x9_1).f4.f0), .int .i64 ((rd_T28 l0_13 x9_1).f4.f1), .bool ((rd_T28 l0_13 x9_1).f4.f2), .bool ((rd_T28 l0_13 x9_1).f4.f3), .slice A102_13 ((rd_T28 l0_13 x9_1).f5).length c102_13] 28 (0, 0)) (by refine pp_ (cs := #[.int .i64 ((rd_T28 l0_13 x9_1).f0), .int .i64 ((rd_T28 l0_13 x9_1).f1), .int .i64 ((rd_T28 l0_13 x9_1).f2.f0), .int .i64 ((rd_T28 l0_13 x9_1).f2.f1), .string ((rd_T28 l0_13 x9_1).f2.f2), .int .i64 ((rd_T28 l0_13 x9_1).f3.f0), .int .i64 ((rd_T28 l0_13 x9_1).f3.f1), .bool ((rd_T28 l0_13 x9_1).f3.f2), .bool ((rd_T28 l0_13 x9_1).f3.f3), .int .i64 ((rd_T28 l0_13 x9_1).f4.f0), .int .i64 ((rd_T28 l0_13 x9_1).f4.f1), .bool ((rd_T28 l0_13 x9_1).f4.f2), .bool ((rd_T28 l0_13 x9_1).f4.f3), .slice none 0 0]) 13 ?_ rfl; refine blk_put (cs := #[.int .i64 ((rd_T28 l0_13 x9_1).f0), .int .i64 ((rd_T28 l0_13 x9_1).f1), .int .i64 ((rd_T28 l0_13 x9_1).f2.f0), .int .i64 ((rd_T28 l0_13 x9_1).f2.f1), .string ((rd_T28 l0_13 x9_1).f2.f2), .int .i64 ((rd_T28 l0_13 x9_1).f3.f0), .int .i64 ((rd_T28 l0_13 x9_1).f3.f1), .bool ((rd_T28 l0_13 x9_1).f3.f2), .bool ((rd_T28 l0_13 x9_1).f3.f3), .int .i64 ((rd_T28 l0_13 x9_1).f4.f0), .int .i64 ((rd_T28 l0_13 x9_1).f4.f1), .bool ((rd_T28 l0_13 x9_1).f4.f2), .bool false, .slice none 0 0]) ?_ 12 _ rfl; refine blk_put (cs := #[.int .i64 ((rd_T28 l0_13 x9_1).f0), .int .i64 ((rd_T28 l0_13 x9_1).f1), .int .i64 ((rd_T28 l0_13 x9_1).f2.f0), .int .i64 ((rd_T28 l0_13 x9_1).f2.f1), .string ((rd_T28 l0_13 x9_1).f2.f2), .int .i64 ((rd_T28 l0_13 x9_1).f3.f0), .int .i64 ((rd_T28 l0_13 x9_1).f3.f1), .bool ((rd_T28 l0_13 x9_1).f3.f2), .bool ((rd_T28 l0_13 x9_1).f3.f3), .int .i64 ((rd_T28 l0_13 x9_1).f4.f0), .int .i64 ((rd_T28 l0_13 x9_1).f4.f1), .bool false, .bool false, .slice none 0 0]) ?_ 11 _ rfl; refine blk_put (cs := #[.int .i64 ((rd_T28 l0_13 x9_1).f0), .int .i64 ((rd_T28 l0_13 x9_1).f1), .int .i64 ((rd_T28 l0_13 x9_1).f2.f0), .int .i64 ((rd_T28 l0_13 x9_1).f2.f1), .string ((rd_T28 l0_13 x9_1).f2.f2), .int .i64 ((rd_T28 l0_13 x9_1).f3.f0), .int .i64 ((rd_T28 l0_13 x9_1).f3.f1), .bool ((rd_T28 l0_13 x9_1).f3.f2), .bool ((rd_T28 l0_13 x9_1).f3.f3), .int .i64 ((rd_T28 l0_13 x9_1).f4.f0), .int .i64 0, .bool false, .bool false, .slice none 0 0]) ?_ 10 _ rfl; refine blk_put (cs := #[.int .i64 ((rd_T28 l0_13 x9_1).f0), .int .i64 ((rd_T28 l0_13 x9_1).f1), .int .i64 ((rd_T28 l0_13 x9_1).f2.f0), .int .i64 ((rd_T28 l0_13 x9_1).f2.f1), .string ((rd_T28 l0_13 x9_1).f2.f2), .int .i64 ((rd_T28 l0_13 x9_1).f3.f0), .int .i64 ((rd_T28 l0_13 x9_1).f3.f1), .bool ((rd_T28 l0_13 x9_1).f3.f2), .bool ((rd_T28 l0_13 x9_1).f3.f3), .int .i64 0, .int .i64 0, .bool false, .bool false, .slice none 0 0]) ?_ 9 _ rfl; refine blk_put (cs := #[.int .i64 ((rd_T28 l0_13 x9_1).f0), .int .i64 ((rd_T28 l0_13 x9_1).f1), .int .i64 ((rd_T28 l0_13 x9_1).f2.f0), .int .i64 ((rd_T28 l0_13 x9_1).f2.f1), .string ((rd_T28 l0_13 x9_1).f2.f2), .int .i64 ((rd_T28 l0_13 x9_1).f3.f0), .int .i64 ((rd_T28 l0_13 x9_1).f3.f1), .bool ((rd_T28 l0_13 x9_1).f3.f2), .bool false, .int .i64 0, .int .i64 0, .bool false, .bool false, .slice none 0 0]) ?_ 8 _ rfl; refine blk_put (cs := #[.int .i64 ((rd_T28 l0_13 x9_1).f0), .int .i64 ((rd_T28 l0_13 x9_1).f1), .int .i64 ((rd_T28 l0_13 x9_1).f2.f0), .int .i64 ((rd_T28 l0_13 x9_1).f2.f1), .string ((rd_T28 l0_13 x9_1).f2.f2), .int .i64 ((rd_T28 l0_13 x9_1).f3.f0), .int .i64 ((rd_T28 l0_13 x9_1).f3.f1), .bool false, .bool false, .int .i64 0, .int .i64 0, .bool false, .bool false, .slice none 0 0]) ?_ 7 _ rfl; refine blk_put (cs := #[.int .i64 ((rd_T28 l0_13 x9_1).f0), .int .i64 ((rd_T28 l0_13 x9_1).f1), .int .i64 ((rd_T28 l0_13 x9_1).f2.f0), .int .i64 ((rd_T28 l0_13 x9_1).f2.f1), .string ((rd_T28 l0_13 x9_1).f2.f2), .int .i64 ((rd_T28 l0_13 x9_1).f3.f0), .int .i64 0, .bool false, .bool false, .int .i64 0, .int .i64 0, .bool false, .bool false, .slice none 0 0]) ?_ 6 _ rfl; refine blk_put (cs := #[.int .i64 ((rd_T28 l0_13 x9_1).f0), .int .i64 ((rd_T28 l0_13 x9_1).f1), .int .i64 ((rd_T28 l0_13 x9_1).f2.f0), .int .i64 ((rd_T28 l0_13 x9_1).f2.f1), .string ((rd_T28 l0_13 x9_1).f2.f2), .int .i64 0, .int .i64 0, .bool false, .bool false, .int .i64 0, .int .i64 0, .bool false, .bool false, .slice none 0 0]) ?_ 5 _ rfl; refine blk_put (cs := #[.int .i64 ((rd_T28 l0_13 x9_1).f0), .int .i64 ((rd_T28 l0_13 x9_1).f1), .int .i64 ((rd_T28 l0_13 x9_1).f2.f0), .int .i64 ((rd_T28 l0_13 x9_1).f2.f1), .string (⟨#[]⟩ : ByteArray), .int .i64 0, .int .i64 0, .bool false, .bool false, .int .i64 0, .int .i64 0, .bool false, .bool false, .slice none 0 0]) ?_ 4 _ rfl; refine pp_ (cs := #[.int .i64 ((rd_T28 l0_13 x9_1).f0), .int .i64 ((rd_T28 l0_13 x9_1).f1), .int .i64 ((rd_T28 l0_13 x9_1).f2.f0), .int .i64 0, .string (⟨#[]⟩ : ByteArray), .int .i64 0, .int .i64 0, .bool false, .bool false, .int .i64 0, .int .i64 0, .bool false, .bool false, .slice none 0 0]) 3 ?_ rfl; refine pp_ (cs := #[.int .i64 ((rd_T28 l0_13 x9_1).f0), .int .i64 ((rd_T28 l0_13 x9_1).f1), .int .i64 0, .int .i64 0, .string (⟨#[]⟩ : ByteArray), .int .i64 0, .int .i64 0, .bool false, .bool false, .int .i64 0, .int .i64 0, .bool false, .bool false, .slice none 0 0]) 2 ?_ rfl; refine pp_ (cs := #[.int .i64 ((rd_T28 l0_13 x9_1).f0), .int .i64 0, .int .i64 0, .int .i64 0, .string (⟨#[]⟩ : ByteArray), .int .i64 0, .int .i64 0, .bool false, .bool false, .int .i64 0, .int .i64 0, .bool false, .bool false, .slice none 0 0]) 1 ?_ rfl; refine pp_ (cs := #[.int .i64 0, .int .i64 0, .int .i64 0, .int .i64 0, .string (⟨#[]⟩ : ByteArray), .int .i64 0, .int .i64 0, .bool false, .bool false, .int .i64 0, .int .i64 0, .bool false, .bool false, .slice none 0 0]) 0 ?_ rfl; exact pkx BK103) hb); replace HB := Aside0.mk (below_step (by repeat (first | (with_reducible first | exact HB.out | apply below_alloc | apply pw_below_drewN | apply below_drew1 | refine below_set ?_ GE101.out | refine below_set ?_ GE103.out) | exact HB.out)) hb); (try clear hb); (try clear hb2); (try clear hk); (try clear hi)))
      go_roundg k1
      case measure => have := HK1.out; omega
      case rel => exact ⟨(wrap64 (x3_1 + t104)), (wrap64 (x9_1 + 1)), (by first | rfl | (simp; done) | (simp [*]; done) | (cases t104 <;> simp; done)), (by first | rfl | (simp; done) | (simp [*]; done)), H', ⟨by have := HK1.out; omega⟩, ⟨pkx BK101⟩, ⟨pbx HB⟩⟩
     ·rw [if_neg c6] at H
      exact absurd H (by simp)
    ·rw [if_neg c5] at H
     exact absurd H (by simp)
   ·rw [if_neg c4] at H; have c4b0 : decide (x9_1 < (l0_13.length : Int)) = false := decide_eq_false c4; clear c4; obtain rfl := Option.some.inj H
    go_wp2
    go_ret
    exact ⟨by first | rfl | (simp [errW_none, errW_some] <;> rfl) | (simp [*, errW_none, errW_some] <;> rfl), pbx HB⟩

theorem eqA23 (d : Nat) (w : World) (x0 y0 : Int) (x1 y1 : Int) (x2 y2 : ByteArray) :
  (Op.equalIn (d + 2) 23 (.agg #[.int .i64 x0, .int .i64 x1, .string x2]) (.agg #[.int .i64 y0, .int .i64 y1, .string y2])).run Tryd.prog w = .ok (x0 == y0 && (x1 == y1 && (x2.toList == y2.toList))) w := by
 refine eqA_of Tryd.underlying23 (by kernel_rfl) ?_
 refine eqf_cons (by rfl) (by go_simp; rfl) (by go_simp; rfl) (by go_simp) ?_
 refine eqf_cons (by rfl) (by go_simp; rfl) (by go_simp; rfl) (by go_simp) ?_
 exact eqf_last (by rfl) (by go_simp; rfl) (by go_simp; rfl) (by go_simp)
theorem eqA25 (d : Nat) (w : World) (x0 y0 : Int) (x1 y1 : Int) (x2 y2 : Bool) (x3 y3 : Bool) :
  (Op.equalIn (d + 2) 25 (.agg #[.int .i64 x0, .int .i64 x1, .bool x2, .bool x3]) (.agg #[.int .i64 y0, .int .i64 y1, .bool y2, .bool y3])).run Tryd.prog w = .ok (x0 == y0 && (x1 == y1 && (x2 == y2 && (x3 == y3)))) w := by
 refine eqA_of Tryd.underlying25 (by kernel_rfl) ?_
 refine eqf_cons (by rfl) (by go_simp; rfl) (by go_simp; rfl) (by go_simp) ?_
 refine eqf_cons (by rfl) (by go_simp; rfl) (by go_simp; rfl) (by go_simp) ?_
 refine eqf_cons (by rfl) (by go_simp; rfl) (by go_simp; rfl) (by go_simp) ?_
 exact eqf_last (by rfl) (by go_simp; rfl) (by go_simp; rfl) (by go_simp)
end Go.Proofs.YtdddhabemdbooaaDoor.X
namespace Go.Proofs.YtdddhabemdbooaaDoor.X
open Go.RowKit Go.Proofs.YtdddhabemdbooaaDoorW.PrintWords Go.Proofs.YtdddhabemdbooaaDoorW.PrintLast Go.Proofs.YtdddhabemdbooaaDoorW.PrintMore
attribute [local go_sem] max2_int min2_int max_two min_two max_three min_three max_four min_four
set_option linter.unusedVariables false
set_option linter.unusedSimpArgs false
attribute [local go_sem high] eqA23 eqA25
mutual
def node_Same.j0 : Nat → Bool → Int → Int → Int → Int → ByteArray → Int → Int → Bool → Bool → Int → Int → Bool → Bool → List (S28) → Int → Int → Int → Int → ByteArray → Int → Int → Bool → Bool → Int → Int → Bool → Bool → List (S28) → Option (Bool)
 | 0, _, _, _, _, _, _, _, _, _, _, _, _, _, _, _, _, _, _, _, _, _, _, _, _, _, _, _, _, _ => none
 | k + 1, x48, x102000, x102001, x102002, x102003, x102004, x102005, x102006, x102007, x102008, x102009, x102010, x102011, x102012, x102013, x103000, x103001, x103002, x103003, x103004, x103005, x103006, x103007, x103008, x103009, x103010, x103011, x103012, x103013 => if x48 = true then (some false) else (node_Same.l0 k x102013 (x102013.length : Int) 0 x103000 x103001 x103002 x103003 x103004 x103005 x103006 x103007 x103008 x103009 x103010 x103011 x103012 x103013)
def node_Same.l0 : Nat → List (S28) → Int → Int → Int → Int → Int → Int → ByteArray → Int → Int → Bool → Bool → Int → Int → Bool → Bool → List (S28) → Option (Bool)
 | 0, _, _, _, _, _, _, _, _, _, _, _, _, _, _, _, _, _ => none
 | k + 1, x50, x51, x52, x103000, x103001, x103002, x103003, x103004, x103005, x103006, x103007, x103008, x103009, x103010, x103011, x103012, x103013 => if x52 < x51 then (if 0 ≤ x52 then (if x52 < (x50.length : Int) then (if x52 < (x103013.length : Int) then ((node_Same.f k ((rd_T28 x50 x52).f0) ((rd_T28 x50 x52).f1) ((rd_T28 x50 x52).f2.f0) ((rd_T28 x50 x52).f2.f1) ((rd_T28 x50 x52).f2.f2) ((rd_T28 x50 x52).f3.f0) ((rd_T28 x50 x52).f3.f1) ((rd_T28 x50 x52).f3.f2) ((rd_T28 x50 x52).f3.f3) ((rd_T28 x50 x52).f4.f0) ((rd_T28 x50 x52).f4.f1) ((rd_T28 x50 x52).f4.f2) ((rd_T28 x50 x52).f4.f3) ((rd_T28 x50 x52).f5) ((rd_T28 x103013 x52).f0) ((rd_T28 x103013 x52).f1) ((rd_T28 x103013 x52).f2.f0) ((rd_T28 x103013 x52).f2.f1) ((rd_T28 x103013 x52).f2.f2) ((rd_T28 x103013 x52).f3.f0) ((rd_T28 x103013 x52).f3.f1) ((rd_T28 x103013 x52).f3.f2) ((rd_T28 x103013 x52).f3.f3) ((rd_T28 x103013 x52).f4.f0) ((rd_T28 x103013 x52).f4.f1) ((rd_T28 x103013 x52).f4.f2) ((rd_T28 x103013 x52).f4.f3) ((rd_T28 x103013 x52).f5)).bind fun t106 => (node_Same.j2 k x50 x51 x52 (!t106) x103000 x103001 x103002 x103003 x103004 x103005 x103006 x103007 x103008 x103009 x103010 x103011 x103012 x103013)) else (none)) else (none)) else (none)) else (some true)
def node_Same.j2 : Nat → List (S28) → Int → Int → Bool → Int → Int → Int → Int → ByteArray → Int → Int → Bool → Bool → Int → Int → Bool → Bool → List (S28) → Option (Bool)
 | 0, _, _, _, _, _, _, _, _, _, _, _, _, _, _, _, _, _, _ => none
 | k + 1, x50, x51, x52, x64, x103000, x103001, x103002, x103003, x103004, x103005, x103006, x103007, x103008, x103009, x103010, x103011, x103012, x103013 => if x64 = true then (some false) else (node_Same.l0 k x50 x51 (wrap64 (x52 + 1)) x103000 x103001 x103002 x103003 x103004 x103005 x103006 x103007 x103008 x103009 x103010 x103011 x103012 x103013)
def node_Same.f : Nat → Int → Int → Int → Int → ByteArray → Int → Int → Bool → Bool → Int → Int → Bool → Bool → List (S28) → Int → Int → Int → Int → ByteArray → Int → Int → Bool → Bool → Int → Int → Bool → Bool → List (S28) → Option (Bool)
 | 0, _, _, _, _, _, _, _, _, _, _, _, _, _, _, _, _, _, _, _, _, _, _, _, _, _, _, _, _ => none
 | k + 1, a0_0, a0_1, a0_2, a0_3, a0_4, a0_5, a0_6, a0_7, a0_8, a0_9, a0_10, a0_11, a0_12, l0_13, a1_0, a1_1, a1_2, a1_3, a1_4, a1_5, a1_6, a1_7, a1_8, a1_9, a1_10, a1_11, a1_12, l1_13 => if a0_0 = a1_0 then (if a0_1 = a1_1 then (if (!(a0_2 == a1_2) || (!(a0_3 == a1_3) || (!(a0_4.toList == a1_4.toList)))) = true then (node_Same.j0 k true a0_0 a0_1 a0_2 a0_3 a0_4 a0_5 a0_6 a0_7 a0_8 a0_9 a0_10 a0_11 a0_12 l0_13 a1_0 a1_1 a1_2 a1_3 a1_4 a1_5 a1_6 a1_7 a1_8 a1_9 a1_10 a1_11 a1_12 l1_13) else (if (!(a0_5 == a1_5) || (!(a0_6 == a1_6) || (!(a0_7 == a1_7) || (!(a0_8 == a1_8))))) = true then (node_Same.j0 k true a0_0 a0_1 a0_2 a0_3 a0_4 a0_5 a0_6 a0_7 a0_8 a0_9 a0_10 a0_11 a0_12 l0_13 a1_0 a1_1 a1_2 a1_3 a1_4 a1_5 a1_6 a1_7 a1_8 a1_9 a1_10 a1_11 a1_12 l1_13) else (if (!(a0_9 == a1_9) || (!(a0_10 == a1_10) || (!(a0_11 == a1_11) || (!(a0_12 == a1_12))))) = true then (node_Same.j0 k true a0_0 a0_1 a0_2 a0_3 a0_4 a0_5 a0_6 a0_7 a0_8 a0_9 a0_10 a0_11 a0_12 l0_13 a1_0 a1_1 a1_2 a1_3 a1_4 a1_5 a1_6 a1_7 a1_8 a1_9 a1_10 a1_11 a1_12 l1_13) else (node_Same.j0 k ((l0_13.length : Int) != (l1_13.length : Int)) a0_0 a0_1 a0_2 a0_3 a0_4 a0_5 a0_6 a0_7 a0_8 a0_9 a0_10 a0_11 a0_12 l0_13 a1_0 a1_1 a1_2 a1_3 a1_4 a1_5 a1_6 a1_7 a1_8 a1_9 a1_10 a1_11 a1_12 l1_13)))) else (node_Same.j0 k true a0_0 a0_1 a0_2 a0_3 a0_4 a0_5 a0_6 a0_7 a0_8 a0_9 a0_10 a0_11 a0_12 l0_13 a1_0 a1_1 a1_2 a1_3 a1_4 a1_5 a1_6 a1_7 a1_8 a1_9 a1_10 a1_11 a1_12 l1_13)) else (node_Same.j0 k true a0_0 a0_1 a0_2 a0_3 a0_4 a0_5 a0_6 a0_7 a0_8 a0_9 a0_10 a0_11 a0_12 l0_13 a1_0 a1_1 a1_2 a1_3 a1_4 a1_5 a1_6 a1_7 a1_8 a1_9 a1_10 a1_11 a1_12 l1_13)
end
theorem node_Same.mono_l : ∀ k, (∀ y0 y1 y2 y3 y4 y5 y6 y7 y8 y9 y10 y11 y12 y13 y14 y15 y16 y17 y18 y19 y20 y21 y22 y23 y24 y25 y26 y27, LeO (node_Same.f k y0 y1 y2 y3 y4 y5 y6 y7 y8 y9 y10 y11 y12 y13 y14 y15 y16 y17 y18 y19 y20 y21 y22 y23 y24 y25 y26 y27) (node_Same.f (k + 1) y0 y1 y2 y3 y4 y5 y6 y7 y8 y9 y10 y11 y12 y13 y14 y15 y16 y17 y18 y19 y20 y21 y22 y23 y24 y25 y26 y27)) ∧ (∀ y0 y1 y2 y3 y4 y5 y6 y7 y8 y9 y10 y11 y12 y13 y14 y15 y16 y17 y18 y19 y20 y21 y22 y23 y24 y25 y26 y27 y28, LeO (node_Same.j0 k y0 y1 y2 y3 y4 y5 y6 y7 y8 y9 y10 y11 y12 y13 y14 y15 y16 y17 y18 y19 y20 y21 y22 y23 y24 y25 y26 y27 y28) (node_Same.j0 (k + 1) y0 y1 y2 y3 y4 y5 y6 y7 y8 y9 y10 y11 y12 y13 y14 y15 y16 y17 y18 y19 y20 y21 y22 y23 y24 y25 y26 y27 y28)) ∧ (∀ y0 y1 y2 y3 y4 y5 y6 y7 y8 y9 y10 y11 y12 y13 y14 y15 y16, LeO (node_Same.l0 k y0 y1 y2 y3 y4 y5 y6 y7 y8 y9 y10 y11 y12 y13 y14 y15 y16) (node_Same.l0 (k + 1) y0 y1 y2 y3 y4 y5 y6 y7 y8 y9 y10 y11 y12 y13 y14 y15 y16)) ∧ (∀ y0 y1 y2 y3 y4 y5 y6 y7 y8 y9 y10 y11 y12 y13 y14 y15 y16 y17, LeO (node_Same.j2 k y0 y1 y2 y3 y4 y5 y6 y7 y8 y9 y10 y11 y12 y13 y14 y15 y16 y17) (node_Same.j2 (k + 1) y0 y1 y2 y3 y4 y5 y6 y7 y8 y9 y10 y11 y12 y13 y14 y15 y16 y17))
 | 0 => ⟨fun _ _ _ _ _ _ _ _ _ _ _ _ _ _ _ _ _ _ _ _ _ _ _ _ _ _ _ _ r h => by simp [node_Same.f] at h, fun _ _ _ _ _ _ _ _ _ _ _ _ _ _ _ _ _ _ _ _ _ _ _ _ _ _ _ _ _ r h => by simp [node_Same.j0] at h, fun _ _ _ _ _ _ _ _ _ _ _ _ _ _ _ _ _ r h => by simp [node_Same.l0] at h, fun _ _ _ _ _ _ _ _ _ _ _ _ _ _ _ _ _ _ r h => by simp [node_Same.j2] at h⟩
 | k + 1 => by
  obtain ⟨ih0, ih1, ih2, ih3⟩ := node_Same.mono_l k
  refine ⟨?_, ?_, ?_, ?_⟩
  ·intro y0 y1 y2 y3 y4 y5 y6 y7 y8 y9 y10 y11 y12 y13 y14 y15 y16 y17 y18 y19 y20 y21 y22 y23 y24 y25 y26 y27
   unfold node_Same.f
   repeat' first
   | (with_reducible exact ih0 _ _ _ _ _ _ _ _ _ _ _ _ _ _ _ _ _ _ _ _ _ _ _ _ _ _ _ _)
   | (with_reducible exact ih1 _ _ _ _ _ _ _ _ _ _ _ _ _ _ _ _ _ _ _ _ _ _ _ _ _ _ _ _ _)
   | (with_reducible exact ih2 _ _ _ _ _ _ _ _ _ _ _ _ _ _ _ _ _)
   | (with_reducible exact ih3 _ _ _ _ _ _ _ _ _ _ _ _ _ _ _ _ _ _)
   | (with_reducible exact LeO.refl _)
   | (with_reducible exact LeO.none _)
   | (with_reducible refine LeO.ite ?_ ?_)
   | (with_reducible refine LeO.bind ?_ (fun _ => ?_))
  ·intro y0 y1 y2 y3 y4 y5 y6 y7 y8 y9 y10 y11 y12 y13 y14 y15 y16 y17 y18 y19 y20 y21 y22 y23 y24 y25 y26 y27 y28
   unfold node_Same.j0
   repeat' first
   | (with_reducible exact ih0 _ _ _ _ _ _ _ _ _ _ _ _ _ _ _ _ _ _ _ _ _ _ _ _ _ _ _ _)
   | (with_reducible exact ih1 _ _ _ _ _ _ _ _ _ _ _ _ _ _ _ _ _ _ _ _ _ _ _ _ _ _ _ _ _)
   | (with_reducible exact ih2 _ _ _ _ _ _ _ _ _ _ _ _ _ _ _ _ _)
   | (with_reducible exact ih3 _ _ _ _ _ _ _ _ _ _ _ _ _ _ _ _ _ _)
   | (with_reducible exact LeO.refl _)
   | (with_reducible exact LeO.none _)
   | (with_reducible refine LeO.ite ?_ ?_)
   | (with_reducible refine LeO.bind ?_ (fun _ => ?_))
  ·intro y0 y1 y2 y3 y4 y5 y6 y7 y8 y9 y10 y11 y12 y13 y14 y15 y16
   unfold node_Same.l0
   repeat' first
   | (with_reducible exact ih0 _ _ _ _ _ _ _ _ _ _ _ _ _ _ _ _ _ _ _ _ _ _ _ _ _ _ _ _)
   | (with_reducible exact ih1 _ _ _ _ _ _ _ _ _ _ _ _ _ _ _ _ _ _ _ _ _ _ _ _ _ _ _ _ _)
   | (with_reducible exact ih2 _ _ _ _ _ _ _ _ _ _ _ _ _ _ _ _ _)
   | (with_reducible exact ih3 _ _ _ _ _ _ _ _ _ _ _ _ _ _ _ _ _ _)
   | (with_reducible exact LeO.refl _)
   | (with_reducible exact LeO.none _)
   | (with_reducible refine LeO.ite ?_ ?_)
   | (with_reducible refine LeO.bind ?_ (fun _ => ?_))
  ·intro y0 y1 y2 y3 y4 y5 y6 y7 y8 y9 y10 y11 y12 y13 y14 y15 y16 y17
   unfold node_Same.j2
   repeat' first
   | (with_reducible exact ih0 _ _ _ _ _ _ _ _ _ _ _ _ _ _ _ _ _ _ _ _ _ _ _ _ _ _ _ _)
   | (with_reducible exact ih1 _ _ _ _ _ _ _ _ _ _ _ _ _ _ _ _ _ _ _ _ _ _ _ _ _ _ _ _ _)
   | (with_reducible exact ih2 _ _ _ _ _ _ _ _ _ _ _ _ _ _ _ _ _)
   | (with_reducible exact ih3 _ _ _ _ _ _ _ _ _ _ _ _ _ _ _ _ _ _)
   | (with_reducible exact LeO.refl _)
   | (with_reducible exact LeO.none _)
   | (with_reducible refine LeO.ite ?_ ?_)
   | (with_reducible refine LeO.bind ?_ (fun _ => ?_))
theorem node_Same.mono : ∀ a0 a1 a2 a3 a4 a5 a6 a7 a8 a9 a10 a11 a12 a13 a14 a15 a16 a17 a18 a19 a20 a21 a22 a23 a24 a25 a26 a27 k, LeO (node_Same.f k a0 a1 a2 a3 a4 a5 a6 a7 a8 a9 a10 a11 a12 a13 a14 a15 a16 a17 a18 a19 a20 a21 a22 a23 a24 a25 a26 a27) (node_Same.f (k + 1) a0 a1 a2 a3 a4 a5 a6 a7 a8 a9 a10 a11 a12 a13 a14 a15 a16 a17 a18 a19 a20 a21 a22 a23 a24 a25 a26 a27) := by
 intro a0 a1 a2 a3 a4 a5 a6 a7 a8 a9 a10 a11 a12 a13 a14 a15 a16 a17 a18 a19 a20 a21 a22 a23 a24 a25 a26 a27 k; obtain ⟨ih0, ih1, ih2, ih3⟩ := node_Same.mono_l k
 exact ih0 a0 a1 a2 a3 a4 a5 a6 a7 a8 a9 a10 a11 a12 a13 a14 a15 a16 a17 a18 a19 a20 a21 a22 a23 a24 a25 a26 a27
def node_Same.T6 : Bool × List (List Nat × List Nat) := (true, [([], []), ([], []), ([1], [1]), ([], []), ([2, 3], [2, 3]), ([4], [4]), ([0, 5], [0, 5]), ([6], [6])])
def node_Same.B6 : List Nat := [0, 0, 2, 0, 14, 30, 63, 127]
theorem node_Same.tab6 : rtab .any (opsOf Tryd.f18 6) = node_Same.T6 := by kernel_rfl
theorem node_Same.bits6 : waitsOk node_Same.T6.2 node_Same.B6 = true := by kernel_rfl
set_option maxHeartbeats 8000000 in
set_option maxRecDepth 100000 in
theorem node_Same.calls (k : Nat) : ∀ (a0_0 : Int) (a0_1 : Int) (a0_2 : Int) (a0_3 : Int) (a0_4 : ByteArray) (a0_5 : Int) (a0_6 : Int) (a0_7 : Bool) (a0_8 : Bool) (a0_9 : Int) (a0_10 : Int) (a0_11 : Bool) (a0_12 : Bool) (A0_13 : Option Addr) (c0_13 : Nat) (l0_13 : List (S28)) (a1_0 : Int) (a1_1 : Int) (a1_2 : Int) (a1_3 : Int) (a1_4 : ByteArray) (a1_5 : Int) (a1_6 : Int) (a1_7 : Bool) (a1_8 : Bool) (a1_9 : Int) (a1_10 : Int) (a1_11 : Bool) (a1_12 : Bool) (A1_13 : Option Addr) (c1_13 : Nat) (l1_13 : List (S28)) (r : Bool) (w : World) (hr0_13 : Kd.C k28 w A0_13 l0_13.length l0_13) (hc0_13 : l0_13.length ≤ c0_13) (hr1_13 : Kd.C k28 w A1_13 l1_13.length l1_13) (hc1_13 : l1_13.length ≤ c1_13) (h : node_Same.f k a0_0 a0_1 a0_2 a0_3 a0_4 a0_5 a0_6 a0_7 a0_8 a0_9 a0_10 a0_11 a0_12 l0_13 a1_0 a1_1 a1_2 a1_3 a1_4 a1_5 a1_6 a1_7 a1_8 a1_9 a1_10 a1_11 a1_12 l1_13 = some r),
  Calls Tryd.prog 18 #[.agg #[.int .i64 a0_0, .int .i64 a0_1, .int .i64 a0_2, .int .i64 a0_3, .string a0_4, .int .i64 a0_5, .int .i64 a0_6, .bool a0_7, .bool a0_8, .int .i64 a0_9, .int .i64 a0_10, .bool a0_11, .bool a0_12, .slice A0_13 l0_13.length c0_13], .agg #[.int .i64 a1_0, .int .i64 a1_1, .int .i64 a1_2, .int .i64 a1_3, .string a1_4, .int .i64 a1_5, .int .i64 a1_6, .bool a1_7, .bool a1_8, .int .i64 a1_9, .int .i64 a1_10, .bool a1_11, .bool a1_12, .slice A1_13 l1_13.length c1_13]] w fun e w' => e = .returned (.bool r) ∧ Below w.heap.size w w' := by
 induction k using Nat.strongRecOn with
 | _ k ih =>
 intro a0_0 a0_1 a0_2 a0_3 a0_4 a0_5 a0_6 a0_7 a0_8 a0_9 a0_10 a0_11 a0_12 A0_13 c0_13 l0_13 a1_0 a1_1 a1_2 a1_3 a1_4 a1_5 a1_6 a1_7 a1_8 a1_9 a1_10 a1_11 a1_12 A1_13 c1_13 l1_13 r w hr0_13 hc0_13 hr1_13 hc1_13 h
 cases k with
 | zero => exact absurd h (by simp [node_Same.f])
 | succ k =>
 simp only [node_Same.f] at h
 have hu28 := Tryd.underlying28; have hu23 := Tryd.underlying23; have hu25 := Tryd.underlying25; have HR0_13 := Aside0.mk hr0_13; have HC0_13 := Aside0.mk hc0_13; clear hr0_13 hc0_13; have HR1_13 := Aside0.mk hr1_13; have HC1_13 := Aside0.mk hc1_13; clear hr1_13 hc1_13; have HB := Aside0.mk (Below.refl w.heap.size w)
 have H : (if a0_0 = a1_0 then (if a0_1 = a1_1 then (if (!(a0_2 == a1_2) || (!(a0_3 == a1_3) || (!(a0_4.toList == a1_4.toList)))) = true then (node_Same.j0 k true a0_0 a0_1 a0_2 a0_3 a0_4 a0_5 a0_6 a0_7 a0_8 a0_9 a0_10 a0_11 a0_12 l0_13 a1_0 a1_1 a1_2 a1_3 a1_4 a1_5 a1_6 a1_7 a1_8 a1_9 a1_10 a1_11 a1_12 l1_13) else (if (!(a0_5 == a1_5) || (!(a0_6 == a1_6) || (!(a0_7 == a1_7) || (!(a0_8 == a1_8))))) = true then (node_Same.j0 k true a0_0 a0_1 a0_2 a0_3 a0_4 a0_5 a0_6 a0_7 a0_8 a0_9 a0_10 a0_11 a0_12 l0_13 a1_0 a1_1 a1_2 a1_3 a1_4 a1_5 a1_6 a1_7 a1_8 a1_9 a1_10 a1_11 a1_12 l1_13) else (if (!(a0_9 == a1_9) || (!(a0_10 == a1_10) || (!(a0_11 == a1_11) || (!(a0_12 == a1_12))))) = true then (node_Same.j0 k true a0_0 a0_1 a0_2 a0_3 a0_4 a0_5 a0_6 a0_7 a0_8 a0_9 a0_10 a0_11 a0_12 l0_13 a1_0 a1_1 a1_2 a1_3 a1_4 a1_5 a1_6 a1_7 a1_8 a1_9 a1_10 a1_11 a1_12 l1_13) else (node_Same.j0 k ((l0_13.length : Int) != (l1_13.length : Int)) a0_0 a0_1 a0_2 a0_3 a0_4 a0_5 a0_6 a0_7 a0_8 a0_9 a0_10 a0_11 a0_12 l0_13 a1_0 a1_1 a1_2 a1_3 a1_4 a1_5 a1_6 a1_7 a1_8 a1_9 a1_10 a1_11 a1_12 l1_13)))) else (node_Same.j0 k true a0_0 a0_1 a0_2 a0_3 a0_4 a0_5 a0_6 a0_7 a0_8 a0_9 a0_10 a0_11 a0_12 l0_13 a1_0 a1_1 a1_2 a1_3 a1_4 a1_5 a1_6 a1_7 a1_8 a1_9 a1_10 a1_11 a1_12 l1_13)) else (node_Same.j0 k true a0_0 a0_1 a0_2 a0_3 a0_4 a0_5 a0_6 a0_7 a0_8 a0_9 a0_10 a0_11 a0_12 l0_13 a1_0 a1_1 a1_2 a1_3 a1_4 a1_5 a1_6 a1_7 a1_8 a1_9 a1_10 a1_11 a1_12 l1_13)) = some r := h
 clear h; have HC3 := Aside0.mk H; clear H
 go_enter Tryd.func18, Tryd.ntmps18
 go_upto_region 1 with (first | ((with_reducible refine gate_dst (N:=2) rfl ?_); (try (refine gate_guard (by rfl) ?_; dsimp only)); refine be_ (N:=2) (cs := #[.int .i64 a0_0, .int .i64 a0_1, .int .i64 a0_2, .int .i64 a0_3, .string a0_4, .int .i64 a0_5, .int .i64 a0_6, .bool a0_7, .bool a0_8, .int .i64 a0_9, .int .i64 a0_10, .bool a0_11, .bool a0_12, .slice A0_13 l0_13.length c0_13]) (t:=28) ?_; intro gb101 hg w4 hbox hb; have BK101 := Aside0.mk (hbox); have GW101 := hs_ HB hg; have GE101 := hs_ HB hg; replace HB := bs_ HB hb; clear hb hbox hg) | ((with_reducible refine gate_dst (N:=3) rfl ?_); (try (refine gate_guard (by rfl) ?_; dsimp only)); refine be_ (N:=3) (cs := #[.int .i64 a1_0, .int .i64 a1_1, .int .i64 a1_2, .int .i64 a1_3, .string a1_4, .int .i64 a1_5, .int .i64 a1_6, .bool a1_7, .bool a1_8, .int .i64 a1_9, .int .i64 a1_10, .bool a1_11, .bool a1_12, .slice A1_13 l1_13.length c1_13]) (t:=28) ?_; intro gb102 hg w5 hbox hb; have BK102 := Aside0.mk (hbox); have GW102 := hs_ HB hg; have GE102 := hs_ HB hg; have NB101_102 := hl_ BK101 hg; have NB102_101 := hr_ BK101 hg; replace BK101 := bb_ BK101 hb; replace HB := bs_ HB hb; clear hb hbox hg))
 (try simp only [q_])
 go_cut [48] (fun v48 wc => ∃ (kq : Nat) (x48_2 : Bool), v48 = .bool x48_2 ∧ Aside0 (node_Same.j0 kq x48_2 a0_0 a0_1 a0_2 a0_3 a0_4 a0_5 a0_6 a0_7 a0_8 a0_9 a0_10 a0_11 a0_12 l0_13 a1_0 a1_1 a1_2 a1_3 a1_4 a1_5 a1_6 a1_7 a1_8 a1_9 a1_10 a1_11 a1_12 l1_13 = some r) ∧ Aside0 (kq ≤ k) ∧ Aside0 (wc.heap[gb101]? = some (.cells #[.int .i64 a0_0, .int .i64 a0_1, .int .i64 a0_2, .int .i64 a0_3, .string a0_4, .int .i64 a0_5, .int .i64 a0_6, .bool a0_7, .bool a0_8, .int .i64 a0_9, .int .i64 a0_10, .bool a0_11, .bool a0_12, (.slice A0_13 l0_13.length c0_13)] 28 (0, 0))) ∧ Aside0 (wc.heap[gb102]? = some (.cells #[.int .i64 a1_0, .int .i64 a1_1, .int .i64 a1_2, .int .i64 a1_3, .string a1_4, .int .i64 a1_5, .int .i64 a1_6, .bool a1_7, .bool a1_8, .int .i64 a1_9, .int .i64 a1_10, .bool a1_11, .bool a1_12, (.slice A1_13 l1_13.length c1_13)] 28 (0, 0))) ∧ Aside0 (Below w.heap.size w wc))
 case first =>
  have H := HC3.out; clear HC3
  by_cases c6 : a0_0 = a1_0
  ·rw [if_pos c6] at H; have c6b0 : (a0_0 == a1_0) = true := beq_iff_eq.mpr c6; have c6b1 : (a0_0 != a1_0) = false := bne_eq_false_iff_eq.mpr c6; clear c6; (first | rw [c6b0] | (simp only [i64_w, i32_w]; rw [c6b0]) | skip)
   by_cases c7 : a0_1 = a1_1
   ·rw [if_pos c7] at H; have c7b0 : (a0_1 == a1_1) = true := beq_iff_eq.mpr c7; have c7b1 : (a0_1 != a1_1) = false := bne_eq_false_iff_eq.mpr c7; clear c7
    by_cases c8 : (!(a0_2 == a1_2) || (!(a0_3 == a1_3) || (!(a0_4.toList == a1_4.toList)))) = true
    ·rw [if_pos c8] at H
     have c8b0 : (!(a0_2 == a1_2) || (!(a0_3 == a1_3) || (!(a0_4.toList == a1_4.toList)))) = true := c8
     clear c8
     have H' := Aside0.mk H
     clear H; have hnb9 := NB101_102.out; have hnc9 := NB102_101.out
     have hcz10_0 : w5.cell? ⟨gb101, 0, none⟩ = some (.int .i64 a0_0) := bc_ BK101 0 rfl
     have hcz10_1 : w5.cell? ⟨gb101, 1, none⟩ = some (.int .i64 a0_1) := bc_ BK101 1 rfl
     have hcz10_2 : w5.cell? ⟨gb101, 2, none⟩ = some (.int .i64 a0_2) := bc_ BK101 2 rfl
     have hcz10_3 : w5.cell? ⟨gb101, 3, none⟩ = some (.int .i64 a0_3) := bc_ BK101 3 rfl
     have hcz10_4 : w5.cell? ⟨gb101, 4, none⟩ = some (.string a0_4) := bc_ BK101 4 rfl
     have hcz10_5 : w5.cell? ⟨gb101, 5, none⟩ = some (.int .i64 a0_5) := bc_ BK101 5 rfl
     have hcz10_6 : w5.cell? ⟨gb101, 6, none⟩ = some (.int .i64 a0_6) := bc_ BK101 6 rfl
     have hcz10_7 : w5.cell? ⟨gb101, 7, none⟩ = some (.bool a0_7) := bc_ BK101 7 rfl
     have hcz10_8 : w5.cell? ⟨gb101, 8, none⟩ = some (.bool a0_8) := bc_ BK101 8 rfl
     have hcz10_9 : w5.cell? ⟨gb101, 9, none⟩ = some (.int .i64 a0_9) := bc_ BK101 9 rfl
     have hcz10_10 : w5.cell? ⟨gb101, 10, none⟩ = some (.int .i64 a0_10) := bc_ BK101 10 rfl
     have hcz10_11 : w5.cell? ⟨gb101, 11, none⟩ = some (.bool a0_11) := bc_ BK101 11 rfl
     have hcz10_12 : w5.cell? ⟨gb101, 12, none⟩ = some (.bool a0_12) := bc_ BK101 12 rfl
     have hcz10_13 : w5.cell? ⟨gb101, 13, none⟩ = some (.slice A0_13 l0_13.length c0_13) := bc_ BK101 13 rfl
     have hfz10_0 := blk_frozen BK101.out 0; have hfz10_1 := blk_frozen BK101.out 1; have hfz10_2 := blk_frozen BK101.out 2; have hfz10_3 := blk_frozen BK101.out 3; have hfz10_4 := blk_frozen BK101.out 4; have hfz10_5 := blk_frozen BK101.out 5; have hfz10_6 := blk_frozen BK101.out 6; have hfz10_7 := blk_frozen BK101.out 7; have hfz10_8 := blk_frozen BK101.out 8; have hfz10_9 := blk_frozen BK101.out 9; have hfz10_10 := blk_frozen BK101.out 10; have hfz10_11 := blk_frozen BK101.out 11; have hfz10_12 := blk_frozen BK101.out 12; have hfz10_13 := blk_frozen BK101.out 13
     have hcz11_0 : w5.cell? ⟨gb102, 0, none⟩ = some (.int .i64 a1_0) := bc_ BK102 0 rfl
     have hcz11_1 : w5.cell? ⟨gb102, 1, none⟩ = some (.int .i64 a1_1) := bc_ BK102 1 rfl
     have hcz11_2 : w5.cell? ⟨gb102, 2, none⟩ = some (.int .i64 a1_2) := bc_ BK102 2 rfl
     have hcz11_3 : w5.cell? ⟨gb102, 3, none⟩ = some (.int .i64 a1_3) := bc_ BK102 3 rfl
     have hcz11_4 : w5.cell? ⟨gb102, 4, none⟩ = some (.string a1_4) := bc_ BK102 4 rfl
     have hcz11_5 : w5.cell? ⟨gb102, 5, none⟩ = some (.int .i64 a1_5) := bc_ BK102 5 rfl
     have hcz11_6 : w5.cell? ⟨gb102, 6, none⟩ = some (.int .i64 a1_6) := bc_ BK102 6 rfl
     have hcz11_7 : w5.cell? ⟨gb102, 7, none⟩ = some (.bool a1_7) := bc_ BK102 7 rfl
     have hcz11_8 : w5.cell? ⟨gb102, 8, none⟩ = some (.bool a1_8) := bc_ BK102 8 rfl
     have hcz11_9 : w5.cell? ⟨gb102, 9, none⟩ = some (.int .i64 a1_9) := bc_ BK102 9 rfl
     have hcz11_10 : w5.cell? ⟨gb102, 10, none⟩ = some (.int .i64 a1_10) := bc_ BK102 10 rfl
     have hcz11_11 : w5.cell? ⟨gb102, 11, none⟩ = some (.bool a1_11) := bc_ BK102 11 rfl
     have hcz11_12 : w5.cell? ⟨gb102, 12, none⟩ = some (.bool a1_12) := bc_ BK102 12 rfl
     have hcz11_13 : w5.cell? ⟨gb102, 13, none⟩ = some (.slice A1_13 l1_13.length c1_13) := bc_ BK102 13 rfl
     have hfz11_0 := blk_frozen BK102.out 0; have hfz11_1 := blk_frozen BK102.out 1; have hfz11_2 := blk_frozen BK102.out 2; have hfz11_3 := blk_frozen BK102.out 3; have hfz11_4 := blk_frozen BK102.out 4; have hfz11_5 := blk_frozen BK102.out 5; have hfz11_6 := blk_frozen BK102.out 6; have hfz11_7 := blk_frozen BK102.out 7; have hfz11_8 := blk_frozen BK102.out 8; have hfz11_9 := blk_frozen BK102.out 9; have hfz11_10 := blk_frozen BK102.out 10; have hfz11_11 := blk_frozen BK102.out 11; have hfz11_12 := blk_frozen BK102.out 12; have hfz11_13 := blk_frozen BK102.out 13
     go_wp2
     go_meet
     case rel => exact ⟨_, (true), (by first | rfl | (simp; done) | (simp [*]; done)), H', ⟨by first | omega | exact Nat.le_refl _⟩, ⟨pkx BK101⟩, ⟨pkx BK102⟩, ⟨pbx HB⟩⟩
    ·rw [if_neg c8] at H
     have c8b0 : (!(a0_2 == a1_2) || (!(a0_3 == a1_3) || (!(a0_4.toList == a1_4.toList)))) = false := by simpa using c8
     clear c8
     by_cases c12 : (!(a0_5 == a1_5) || (!(a0_6 == a1_6) || (!(a0_7 == a1_7) || (!(a0_8 == a1_8))))) = true
     ·rw [if_pos c12] at H
      have c12b0 : (!(a0_5 == a1_5) || (!(a0_6 == a1_6) || (!(a0_7 == a1_7) || (!(a0_8 == a1_8))))) = true := c12
      clear c12
      have H' := Aside0.mk H
      clear H; have hnb13 := NB101_102.out; have hnc13 := NB102_101.out
      have hcz14_0 : w5.cell? ⟨gb101, 0, none⟩ = some (.int .i64 a0_0) := bc_ BK101 0 rfl
      have hcz14_1 : w5.cell? ⟨gb101, 1, none⟩ = some (.int .i64 a0_1) := bc_ BK101 1 rfl
      have hcz14_2 : w5.cell? ⟨gb101, 2, none⟩ = some (.int .i64 a0_2) := bc_ BK101 2 rfl
      have hcz14_3 : w5.cell? ⟨gb101, 3, none⟩ = some (.int .i64 a0_3) := bc_ BK101 3 rfl
      have hcz14_4 : w5.cell? ⟨gb101, 4, none⟩ = some (.string a0_4) := bc_ BK101 4 rfl
      have hcz14_5 : w5.cell? ⟨gb101, 5, none⟩ = some (.int .i64 a0_5) := bc_ BK101 5 rfl
      have hcz14_6 : w5.cell? ⟨gb101, 6, none⟩ = some (.int .i64 a0_6) := bc_ BK101 6 rfl
      have hcz14_7 : w5.cell? ⟨gb101, 7, none⟩ = some (.bool a0_7) := bc_ BK101 7 rfl
      have hcz14_8 : w5.cell? ⟨gb101, 8, none⟩ = some (.bool a0_8) := bc_ BK101 8 rfl
      have hcz14_9 : w5.cell? ⟨gb101, 9, none⟩ = some (.int .i64 a0_9) := bc_ BK101 9 rfl
      have hcz14_10 : w5.cell? ⟨gb101, 10, none⟩ = some (.int .i64 a0_10) := bc_ BK101 10 rfl
      have hcz14_11 : w5.cell? ⟨gb101, 11, none⟩ = some (.bool a0_11) := bc_ BK101 11 rfl
      have hcz14_12 : w5.cell? ⟨gb101, 12, none⟩ = some (.bool a0_12) := bc_ BK101 12 rfl
      have hcz14_13 : w5.cell? ⟨gb101, 13, none⟩ = some (.slice A0_13 l0_13.length c0_13) := bc_ BK101 13 rfl
      have hfz14_0 := blk_frozen BK101.out 0; have hfz14_1 := blk_frozen BK101.out 1; have hfz14_2 := blk_frozen BK101.out 2; have hfz14_3 := blk_frozen BK101.out 3; have hfz14_4 := blk_frozen BK101.out 4; have hfz14_5 := blk_frozen BK101.out 5; have hfz14_6 := blk_frozen BK101.out 6; have hfz14_7 := blk_frozen BK101.out 7; have hfz14_8 := blk_frozen BK101.out 8; have hfz14_9 := blk_frozen BK101.out 9; have hfz14_10 := blk_frozen BK101.out 10; have hfz14_11 := blk_frozen BK101.out 11; have hfz14_12 := blk_frozen BK101.out 12; have hfz14_13 := blk_frozen BK101.out 13
      have hcz15_0 : w5.cell? ⟨gb102, 0, none⟩ = some (.int .i64 a1_0) := bc_ BK102 0 rfl
      have hcz15_1 : w5.cell? ⟨gb102, 1, none⟩ = some (.int .i64 a1_1) := bc_ BK102 1 rfl
      have hcz15_2 : w5.cell? ⟨gb102, 2, none⟩ = some (.int .i64 a1_2) := bc_ BK102 2 rfl
      have hcz15_3 : w5.cell? ⟨gb102, 3, none⟩ = some (.int .i64 a1_3) := bc_ BK102 3 rfl
      have hcz15_4 : w5.cell? ⟨gb102, 4, none⟩ = some (.string a1_4) := bc_ BK102 4 rfl
      have hcz15_5 : w5.cell? ⟨gb102, 5, none⟩ = some (.int .i64 a1_5) := bc_ BK102 5 rfl
      have hcz15_6 : w5.cell? ⟨gb102, 6, none⟩ = some (.int .i64 a1_6) := bc_ BK102 6 rfl
      have hcz15_7 : w5.cell? ⟨gb102, 7, none⟩ = some (.bool a1_7) := bc_ BK102 7 rfl
      have hcz15_8 : w5.cell? ⟨gb102, 8, none⟩ = some (.bool a1_8) := bc_ BK102 8 rfl
      have hcz15_9 : w5.cell? ⟨gb102, 9, none⟩ = some (.int .i64 a1_9) := bc_ BK102 9 rfl
      have hcz15_10 : w5.cell? ⟨gb102, 10, none⟩ = some (.int .i64 a1_10) := bc_ BK102 10 rfl
      have hcz15_11 : w5.cell? ⟨gb102, 11, none⟩ = some (.bool a1_11) := bc_ BK102 11 rfl
      have hcz15_12 : w5.cell? ⟨gb102, 12, none⟩ = some (.bool a1_12) := bc_ BK102 12 rfl
      have hcz15_13 : w5.cell? ⟨gb102, 13, none⟩ = some (.slice A1_13 l1_13.length c1_13) := bc_ BK102 13 rfl
      have hfz15_0 := blk_frozen BK102.out 0; have hfz15_1 := blk_frozen BK102.out 1; have hfz15_2 := blk_frozen BK102.out 2; have hfz15_3 := blk_frozen BK102.out 3; have hfz15_4 := blk_frozen BK102.out 4; have hfz15_5 := blk_frozen BK102.out 5; have hfz15_6 := blk_frozen BK102.out 6; have hfz15_7 := blk_frozen BK102.out 7; have hfz15_8 := blk_frozen BK102.out 8; have hfz15_9 := blk_frozen BK102.out 9; have hfz15_10 := blk_frozen BK102.out 10; have hfz15_11 := blk_frozen BK102.out 11; have hfz15_12 := blk_frozen BK102.out 12; have hfz15_13 := blk_frozen BK102.out 13
      go_wp2
      go_meet
      case rel => exact ⟨_, (true), (by first | rfl | (simp; done) | (simp [*]; done)), H', ⟨by first | omega | exact Nat.le_refl _⟩, ⟨pkx BK101⟩, ⟨pkx BK102⟩, ⟨pbx HB⟩⟩
     ·rw [if_neg c12] at H
      have c12b0 : (!(a0_5 == a1_5) || (!(a0_6 == a1_6) || (!(a0_7 == a1_7) || (!(a0_8 == a1_8))))) = false := by simpa using c12
      clear c12
      by_cases c16 : (!(a0_9 == a1_9) || (!(a0_10 == a1_10) || (!(a0_11 == a1_11) || (!(a0_12 == a1_12))))) = true
      ·rw [if_pos c16] at H
       have c16b0 : (!(a0_9 == a1_9) || (!(a0_10 == a1_10) || (!(a0_11 == a1_11) || (!(a0_12 == a1_12))))) = true := c16
       clear c16
       have H' := Aside0.mk H
       clear H; have hnb17 := NB101_102.out; have hnc17 := NB102_101.out
       have hcz18_0 : w5.cell? ⟨gb101, 0, none⟩ = some (.int .i64 a0_0) := bc_ BK101 0 rfl
       have hcz18_1 : w5.cell? ⟨gb101, 1, none⟩ = some (.int .i64 a0_1) := bc_ BK101 1 rfl
       have hcz18_2 : w5.cell? ⟨gb101, 2, none⟩ = some (.int .i64 a0_2) := bc_ BK101 2 rfl
       have hcz18_3 : w5.cell? ⟨gb101, 3, none⟩ = some (.int .i64 a0_3) := bc_ BK101 3 rfl
       have hcz18_4 : w5.cell? ⟨gb101, 4, none⟩ = some (.string a0_4) := bc_ BK101 4 rfl
       have hcz18_5 : w5.cell? ⟨gb101, 5, none⟩ = some (.int .i64 a0_5) := bc_ BK101 5 rfl
       have hcz18_6 : w5.cell? ⟨gb101, 6, none⟩ = some (.int .i64 a0_6) := bc_ BK101 6 rfl
       have hcz18_7 : w5.cell? ⟨gb101, 7, none⟩ = some (.bool a0_7) := bc_ BK101 7 rfl
       have hcz18_8 : w5.cell? ⟨gb101, 8, none⟩ = some (.bool a0_8) := bc_ BK101 8 rfl
       have hcz18_9 : w5.cell? ⟨gb101, 9, none⟩ = some (.int .i64 a0_9) := bc_ BK101 9 rfl
       have hcz18_10 : w5.cell? ⟨gb101, 10, none⟩ = some (.int .i64 a0_10) := bc_ BK101 10 rfl
       have hcz18_11 : w5.cell? ⟨gb101, 11, none⟩ = some (.bool a0_11) := bc_ BK101 11 rfl
       have hcz18_12 : w5.cell? ⟨gb101, 12, none⟩ = some (.bool a0_12) := bc_ BK101 12 rfl
       have hcz18_13 : w5.cell? ⟨gb101, 13, none⟩ = some (.slice A0_13 l0_13.length c0_13) := bc_ BK101 13 rfl
       have hfz18_0 := blk_frozen BK101.out 0; have hfz18_1 := blk_frozen BK101.out 1; have hfz18_2 := blk_frozen BK101.out 2; have hfz18_3 := blk_frozen BK101.out 3; have hfz18_4 := blk_frozen BK101.out 4; have hfz18_5 := blk_frozen BK101.out 5; have hfz18_6 := blk_frozen BK101.out 6; have hfz18_7 := blk_frozen BK101.out 7; have hfz18_8 := blk_frozen BK101.out 8; have hfz18_9 := blk_frozen BK101.out 9; have hfz18_10 := blk_frozen BK101.out 10; have hfz18_11 := blk_frozen BK101.out 11; have hfz18_12 := blk_frozen BK101.out 12; have hfz18_13 := blk_frozen BK101.out 13
       have hcz19_0 : w5.cell? ⟨gb102, 0, none⟩ = some (.int .i64 a1_0) := bc_ BK102 0 rfl
       have hcz19_1 : w5.cell? ⟨gb102, 1, none⟩ = some (.int .i64 a1_1) := bc_ BK102 1 rfl
       have hcz19_2 : w5.cell? ⟨gb102, 2, none⟩ = some (.int .i64 a1_2) := bc_ BK102 2 rfl
       have hcz19_3 : w5.cell? ⟨gb102, 3, none⟩ = some (.int .i64 a1_3) := bc_ BK102 3 rfl
       have hcz19_4 : w5.cell? ⟨gb102, 4, none⟩ = some (.string a1_4) := bc_ BK102 4 rfl
       have hcz19_5 : w5.cell? ⟨gb102, 5, none⟩ = some (.int .i64 a1_5) := bc_ BK102 5 rfl
       have hcz19_6 : w5.cell? ⟨gb102, 6, none⟩ = some (.int .i64 a1_6) := bc_ BK102 6 rfl
       have hcz19_7 : w5.cell? ⟨gb102, 7, none⟩ = some (.bool a1_7) := bc_ BK102 7 rfl
       have hcz19_8 : w5.cell? ⟨gb102, 8, none⟩ = some (.bool a1_8) := bc_ BK102 8 rfl
       have hcz19_9 : w5.cell? ⟨gb102, 9, none⟩ = some (.int .i64 a1_9) := bc_ BK102 9 rfl
       have hcz19_10 : w5.cell? ⟨gb102, 10, none⟩ = some (.int .i64 a1_10) := bc_ BK102 10 rfl
       have hcz19_11 : w5.cell? ⟨gb102, 11, none⟩ = some (.bool a1_11) := bc_ BK102 11 rfl
       have hcz19_12 : w5.cell? ⟨gb102, 12, none⟩ = some (.bool a1_12) := bc_ BK102 12 rfl
       have hcz19_13 : w5.cell? ⟨gb102, 13, none⟩ = some (.slice A1_13 l1_13.length c1_13) := bc_ BK102 13 rfl
       have hfz19_0 := blk_frozen BK102.out 0; have hfz19_1 := blk_frozen BK102.out 1; have hfz19_2 := blk_frozen BK102.out 2; have hfz19_3 := blk_frozen BK102.out 3; have hfz19_4 := blk_frozen BK102.out 4; have hfz19_5 := blk_frozen BK102.out 5; have hfz19_6 := blk_frozen BK102.out 6; have hfz19_7 := blk_frozen BK102.out 7; have hfz19_8 := blk_frozen BK102.out 8; have hfz19_9 := blk_frozen BK102.out 9; have hfz19_10 := blk_frozen BK102.out 10; have hfz19_11 := blk_frozen BK102.out 11; have hfz19_12 := blk_frozen BK102.out 12; have hfz19_13 := blk_frozen BK102.out 13
       go_wp2
       go_meet
       case rel => exact ⟨_, (true), (by first | rfl | (simp; done) | (simp [*]; done)), H', ⟨by first | omega | exact Nat.le_refl _⟩, ⟨pkx BK101⟩, ⟨pkx BK102⟩, ⟨pbx HB⟩⟩
      ·rw [if_neg c16] at H
       have c16b0 : (!(a0_9 == a1_9) || (!(a0_10 == a1_10) || (!(a0_11 == a1_11) || (!(a0_12 == a1_12))))) = false := by simpa using c16
       clear c16
       have H' := Aside0.mk H
       clear H; have hnb20 := NB101_102.out; have hnc20 := NB102_101.out
       have hcz21_0 : w5.cell? ⟨gb101, 0, none⟩ = some (.int .i64 a0_0) := bc_ BK101 0 rfl
       have hcz21_1 : w5.cell? ⟨gb101, 1, none⟩ = some (.int .i64 a0_1) := bc_ BK101 1 rfl
       have hcz21_2 : w5.cell? ⟨gb101, 2, none⟩ = some (.int .i64 a0_2) := bc_ BK101 2 rfl
       have hcz21_3 : w5.cell? ⟨gb101, 3, none⟩ = some (.int .i64 a0_3) := bc_ BK101 3 rfl
       have hcz21_4 : w5.cell? ⟨gb101, 4, none⟩ = some (.string a0_4) := bc_ BK101 4 rfl
       have hcz21_5 : w5.cell? ⟨gb101, 5, none⟩ = some (.int .i64 a0_5) := bc_ BK101 5 rfl
       have hcz21_6 : w5.cell? ⟨gb101, 6, none⟩ = some (.int .i64 a0_6) := bc_ BK101 6 rfl
       have hcz21_7 : w5.cell? ⟨gb101, 7, none⟩ = some (.bool a0_7) := bc_ BK101 7 rfl
       have hcz21_8 : w5.cell? ⟨gb101, 8, none⟩ = some (.bool a0_8) := bc_ BK101 8 rfl
       have hcz21_9 : w5.cell? ⟨gb101, 9, none⟩ = some (.int .i64 a0_9) := bc_ BK101 9 rfl
       have hcz21_10 : w5.cell? ⟨gb101, 10, none⟩ = some (.int .i64 a0_10) := bc_ BK101 10 rfl
       have hcz21_11 : w5.cell? ⟨gb101, 11, none⟩ = some (.bool a0_11) := bc_ BK101 11 rfl
       have hcz21_12 : w5.cell? ⟨gb101, 12, none⟩ = some (.bool a0_12) := bc_ BK101 12 rfl
       have hcz21_13 : w5.cell? ⟨gb101, 13, none⟩ = some (.slice A0_13 l0_13.length c0_13) := bc_ BK101 13 rfl
       have hfz21_0 := blk_frozen BK101.out 0; have hfz21_1 := blk_frozen BK101.out 1; have hfz21_2 := blk_frozen BK101.out 2; have hfz21_3 := blk_frozen BK101.out 3; have hfz21_4 := blk_frozen BK101.out 4; have hfz21_5 := blk_frozen BK101.out 5; have hfz21_6 := blk_frozen BK101.out 6; have hfz21_7 := blk_frozen BK101.out 7; have hfz21_8 := blk_frozen BK101.out 8; have hfz21_9 := blk_frozen BK101.out 9; have hfz21_10 := blk_frozen BK101.out 10; have hfz21_11 := blk_frozen BK101.out 11; have hfz21_12 := blk_frozen BK101.out 12; have hfz21_13 := blk_frozen BK101.out 13
       have hcz22_0 : w5.cell? ⟨gb102, 0, none⟩ = some (.int .i64 a1_0) := bc_ BK102 0 rfl
       have hcz22_1 : w5.cell? ⟨gb102, 1, none⟩ = some (.int .i64 a1_1) := bc_ BK102 1 rfl
       have hcz22_2 : w5.cell? ⟨gb102, 2, none⟩ = some (.int .i64 a1_2) := bc_ BK102 2 rfl
       have hcz22_3 : w5.cell? ⟨gb102, 3, none⟩ = some (.int .i64 a1_3) := bc_ BK102 3 rfl
       have hcz22_4 : w5.cell? ⟨gb102, 4, none⟩ = some (.string a1_4) := bc_ BK102 4 rfl
       have hcz22_5 : w5.cell? ⟨gb102, 5, none⟩ = some (.int .i64 a1_5) := bc_ BK102 5 rfl
       have hcz22_6 : w5.cell? ⟨gb102, 6, none⟩ = some (.int .i64 a1_6) := bc_ BK102 6 rfl
       have hcz22_7 : w5.cell? ⟨gb102, 7, none⟩ = some (.bool a1_7) := bc_ BK102 7 rfl
       have hcz22_8 : w5.cell? ⟨gb102, 8, none⟩ = some (.bool a1_8) := bc_ BK102 8 rfl
       have hcz22_9 : w5.cell? ⟨gb102, 9, none⟩ = some (.int .i64 a1_9) := bc_ BK102 9 rfl
       have hcz22_10 : w5.cell? ⟨gb102, 10, none⟩ = some (.int .i64 a1_10) := bc_ BK102 10 rfl
       have hcz22_11 : w5.cell? ⟨gb102, 11, none⟩ = some (.bool a1_11) := bc_ BK102 11 rfl
       have hcz22_12 : w5.cell? ⟨gb102, 12, none⟩ = some (.bool a1_12) := bc_ BK102 12 rfl
       have hcz22_13 : w5.cell? ⟨gb102, 13, none⟩ = some (.slice A1_13 l1_13.length c1_13) := bc_ BK102 13 rfl
       have hfz22_0 := blk_frozen BK102.out 0; have hfz22_1 := blk_frozen BK102.out 1; have hfz22_2 := blk_frozen BK102.out 2; have hfz22_3 := blk_frozen BK102.out 3; have hfz22_4 := blk_frozen BK102.out 4; have hfz22_5 := blk_frozen BK102.out 5; have hfz22_6 := blk_frozen BK102.out 6; have hfz22_7 := blk_frozen BK102.out 7; have hfz22_8 := blk_frozen BK102.out 8; have hfz22_9 := blk_frozen BK102.out 9; have hfz22_10 := blk_frozen BK102.out 10; have hfz22_11 := blk_frozen BK102.out 11; have hfz22_12 := blk_frozen BK102.out 12; have hfz22_13 := blk_frozen BK102.out 13
       go_wp2
       go_meet
       case rel => exact ⟨_, (((l0_13.length : Int) != (l1_13.length : Int))), (by first | rfl | (simp; done) | (simp [*]; done)), H', ⟨by first | omega | exact Nat.le_refl _⟩, ⟨pkx BK101⟩, ⟨pkx BK102⟩, ⟨pbx HB⟩⟩
   ·rw [if_neg c7] at H; have c7b0 : (a0_1 == a1_1) = false := beq_eq_false_iff_ne.mpr c7; have c7b1 : (a0_1 != a1_1) = true := bne_iff_ne.mpr c7
    have H' := Aside0.mk H
    clear H; have hnb23 := NB101_102.out; have hnc23 := NB102_101.out
    have hcz24_0 : w5.cell? ⟨gb101, 0, none⟩ = some (.int .i64 a0_0) := bc_ BK101 0 rfl
    have hcz24_1 : w5.cell? ⟨gb101, 1, none⟩ = some (.int .i64 a0_1) := bc_ BK101 1 rfl
    have hcz24_2 : w5.cell? ⟨gb101, 2, none⟩ = some (.int .i64 a0_2) := bc_ BK101 2 rfl
    have hcz24_3 : w5.cell? ⟨gb101, 3, none⟩ = some (.int .i64 a0_3) := bc_ BK101 3 rfl
    have hcz24_4 : w5.cell? ⟨gb101, 4, none⟩ = some (.string a0_4) := bc_ BK101 4 rfl
    have hcz24_5 : w5.cell? ⟨gb101, 5, none⟩ = some (.int .i64 a0_5) := bc_ BK101 5 rfl
    have hcz24_6 : w5.cell? ⟨gb101, 6, none⟩ = some (.int .i64 a0_6) := bc_ BK101 6 rfl
    have hcz24_7 : w5.cell? ⟨gb101, 7, none⟩ = some (.bool a0_7) := bc_ BK101 7 rfl
    have hcz24_8 : w5.cell? ⟨gb101, 8, none⟩ = some (.bool a0_8) := bc_ BK101 8 rfl
    have hcz24_9 : w5.cell? ⟨gb101, 9, none⟩ = some (.int .i64 a0_9) := bc_ BK101 9 rfl
    have hcz24_10 : w5.cell? ⟨gb101, 10, none⟩ = some (.int .i64 a0_10) := bc_ BK101 10 rfl
    have hcz24_11 : w5.cell? ⟨gb101, 11, none⟩ = some (.bool a0_11) := bc_ BK101 11 rfl
    have hcz24_12 : w5.cell? ⟨gb101, 12, none⟩ = some (.bool a0_12) := bc_ BK101 12 rfl
    have hcz24_13 : w5.cell? ⟨gb101, 13, none⟩ = some (.slice A0_13 l0_13.length c0_13) := bc_ BK101 13 rfl
    have hfz24_0 := blk_frozen BK101.out 0; have hfz24_1 := blk_frozen BK101.out 1; have hfz24_2 := blk_frozen BK101.out 2; have hfz24_3 := blk_frozen BK101.out 3; have hfz24_4 := blk_frozen BK101.out 4; have hfz24_5 := blk_frozen BK101.out 5; have hfz24_6 := blk_frozen BK101.out 6; have hfz24_7 := blk_frozen BK101.out 7; have hfz24_8 := blk_frozen BK101.out 8; have hfz24_9 := blk_frozen BK101.out 9; have hfz24_10 := blk_frozen BK101.out 10; have hfz24_11 := blk_frozen BK101.out 11; have hfz24_12 := blk_frozen BK101.out 12; have hfz24_13 := blk_frozen BK101.out 13
    have hcz25_0 : w5.cell? ⟨gb102, 0, none⟩ = some (.int .i64 a1_0) := bc_ BK102 0 rfl
    have hcz25_1 : w5.cell? ⟨gb102, 1, none⟩ = some (.int .i64 a1_1) := bc_ BK102 1 rfl
    have hcz25_2 : w5.cell? ⟨gb102, 2, none⟩ = some (.int .i64 a1_2) := bc_ BK102 2 rfl
    have hcz25_3 : w5.cell? ⟨gb102, 3, none⟩ = some (.int .i64 a1_3) := bc_ BK102 3 rfl
    have hcz25_4 : w5.cell? ⟨gb102, 4, none⟩ = some (.string a1_4) := bc_ BK102 4 rfl
    have hcz25_5 : w5.cell? ⟨gb102, 5, none⟩ = some (.int .i64 a1_5) := bc_ BK102 5 rfl
    have hcz25_6 : w5.cell? ⟨gb102, 6, none⟩ = some (.int .i64 a1_6) := bc_ BK102 6 rfl
    have hcz25_7 : w5.cell? ⟨gb102, 7, none⟩ = some (.bool a1_7) := bc_ BK102 7 rfl
    have hcz25_8 : w5.cell? ⟨gb102, 8, none⟩ = some (.bool a1_8) := bc_ BK102 8 rfl
    have hcz25_9 : w5.cell? ⟨gb102, 9, none⟩ = some (.int .i64 a1_9) := bc_ BK102 9 rfl
    have hcz25_10 : w5.cell? ⟨gb102, 10, none⟩ = some (.int .i64 a1_10) := bc_ BK102 10 rfl
    have hcz25_11 : w5.cell? ⟨gb102, 11, none⟩ = some (.bool a1_11) := bc_ BK102 11 rfl
    have hcz25_12 : w5.cell? ⟨gb102, 12, none⟩ = some (.bool a1_12) := bc_ BK102 12 rfl
    have hcz25_13 : w5.cell? ⟨gb102, 13, none⟩ = some (.slice A1_13 l1_13.length c1_13) := bc_ BK102 13 rfl
    have hfz25_0 := blk_frozen BK102.out 0; have hfz25_1 := blk_frozen BK102.out 1; have hfz25_2 := blk_frozen BK102.out 2; have hfz25_3 := blk_frozen BK102.out 3; have hfz25_4 := blk_frozen BK102.out 4; have hfz25_5 := blk_frozen BK102.out 5; have hfz25_6 := blk_frozen BK102.out 6; have hfz25_7 := blk_frozen BK102.out 7; have hfz25_8 := blk_frozen BK102.out 8; have hfz25_9 := blk_frozen BK102.out 9; have hfz25_10 := blk_frozen BK102.out 10; have hfz25_11 := blk_frozen BK102.out 11; have hfz25_12 := blk_frozen BK102.out 12; have hfz25_13 := blk_frozen BK102.out 13
    go_wp2
    go_meet
    case rel => exact ⟨_, (true), (by first | rfl | (simp; done) | (simp [*]; done)), H', ⟨by first | omega | exact Nat.le_refl _⟩, ⟨pkx BK101⟩, ⟨pkx BK102⟩, ⟨pbx HB⟩⟩
  ·rw [if_neg c6] at H; have c6b0 : (a0_0 == a1_0) = false := beq_eq_false_iff_ne.mpr c6; have c6b1 : (a0_0 != a1_0) = true := bne_iff_ne.mpr c6; (first | rw [c6b0] | (simp only [i64_w, i32_w]; rw [c6b0]) | skip)
   have H' := Aside0.mk H
   clear H; have hnb26 := NB101_102.out; have hnc26 := NB102_101.out
   have hcz27_0 : w5.cell? ⟨gb101, 0, none⟩ = some (.int .i64 a0_0) := bc_ BK101 0 rfl
   have hcz27_1 : w5.cell? ⟨gb101, 1, none⟩ = some (.int .i64 a0_1) := bc_ BK101 1 rfl
   have hcz27_2 : w5.cell? ⟨gb101, 2, none⟩ = some (.int .i64 a0_2) := bc_ BK101 2 rfl
   have hcz27_3 : w5.cell? ⟨gb101, 3, none⟩ = some (.int .i64 a0_3) := bc_ BK101 3 rfl
   have hcz27_4 : w5.cell? ⟨gb101, 4, none⟩ = some (.string a0_4) := bc_ BK101 4 rfl
   have hcz27_5 : w5.cell? ⟨gb101, 5, none⟩ = some (.int .i64 a0_5) := bc_ BK101 5 rfl
   have hcz27_6 : w5.cell? ⟨gb101, 6, none⟩ = some (.int .i64 a0_6) := bc_ BK101 6 rfl
   have hcz27_7 : w5.cell? ⟨gb101, 7, none⟩ = some (.bool a0_7) := bc_ BK101 7 rfl
   have hcz27_8 : w5.cell? ⟨gb101, 8, none⟩ = some (.bool a0_8) := bc_ BK101 8 rfl
   have hcz27_9 : w5.cell? ⟨gb101, 9, none⟩ = some (.int .i64 a0_9) := bc_ BK101 9 rfl
   have hcz27_10 : w5.cell? ⟨gb101, 10, none⟩ = some (.int .i64 a0_10) := bc_ BK101 10 rfl
   have hcz27_11 : w5.cell? ⟨gb101, 11, none⟩ = some (.bool a0_11) := bc_ BK101 11 rfl
   have hcz27_12 : w5.cell? ⟨gb101, 12, none⟩ = some (.bool a0_12) := bc_ BK101 12 rfl
   have hcz27_13 : w5.cell? ⟨gb101, 13, none⟩ = some (.slice A0_13 l0_13.length c0_13) := bc_ BK101 13 rfl
   have hfz27_0 := blk_frozen BK101.out 0; have hfz27_1 := blk_frozen BK101.out 1; have hfz27_2 := blk_frozen BK101.out 2; have hfz27_3 := blk_frozen BK101.out 3; have hfz27_4 := blk_frozen BK101.out 4; have hfz27_5 := blk_frozen BK101.out 5; have hfz27_6 := blk_frozen BK101.out 6; have hfz27_7 := blk_frozen BK101.out 7; have hfz27_8 := blk_frozen BK101.out 8; have hfz27_9 := blk_frozen BK101.out 9; have hfz27_10 := blk_frozen BK101.out 10; have hfz27_11 := blk_frozen BK101.out 11; have hfz27_12 := blk_frozen BK101.out 12; have hfz27_13 := blk_frozen BK101.out 13
   have hcz28_0 : w5.cell? ⟨gb102, 0, none⟩ = some (.int .i64 a1_0) := bc_ BK102 0 rfl
   have hcz28_1 : w5.cell? ⟨gb102, 1, none⟩ = some (.int .i64 a1_1) := bc_ BK102 1 rfl
   have hcz28_2 : w5.cell? ⟨gb102, 2, none⟩ = some (.int .i64 a1_2) := bc_ BK102 2 rfl
   have hcz28_3 : w5.cell? ⟨gb102, 3, none⟩ = some (.int .i64 a1_3) := bc_ BK102 3 rfl
   have hcz28_4 : w5.cell? ⟨gb102, 4, none⟩ = some (.string a1_4) := bc_ BK102 4 rfl
   have hcz28_5 : w5.cell? ⟨gb102, 5, none⟩ = some (.int .i64 a1_5) := bc_ BK102 5 rfl
   have hcz28_6 : w5.cell? ⟨gb102, 6, none⟩ = some (.int .i64 a1_6) := bc_ BK102 6 rfl
   have hcz28_7 : w5.cell? ⟨gb102, 7, none⟩ = some (.bool a1_7) := bc_ BK102 7 rfl
   have hcz28_8 : w5.cell? ⟨gb102, 8, none⟩ = some (.bool a1_8) := bc_ BK102 8 rfl
   have hcz28_9 : w5.cell? ⟨gb102, 9, none⟩ = some (.int .i64 a1_9) := bc_ BK102 9 rfl
   have hcz28_10 : w5.cell? ⟨gb102, 10, none⟩ = some (.int .i64 a1_10) := bc_ BK102 10 rfl
   have hcz28_11 : w5.cell? ⟨gb102, 11, none⟩ = some (.bool a1_11) := bc_ BK102 11 rfl
   have hcz28_12 : w5.cell? ⟨gb102, 12, none⟩ = some (.bool a1_12) := bc_ BK102 12 rfl
   have hcz28_13 : w5.cell? ⟨gb102, 13, none⟩ = some (.slice A1_13 l1_13.length c1_13) := bc_ BK102 13 rfl
   have hfz28_0 := blk_frozen BK102.out 0; have hfz28_1 := blk_frozen BK102.out 1; have hfz28_2 := blk_frozen BK102.out 2; have hfz28_3 := blk_frozen BK102.out 3; have hfz28_4 := blk_frozen BK102.out 4; have hfz28_5 := blk_frozen BK102.out 5; have hfz28_6 := blk_frozen BK102.out 6; have hfz28_7 := blk_frozen BK102.out 7; have hfz28_8 := blk_frozen BK102.out 8; have hfz28_9 := blk_frozen BK102.out 9; have hfz28_10 := blk_frozen BK102.out 10; have hfz28_11 := blk_frozen BK102.out 11; have hfz28_12 := blk_frozen BK102.out 12; have hfz28_13 := blk_frozen BK102.out 13
   go_wp2
   go_meet
   case rel => exact ⟨_, (true), (by first | rfl | (simp; done) | (simp [*]; done)), H', ⟨by first | omega | exact Nat.le_refl _⟩, ⟨pkx BK101⟩, ⟨pkx BK102⟩, ⟨pbx HB⟩⟩
 case rest =>
  clear HC3; (try clear c1); (try clear c2); (try clear p2); (try clear c6); (try clear c6b0); (try clear c6b1); (try clear c7); (try clear c7b0); (try clear c7b1); (try clear c8); (try clear c8b0); (try clear c9); (try clear c12); (try clear c12b0); (try clear c13); (try clear c16); (try clear c16b0); (try clear c17); (try clear c18); (try clear c20); (try clear c23); (try clear c26); (try clear hcz10_0); (try clear hcz10_1); (try clear hcz10_10); (try clear hcz10_11); (try clear hcz10_12); (try clear hcz10_13); (try clear hcz10_2); (try clear hcz10_3); (try clear hcz10_4); (try clear hcz10_5); (try clear hcz10_6); (try clear hcz10_7); (try clear hcz10_8); (try clear hcz10_9); (try clear hcz11_0); (try clear hcz11_1); (try clear hcz11_10); (try clear hcz11_11); (try clear hcz11_12); (try clear hcz11_13); (try clear hcz11_2); (try clear hcz11_3); (try clear hcz11_4); (try clear hcz11_5); (try clear hcz11_6); (try clear hcz11_7); (try clear hcz11_8); (try clear hcz11_9); (try clear hcz14_0); (try clear hcz14_1); (try clear hcz14_10); (try clear hcz14_11); (try clear hcz14_12); (try clear hcz14_13); (try clear hcz14_2); (try clear hcz14_3); (try clear hcz14_4); (try clear hcz14_5); (try clear hcz14_6); (try clear hcz14_7); (try clear hcz14_8); (try clear hcz14_9); (try clear hcz15_0); (try clear hcz15_1); (try clear hcz15_10); (try clear hcz15_11); (try clear hcz15_12); (try clear hcz15_13); (try clear hcz15_2); (try clear hcz15_3); (try clear hcz15_4); (try clear hcz15_5); (try clear hcz15_6); (try clear hcz15_7); (try clear hcz15_8); (try clear hcz15_9); (try clear hcz18_0); (try clear hcz18_1); (try clear hcz18_10); (try clear hcz18_11); (try clear hcz18_12); (try clear hcz18_13); (try clear hcz18_2); (try clear hcz18_3); (try clear hcz18_4); (try clear hcz18_5); (try clear hcz18_6); (try clear hcz18_7)
  (try clear hcz18_8); (try clear hcz18_9); (try clear hcz19_0); (try clear hcz19_1); (try clear hcz19_10); (try clear hcz19_11); (try clear hcz19_12); (try clear hcz19_13); (try clear hcz19_2); (try clear hcz19_3); (try clear hcz19_4); (try clear hcz19_5); (try clear hcz19_6); (try clear hcz19_7); (try clear hcz19_8); (try clear hcz19_9); (try clear hcz21_0); (try clear hcz21_1); (try clear hcz21_10); (try clear hcz21_11); (try clear hcz21_12); (try clear hcz21_13); (try clear hcz21_2); (try clear hcz21_3); (try clear hcz21_4); (try clear hcz21_5); (try clear hcz21_6); (try clear hcz21_7); (try clear hcz21_8); (try clear hcz21_9); (try clear hcz22_0); (try clear hcz22_1); (try clear hcz22_10); (try clear hcz22_11); (try clear hcz22_12); (try clear hcz22_13); (try clear hcz22_2); (try clear hcz22_3); (try clear hcz22_4); (try clear hcz22_5); (try clear hcz22_6); (try clear hcz22_7); (try clear hcz22_8); (try clear hcz22_9); (try clear hcz24_0); (try clear hcz24_1); (try clear hcz24_10); (try clear hcz24_11); (try clear hcz24_12); (try clear hcz24_13); (try clear hcz24_2); (try clear hcz24_3); (try clear hcz24_4); (try clear hcz24_5); (try clear hcz24_6); (try clear hcz24_7); (try clear hcz24_8); (try clear hcz24_9); (try clear hcz25_0); (try clear hcz25_1); (try clear hcz25_10); (try clear hcz25_11); (try clear hcz25_12); (try clear hcz25_13); (try clear hcz25_2); (try clear hcz25_3); (try clear hcz25_4); (try clear hcz25_5); (try clear hcz25_6); (try clear hcz25_7); (try clear hcz25_8); (try clear hcz25_9); (try clear hcz27_0); (try clear hcz27_1); (try clear hcz27_10); (try clear hcz27_11); (try clear hcz27_12); (try clear hcz27_13); (try clear hcz27_2); (try clear hcz27_3); (try clear hcz27_4); (try clear hcz27_5); (try clear hcz27_6); (try clear hcz27_7); (try clear hcz27_8); (try clear hcz27_9)
  (try clear hcz28_0); (try clear hcz28_1); (try clear hcz28_10); (try clear hcz28_11); (try clear hcz28_12); (try clear hcz28_13); (try clear hcz28_2); (try clear hcz28_3); (try clear hcz28_4); (try clear hcz28_5); (try clear hcz28_6); (try clear hcz28_7); (try clear hcz28_8); (try clear hcz28_9); (try clear hfz10_0); (try clear hfz10_1); (try clear hfz10_10); (try clear hfz10_11); (try clear hfz10_12); (try clear hfz10_13); (try clear hfz10_2); (try clear hfz10_3); (try clear hfz10_4); (try clear hfz10_5); (try clear hfz10_6); (try clear hfz10_7); (try clear hfz10_8); (try clear hfz10_9); (try clear hfz11_0); (try clear hfz11_1); (try clear hfz11_10); (try clear hfz11_11); (try clear hfz11_12); (try clear hfz11_13); (try clear hfz11_2); (try clear hfz11_3); (try clear hfz11_4); (try clear hfz11_5); (try clear hfz11_6); (try clear hfz11_7); (try clear hfz11_8); (try clear hfz11_9); (try clear hfz14_0); (try clear hfz14_1); (try clear hfz14_10); (try clear hfz14_11); (try clear hfz14_12); (try clear hfz14_13); (try clear hfz14_2); (try clear hfz14_3); (try clear hfz14_4); (try clear hfz14_5); (try clear hfz14_6); (try clear hfz14_7); (try clear hfz14_8); (try clear hfz14_9); (try clear hfz15_0); (try clear hfz15_1); (try clear hfz15_10); (try clear hfz15_11); (try clear hfz15_12); (try clear hfz15_13); (try clear hfz15_2); (try clear hfz15_3); (try clear hfz15_4); (try clear hfz15_5); (try clear hfz15_6); (try clear hfz15_7); (try clear hfz15_8); (try clear hfz15_9); (try clear hfz18_0); (try clear hfz18_1); (try clear hfz18_10); (try clear hfz18_11); (try clear hfz18_12); (try clear hfz18_13); (try clear hfz18_2); (try clear hfz18_3); (try clear hfz18_4); (try clear hfz18_5); (try clear hfz18_6); (try clear hfz18_7); (try clear hfz18_8); (try clear hfz18_9); (try clear hfz19_0); (try clear hfz19_1)
  (try clear hfz19_10); (try clear hfz19_11); (try clear hfz19_12); (try clear hfz19_13); (try clear hfz19_2); (try clear hfz19_3); (try clear hfz19_4); (try clear hfz19_5); (try clear hfz19_6); (try clear hfz19_7); (try clear hfz19_8); (try clear hfz19_9); (try clear hfz21_0); (try clear hfz21_1); (try clear hfz21_10); (try clear hfz21_11); (try clear hfz21_12); (try clear hfz21_13); (try clear hfz21_2); (try clear hfz21_3); (try clear hfz21_4); (try clear hfz21_5); (try clear hfz21_6); (try clear hfz21_7); (try clear hfz21_8); (try clear hfz21_9); (try clear hfz22_0); (try clear hfz22_1); (try clear hfz22_10); (try clear hfz22_11); (try clear hfz22_12); (try clear hfz22_13); (try clear hfz22_2); (try clear hfz22_3); (try clear hfz22_4); (try clear hfz22_5); (try clear hfz22_6); (try clear hfz22_7); (try clear hfz22_8); (try clear hfz22_9); (try clear hfz24_0); (try clear hfz24_1); (try clear hfz24_10); (try clear hfz24_11); (try clear hfz24_12); (try clear hfz24_13); (try clear hfz24_2); (try clear hfz24_3); (try clear hfz24_4); (try clear hfz24_5); (try clear hfz24_6); (try clear hfz24_7); (try clear hfz24_8); (try clear hfz24_9); (try clear hfz25_0); (try clear hfz25_1); (try clear hfz25_10); (try clear hfz25_11); (try clear hfz25_12); (try clear hfz25_13); (try clear hfz25_2); (try clear hfz25_3); (try clear hfz25_4); (try clear hfz25_5); (try clear hfz25_6); (try clear hfz25_7); (try clear hfz25_8); (try clear hfz25_9); (try clear hfz27_0); (try clear hfz27_1); (try clear hfz27_10); (try clear hfz27_11); (try clear hfz27_12); (try clear hfz27_13); (try clear hfz27_2); (try clear hfz27_3); (try clear hfz27_4); (try clear hfz27_5); (try clear hfz27_6); (try clear hfz27_7); (try clear hfz27_8); (try clear hfz27_9); (try clear hfz28_0); (try clear hfz28_1); (try clear hfz28_10); (try clear hfz28_11)
  (try clear hfz28_12); (try clear hfz28_13); (try clear hfz28_2); (try clear hfz28_3); (try clear hfz28_4); (try clear hfz28_5); (try clear hfz28_6); (try clear hfz28_7); (try clear hfz28_8); (try clear hfz28_9); obtain ⟨kq, x48_2, rfl, HA, HJ2, BK101, BK102, HB⟩ := hcut
  cases kq with
  | zero => exact absurd HA.out (by simp [node_Same.j0])
  | succ kj2 =>
   have H := HA.out; clear HA
   simp only [node_Same.j0] at H
   by_cases c29 : x48_2 = true
   ·subst c29
    have H1 : (some false) = some r := by rw [if_pos rfl] at H; exact H
    clear H; have H := H1; clear H1; obtain rfl := Option.some.inj H
    go_wp2
    go_ret
    exact ⟨by first | rfl | (simp [errW_none, errW_some] <;> rfl) | (simp [*, errW_none, errW_some] <;> rfl), pbx HB⟩
   ·replace c29 := Bool.eq_false_iff.mpr c29; subst c29
    have H1 : (node_Same.l0 kj2 l0_13 (l0_13.length : Int) 0 a1_0 a1_1 a1_2 a1_3 a1_4 a1_5 a1_6 a1_7 a1_8 a1_9 a1_10 a1_11 a1_12 l1_13) = some r := by rw [if_neg (show ¬ (false = true) by decide)] at H; exact H
    clear H; have H := H1; clear H1
    have H' := Aside0.mk H
    clear H; have hnb30 := NB101_102.out; have hnc30 := NB102_101.out
    have hcz31_0 : wc.cell? ⟨gb101, 0, none⟩ = some (.int .i64 a0_0) := bc_ BK101 0 rfl
    have hcz31_1 : wc.cell? ⟨gb101, 1, none⟩ = some (.int .i64 a0_1) := bc_ BK101 1 rfl
    have hcz31_2 : wc.cell? ⟨gb101, 2, none⟩ = some (.int .i64 a0_2) := bc_ BK101 2 rfl
    have hcz31_3 : wc.cell? ⟨gb101, 3, none⟩ = some (.int .i64 a0_3) := bc_ BK101 3 rfl
    have hcz31_4 : wc.cell? ⟨gb101, 4, none⟩ = some (.string a0_4) := bc_ BK101 4 rfl
    have hcz31_5 : wc.cell? ⟨gb101, 5, none⟩ = some (.int .i64 a0_5) := bc_ BK101 5 rfl
    have hcz31_6 : wc.cell? ⟨gb101, 6, none⟩ = some (.int .i64 a0_6) := bc_ BK101 6 rfl
    have hcz31_7 : wc.cell? ⟨gb101, 7, none⟩ = some (.bool a0_7) := bc_ BK101 7 rfl
    have hcz31_8 : wc.cell? ⟨gb101, 8, none⟩ = some (.bool a0_8) := bc_ BK101 8 rfl
    have hcz31_9 : wc.cell? ⟨gb101, 9, none⟩ = some (.int .i64 a0_9) := bc_ BK101 9 rfl
    have hcz31_10 : wc.cell? ⟨gb101, 10, none⟩ = some (.int .i64 a0_10) := bc_ BK101 10 rfl
    have hcz31_11 : wc.cell? ⟨gb101, 11, none⟩ = some (.bool a0_11) := bc_ BK101 11 rfl
    have hcz31_12 : wc.cell? ⟨gb101, 12, none⟩ = some (.bool a0_12) := bc_ BK101 12 rfl
    have hcz31_13 : wc.cell? ⟨gb101, 13, none⟩ = some (.slice A0_13 l0_13.length c0_13) := bc_ BK101 13 rfl
    have hfz31_0 := blk_frozen BK101.out 0; have hfz31_1 := blk_frozen BK101.out 1; have hfz31_2 := blk_frozen BK101.out 2; have hfz31_3 := blk_frozen BK101.out 3; have hfz31_4 := blk_frozen BK101.out 4; have hfz31_5 := blk_frozen BK101.out 5; have hfz31_6 := blk_frozen BK101.out 6; have hfz31_7 := blk_frozen BK101.out 7; have hfz31_8 := blk_frozen BK101.out 8; have hfz31_9 := blk_frozen BK101.out 9; have hfz31_10 := blk_frozen BK101.out 10; have hfz31_11 := blk_frozen BK101.out 11; have hfz31_12 := blk_frozen BK101.out 12; have hfz31_13 := blk_frozen BK101.out 13
    go_wp2
    go_loopg [52] kj2 (fun kq v52 w' => ∃ (x52_2 : Int), v52 = .int .i64 x52_2 ∧ Aside0 (node_Same.l0 kq l0_13 (l0_13.length : Int) x52_2 a1_0 a1_1 a1_2 a1_3 a1_4 a1_5 a1_6 a1_7 a1_8 a1_9 a1_10 a1_11 a1_12 l1_13 = some r) ∧ Aside0 (kq ≤ kj2) ∧ Aside0 (w'.heap[gb101]? = some (.cells #[.int .i64 a0_0, .int .i64 a0_1, .int .i64 a0_2, .int .i64 a0_3, .string a0_4, .int .i64 a0_5, .int .i64 a0_6, .bool a0_7, .bool a0_8, .int .i64 a0_9, .int .i64 a0_10, .bool a0_11, .bool a0_12, (.slice A0_13 l0_13.length c0_13)] 28 (0, 0))) ∧ Aside0 (w'.heap[gb102]? = some (.cells #[.int .i64 a1_0, .int .i64 a1_1, .int .i64 a1_2, .int .i64 a1_3, .string a1_4, .int .i64 a1_5, .int .i64 a1_6, .bool a1_7, .bool a1_8, .int .i64 a1_9, .int .i64 a1_10, .bool a1_11, .bool a1_12, (.slice A1_13 l1_13.length c1_13)] 28 (0, 0))) ∧ Aside0 (Below w.heap.size w w'))
    case atStart => exact ⟨(0), (by first | rfl | (simp; done) | (simp [*]; done)), H', ⟨Nat.le_refl _⟩, ⟨pkx BK101⟩, ⟨pkx BK102⟩, ⟨pbx HB⟩⟩
    case round =>
     clear H'; (try clear c1); (try clear c2); (try clear p2); (try clear c3); (try clear c6); (try clear c6b0); (try clear c6b1); (try clear c7); (try clear c7b0); (try clear c7b1); (try clear c8); (try clear c8b0); (try clear c9); (try clear c12); (try clear c12b0); (try clear c13); (try clear c16); (try clear c16b0); (try clear c17); (try clear c18); (try clear c20); (try clear c23); (try clear c26); (try clear c29); (try clear c30); (try clear hcz10_0); (try clear hcz10_1); (try clear hcz10_10); (try clear hcz10_11); (try clear hcz10_12); (try clear hcz10_13); (try clear hcz10_2); (try clear hcz10_3); (try clear hcz10_4); (try clear hcz10_5); (try clear hcz10_6); (try clear hcz10_7); (try clear hcz10_8); (try clear hcz10_9); (try clear hcz11_0); (try clear hcz11_1); (try clear hcz11_10); (try clear hcz11_11); (try clear hcz11_12); (try clear hcz11_13); (try clear hcz11_2); (try clear hcz11_3); (try clear hcz11_4); (try clear hcz11_5); (try clear hcz11_6); (try clear hcz11_7); (try clear hcz11_8); (try clear hcz11_9); (try clear hcz14_0); (try clear hcz14_1); (try clear hcz14_10); (try clear hcz14_11); (try clear hcz14_12); (try clear hcz14_13); (try clear hcz14_2); (try clear hcz14_3); (try clear hcz14_4); (try clear hcz14_5); (try clear hcz14_6); (try clear hcz14_7); (try clear hcz14_8); (try clear hcz14_9); (try clear hcz15_0); (try clear hcz15_1); (try clear hcz15_10); (try clear hcz15_11); (try clear hcz15_12); (try clear hcz15_13); (try clear hcz15_2); (try clear hcz15_3); (try clear hcz15_4); (try clear hcz15_5); (try clear hcz15_6); (try clear hcz15_7); (try clear hcz15_8); (try clear hcz15_9); (try clear hcz18_0); (try clear hcz18_1); (try clear hcz18_10); (try clear hcz18_11); (try clear hcz18_12); (try clear hcz18_13); (try clear hcz18_2); (try clear hcz18_3); (try clear hcz18_4)
     (try clear hcz18_5); (try clear hcz18_6); (try clear hcz18_7); (try clear hcz18_8); (try clear hcz18_9); (try clear hcz19_0); (try clear hcz19_1); (try clear hcz19_10); (try clear hcz19_11); (try clear hcz19_12); (try clear hcz19_13); (try clear hcz19_2); (try clear hcz19_3); (try clear hcz19_4); (try clear hcz19_5); (try clear hcz19_6); (try clear hcz19_7); (try clear hcz19_8); (try clear hcz19_9); (try clear hcz21_0); (try clear hcz21_1); (try clear hcz21_10); (try clear hcz21_11); (try clear hcz21_12); (try clear hcz21_13); (try clear hcz21_2); (try clear hcz21_3); (try clear hcz21_4); (try clear hcz21_5); (try clear hcz21_6); (try clear hcz21_7); (try clear hcz21_8); (try clear hcz21_9); (try clear hcz22_0); (try clear hcz22_1); (try clear hcz22_10); (try clear hcz22_11); (try clear hcz22_12); (try clear hcz22_13); (try clear hcz22_2); (try clear hcz22_3); (try clear hcz22_4); (try clear hcz22_5); (try clear hcz22_6); (try clear hcz22_7); (try clear hcz22_8); (try clear hcz22_9); (try clear hcz24_0); (try clear hcz24_1); (try clear hcz24_10); (try clear hcz24_11); (try clear hcz24_12); (try clear hcz24_13); (try clear hcz24_2); (try clear hcz24_3); (try clear hcz24_4); (try clear hcz24_5); (try clear hcz24_6); (try clear hcz24_7); (try clear hcz24_8); (try clear hcz24_9); (try clear hcz25_0); (try clear hcz25_1); (try clear hcz25_10); (try clear hcz25_11); (try clear hcz25_12); (try clear hcz25_13); (try clear hcz25_2); (try clear hcz25_3); (try clear hcz25_4); (try clear hcz25_5); (try clear hcz25_6); (try clear hcz25_7); (try clear hcz25_8); (try clear hcz25_9); (try clear hcz27_0); (try clear hcz27_1); (try clear hcz27_10); (try clear hcz27_11); (try clear hcz27_12); (try clear hcz27_13); (try clear hcz27_2); (try clear hcz27_3); (try clear hcz27_4); (try clear hcz27_5); (try clear hcz27_6)
     (try clear hcz27_7); (try clear hcz27_8); (try clear hcz27_9); (try clear hcz28_0); (try clear hcz28_1); (try clear hcz28_10); (try clear hcz28_11); (try clear hcz28_12); (try clear hcz28_13); (try clear hcz28_2); (try clear hcz28_3); (try clear hcz28_4); (try clear hcz28_5); (try clear hcz28_6); (try clear hcz28_7); (try clear hcz28_8); (try clear hcz28_9); (try clear hcz31_0); (try clear hcz31_1); (try clear hcz31_10); (try clear hcz31_11); (try clear hcz31_12); (try clear hcz31_13); (try clear hcz31_2); (try clear hcz31_3); (try clear hcz31_4); (try clear hcz31_5); (try clear hcz31_6); (try clear hcz31_7); (try clear hcz31_8); (try clear hcz31_9); (try clear hfz10_0); (try clear hfz10_1); (try clear hfz10_10); (try clear hfz10_11); (try clear hfz10_12); (try clear hfz10_13); (try clear hfz10_2); (try clear hfz10_3); (try clear hfz10_4); (try clear hfz10_5); (try clear hfz10_6); (try clear hfz10_7); (try clear hfz10_8); (try clear hfz10_9); (try clear hfz11_0); (try clear hfz11_1); (try clear hfz11_10); (try clear hfz11_11); (try clear hfz11_12); (try clear hfz11_13); (try clear hfz11_2); (try clear hfz11_3); (try clear hfz11_4); (try clear hfz11_5); (try clear hfz11_6); (try clear hfz11_7); (try clear hfz11_8); (try clear hfz11_9); (try clear hfz14_0); (try clear hfz14_1); (try clear hfz14_10); (try clear hfz14_11); (try clear hfz14_12); (try clear hfz14_13); (try clear hfz14_2); (try clear hfz14_3); (try clear hfz14_4); (try clear hfz14_5); (try clear hfz14_6); (try clear hfz14_7); (try clear hfz14_8); (try clear hfz14_9); (try clear hfz15_0); (try clear hfz15_1); (try clear hfz15_10); (try clear hfz15_11); (try clear hfz15_12); (try clear hfz15_13); (try clear hfz15_2); (try clear hfz15_3); (try clear hfz15_4); (try clear hfz15_5); (try clear hfz15_6); (try clear hfz15_7); (try clear hfz15_8)
     (try clear hfz15_9); (try clear hfz18_0); (try clear hfz18_1); (try clear hfz18_10); (try clear hfz18_11); (try clear hfz18_12); (try clear hfz18_13); (try clear hfz18_2); (try clear hfz18_3); (try clear hfz18_4); (try clear hfz18_5); (try clear hfz18_6); (try clear hfz18_7); (try clear hfz18_8); (try clear hfz18_9); (try clear hfz19_0); (try clear hfz19_1); (try clear hfz19_10); (try clear hfz19_11); (try clear hfz19_12); (try clear hfz19_13); (try clear hfz19_2); (try clear hfz19_3); (try clear hfz19_4); (try clear hfz19_5); (try clear hfz19_6); (try clear hfz19_7); (try clear hfz19_8); (try clear hfz19_9); (try clear hfz21_0); (try clear hfz21_1); (try clear hfz21_10); (try clear hfz21_11); (try clear hfz21_12); (try clear hfz21_13); (try clear hfz21_2); (try clear hfz21_3); (try clear hfz21_4); (try clear hfz21_5); (try clear hfz21_6); (try clear hfz21_7); (try clear hfz21_8); (try clear hfz21_9); (try clear hfz22_0); (try clear hfz22_1); (try clear hfz22_10); (try clear hfz22_11); (try clear hfz22_12); (try clear hfz22_13); (try clear hfz22_2); (try clear hfz22_3); (try clear hfz22_4); (try clear hfz22_5); (try clear hfz22_6); (try clear hfz22_7); (try clear hfz22_8); (try clear hfz22_9); (try clear hfz24_0); (try clear hfz24_1); (try clear hfz24_10); (try clear hfz24_11); (try clear hfz24_12); (try clear hfz24_13); (try clear hfz24_2); (try clear hfz24_3); (try clear hfz24_4); (try clear hfz24_5); (try clear hfz24_6); (try clear hfz24_7); (try clear hfz24_8); (try clear hfz24_9); (try clear hfz25_0); (try clear hfz25_1); (try clear hfz25_10); (try clear hfz25_11); (try clear hfz25_12); (try clear hfz25_13); (try clear hfz25_2); (try clear hfz25_3); (try clear hfz25_4); (try clear hfz25_5); (try clear hfz25_6); (try clear hfz25_7); (try clear hfz25_8); (try clear hfz25_9); (try clear hfz27_0)
     (try clear hfz27_1); (try clear hfz27_10); (try clear hfz27_11); (try clear hfz27_12); (try clear hfz27_13); (try clear hfz27_2); (try clear hfz27_3); (try clear hfz27_4); (try clear hfz27_5); (try clear hfz27_6); (try clear hfz27_7); (try clear hfz27_8); (try clear hfz27_9); (try clear hfz28_0); (try clear hfz28_1); (try clear hfz28_10); (try clear hfz28_11); (try clear hfz28_12); (try clear hfz28_13); (try clear hfz28_2); (try clear hfz28_3); (try clear hfz28_4); (try clear hfz28_5); (try clear hfz28_6); (try clear hfz28_7); (try clear hfz28_8); (try clear hfz28_9); (try clear hfz31_0); (try clear hfz31_1); (try clear hfz31_10); (try clear hfz31_11); (try clear hfz31_12); (try clear hfz31_13); (try clear hfz31_2); (try clear hfz31_3); (try clear hfz31_4); (try clear hfz31_5); (try clear hfz31_6); (try clear hfz31_7); (try clear hfz31_8); (try clear hfz31_9); (try clear p2); obtain ⟨x52_2, rfl, HA, HK2, BK101, BK102, HB⟩ := hrel
     cases gk with
     | zero => exact absurd HA.out (by simp [node_Same.l0])
     | succ k2 =>
      have H := HA.out; clear HA
      simp only [node_Same.l0] at H
      by_cases c32 : x52_2 < (l0_13.length : Int)
      ·rw [if_pos c32] at H; have c32b0 : decide (x52_2 < (l0_13.length : Int)) = true := decide_eq_true c32; clear c32
       by_cases c33 : 0 ≤ x52_2
       ·rw [if_pos c33] at H; have c33b0 : decide (0 ≤ x52_2) = true := decide_eq_true c33; clear c33
        by_cases c34 : x52_2 < (l0_13.length : Int)
        ·rw [if_pos c34] at H; have c34b0 : decide (x52_2 < (l0_13.length : Int)) = true := decide_eq_true c34; clear c34; have HC35 := Aside0.mk H; clear H
         have p103 : 0 ≤ (x52_2 : Int) := of_decide_eq_true (by first | (with_reducible assumption) | assumption)
         have q103 : x52_2 < (l0_13.length : Int) := of_decide_eq_true (by first | (with_reducible assumption) | assumption)
         obtain ⟨ad103, A103_13, c103_13, e103, hx103_0, hx103_1, hx103_2, hx103_3, hx103_4, hx103_5, hx103_6, hx103_7, hx103_8, hx103_9, hx103_10, hx103_11, hx103_12, hx103_13, hl103_13, hi103_13⟩ := at_T28 HR0_13.out x52_2 p103 q103
         cases e103
         replace hx103_0 := (HB.out.cell (World.block_lt_of_cell? w _ hx103_0)).trans hx103_0; replace hx103_1 := (HB.out.cell (World.block_lt_of_cell? w _ hx103_1)).trans hx103_1; replace hx103_2 := (HB.out.cell (World.block_lt_of_cell? w _ hx103_2)).trans hx103_2; replace hx103_3 := (HB.out.cell (World.block_lt_of_cell? w _ hx103_3)).trans hx103_3; replace hx103_4 := (HB.out.cell (World.block_lt_of_cell? w _ hx103_4)).trans hx103_4; replace hx103_5 := (HB.out.cell (World.block_lt_of_cell? w _ hx103_5)).trans hx103_5; replace hx103_6 := (HB.out.cell (World.block_lt_of_cell? w _ hx103_6)).trans hx103_6; replace hx103_7 := (HB.out.cell (World.block_lt_of_cell? w _ hx103_7)).trans hx103_7; replace hx103_8 := (HB.out.cell (World.block_lt_of_cell? w _ hx103_8)).trans hx103_8; replace hx103_9 := (HB.out.cell (World.block_lt_of_cell? w _ hx103_9)).trans hx103_9; replace hx103_10 := (HB.out.cell (World.block_lt_of_cell? w _ hx103_10)).trans hx103_10
         replace hx103_11 := (HB.out.cell (World.block_lt_of_cell? w _ hx103_11)).trans hx103_11; replace hx103_12 := (HB.out.cell (World.block_lt_of_cell? w _ hx103_12)).trans hx103_12; replace hx103_13 := (HB.out.cell (World.block_lt_of_cell? w _ hx103_13)).trans hx103_13; have HR103_13 := Aside0.mk hi103_13; have HC103_13 := Aside0.mk hl103_13; clear hi103_13 hl103_13; replace p103 := eq_true p103; replace q103 := eq_true q103
         go_upto_region 6 with (first | ((with_reducible refine gate_dst (N:=6) rfl ?_); (try (refine gate_guard (by rfl) ?_; dsimp only)); refine be_ (N:=6) (cs := #[.int .i64 0, .int .i64 0, .int .i64 0, .int .i64 0, .string (⟨#[]⟩ : ByteArray), .int .i64 0, .int .i64 0, .bool false, .bool false, .int .i64 0, .int .i64 0, .bool false, .bool false, .slice none 0 0]) (t:=28) ?_; intro gb104 hg w36 hbox hb; have BK104 := Aside0.mk (hbox); have GW104 := hs_ HB hg; have GE104 := hs_ HB hg; have NB101_104 := hl_ BK101 hg; have NB104_101 := hr_ BK101 hg; have NB102_104 := hl_ BK102 hg; have NB104_102 := hr_ BK102 hg; replace BK101 := bb_ BK101 hb; replace BK102 := bb_ BK102 hb; replace HB := bs_ HB hb; clear hb hbox hg; have hnb37 := NB104_101.out; have hnc37 := NB101_104.out; have hnb38 := NB104_102.out; have hnc38 := NB102_104.out; have hcz39_0 : w36.cell? ⟨gb104, 0, none⟩ = some (.int .i64 0) := bc_ BK104 0 rfl; have hcz39_1 : w36.cell? ⟨gb104, 1, none⟩ = some (.int .i64 0) := bc_ BK104 1 rfl; have hcz39_2 : w36.cell? ⟨gb104, 2, none⟩ = some (.int .i64 0) := bc_ BK104 2 rfl; have hcz39_3 : w36.cell? ⟨gb104, 3, none⟩ = some (.int .i64 0) := bc_ BK104 3 rfl; have hcz39_4 : w36.cell? ⟨gb104, 4, none⟩ = some (.string (⟨#[]⟩ : ByteArray)) := bc_ BK104 4 rfl; have hcz39_5 : w36.cell? ⟨gb104, 5, none⟩ = some (.int .i64 0) := bc_ BK104 5 rfl; have hcz39_6 : w36.cell? ⟨gb104, 6, none⟩ = some (.int .i64 0) := bc_ BK104 6 rfl; have hcz39_7 : w36.cell? ⟨gb104, 7, none⟩ = some (.bool false) := bc_ BK104 7 rfl; have hcz39_8 : w36.cell? ⟨gb104, 8, none⟩ = some (.bool false) := bc_ BK104 8 rfl; have hcz39_9 : w36.cell? ⟨gb104, 9, none⟩ = some (.int .i64 0) := bc_ BK104 9 rfl; have hcz39_10 : w36.cell? ⟨gb104, 10, none⟩ = some (.int .i64 0) := bc_ BK104 10 rfl; have hcz39_11 : w36.cell? ⟨gb104, 11, none⟩ = some (.bool false) := bc_ BK104 11 rfl; have hcz39_12 : w36.cell? ⟨gb104, 12, none⟩ = some (.bool false) := bc_ BK104 12 rfl; have hcz39_13 : w36.cell? ⟨gb104, 13, none⟩ = some (.slice none 0 0) := bc_ BK104 13 rfl; have hfz39_0 := blk_frozen BK104.out 0; have hfz39_1 := blk_frozen BK104.out 1; have hfz39_2 := blk_frozen BK104.out 2; have hfz39_3 := blk_frozen BK104.out 3; have hfz39_4 := blk_frozen BK104.out 4; have hfz39_5 := blk_frozen BK104.out 5; have hfz39_6 := blk_frozen BK104.out 6; have hfz39_7 := blk_frozen BK104.out 7; have hfz39_8 := blk_frozen BK104.out 8; have hfz39_9 := blk_frozen BK104.out 9; have hfz39_10 := blk_frozen BK104.out 10; have hfz39_11 := blk_frozen BK104.out 11; have hfz39_12 := blk_frozen BK104.out 12; have hfz39_13 := blk_frozen BK104.out 13))
         (try simp only [q_])
         go_cut [64] (fun v64 wc => ∃ (kq : Nat) (x64_34 : Bool), v64 = .bool x64_34 ∧ Aside0 (node_Same.j2 kq l0_13 (l0_13.length : Int) x52_2 x64_34 a1_0 a1_1 a1_2 a1_3 a1_4 a1_5 a1_6 a1_7 a1_8 a1_9 a1_10 a1_11 a1_12 l1_13 = some r) ∧ Aside0 (kq ≤ k2) ∧ Aside0 (wc.heap[gb101]? = some (.cells #[.int .i64 a0_0, .int .i64 a0_1, .int .i64 a0_2, .int .i64 a0_3, .string a0_4, .int .i64 a0_5, .int .i64 a0_6, .bool a0_7, .bool a0_8, .int .i64 a0_9, .int .i64 a0_10, .bool a0_11, .bool a0_12, (.slice (some ad103) l0_13.length c0_13)] 28 (0, 0))) ∧ Aside0 (wc.heap[gb102]? = some (.cells #[.int .i64 a1_0, .int .i64 a1_1, .int .i64 a1_2, .int .i64 a1_3, .string a1_4, .int .i64 a1_5, .int .i64 a1_6, .bool a1_7, .bool a1_8, .int .i64 a1_9, .int .i64 a1_10, .bool a1_11, .bool a1_12, (.slice A1_13 l1_13.length c1_13)] 28 (0, 0))) ∧ Aside0 (wc.heap[gb104]? = some (.cells #[.int .i64 ((rd_T28 l0_13 x52_2).f0), .int .i64 ((rd_T28 l0_13 x52_2).f1), .int .i64 ((rd_T28 l0_13 x52_2).f2.f0), .int .i64 ((rd_T28 l0_13 x52_2).f2.f1), .string ((rd_T28 l0_13 x52_2).f2.f2), .int .i64 ((rd_T28 l0_13 x52_2).f3.f0), .int .i64 ((rd_T28 l0_13 x52_2).f3.f1), .bool ((rd_T28 l0_13 x52_2).f3.f2), .bool ((rd_T28 l0_13 x52_2).f3.f3), .int .i64 ((rd_T28 l0_13 x52_2).f4.f0), .int .i64 ((rd_T28 l0_13 x52_2).f4.f1), .bool ((rd_T28 l0_13 x52_2).f4.f2), .bool ((rd_T28 l0_13 x52_2).f4.f3), (.slice A103_13 ((rd_T28 l0_13 x52_2).f5).length c103_13)] 28 (0, 0))) ∧ Aside0 (Below w.heap.size w wc))
         case first =>
          have H := HC35.out; clear HC35
          by_cases c40 : x52_2 < (l1_13.length : Int)
          ·rw [if_pos c40] at H; have c40b0 : decide (x52_2 < (l1_13.length : Int)) = true := decide_eq_true c40; clear c40; (first | rw [c40b0] | (simp only [i64_w, i32_w]; rw [c40b0]) | skip)
           replace H := Option.bind_eq_some_iff.mp H; obtain ⟨t106, A410, H⟩ := H
           replace H : (node_Same.j2 k2 l0_13 (l0_13.length : Int) x52_2 (!t106) a1_0 a1_1 a1_2 a1_3 a1_4 a1_5 a1_6 a1_7 a1_8 a1_9 a1_10 a1_11 a1_12 l1_13) = some r := H
           have A41 := Aside0.mk A410; clear A410
           have H' := Aside0.mk H
           clear H
           try go_wp2
           have n0_ : Aside0 (((((((((((((((w36.setCell ⟨gb104, 0, none⟩ (.int .i64 ((rd_T28 l0_13 x52_2).f0))).setCell ⟨gb104, 1, none⟩ (.int .i64 ((rd_T28 l0_13 x52_2).f1))).setCell ⟨gb104, 2, none⟩ (.int .i64 ((rd_T28 l0_13 x52_2).f2.f0))).setCell ⟨gb104, 3, none⟩ (.int .i64 ((rd_T28 l0_13 x52_2).f2.f1))).setCell ⟨gb104, 4, none⟩ (.string ((rd_T28 l0_13 x52_2).f2.f2))).setCell ⟨gb104, 5, none⟩ (.int .i64 ((rd_T28 l0_13 x52_2).f3.f0))).setCell ⟨gb104, 6, none⟩ (.int .i64 ((rd_T28 l0_13 x52_2).f3.f1))).setCell ⟨gb104, 7, none⟩ (.bool ((rd_T28 l0_13 x52_2).f3.f2))).setCell ⟨gb104, 8, none⟩ (.bool ((rd_T28 l0_13 x52_2).f3.f3))).setCell ⟨gb104, 9, none⟩ (.int .i64 ((rd_T28 l0_13 x52_2).f4.f0))).setCell ⟨gb104, 10, none⟩ (.int .i64 ((rd_T28 l0_13 x52_2).f4.f1))).setCell ⟨gb104, 11, none⟩ (.bool ((rd_T28 l0_13 x52_2).f4.f2))).setCell ⟨gb104, 12, none⟩ (.bool ((rd_T28 l0_13 x52_2).f4.f3))).setCell ⟨gb104, 13, none⟩ (.slice A103_13 ((rd_T28 l0_13 x52_2).f5).length c103_13)).heap[gb101]? = some (.cells #[.int .i64 a0_0, .int .i64 a0_1, .int .i64 a0_2, .int .i64 a0_3, .string a0_4, .int .i64 a0_5, .int .i64 a0_6, .bool a0_7, .bool a0_8, .int .i64 a0_9, .int .i64 a0_10, .bool a0_11, .bool a0_12, .slice (some ad103) l0_13.length c0_13] 28 (0, 0))) := ⟨by refine pf_ ?_ NB101_104.out; refine blk_far ?_ NB101_104.out _; refine blk_far ?_ NB101_104.out _; refine blk_far ?_ NB101_104.out _; refine blk_far ?_ NB101_104.out _; refine blk_far ?_ NB101_104.out _; refine blk_far ?_ NB101_104.out _; refine blk_far ?_ NB101_104.out _; refine blk_far ?_ NB101_104.out _; refine blk_far ?_ NB101_104.out _; refine blk_far ?_ NB101_104.out _; refine blk_far ?_ NB101_104.out _; refine blk_far ?_ NB101_104.out _; refine blk_far ?_ NB101_104.out _; exact pkx BK101⟩
           have n1_ : Aside0 (((((((((((((((w36.setCell ⟨gb104, 0, none⟩ (.int .i64 ((rd_T28 l0_13 x52_2).f0))).setCell ⟨gb104, 1, none⟩ (.int .i64 ((rd_T28 l0_13 x52_2).f1))).setCell ⟨gb104, 2, none⟩ (.int .i64 ((rd_T28 l0_13 x52_2).f2.f0))).setCell ⟨gb104, 3, none⟩ (.int .i64 ((rd_T28 l0_13 x52_2).f2.f1))).setCell ⟨gb104, 4, none⟩ (.string ((rd_T28 l0_13 x52_2).f2.f2))).setCell ⟨gb104, 5, none⟩ (.int .i64 ((rd_T28 l0_13 x52_2).f3.f0))).setCell ⟨gb104, 6, none⟩ (.int .i64 ((rd_T28 l0_13 x52_2).f3.f1))).setCell ⟨gb104, 7, none⟩ (.bool ((rd_T28 l0_13 x52_2).f3.f2))).setCell ⟨gb104, 8, none⟩ (.bool ((rd_T28 l0_13 x52_2).f3.f3))).setCell ⟨gb104, 9, none⟩ (.int .i64 ((rd_T28 l0_13 x52_2).f4.f0))).setCell ⟨gb104, 10, none⟩ (.int .i64 ((rd_T28 l0_13 x52_2).f4.f1))).setCell ⟨gb104, 11, none⟩ (.bool ((rd_T28 l0_13 x52_2).f4.f2))).setCell ⟨gb104, 12, none⟩ (.bool ((rd_T28 l0_13 x52_2).f4.f3))).setCell ⟨gb104, 13, none⟩ (.slice A103_13 ((rd_T28 l0_13 x52_2).f5).length c103_13)).heap[gb102]? = some (.cells #[.int .i64 a1_0, .int .i64 a1_1, .int .i64 a1_2, .int .i64 a1_3, .string a1_4, .int .i64 a1_5, .int .i64 a1_6, .bool a1_7, .bool a1_8, .int .i64 a1_9, .int .i64 a1_10, .bool a1_11, .bool a1_12, .slice A1_13 l1_13.length c1_13] 28 (0, 0))) := ⟨by refine pf_ ?_ NB102_104.out; refine blk_far ?_ NB102_104.out _; refine blk_far ?_ NB102_104.out _; refine blk_far ?_ NB102_104.out _; refine blk_far ?_ NB102_104.out _; refine blk_far ?_ NB102_104.out _; refine blk_far ?_ NB102_104.out _; refine blk_far ?_ NB102_104.out _; refine blk_far ?_ NB102_104.out _; refine blk_far ?_ NB102_104.out _; refine blk_far ?_ NB102_104.out _; refine blk_far ?_ NB102_104.out _; refine blk_far ?_ NB102_104.out _; refine blk_far ?_ NB102_104.out _; exact pkx BK102⟩
           have n2_ : Aside0 (((((((((((((((w36.setCell ⟨gb104, 0, none⟩ (.int .i64 ((rd_T28 l0_13 x52_2).f0))).setCell ⟨gb104, 1, none⟩ (.int .i64 ((rd_T28 l0_13 x52_2).f1))).setCell ⟨gb104, 2, none⟩ (.int .i64 ((rd_T28 l0_13 x52_2).f2.f0))).setCell ⟨gb104, 3, none⟩ (.int .i64 ((rd_T28 l0_13 x52_2).f2.f1))).setCell ⟨gb104, 4, none⟩ (.string ((rd_T28 l0_13 x52_2).f2.f2))).setCell ⟨gb104, 5, none⟩ (.int .i64 ((rd_T28 l0_13 x52_2).f3.f0))).setCell ⟨gb104, 6, none⟩ (.int .i64 ((rd_T28 l0_13 x52_2).f3.f1))).setCell ⟨gb104, 7, none⟩ (.bool ((rd_T28 l0_13 x52_2).f3.f2))).setCell ⟨gb104, 8, none⟩ (.bool ((rd_T28 l0_13 x52_2).f3.f3))).setCell ⟨gb104, 9, none⟩ (.int .i64 ((rd_T28 l0_13 x52_2).f4.f0))).setCell ⟨gb104, 10, none⟩ (.int .i64 ((rd_T28 l0_13 x52_2).f4.f1))).setCell ⟨gb104, 11, none⟩ (.bool ((rd_T28 l0_13 x52_2).f4.f2))).setCell ⟨gb104, 12, none⟩ (.bool ((rd_T28 l0_13 x52_2).f4.f3))).setCell ⟨gb104, 13, none⟩ (.slice A103_13 ((rd_T28 l0_13 x52_2).f5).length c103_13)).heap[gb104]? = some (.cells #[.int .i64 ((rd_T28 l0_13 x52_2).f0), .int .i64 ((rd_T28 l0_13 x52_2).f1), .int .i64 ((rd_T28 l0_13 x52_2).f2.f0), .int .i64 ((rd_T28 l0_13 x52_2).f2.f1), .string ((rd_T28 l0_13 x52_2).f2.f2), .int .i64 ((rd_T28 l0_13 x52_2).f3.f0), .int .i64 ((rd_T28 l0_13 x52_2).f3.f1), .bool ((rd_T28 l0_13 x52_2).f3.f2), .bool ((rd_T28 l0_13 x52_2).f3.f3), .int .i64 ((rd_T28 l0_13 x52_2).f4.f0), .int .i64 ((rd_T28 l0_13 x52_2).f4.f1), .bool ((rd_T28 l0_13 x52_2).f4.f2), .bool ((rd_T28 l0_13 x52_2).f4.f3), .slice A103_13 ((rd_T28 l0_13 x52_2).f5).length c103_13] 28 (0, 0))) := ⟨by refine pp_ (cs := #[.int .i64 ((rd_T28 l0_13 x52_2).f0), .int .i64 ((rd_T28 l0_13 x52_2).f1), .int .i64 ((rd_T28 l0_13 x52_2).f2.f0), .int .i64 ((rd_T28 l0_13 x52_2).f2.f1), .string ((rd_T28 l0_13 x52_2).f2.f2), .int .i64 ((rd_T28 l0_13 x52_2).f3.f0), .int .i64 ((rd_T28 l0_13 x52_2).f3.f1), .bool ((rd_T28 l0_13 x52_2).f3.f2), .bool ((rd_T28 l0_13 x52_2).f3.f3), .int .i64 ((rd_T28 l0_13 x52_2).f4.f0), .int .i64 ((rd_T28 l0_13 x52_2).f4.f1), .bool ((rd_T28 l0_13 x52_2).f4.f2), .bool ((rd_T28 l0_13 x52_2).f4.f3), .slice none 0 0]) 13 ?_ rfl; refine blk_put (cs := #[.int .i64 ((rd_T28 l0_13 x52_2).f0), .int .i64 ((rd_T28 l0_13 x52_2).f1), .int .i64 ((rd_T28 l0_13 x52_2).f2.f0), .int .i64 ((rd_T28 l0_13 x52_2).f2.f1), .string ((rd_T28 l0_13 x52_2).f2.f2), .int .i64 ((rd_T28 l0_13 x52_2).f3.f0), .int .i64 ((rd_T28 l0_13 x52_2).f3.f1), .bool ((rd_T28 l0_13 x52_2).f3.f2), .bool ((rd_T28 l0_13 x52_2).f3.f3), .int .i64 ((rd_T28 l0_13 x52_2).f4.f0), .int .i64 ((rd_T28 l0_13 x52_2).f4.f1), .bool ((rd_T28 l0_13 x52_2).f4.f2), .bool false, .slice none 0 0]) ?_ 12 _ rfl; refine blk_put (cs := #[.int .i64 ((rd_T28 l0_13 x52_2).f0), .int .i64 ((rd_T28 l0_13 x52_2).f1), .int .i64 ((rd_T28 l0_13 x52_2).f2.f0), .int .i64 ((rd_T28 l0_13 x52_2).f2.f1), .string ((rd_T28 l0_13 x52_2).f2.f2), .int .i64 ((rd_T28 l0_13 x52_2).f3.f0), .int .i64 ((rd_T28 l0_13 x52_2).f3.f1), .bool ((rd_T28 l0_13 x52_2).f3.f2), .bool ((rd_T28 l0_13 x52_2).f3.f3), .int .i64 ((rd_T28 l0_13 x52_2).f4.f0), .int .i64 ((rd_T28 l0_13 x52_2).f4.f1), .bool false, .bool false, .slice none 0 0]) ?_ 11 _ rfl; refine blk_put (cs := #[.int .i64 ((rd_T28 l0_13 x52_2).f0), .int .i64 ((rd_T28 l0_13 x52_2).f1), .int .i64 ((rd_T28 l0_13 x52_2).f2.f0), .int .i64 ((rd_T28 l0_13 x52_2).f2.f1), .string ((rd_T28 l0_13 x52_2).f2.f2), .int .i64 ((rd_T28 l0_13 x52_2).f3.f0), .int .i64 ((rd_T28 l0_13 x52_2).f3.f1), .bool ((rd_T28 l0_13 x52_2).f3.f2), .bool ((rd_T28 l0_13 x52_2).f3.f3), .int .i64 ((rd_T28 l0_13 x52_2).f4.f0), .int .i64 0, .bool false, .bool false, .slice none 0 0]) ?_ 10 _ rfl; refine blk_put (cs := #[.int .i64 ((rd_T28 l0_13 x52_2).f0), .int .i64 ((rd_T28 l0_13 x52_2).f1), .int .i64 ((rd_T28 l0_13 x52_2).f2.f0), .int .i64 ((rd_T28 l0_13 x52_2).f2.f1), .string ((rd_T28 l0_13 x52_2).f2.f2), .int .i64 ((rd_T28 l0_13 x52_2).f3.f0), .int .i64 ((rd_T28 l0_13 x52_2).f3.f1), .bool ((rd_T28 l0_13 x52_2).f3.f2), .bool ((rd_T28 l0_13 x52_2).f3.f3), .int .i64 0, .int .i64 0, .bool false, .bool false, .slice none 0 0]) ?_ 9 _ rfl; refine blk_put (cs := #[.int .i64 ((rd_T28 l0_13 x52_2).f0), .int .i64 ((rd_T28 l0_13 x52_2).f1), .int .i64 ((rd_T28 l0_13 x52_2).f2.f0), .int .i64 ((rd_T28 l0_13 x52_2).f2.f1), .string ((rd_T28 l0_13 x52_2).f2.f2), .int .i64 ((rd_T28 l0_13 x52_2).f3.f0), .int .i64 ((rd_T28 l0_13 x52_2).f3.f1), .bool ((rd_T28 l0_13 x52_2).f3.f2), .bool false, .int .i64 0, .int .i64 0, .bool false, .bool false, .slice none 0 0]) ?_ 8 _ rfl; refine blk_put (cs := #[.int .i64 ((rd_T28 l0_13 x52_2).f0), .int .i64 ((rd_T28 l0_13 x52_2).f1), .int .i64 ((rd_T28 l0_13 x52_2).f2.f0), .int .i64 ((rd_T28 l0_13 x52_2).f2.f1), .string ((rd_T28 l0_13 x52_2).f2.f2), .int .i64 ((rd_T28 l0_13 x52_2).f3.f0), .int .i64 ((rd_T28 l0_13 x52_2).f3.f1), .bool false, .bool false, .int .i64 0, .int .i64 0, .bool false, .bool false, .slice none 0 0]) ?_ 7 _ rfl; refine blk_put (cs := #[.int .i64 ((rd_T28 l0_13 x52_2).f0), .int .i64 ((rd_T28 l0_13 x52_2).f1), .int .i64 ((rd_T28 l0_13 x52_2).f2.f0), .int .i64 ((rd_T28 l0_13 x52_2).f2.f1), .string ((rd_T28 l0_13 x52_2).f2.f2), .int .i64 ((rd_T28 l0_13 x52_2).f3.f0), .int .i64 0, .bool false, .bool false, .int .i64 0, .int .i64 0, .bool false, .bool false, .slice none 0 0]) ?_ 6 _ rfl; refine blk_put (cs := #[.int .i64 ((rd_T28 l0_13 x52_2).f0), .int .i64 ((rd_T28 l0_13 x52_2).f1), .int .i64 ((rd_T28 l0_13 x52_2).f2.f0), .int .i64 ((rd_T28 l0_13 x52_2).f2.f1), .string ((rd_T28 l0_13 x52_2).f2.f2), .int .i64 0, .int .i64 0, .bool false, .bool false, .int .i64 0, .int .i64 0, .bool false, .bool false, .slice none 0 0]) ?_ 5 _ rfl; refine blk_put (cs := #[.int .i64 ((rd_T28 l0_13 x52_2).f0), .int .i64 ((rd_T28 l0_13 x52_2).f1), .int .i64 ((rd_T28 l0_13 x52_2).f2.f0), .int .i64 ((rd_T28 l0_13 x52_2).f2.f1), .string (⟨#[]⟩ : ByteArray), .int .i64 0, .int .i64 0, .bool false, .bool false, .int .i64 0, .int .i64 0, .bool false, .bool false, .slice none 0 0]) ?_ 4 _ rfl; refine pp_ (cs := #[.int .i64 ((rd_T28 l0_13 x52_2).f0), .int .i64 ((rd_T28 l0_13 x52_2).f1), .int .i64 ((rd_T28 l0_13 x52_2).f2.f0), .int .i64 0, .string (⟨#[]⟩ : ByteArray), .int .i64 0, .int .i64 0, .bool false, .bool false, .int .i64 0, .int .i64 0, .bool false, .bool false, .slice none 0 0]) 3 ?_ rfl; refine pp_ (cs := #[.int .i64 ((rd_T28 l0_13 x52_2).f0), .int .i64 ((rd_T28 l0_13 x52_2).f1), .int .i64 0, .int .i64 0, .string (⟨#[]⟩ : ByteArray), .int .i64 0, .int .i64 0, .bool false, .bool false, .int .i64 0, .int .i64 0, .bool false, .bool false, .slice none 0 0]) 2 ?_ rfl; refine pp_ (cs := #[.int .i64 ((rd_T28 l0_13 x52_2).f0), .int .i64 0, .int .i64 0, .int .i64 0, .string (⟨#[]⟩ : ByteArray), .int .i64 0, .int .i64 0, .bool false, .bool false, .int .i64 0, .int .i64 0, .bool false, .bool false, .slice none 0 0]) 1 ?_ rfl; refine pp_ (cs := #[.int .i64 0, .int .i64 0, .int .i64 0, .int .i64 0, .string (⟨#[]⟩ : ByteArray), .int .i64 0, .int .i64 0, .bool false, .bool false, .int .i64 0, .int .i64 0, .bool false, .bool false, .slice none 0 0]) 0 ?_ rfl; exact pkx BK104⟩
           have n3_ : Aside0 (Below w.heap.size w ((((((((((((((w36.setCell ⟨gb104, 0, none⟩ (.int .i64 ((rd_T28 l0_13 x52_2).f0))).setCell ⟨gb104, 1, none⟩ (.int .i64 ((rd_T28 l0_13 x52_2).f1))).setCell ⟨gb104, 2, none⟩ (.int .i64 ((rd_T28 l0_13 x52_2).f2.f0))).setCell ⟨gb104, 3, none⟩ (.int .i64 ((rd_T28 l0_13 x52_2).f2.f1))).setCell ⟨gb104, 4, none⟩ (.string ((rd_T28 l0_13 x52_2).f2.f2))).setCell ⟨gb104, 5, none⟩ (.int .i64 ((rd_T28 l0_13 x52_2).f3.f0))).setCell ⟨gb104, 6, none⟩ (.int .i64 ((rd_T28 l0_13 x52_2).f3.f1))).setCell ⟨gb104, 7, none⟩ (.bool ((rd_T28 l0_13 x52_2).f3.f2))).setCell ⟨gb104, 8, none⟩ (.bool ((rd_T28 l0_13 x52_2).f3.f3))).setCell ⟨gb104, 9, none⟩ (.int .i64 ((rd_T28 l0_13 x52_2).f4.f0))).setCell ⟨gb104, 10, none⟩ (.int .i64 ((rd_T28 l0_13 x52_2).f4.f1))).setCell ⟨gb104, 11, none⟩ (.bool ((rd_T28 l0_13 x52_2).f4.f2))).setCell ⟨gb104, 12, none⟩ (.bool ((rd_T28 l0_13 x52_2).f4.f3))).setCell ⟨gb104, 13, none⟩ (.slice A103_13 ((rd_T28 l0_13 x52_2).f5).length c103_13))) := ⟨by repeat (first | (with_reducible first | exact HB.out | apply below_alloc | apply pw_below_drewN | apply below_drew1 | refine below_set ?_ GE101.out | refine below_set ?_ GE102.out | refine below_set ?_ GE104.out) | exact HB.out)⟩; (try clear BK101); (try clear BK102); (try clear BK104); (try clear HB); generalize ((((((((((((((w36.setCell ⟨gb104, 0, none⟩ (.int .i64 ((rd_T28 l0_13 x52_2).f0))).setCell ⟨gb104, 1, none⟩ (.int .i64 ((rd_T28 l0_13 x52_2).f1))).setCell ⟨gb104, 2, none⟩ (.int .i64 ((rd_T28 l0_13 x52_2).f2.f0))).setCell ⟨gb104, 3, none⟩ (.int .i64 ((rd_T28 l0_13 x52_2).f2.f1))).setCell ⟨gb104, 4, none⟩ (.string ((rd_T28 l0_13 x52_2).f2.f2))).setCell ⟨gb104, 5, none⟩ (.int .i64 ((rd_T28 l0_13 x52_2).f3.f0))).setCell ⟨gb104, 6, none⟩ (.int .i64 ((rd_T28 l0_13 x52_2).f3.f1))).setCell ⟨gb104, 7, none⟩ (.bool ((rd_T28 l0_13 x52_2).f3.f2))).setCell ⟨gb104, 8, none⟩ (.bool ((rd_T28 l0_13 x52_2).f3.f3))).setCell ⟨gb104, 9, none⟩ (.int .i64 ((rd_T28 l0_13 x52_2).f4.f0))).setCell ⟨gb104, 10, none⟩ (.int .i64 ((rd_T28 l0_13 x52_2).f4.f1))).setCell ⟨gb104, 11, none⟩ (.bool ((rd_T28 l0_13 x52_2).f4.f2))).setCell ⟨gb104, 12, none⟩ (.bool ((rd_T28 l0_13 x52_2).f4.f3))).setCell ⟨gb104, 13, none⟩ (.slice A103_13 ((rd_T28 l0_13 x52_2).f5).length c103_13)) = w42 at n0_ n1_ n2_ n3_ ⊢
           have BK101 := n0_; have BK102 := n1_; have BK104 := n2_; have HB := n3_; clear n0_ n1_ n2_ n3_; (try (rw [drewN_self w42]; generalize hq_ : World.drewN w42 _ = w42; have n0_ : Aside0 (w42.heap[gb101]? = some (.cells #[.int .i64 a0_0, .int .i64 a0_1, .int .i64 a0_2, .int .i64 a0_3, .string a0_4, .int .i64 a0_5, .int .i64 a0_6, .bool a0_7, .bool a0_8, .int .i64 a0_9, .int .i64 a0_10, .bool a0_11, .bool a0_12, .slice (some ad103) l0_13.length c0_13] 28 (0, 0))) := ⟨by rw [← hq_]; exact (pkx BK101)⟩; have n1_ : Aside0 (w42.heap[gb102]? = some (.cells #[.int .i64 a1_0, .int .i64 a1_1, .int .i64 a1_2, .int .i64 a1_3, .string a1_4, .int .i64 a1_5, .int .i64 a1_6, .bool a1_7, .bool a1_8, .int .i64 a1_9, .int .i64 a1_10, .bool a1_11, .bool a1_12, .slice A1_13 l1_13.length c1_13] 28 (0, 0))) := ⟨by rw [← hq_]; exact (pkx BK102)⟩; have n2_ : Aside0 (w42.heap[gb104]? = some (.cells #[.int .i64 ((rd_T28 l0_13 x52_2).f0), .int .i64 ((rd_T28 l0_13 x52_2).f1), .int .i64 ((rd_T28 l0_13 x52_2).f2.f0), .int .i64 ((rd_T28 l0_13 x52_2).f2.f1), .string ((rd_T28 l0_13 x52_2).f2.f2), .int .i64 ((rd_T28 l0_13 x52_2).f3.f0), .int .i64 ((rd_T28 l0_13 x52_2).f3.f1), .bool ((rd_T28 l0_13 x52_2).f3.f2), .bool ((rd_T28 l0_13 x52_2).f3.f3), .int .i64 ((rd_T28 l0_13 x52_2).f4.f0), .int .i64 ((rd_T28 l0_13 x52_2).f4.f1), .bool ((rd_T28 l0_13 x52_2).f4.f2), .bool ((rd_T28 l0_13 x52_2).f4.f3), .slice A103_13 ((rd_T28 l0_13 x52_2).f5).length c103_13] 28 (0, 0))) := ⟨by rw [← hq_]; exact (pkx BK104)⟩; have n3_ : Aside0 (Below w.heap.size w w42) := ⟨by rw [← hq_]; exact (pbx HB)⟩; clear BK101 BK102 BK104 HB hq_; have BK101 := n0_; have BK102 := n1_; have BK104 := n2_; have HB := n3_; clear n0_ n1_ n2_ n3_))
           replace BK101 := Aside0.mk (blk_drew BK101.out); replace BK102 := Aside0.mk (blk_drew BK102.out); replace BK104 := Aside0.mk (blk_drew BK104.out); replace HB := Aside0.mk (below_drew1 HB.out)
           have p105 : 0 ≤ (x52_2 : Int) := of_decide_eq_true (by first | (with_reducible assumption) | assumption)
           have q105 : x52_2 < (l1_13.length : Int) := of_decide_eq_true (by first | (with_reducible assumption) | assumption)
           obtain ⟨ad105, A105_13, c105_13, e105, hx105_0, hx105_1, hx105_2, hx105_3, hx105_4, hx105_5, hx105_6, hx105_7, hx105_8, hx105_9, hx105_10, hx105_11, hx105_12, hx105_13, hl105_13, hi105_13⟩ := at_T28 HR1_13.out x52_2 p105 q105; have hw105_13 := hx105_13; have hw105_12 := hx105_12; have hw105_11 := hx105_11; have hw105_10 := hx105_10; have hw105_9 := hx105_9; have hw105_8 := hx105_8; have hw105_7 := hx105_7; have hw105_6 := hx105_6; have hw105_5 := hx105_5; have hw105_4 := hx105_4; have hw105_3 := hx105_3; have hw105_2 := hx105_2; have hw105_1 := hx105_1; have hw105_0 := hx105_0
           cases e105
           replace hx105_0 := (HB.out.cell (World.block_lt_of_cell? w _ hx105_0)).trans hx105_0; replace hx105_1 := (HB.out.cell (World.block_lt_of_cell? w _ hx105_1)).trans hx105_1; replace hx105_2 := (HB.out.cell (World.block_lt_of_cell? w _ hx105_2)).trans hx105_2; replace hx105_3 := (HB.out.cell (World.block_lt_of_cell? w _ hx105_3)).trans hx105_3; replace hx105_4 := (HB.out.cell (World.block_lt_of_cell? w _ hx105_4)).trans hx105_4; replace hx105_5 := (HB.out.cell (World.block_lt_of_cell? w _ hx105_5)).trans hx105_5; replace hx105_6 := (HB.out.cell (World.block_lt_of_cell? w _ hx105_6)).trans hx105_6; replace hx105_7 := (HB.out.cell (World.block_lt_of_cell? w _ hx105_7)).trans hx105_7; replace hx105_8 := (HB.out.cell (World.block_lt_of_cell? w _ hx105_8)).trans hx105_8; replace hx105_9 := (HB.out.cell (World.block_lt_of_cell? w _ hx105_9)).trans hx105_9; replace hx105_10 := (HB.out.cell (World.block_lt_of_cell? w _ hx105_10)).trans hx105_10
           replace hx105_11 := (HB.out.cell (World.block_lt_of_cell? w _ hx105_11)).trans hx105_11; replace hx105_12 := (HB.out.cell (World.block_lt_of_cell? w _ hx105_12)).trans hx105_12; replace hx105_13 := (HB.out.cell (World.block_lt_of_cell? w _ hx105_13)).trans hx105_13; have HR105_13 := Aside0.mk hi105_13; have HC105_13 := Aside0.mk hl105_13; clear hi105_13 hl105_13; replace p105 := eq_true p105; replace q105 := eq_true q105
           refine start_ (n:=8) (S := fun w' => w'.cell? ⟨gb104, 0, none⟩ = some (.int .i64 ((rd_T28 l0_13 x52_2).f0)) ∧ w'.cell? ⟨gb104, 1, none⟩ = some (.int .i64 ((rd_T28 l0_13 x52_2).f1)) ∧ w'.cell? ⟨gb104, 2, none⟩ = some (.int .i64 ((rd_T28 l0_13 x52_2).f2.f0)) ∧ w'.cell? ⟨gb104, 3, none⟩ = some (.int .i64 ((rd_T28 l0_13 x52_2).f2.f1)) ∧ w'.cell? ⟨gb104, 4, none⟩ = some (.string ((rd_T28 l0_13 x52_2).f2.f2)) ∧ w'.cell? ⟨gb104, 5, none⟩ = some (.int .i64 ((rd_T28 l0_13 x52_2).f3.f0)) ∧ w'.cell? ⟨gb104, 6, none⟩ = some (.int .i64 ((rd_T28 l0_13 x52_2).f3.f1)) ∧ w'.cell? ⟨gb104, 7, none⟩ = some (.bool ((rd_T28 l0_13 x52_2).f3.f2)) ∧ w'.cell? ⟨gb104, 8, none⟩ = some (.bool ((rd_T28 l0_13 x52_2).f3.f3)) ∧ w'.cell? ⟨gb104, 9, none⟩ = some (.int .i64 ((rd_T28 l0_13 x52_2).f4.f0)) ∧ w'.cell? ⟨gb104, 10, none⟩ = some (.int .i64 ((rd_T28 l0_13 x52_2).f4.f1)) ∧ w'.cell? ⟨gb104, 11, none⟩ = some (.bool ((rd_T28 l0_13 x52_2).f4.f2)) ∧ w'.cell? ⟨gb104, 12, none⟩ = some (.bool ((rd_T28 l0_13 x52_2).f4.f3)) ∧ w'.cell? ⟨gb104, 13, none⟩ = some (.slice A103_13 ((rd_T28 l0_13 x52_2).f5).length c103_13) ∧ w'.cell? ⟨gb102, 0, none⟩ = some (.int .i64 a1_0) ∧ w'.cell? ⟨gb102, 1, none⟩ = some (.int .i64 a1_1) ∧ w'.cell? ⟨gb102, 2, none⟩ = some (.int .i64 a1_2) ∧ w'.cell? ⟨gb102, 3, none⟩ = some (.int .i64 a1_3) ∧ w'.cell? ⟨gb102, 4, none⟩ = some (.string a1_4) ∧ w'.cell? ⟨gb102, 5, none⟩ = some (.int .i64 a1_5) ∧ w'.cell? ⟨gb102, 6, none⟩ = some (.int .i64 a1_6) ∧ w'.cell? ⟨gb102, 7, none⟩ = some (.bool a1_7) ∧ w'.cell? ⟨gb102, 8, none⟩ = some (.bool a1_8) ∧ w'.cell? ⟨gb102, 9, none⟩ = some (.int .i64 a1_9) ∧ w'.cell? ⟨gb102, 10, none⟩ = some (.int .i64 a1_10) ∧ w'.cell? ⟨gb102, 11, none⟩ = some (.bool a1_11) ∧ w'.cell? ⟨gb102, 12, none⟩ = some (.bool a1_12) ∧ w'.cell? ⟨gb102, 13, none⟩ = some (.slice (some ad105) l1_13.length c1_13) ∧ w'.cell? (ad105.add ((x52_2).toNat * 14)) = some (.int .i64 ((rd_T28 l1_13 x52_2).f0)) ∧ w'.cell? ⟨(ad105.add ((x52_2).toNat * 14)).block, (ad105.add ((x52_2).toNat * 14)).off + 1, none⟩ = some (.int .i64 ((rd_T28 l1_13 x52_2).f1)) ∧ w'.cell? ⟨(ad105.add ((x52_2).toNat * 14)).block, (ad105.add ((x52_2).toNat * 14)).off + 2, none⟩ = some (.int .i64 ((rd_T28 l1_13 x52_2).f2.f0)) ∧ w'.cell? ⟨(ad105.add ((x52_2).toNat * 14)).block, (ad105.add ((x52_2).toNat * 14)).off + 3, none⟩ = some (.int .i64 ((rd_T28 l1_13 x52_2).f2.f1)) ∧ w'.cell? ⟨(ad105.add ((x52_2).toNat * 14)).block, (ad105.add ((x52_2).toNat * 14)).off + 4, none⟩ = some (.string ((rd_T28 l1_13 x52_2).f2.f2)) ∧ w'.cell? ⟨(ad105.add ((x52_2).toNat * 14)).block, (ad105.add ((x52_2).toNat * 14)).off + 5, none⟩ = some (.int .i64 ((rd_T28 l1_13 x52_2).f3.f0)) ∧ w'.cell? ⟨(ad105.add ((x52_2).toNat * 14)).block, (ad105.add ((x52_2).toNat * 14)).off + 6, none⟩ = some (.int .i64 ((rd_T28 l1_13 x52_2).f3.f1)) ∧ w'.cell? ⟨(ad105.add ((x52_2).toNat * 14)).block, (ad105.add ((x52_2).toNat * 14)).off + 7, none⟩ = some (.bool ((rd_T28 l1_13 x52_2).f3.f2)) ∧ w'.cell? ⟨(ad105.add ((x52_2).toNat * 14)).block, (ad105.add ((x52_2).toNat * 14)).off + 8, none⟩ = some (.bool ((rd_T28 l1_13 x52_2).f3.f3)) ∧ w'.cell? ⟨(ad105.add ((x52_2).toNat * 14)).block, (ad105.add ((x52_2).toNat * 14)).off + 9, none⟩ = some (.int .i64 ((rd_T28 l1_13 x52_2).f4.f0)) ∧ w'.cell? ⟨(ad105.add ((x52_2).toNat * 14)).block, (ad105.add ((x52_2).toNat * 14)).off + 10, none⟩ = some (.int .i64 ((rd_T28 l1_13 x52_2).f4.f1)) ∧ w'.cell? ⟨(ad105.add ((x52_2).toNat * 14)).block, (ad105.add ((x52_2).toNat * 14)).off + 11, none⟩ = some (.bool ((rd_T28 l1_13 x52_2).f4.f2)) ∧ w'.cell? ⟨(ad105.add ((x52_2).toNat * 14)).block, (ad105.add ((x52_2).toNat * 14)).off + 12, none⟩ = some (.bool ((rd_T28 l1_13 x52_2).f4.f3)) ∧ w'.cell? ⟨(ad105.add ((x52_2).toNat * 14)).block, (ad105.add ((x52_2).toNat * 14)).off + 13, none⟩ = some (.slice A105_13 ((rd_T28 l1_13 x52_2).f5).length c105_13)) (ds := []) #[F,F,F,F,F,F,F,F] (by kernel_rfl) rfl rfl ⟨bc_ BK104 0 rfl, bc_ BK104 1 rfl, bc_ BK104 2 rfl, bc_ BK104 3 rfl, bc_ BK104 4 rfl, bc_ BK104 5 rfl, bc_ BK104 6 rfl, bc_ BK104 7 rfl, bc_ BK104 8 rfl, bc_ BK104 9 rfl, bc_ BK104 10 rfl, bc_ BK104 11 rfl, bc_ BK104 12 rfl, bc_ BK104 13 rfl, bc_ BK102 0 rfl, bc_ BK102 1 rfl, bc_ BK102 2 rfl, bc_ BK102 3 rfl, bc_ BK102 4 rfl, bc_ BK102 5 rfl, bc_ BK102 6 rfl, bc_ BK102 7 rfl, bc_ BK102 8 rfl, bc_ BK102 9 rfl, bc_ BK102 10 rfl, bc_ BK102 11 rfl, bc_ BK102 12 rfl, bc_ BK102 13 rfl, ((HB.out.cell (World.block_lt_of_cell? w _ hw105_0)).trans hw105_0), ((HB.out.cell (World.block_lt_of_cell? w _ hw105_1)).trans hw105_1), ((HB.out.cell (World.block_lt_of_cell? w _ hw105_2)).trans hw105_2), ((HB.out.cell (World.block_lt_of_cell? w _ hw105_3)).trans hw105_3), ((HB.out.cell (World.block_lt_of_cell? w _ hw105_4)).trans hw105_4), ((HB.out.cell (World.block_lt_of_cell? w _ hw105_5)).trans hw105_5), ((HB.out.cell (World.block_lt_of_cell? w _ hw105_6)).trans hw105_6), ((HB.out.cell (World.block_lt_of_cell? w _ hw105_7)).trans hw105_7), ((HB.out.cell (World.block_lt_of_cell? w _ hw105_8)).trans hw105_8), ((HB.out.cell (World.block_lt_of_cell? w _ hw105_9)).trans hw105_9), ((HB.out.cell (World.block_lt_of_cell? w _ hw105_10)).trans hw105_10), ((HB.out.cell (World.block_lt_of_cell? w _ hw105_11)).trans hw105_11), ((HB.out.cell (World.block_lt_of_cell? w _ hw105_12)).trans hw105_12), ((HB.out.cell (World.block_lt_of_cell? w _ hw105_13)).trans hw105_13)⟩ (fun hHeld => ?_); refine with_tabW node_Same.tab6 node_Same.bits6 (fun HT_ HW_ => ?_)
           generalize w42.drew = w43 at BK101 BK102 BK104 HB HR105_13 hx105_0 hx105_1 hx105_10 hx105_11 hx105_12 hx105_13 hx105_2 hx105_3 hx105_4 hx105_5 hx105_6 hx105_7 hx105_8 hx105_9 hHeld ⊢; refine pure_ (i:=1) (N:=some 58) (v:=?_) (a':=?_) ⟨m_ 8 2⟩ rfl rfl (any_of HT_.out (by kernel_rfl)) (fun _ _ _ h=>h) (Or.inl ⟨rfl, ?_⟩) ?_ ?_; rotate_left
           ·intro w'; go_simp; with_reducible rfl
           rotate_left
           ·simp only [q_, i64_w, i32_w]; rfl
           refine pure_ (i:=3) (N:=some 60) (v:=?_) (a':=?_) ⟨m_ 8 10⟩ rfl rfl (any_of HT_.out (by kernel_rfl)) (fun _ _ _ h=>h) (Or.inl ⟨rfl, ?_⟩) ?_ ?_; rotate_left
           ·intro w'; go_simp; with_reducible rfl
           rotate_left
           ·simp only [q_, i64_w, i32_w]; rfl
           refine take_ (i:=0) (N:=some 57) (v:=?_) (a':=?_) ⟨m_ 8 11⟩ rfl rfl (take_ofW HT_.out HW_.out (by kernel_rfl)) (fun _ _ _ h=>h) (Or.inl ⟨rfl, ?_⟩) hHeld ?_ ?_; rotate_left
           ·rintro w' ⟨s0, s1, s2, s3, s4, s5, s6, s7, s8, s9, s10, s11, s12, s13, s14, s15, s16, s17, s18, s19, s20, s21, s22, s23, s24, s25, s26, s27, s28, s29, s30, s31, s32, s33, s34, s35, s36, s37, s38, s39, s40, s41⟩; go_simp; with_reducible rfl
           rotate_left
           ·simp only [q_, i64_w, i32_w]; rfl
           refine take_ (i:=2) (N:=some 59) (v:=?_) (a':=?_) ⟨m_ 8 15⟩ rfl rfl (take_ofW HT_.out HW_.out (by kernel_rfl)) (fun _ _ _ h=>h) (Or.inl ⟨rfl, ?_⟩) hHeld ?_ ?_; rotate_left
           ·rintro w' ⟨s0, s1, s2, s3, s4, s5, s6, s7, s8, s9, s10, s11, s12, s13, s14, s15, s16, s17, s18, s19, s20, s21, s22, s23, s24, s25, s26, s27, s28, s29, s30, s31, s32, s33, s34, s35, s36, s37, s38, s39, s40, s41⟩; go_simp; with_reducible rfl
           rotate_left
           ·simp only [q_, i64_w, i32_w]; rfl
           refine pure_ (i:=4) (N:=some 61) (v:=?_) (a':=?_) ⟨m_ 8 31⟩ rfl rfl (any_of HT_.out (by kernel_rfl)) (fun _ _ _ h=>h) (Or.inl ⟨rfl, ?_⟩) ?_ ?_; rotate_left
           ·intro w'; go_simp; with_reducible rfl
           rotate_left
           ·simp only [q_, i64_w, i32_w]; rfl
           refine take_ (i:=5) (N:=some 62) (v:=?_) (a':=?_) ⟨m_ 8 63⟩ rfl rfl (take_ofW HT_.out HW_.out (by kernel_rfl)) (fun _ _ _ h=>h) (Or.inl ⟨rfl, ?_⟩) hHeld ?_ ?_; rotate_left
           ·rintro w' ⟨s0, s1, s2, s3, s4, s5, s6, s7, s8, s9, s10, s11, s12, s13, s14, s15, s16, s17, s18, s19, s20, s21, s22, s23, s24, s25, s26, s27, s28, s29, s30, s31, s32, s33, s34, s35, s36, s37, s38, s39, s40, s41⟩; go_simp; with_reducible rfl
           rotate_left
           ·simp only [q_, i64_w, i32_w]; rfl
           refine one_ (i:=6) (N:=some 63) ⟨m_ 8 127⟩ rfl rfl (one_of HT_.out (by kernel_rfl)) (by decide) (fun K hK => ?_); refine goes_ Tryd.func18 (by kernel_rfl) rfl #[.agg #[.int .i64 ((rd_T28 l0_13 x52_2).f0), .int .i64 ((rd_T28 l0_13 x52_2).f1), .int .i64 ((rd_T28 l0_13 x52_2).f2.f0), .int .i64 ((rd_T28 l0_13 x52_2).f2.f1), .string ((rd_T28 l0_13 x52_2).f2.f2), .int .i64 ((rd_T28 l0_13 x52_2).f3.f0), .int .i64 ((rd_T28 l0_13 x52_2).f3.f1), .bool ((rd_T28 l0_13 x52_2).f3.f2), .bool ((rd_T28 l0_13 x52_2).f3.f3), .int .i64 ((rd_T28 l0_13 x52_2).f4.f0), .int .i64 ((rd_T28 l0_13 x52_2).f4.f1), .bool ((rd_T28 l0_13 x52_2).f4.f2), .bool ((rd_T28 l0_13 x52_2).f4.f3), .slice A103_13 ((rd_T28 l0_13 x52_2).f5).length c103_13], .agg #[.int .i64 ((rd_T28 l1_13 x52_2).f0), .int .i64 ((rd_T28 l1_13 x52_2).f1), .int .i64 ((rd_T28 l1_13 x52_2).f2.f0), .int .i64 ((rd_T28 l1_13 x52_2).f2.f1), .string ((rd_T28 l1_13 x52_2).f2.f2), .int .i64 ((rd_T28 l1_13 x52_2).f3.f0), .int .i64 ((rd_T28 l1_13 x52_2).f3.f1), .bool ((rd_T28 l1_13 x52_2).f3.f2), .bool ((rd_T28 l1_13 x52_2).f3.f3), .int .i64 ((rd_T28 l1_13 x52_2).f4.f0), .int .i64 ((rd_T28 l1_13 x52_2).f4.f1), .bool ((rd_T28 l1_13 x52_2).f4.f2), .bool ((rd_T28 l1_13 x52_2).f4.f3), .slice A105_13 ((rd_T28 l1_13 x52_2).f5).length c105_13]] (by rfl) rfl rfl (by (try simp only [List.map_toArray, List.map_cons, List.map_nil]); first | done | rfl | (simp only [List.length_drop, List.length_take]; rfl)) ?_; with_reducible refine (ih k2 (by have := HJ2.out; have := HK2.out; omega) ((rd_T28 l0_13 x52_2).f0) ((rd_T28 l0_13 x52_2).f1) ((rd_T28 l0_13 x52_2).f2.f0) ((rd_T28 l0_13 x52_2).f2.f1) ((rd_T28 l0_13 x52_2).f2.f2) ((rd_T28 l0_13 x52_2).f3.f0) ((rd_T28 l0_13 x52_2).f3.f1) ((rd_T28 l0_13 x52_2).f3.f2) ((rd_T28 l0_13 x52_2).f3.f3) ((rd_T28 l0_13 x52_2).f4.f0) ((rd_T28 l0_13 x52_2).f4.f1) ((rd_T28 l0_13 x52_2).f4.f2) ((rd_T28 l0_13 x52_2).f4.f3) _ _ ((rd_T28 l0_13 x52_2).f5) ((rd_T28 l1_13 x52_2).f0) ((rd_T28 l1_13 x52_2).f1) ((rd_T28 l1_13 x52_2).f2.f0) ((rd_T28 l1_13 x52_2).f2.f1) ((rd_T28 l1_13 x52_2).f2.f2) ((rd_T28 l1_13 x52_2).f3.f0) ((rd_T28 l1_13 x52_2).f3.f1) ((rd_T28 l1_13 x52_2).f3.f2) ((rd_T28 l1_13 x52_2).f3.f3) ((rd_T28 l1_13 x52_2).f4.f0) ((rd_T28 l1_13 x52_2).f4.f1) ((rd_T28 l1_13 x52_2).f4.f2) ((rd_T28 l1_13 x52_2).f4.f3) _ _ ((rd_T28 l1_13 x52_2).f5) t106 _ ?side1 ?side2 ?side3 ?side4 A41.out).mono ?_
           (case side1 => repeat (first | exact (Kd.C_below HR103_13.out HB.out) | (with_reducible refine Kd.C_alloc ?_ _) | (with_reducible refine Kd.C_drewN ?_ _) | (with_reducible refine Kd.C_drew ?_))); (case side2 => exact HC103_13.out); (case side3 => repeat (first | exact (Kd.C_below HR105_13.out HB.out) | (with_reducible refine Kd.C_alloc ?_ _) | (with_reducible refine Kd.C_drewN ?_ _) | (with_reducible refine Kd.C_drew ?_))); (case side4 => exact HC105_13.out); rintro e w44 ⟨rfl, hb⟩; refine ⟨_, rfl, ?_⟩
           replace BK101 := bb_ BK101 hb; replace BK102 := bb_ BK102 hb; replace BK104 := bb_ BK104 hb; replace HB := bs_ HB hb; (try clear hb); (try clear hb2); (try clear hk); (try clear hi); refine hK.out _ _ ⟨bc_ BK104 0 rfl, bc_ BK104 1 rfl, bc_ BK104 2 rfl, bc_ BK104 3 rfl, bc_ BK104 4 rfl, bc_ BK104 5 rfl, bc_ BK104 6 rfl, bc_ BK104 7 rfl, bc_ BK104 8 rfl, bc_ BK104 9 rfl, bc_ BK104 10 rfl, bc_ BK104 11 rfl, bc_ BK104 12 rfl, bc_ BK104 13 rfl, bc_ BK102 0 rfl, bc_ BK102 1 rfl, bc_ BK102 2 rfl, bc_ BK102 3 rfl, bc_ BK102 4 rfl, bc_ BK102 5 rfl, bc_ BK102 6 rfl, bc_ BK102 7 rfl, bc_ BK102 8 rfl, bc_ BK102 9 rfl, bc_ BK102 10 rfl, bc_ BK102 11 rfl, bc_ BK102 12 rfl, bc_ BK102 13 rfl, ((HB.out.cell (World.block_lt_of_cell? w _ hw105_0)).trans hw105_0), ((HB.out.cell (World.block_lt_of_cell? w _ hw105_1)).trans hw105_1), ((HB.out.cell (World.block_lt_of_cell? w _ hw105_2)).trans hw105_2), ((HB.out.cell (World.block_lt_of_cell? w _ hw105_3)).trans hw105_3), ((HB.out.cell (World.block_lt_of_cell? w _ hw105_4)).trans hw105_4), ((HB.out.cell (World.block_lt_of_cell? w _ hw105_5)).trans hw105_5), ((HB.out.cell (World.block_lt_of_cell? w _ hw105_6)).trans hw105_6), ((HB.out.cell (World.block_lt_of_cell? w _ hw105_7)).trans hw105_7), ((HB.out.cell (World.block_lt_of_cell? w _ hw105_8)).trans hw105_8), ((HB.out.cell (World.block_lt_of_cell? w _ hw105_9)).trans hw105_9), ((HB.out.cell (World.block_lt_of_cell? w _ hw105_10)).trans hw105_10), ((HB.out.cell (World.block_lt_of_cell? w _ hw105_11)).trans hw105_11), ((HB.out.cell (World.block_lt_of_cell? w _ hw105_12)).trans hw105_12), ((HB.out.cell (World.block_lt_of_cell? w _ hw105_13)).trans hw105_13)⟩ (fun hHeld => ?_)
           clear hK K; refine norm_ (a':=?_) ?_ ?_; rotate_left
           ·show Act.put _ (some 63) _ = _; simp only [q_, i64_w, i32_w]; rfl
           refine pure_ (i:=7) (N:=some 64) (v:=?_) (a':=?_) ⟨m_ 8 255⟩ rfl rfl (any_of HT_.out (by kernel_rfl)) (fun _ _ _ h=>h) (Or.inl ⟨rfl, ?_⟩) ?_ ?_; rotate_left
           ·intro w'; go_simp; with_reducible rfl
           rotate_left
           ·simp only [q_, i64_w, i32_w]; rfl
           refine done_ (done_of HT_.out (by kernel_rfl)) ?_
           try go_wp2
           go_meet
           case rel => exact ⟨_, (!t106), (by first | rfl | (simp; done) | (simp [*]; done) | (cases t106 <;> simp; done)), H', ⟨by have := HJ2.out; have := HK2.out; first | omega | exact Nat.le_refl _⟩, ⟨pkx BK101⟩, ⟨pkx BK102⟩, ⟨pkx BK104⟩, ⟨pbx HB⟩⟩
          ·rw [if_neg c40] at H
           exact absurd H (by simp)
         case rest =>
          clear HC35; (try clear c1); (try clear p1); (try clear q1); (try clear hx1); (try clear c2); (try clear p2); (try clear c3); (try clear c4); (try clear c10); (try clear p10); (try clear q10); (try clear hx10); (try clear c16); (try clear c16b0); (try clear c17); (try clear c18); (try clear c20); (try clear c23); (try clear c26); (try clear c29); (try clear c30); (try clear c32); (try clear c32b0); (try clear c33); (try clear c33b0); (try clear c34); (try clear c34b0); (try clear c37); (try clear c38); (try clear c40); (try clear c40b0); (try clear hcz10_0); (try clear hcz10_1); (try clear hcz10_10); (try clear hcz10_11); (try clear hcz10_12); (try clear hcz10_13); (try clear hcz10_2); (try clear hcz10_3); (try clear hcz10_4); (try clear hcz10_5); (try clear hcz10_6); (try clear hcz10_7); (try clear hcz10_8); (try clear hcz10_9); (try clear hcz11_0); (try clear hcz11_1); (try clear hcz11_10); (try clear hcz11_11); (try clear hcz11_12); (try clear hcz11_13); (try clear hcz11_2); (try clear hcz11_3); (try clear hcz11_4); (try clear hcz11_5); (try clear hcz11_6); (try clear hcz11_7); (try clear hcz11_8); (try clear hcz11_9); (try clear hcz14_0); (try clear hcz14_1); (try clear hcz14_10); (try clear hcz14_11); (try clear hcz14_12); (try clear hcz14_13); (try clear hcz14_2); (try clear hcz14_3); (try clear hcz14_4); (try clear hcz14_5); (try clear hcz14_6); (try clear hcz14_7); (try clear hcz14_8); (try clear hcz14_9); (try clear hcz15_0); (try clear hcz15_1); (try clear hcz15_10); (try clear hcz15_11); (try clear hcz15_12); (try clear hcz15_13); (try clear hcz15_2); (try clear hcz15_3); (try clear hcz15_4); (try clear hcz15_5); (try clear hcz15_6); (try clear hcz15_7); (try clear hcz15_8); (try clear hcz15_9); (try clear hcz18_0); (try clear hcz18_1); (try clear hcz18_10)
          (try clear hcz18_11); (try clear hcz18_12); (try clear hcz18_13); (try clear hcz18_2); (try clear hcz18_3); (try clear hcz18_4); (try clear hcz18_5); (try clear hcz18_6); (try clear hcz18_7); (try clear hcz18_8); (try clear hcz18_9); (try clear hcz19_0); (try clear hcz19_1); (try clear hcz19_10); (try clear hcz19_11); (try clear hcz19_12); (try clear hcz19_13); (try clear hcz19_2); (try clear hcz19_3); (try clear hcz19_4); (try clear hcz19_5); (try clear hcz19_6); (try clear hcz19_7); (try clear hcz19_8); (try clear hcz19_9); (try clear hcz21_0); (try clear hcz21_1); (try clear hcz21_10); (try clear hcz21_11); (try clear hcz21_12); (try clear hcz21_13); (try clear hcz21_2); (try clear hcz21_3); (try clear hcz21_4); (try clear hcz21_5); (try clear hcz21_6); (try clear hcz21_7); (try clear hcz21_8); (try clear hcz21_9); (try clear hcz22_0); (try clear hcz22_1); (try clear hcz22_10); (try clear hcz22_11); (try clear hcz22_12); (try clear hcz22_13); (try clear hcz22_2); (try clear hcz22_3); (try clear hcz22_4); (try clear hcz22_5); (try clear hcz22_6); (try clear hcz22_7); (try clear hcz22_8); (try clear hcz22_9); (try clear hcz24_0); (try clear hcz24_1); (try clear hcz24_10); (try clear hcz24_11); (try clear hcz24_12); (try clear hcz24_13); (try clear hcz24_2); (try clear hcz24_3); (try clear hcz24_4); (try clear hcz24_5); (try clear hcz24_6); (try clear hcz24_7); (try clear hcz24_8); (try clear hcz24_9); (try clear hcz25_0); (try clear hcz25_1); (try clear hcz25_10); (try clear hcz25_11); (try clear hcz25_12); (try clear hcz25_13); (try clear hcz25_2); (try clear hcz25_3); (try clear hcz25_4); (try clear hcz25_5); (try clear hcz25_6); (try clear hcz25_7); (try clear hcz25_8); (try clear hcz25_9); (try clear hcz27_0); (try clear hcz27_1); (try clear hcz27_10)
          (try clear hcz27_11); (try clear hcz27_12); (try clear hcz27_13); (try clear hcz27_2); (try clear hcz27_3); (try clear hcz27_4); (try clear hcz27_5); (try clear hcz27_6); (try clear hcz27_7); (try clear hcz27_8); (try clear hcz27_9); (try clear hcz28_0); (try clear hcz28_1); (try clear hcz28_10); (try clear hcz28_11); (try clear hcz28_12); (try clear hcz28_13); (try clear hcz28_2); (try clear hcz28_3); (try clear hcz28_4); (try clear hcz28_5); (try clear hcz28_6); (try clear hcz28_7); (try clear hcz28_8); (try clear hcz28_9); (try clear hcz31_0); (try clear hcz31_1); (try clear hcz31_10); (try clear hcz31_11); (try clear hcz31_12); (try clear hcz31_13); (try clear hcz31_2); (try clear hcz31_3); (try clear hcz31_4); (try clear hcz31_5); (try clear hcz31_6); (try clear hcz31_7); (try clear hcz31_8); (try clear hcz31_9); (try clear hcz39_0); (try clear hcz39_1); (try clear hcz39_10); (try clear hcz39_11); (try clear hcz39_12); (try clear hcz39_13); (try clear hcz39_2); (try clear hcz39_3); (try clear hcz39_4); (try clear hcz39_5); (try clear hcz39_6); (try clear hcz39_7); (try clear hcz39_8); (try clear hcz39_9); (try clear hfz10_0); (try clear hfz10_1); (try clear hfz10_10); (try clear hfz10_11); (try clear hfz10_12); (try clear hfz10_13); (try clear hfz10_2); (try clear hfz10_3); (try clear hfz10_4); (try clear hfz10_5); (try clear hfz10_6); (try clear hfz10_7); (try clear hfz10_8); (try clear hfz10_9); (try clear hfz11_0); (try clear hfz11_1); (try clear hfz11_10); (try clear hfz11_11); (try clear hfz11_12); (try clear hfz11_13); (try clear hfz11_2); (try clear hfz11_3); (try clear hfz11_4); (try clear hfz11_5); (try clear hfz11_6); (try clear hfz11_7); (try clear hfz11_8); (try clear hfz11_9); (try clear hfz14_0); (try clear hfz14_1); (try clear hfz14_10)
          (try clear hfz14_11); (try clear hfz14_12); (try clear hfz14_13); (try clear hfz14_2); (try clear hfz14_3); (try clear hfz14_4); (try clear hfz14_5); (try clear hfz14_6); (try clear hfz14_7); (try clear hfz14_8); (try clear hfz14_9); (try clear hfz15_0); (try clear hfz15_1); (try clear hfz15_10); (try clear hfz15_11); (try clear hfz15_12); (try clear hfz15_13); (try clear hfz15_2); (try clear hfz15_3); (try clear hfz15_4); (try clear hfz15_5); (try clear hfz15_6); (try clear hfz15_7); (try clear hfz15_8); (try clear hfz15_9); (try clear hfz18_0); (try clear hfz18_1); (try clear hfz18_10); (try clear hfz18_11); (try clear hfz18_12); (try clear hfz18_13); (try clear hfz18_2); (try clear hfz18_3); (try clear hfz18_4); (try clear hfz18_5); (try clear hfz18_6); (try clear hfz18_7); (try clear hfz18_8); (try clear hfz18_9); (try clear hfz19_0); (try clear hfz19_1); (try clear hfz19_10); (try clear hfz19_11); (try clear hfz19_12); (try clear hfz19_13); (try clear hfz19_2); (try clear hfz19_3); (try clear hfz19_4); (try clear hfz19_5); (try clear hfz19_6); (try clear hfz19_7); (try clear hfz19_8); (try clear hfz19_9); (try clear hfz21_0); (try clear hfz21_1); (try clear hfz21_10); (try clear hfz21_11); (try clear hfz21_12); (try clear hfz21_13); (try clear hfz21_2); (try clear hfz21_3); (try clear hfz21_4); (try clear hfz21_5); (try clear hfz21_6); (try clear hfz21_7); (try clear hfz21_8); (try clear hfz21_9); (try clear hfz22_0); (try clear hfz22_1); (try clear hfz22_10); (try clear hfz22_11); (try clear hfz22_12); (try clear hfz22_13); (try clear hfz22_2); (try clear hfz22_3); (try clear hfz22_4); (try clear hfz22_5); (try clear hfz22_6); (try clear hfz22_7); (try clear hfz22_8); (try clear hfz22_9); (try clear hfz24_0); (try clear hfz24_1); (try clear hfz24_10)
          (try clear hfz24_11); (try clear hfz24_12); (try clear hfz24_13); (try clear hfz24_2); (try clear hfz24_3); (try clear hfz24_4); (try clear hfz24_5); (try clear hfz24_6); (try clear hfz24_7); (try clear hfz24_8); (try clear hfz24_9); (try clear hfz25_0); (try clear hfz25_1); (try clear hfz25_10); (try clear hfz25_11); (try clear hfz25_12); (try clear hfz25_13); (try clear hfz25_2); (try clear hfz25_3); (try clear hfz25_4); (try clear hfz25_5); (try clear hfz25_6); (try clear hfz25_7); (try clear hfz25_8); (try clear hfz25_9); (try clear hfz27_0); (try clear hfz27_1); (try clear hfz27_10); (try clear hfz27_11); (try clear hfz27_12); (try clear hfz27_13); (try clear hfz27_2); (try clear hfz27_3); (try clear hfz27_4); (try clear hfz27_5); (try clear hfz27_6); (try clear hfz27_7); (try clear hfz27_8); (try clear hfz27_9); (try clear hfz28_0); (try clear hfz28_1); (try clear hfz28_10); (try clear hfz28_11); (try clear hfz28_12); (try clear hfz28_13); (try clear hfz28_2); (try clear hfz28_3); (try clear hfz28_4); (try clear hfz28_5); (try clear hfz28_6); (try clear hfz28_7); (try clear hfz28_8); (try clear hfz28_9); (try clear hfz31_0); (try clear hfz31_1); (try clear hfz31_10); (try clear hfz31_11); (try clear hfz31_12); (try clear hfz31_13); (try clear hfz31_2); (try clear hfz31_3); (try clear hfz31_4); (try clear hfz31_5); (try clear hfz31_6); (try clear hfz31_7); (try clear hfz31_8); (try clear hfz31_9); (try clear hfz39_0); (try clear hfz39_1); (try clear hfz39_10); (try clear hfz39_11); (try clear hfz39_12); (try clear hfz39_13); (try clear hfz39_2); (try clear hfz39_3); (try clear hfz39_4); (try clear hfz39_5); (try clear hfz39_6); (try clear hfz39_7); (try clear hfz39_8); (try clear hfz39_9); (try clear hx103_0); (try clear hx103_1); (try clear hx103_10)
          (try clear hx103_11); (try clear hx103_12); (try clear hx103_13); (try clear hx103_2); (try clear hx103_3); (try clear hx103_4); (try clear hx103_5); (try clear hx103_6); (try clear hx103_7); (try clear hx103_8); (try clear hx103_9); (try clear hx105_0); (try clear hx105_1); (try clear hx105_10); (try clear hx105_11); (try clear hx105_12); (try clear hx105_13); (try clear hx105_2); (try clear hx105_3); (try clear hx105_4); (try clear hx105_5); (try clear hx105_6); (try clear hx105_7); (try clear hx105_8); (try clear hx105_9); (try clear p103); (try clear p105); (try clear p2); (try clear q103); (try clear q105); obtain ⟨kq, x64_34, rfl, HA, HJ34, BK101, BK102, BK104, HB⟩ := hcut
          cases kq with
          | zero => exact absurd HA.out (by simp [node_Same.j2])
          | succ kj34 =>
           have H := HA.out; clear HA
           simp only [node_Same.j2] at H
           by_cases c45 : x64_34 = true
           ·subst c45
            have H1 : (some false) = some r := by rw [if_pos rfl] at H; exact H
            clear H; have H := H1; clear H1; obtain rfl := Option.some.inj H
            go_wp2
            go_ret
            exact ⟨by first | rfl | (simp [errW_none, errW_some] <;> rfl) | (simp [*, errW_none, errW_some] <;> rfl), pbx HB⟩
           ·replace c45 := Bool.eq_false_iff.mpr c45; subst c45
            have H1 : (node_Same.l0 kj34 l0_13 (l0_13.length : Int) (wrap64 (x52_2 + 1)) a1_0 a1_1 a1_2 a1_3 a1_4 a1_5 a1_6 a1_7 a1_8 a1_9 a1_10 a1_11 a1_12 l1_13) = some r := by rw [if_neg (show ¬ (false = true) by decide)] at H; exact H
            clear H; have H := H1; clear H1
            have H' := Aside0.mk H
            clear H
            go_wp2
            go_roundg kj34
            case measure => have := HJ2.out; have := HK2.out; have := HJ34.out; omega
            case rel => exact ⟨(wrap64 (x52_2 + 1)), (by first | rfl | (simp; done) | (simp [*]; done)), H', ⟨by have := HJ2.out; have := HK2.out; have := HJ34.out; omega⟩, ⟨pkx BK101⟩, ⟨pkx BK102⟩, ⟨pbx HB⟩⟩
        ·rw [if_neg c34] at H
         exact absurd H (by simp)
       ·rw [if_neg c33] at H
        exact absurd H (by simp)
      ·rw [if_neg c32] at H; have c32b0 : decide (x52_2 < (l0_13.length : Int)) = false := decide_eq_false c32; clear c32; obtain rfl := Option.some.inj H
       go_wp2
       go_ret
       exact ⟨by first | rfl | (simp [errW_none, errW_some] <;> rfl) | (simp [*, errW_none, errW_some] <;> rfl), pbx HB⟩

end Go.Proofs.YtdddhabemdbooaaDoor.X
