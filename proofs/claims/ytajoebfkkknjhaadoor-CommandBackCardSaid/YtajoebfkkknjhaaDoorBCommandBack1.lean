/- Contracts of the functions that the law CommandBack reaches, and what they answer (a session's own texts, joined; part 1). -/
import Derived.Test.YtajoebfkkknjhaaDoorProg
import Derived.Below
import Derived.Deep.Draws
import Derived.Deep.AppendLies
import Derived.Maps.AppendAt
import Derived.OwnWalk
import Derived.Laws.BytesArg
import Derived.Laws.MakeOwn
import Derived.Laws.OwnMore
import Derived.Deep.OwnRows
import Derived.Tactics
import Derived.Lib.ConvBytes
import Derived.Laws.Slices
import Derived.WalkKit
import Derived.KernelRfl
import Derived.RowKit3
import Derived.Deep.LoopGhost
import Derived.Deep.QuietTactic
import Derived.BigQuiet
import Derived.WideLaws
import Derived.Deep.DeepCutAuto
import Derived.Deep.CutBlock
import Derived.Deep.RegionHeld3
import Derived.Laws.Rows
import Derived.Lib.AppendStr
import Derived.ArgAppend
import Derived.Laws.IdiomCopy
import Derived.OrdersHeld
import Derived.Laws.BitsLemmas
import Derived.RowKit
import Derived.Lib.LaidTab
import Derived.Lib.ItoaNum
import Derived.Shelf.Strings.Builder1
import Derived.Shelf.Strings.Builder2
import Derived.Shelf.Strings.BuilderF
import Derived.Shelf.Strings.BuilderK
import Derived.Shelf.Strings.Builder2Cap
import Derived.Shelf.Strconv.Itoa0
import Derived.Shelf.Strconv.Itoa1
import Derived.Shelf.LaysM
import Derived.Shelf.Strconv.Itoa2
import Derived.Shelf.Strconv.Itoa3
import Derived.Shelf.Strings.Search1
import Derived.Shelf.Strings.Search2
import Derived.Shelf.Strings.Search3
import Derived.Shelf.Strings.Cut
import Derived.Shelf.Strings.Count
import Derived.Shelf.Strings.Shaped
import Derived.Shelf.Strings.Split
import Derived.Shelf.Unicode.DecodeSlow
import Derived.Shelf.Strings.BuilderCap
import Derived.Shelf.Spec.TrailingZeros
import Derived.Laws.BitsAllLaws
import Derived.Lib.Strings
import Derived.Lib.IndexBytes
import Derived.Test.YtajoebfkkknjhaaDoorBCommandBack0
set_option maxHeartbeats 8000000
set_option maxRecDepth 100000
/- What holds of a block, or of all that is old, holds where nothing but new blocks and draws came since: found by instances, so that a walk's text need not say how. -/
set_option linter.unusedVariables false
namespace Go.Proofs.YtajoebfkkknjhaaDoorW.PrintWords
open Go.RowKit Go.Proofs.YtajoebfkkknjhaaDoorW.PrintLast Go.Proofs.YtajoebfkkknjhaaDoorW.PrintMore
class Peel (W0 W1 : World) : Prop where
 blk : ∀ (g : Nat) (o : Obj), W0.heap[g]? = some o → W1.heap[g]? = some o
 bel : ∀ w : World, Below w.heap.size w W0 → Below w.heap.size w W1
instance (priority := high) Peel.self (W : World) : Peel W W := ⟨fun _ _ h => h, fun _ h => h⟩
instance Peel.alloc (W0 W1 : World) (o' : Obj) [h : Peel W0 W1] : Peel W0 (W1.alloc o') := ⟨fun g o hk => blk_alloc (h.blk g o hk) o', fun w hb => below_alloc (h.bel w hb) o'⟩
instance Peel.drewN (W0 W1 : World) (n : Nat) [h : Peel W0 W1] : Peel W0 (W1.drewN n) := ⟨fun g o hk => blk_drewN (h.blk g o hk) n, fun w hb => pw_below_drewN (h.bel w hb) n⟩
instance Peel.drew (W0 W1 : World) [h : Peel W0 W1] : Peel W0 W1.drew := ⟨fun g o hk => blk_drew (h.blk g o hk), fun w hb => below_drew1 (h.bel w hb)⟩
theorem pkx {W0 W1 : World} [h : Peel W0 W1] {g : Nat} {o : Obj} (k : Aside0 (W0.heap[g]? = some o)) : W1.heap[g]? = some o := h.blk _ _ k.out
theorem pbx {W0 W1 w : World} [h : Peel W0 W1] (k : Aside0 (Below w.heap.size w W0)) : Below w.heap.size w W1 := h.bel _ k.out
end Go.Proofs.YtajoebfkkknjhaaDoorW.PrintWords
namespace Go.Proofs.YtajoebfkkknjhaaDoor.X
open Go.RowKit Go.Proofs.YtajoebfkkknjhaaDoorW.PrintWords Go.Proofs.YtajoebfkkknjhaaDoorW.PrintLast Go.Proofs.YtajoebfkkknjhaaDoorW.PrintMore
attribute [local go_sem] max2_int min2_int max_two min_two max_three min_three max_four min_four   -- for this text's walks alone
set_option linter.unusedVariables false
set_option linter.unusedSimpArgs false
def errW : Option Int → Value
 | none => .nilIface
 | some c => .iface 0 (.int .i64 c)
theorem errW_none : errW none = .nilIface := rfl
theorem errW_some (c : Int) : errW (some c) = .iface 0 (.int .i64 c) := rfl
theorem info3 : (Tryd.prog.info? 3).map (fun i => (i.zero, i.size, i.bytes)) = some (some (.int .i64 0), 1, 8) := by kernel_rfl
theorem info9 : (Tryd.prog.info? 9).map (fun i => (i.zero, i.size, i.bytes)) = some (some (.string ⟨#[]⟩), 1, 16) := by kernel_rfl
-- the values' own types
structure S25 where
 f0 : Int
 f1 : Int
def z25 : S25 := ⟨(0 : Int), (0 : Int)⟩
def k25 : Kd S25 := Kd.iso (Kd.pair (Kd.int .i64) (Kd.int .u64)) (fun x : S25 => (x.f0, x.f1))
theorem k25_open {w : World} {x : S25} {cs : List Value} (h : k25.K w x cs) : cs = [.int .i64 x.f0, .int .u64 x.f1] := by
 obtain ⟨_, _, rfl, rfl, rfl⟩ := h
 exact rfl
structure S27 where
 f0 : Int
 f1 : Int
def z27 : S27 := ⟨(0 : Int), (0 : Int)⟩
def k27 : Kd S27 := Kd.iso (Kd.pair (Kd.int .i64) (Kd.int .i64)) (fun x : S27 => (x.f0, x.f1))
theorem k27_open {w : World} {x : S27} {cs : List Value} (h : k27.K w x cs) : cs = [.int .i64 x.f0, .int .i64 x.f1] := by
 obtain ⟨_, _, rfl, rfl, rfl⟩ := h
 exact rfl
structure S29 where
 f0 : S27
 f1 : S27
def z29 : S29 := ⟨z27, z27⟩
def k29 : Kd S29 := Kd.iso (Kd.pair k27 k27) (fun x : S29 => (x.f0, x.f1))
theorem k29_open {w : World} {x : S29} {cs : List Value} (h : k29.K w x cs) : cs = [.int .i64 x.f0.f0, .int .i64 x.f0.f1, .int .i64 x.f1.f0, .int .i64 x.f1.f1] := by
 obtain ⟨_, _, rfl, s0, s2⟩ := h
 obtain rfl := k27_open s0
 obtain rfl := k27_open s2
 exact rfl
structure S31 where
 f0 : ByteArray
 f1 : S25
 f2 : Int
 f3 : S27
 f4 : S29
 f5 : ByteArray
 f6 : Int
def z31 : S31 := ⟨(⟨#[]⟩ : ByteArray), z25, (0 : Int), z27, z29, (⟨#[]⟩ : ByteArray), (0 : Int)⟩
def k31 : Kd S31 := Kd.iso (Kd.pair Kd.string (Kd.pair k25 (Kd.pair (Kd.int .i64) (Kd.pair k27 (Kd.pair k29 (Kd.pair Kd.string (Kd.int .i64))))))) (fun x : S31 => (x.f0, x.f1, x.f2, x.f3, x.f4, x.f5, x.f6))
theorem k31_open {w : World} {x : S31} {cs : List Value} (h : k31.K w x cs) : cs = [.string x.f0, .int .i64 x.f1.f0, .int .u64 x.f1.f1, .int .i64 x.f2, .int .i64 x.f3.f0, .int .i64 x.f3.f1, .int .i64 x.f4.f0.f0, .int .i64 x.f4.f0.f1, .int .i64 x.f4.f1.f0, .int .i64 x.f4.f1.f1, .string x.f5, .int .i64 x.f6] := by
 obtain ⟨_, _, rfl, rfl, ⟨_, _, rfl, s1, ⟨_, _, rfl, rfl, ⟨_, _, rfl, s4, ⟨_, _, rfl, s6, ⟨_, _, rfl, rfl, rfl⟩⟩⟩⟩⟩⟩ := h
 obtain rfl := k25_open s1
 obtain rfl := k27_open s4
 obtain rfl := k29_open s6
 exact rfl
end Go.Proofs.YtajoebfkkknjhaaDoor.X
/- The tables that the library reads: a world that holds them, and what follows it. -/
set_option linter.unusedVariables false
namespace Go.Proofs.YtajoebfkkknjhaaDoor.X
open Go.RowKit Go.Proofs.YtajoebfkkknjhaaDoorW.PrintWords Go.Proofs.YtajoebfkkknjhaaDoorW.PrintLast Go.Proofs.YtajoebfkkknjhaaDoorW.PrintMore
def bru64 : List Int := [0, 1, 56, 2, 57, 49, 28, 3, 61, 58, 42, 50, 38, 29, 17, 4, 62, 47, 59, 36, 45, 43, 51, 22, 53, 39, 33, 30, 24, 18, 12, 5, 63, 55, 48, 27, 60, 41, 37, 16, 46, 35, 44, 21, 52, 32, 23, 11, 54, 26, 40, 15, 34, 20, 31, 10, 25, 14, 19, 9, 13, 8, 7, 6]
structure Tab (w : World) : Prop where
 pow : Lib.TabIs Tryd.prog w "internal/strconv.uint64pow10" .u64 Lib.pow10Tab
 bru : Lib.TabIs Tryd.prog w "math/bits.deBruijn64tab" .u8 bru64
theorem tabIs_below {w w' : World} {n : String} {k : IntKind} {zs : List Int} (h : Lib.TabIs Tryd.prog w n k zs) (hb : Below w.heap.size w w') : Lib.TabIs Tryd.prog w' n k zs := by
 unfold Lib.TabIs World.var? at *
 obtain ⟨g, hg, h⟩ := Option.bind_eq_some_iff.1 h
 rw [hg, Option.bind_some]
 have hlt : g < w.heap.size := by
  rcases Nat.lt_or_ge g w.heap.size with hh | hh
  ·exact hh
  ·rw [Array.getElem?_eq_none hh] at h; simp at h
 rw [hb.block g hlt]
 exact h
theorem Tab.below {w w' : World} (h : Tab w) (hb : Below w.heap.size w w') : Tab w' := ⟨tabIs_below h.pow hb, tabIs_below h.bru hb⟩
theorem tb_ {w w' : World} (hb : Below w.heap.size w w') (h : Aside0 (Tab w)) : Aside0 (Tab w') := ⟨h.out.below hb⟩
end Go.Proofs.YtajoebfkkknjhaaDoor.X
namespace Go.Proofs.YtajoebfkkknjhaaDoor.X
open Go.RowKit Go.Proofs.YtajoebfkkknjhaaDoorW.PrintWords
abbrev T_ : Bool := true
abbrev F_ : Bool := false
theorem hl_ {W0 W1 : World} [Peel W0 W1] {g gb : Nat} {o : Obj} (k : Aside0 (W0.heap[g]? = some o)) (hg : gb = W1.heap.size) : Aside0 (g ≠ gb) := ⟨by rw [hg]; exact Nat.ne_of_lt (blk_lt (pkx k))⟩
theorem hr_ {W0 W1 : World} [Peel W0 W1] {g gb : Nat} {o : Obj} (k : Aside0 (W0.heap[g]? = some o)) (hg : gb = W1.heap.size) : Aside0 (gb ≠ g) := ⟨by rw [hg]; exact Nat.ne_of_gt (blk_lt (pkx k))⟩
theorem hs_ {W0 W1 w : World} [Peel W0 W1] {gb : Nat} (k : Aside0 (Below w.heap.size w W0)) (hg : gb = W1.heap.size) : Aside0 (w.heap.size ≤ gb) := ⟨by rw [hg]; exact below_size (pbx k)⟩
abbrev T : Bool := true
abbrev F : Bool := false
def m_ : Nat → Nat → List Bool
  | 0, _ => []
  | n + 1, x => (x % 2 == 1) :: m_ n (x / 2)
theorem bb_ {W0 W1 W2 : World} [h : Peel W0 W1] {g : Nat} {o : Obj} (k : Aside0 (W0.heap[g]? = some o)) (hb : Below W1.heap.size W1 W2) : Aside0 (W2.heap[g]? = some o) := Aside0.mk (blk_below (pkx k) hb)
theorem bs_ {W0 W1 W2 w : World} [h : Peel W0 W1] (k : Aside0 (Below w.heap.size w W0)) (hb : Below W1.heap.size W1 W2) : Aside0 (Below w.heap.size w W2) := Aside0.mk (below_step (pbx k) hb)
theorem bc_ {w : World} {g : Nat} {t : TypeId} {cs : Array Value} {v : Value} (h : Aside0 (w.heap[g]? = some (.cells cs t (0, 0)))) (i : Nat) (e : cs[i]? = some v) : w.cell? ⟨g, i, none⟩ = some v := (blk_cell h.out i).trans e
theorem q_ : (∀ (a : Act) (v : Value), a.put none v = a) ∧ (∀ (a : Act) (t : Tmp) (v : Value), a.put (some t) v = { a with tmps := a.tmps.setIfInBounds t v }) ∧ (∀ (l : List Value) (i : Nat) (v : Value), l.toArray.setIfInBounds i v = (l.set i v).toArray) ∧ (∀ (a b : Value) (l : List Value), (a :: l).set 0 b = b :: l) ∧ (∀ (a b : Value) (l : List Value) (n : Nat), (a :: l).set (n + 1) b = a :: l.set n b) := ⟨fun _ _ => rfl, fun _ _ _ => rfl, fun _ _ _ => List.setIfInBounds_toArray .., fun _ _ _ => rfl, fun _ _ _ _ => rfl⟩
end Go.Proofs.YtajoebfkkknjhaaDoor.X
namespace Go.Proofs.YtajoebfkkknjhaaDoor.X
open Go.RowKit Go.Proofs.YtajoebfkkknjhaaDoorW.PrintWords Go.Proofs.YtajoebfkkknjhaaDoorW.PrintLast Go.Proofs.YtajoebfkkknjhaaDoorW.PrintMore
class PO (W0 : outParam World) (W1 : World) : Prop where
  of : ∀ (g : Nat) (o : Obj), W0.heap[g]? = some o → W1.heap[g]? = some o
instance (priority := low) PO.self (W : World) : PO W W := ⟨fun _ _ h => h⟩
instance PO.alloc (W0 W1 : World) (o9 : Obj) [h : PO W0 W1] : PO W0 (W1.alloc o9) := ⟨fun g o k => blk_alloc (h.of g o k) o9⟩
instance PO.drewN (W0 W1 : World) (n : Nat) [h : PO W0 W1] : PO W0 (W1.drewN n) := ⟨fun g o k => blk_drewN (h.of g o k) n⟩
instance PO.drew (W0 W1 : World) [h : PO W0 W1] : PO W0 W1.drew := ⟨fun g o k => blk_drew (h.of g o k)⟩
theorem pf_ {W W1 : World} {g : Nat} {cs : Array Value} {t : TypeId} {p : Addr} {v : Value} [h : PO (W.setCell p v) W1] (k : W.heap[g]? = some (.cells cs t (0, 0))) (hne : g ≠ p.block) : W1.heap[g]? = some (.cells cs t (0, 0)) := h.of _ _ (blk_far k hne v)
theorem pp_ {W W1 : World} {g : Nat} {cs cs2 : Array Value} {t : TypeId} {v : Value} (i : Nat) [h : PO (W.setCell ⟨g, i, none⟩ v) W1] (k : W.heap[g]? = some (.cells cs t (0, 0))) (e : cs.setIfInBounds i v = cs2) : W1.heap[g]? = some (.cells cs2 t (0, 0)) := h.of _ _ (blk_put k i v e)
theorem gL_ {P : Program} {ops : Array Oper} {Q : Exit → Act → World → Prop} {rest : List Oper} {oi : Oper} {a : Act} {w : World} (N : Option Tmp) (hd : oi.dst = N) (hg : oi.guard = none) {f : FuncId} {fn : Func} {asx : Array Operand} {ts : Array TypeId} (hf : P.funcs[f]? = some fn) (hb : fn.body.isSome = true) (args : Array Value) (hop : oi.op = .call { callee := .value (.func f), args := asx, argTypes := ts })
    (h : Calls P f args w fun e w9 => ∃ v, e = .returned v ∧ wpList P ops Q rest (a.put N v) w9) (hname : (fn.name == "runtime.NumGoroutine") = false := by kernel_rfl) (hargs : asx.map a.eval = args := by (try simp only [List.map_toArray, List.map_cons, List.map_nil]); first | done | rfl | (simp only [List.length_drop, List.length_take]; rfl)) : wpList P ops Q (oi :: rest) a w := goesL_ N hd hg hf hname hb args hop hargs h
theorem be_ {P : Program} {ops : Array Oper} {Q : Exit → Act → World → Prop} {rest : List Oper} {o : Oper} {a : Act} {W : World} {N : Tmp} {cs : Array Value} {t : TypeId} (h : ∀ g, g = W.heap.size → ∀ w1, w1.heap[g]? = some (.cells cs t (0, 0)) → Below W.heap.size W w1 → wpList P ops Q rest (a.put o.dst (.pointer (some ⟨g, 0, none⟩))) w1) (hgd : o.guard = none := by rfl) (hd : o.dst = some N := by rfl) (hrun : (execOp a.eval o).run P W = .ok (.value (.pointer (some ⟨W.heap.size, 0, none⟩))) (W.alloc (.cells cs t (0, 0))) := by first | (go_simp; done) | (go_simp; rfl)) : wpList P ops Q (o :: rest) a W := box_event hgd hd hrun h
end Go.Proofs.YtajoebfkkknjhaaDoor.X
namespace Go.Proofs.YtajoebfkkknjhaaDoor.X
open Go.RowKit Go.Proofs.YtajoebfkkknjhaaDoorW.PrintWords Go.Proofs.YtajoebfkkknjhaaDoorW.PrintLast Go.Proofs.YtajoebfkkknjhaaDoorW.PrintMore
theorem z2_ {w : World} {g : Nat} {t : TypeId} {a0 a1 : Value} (h : Aside0 (w.heap[g]? = some (.cells #[a0, a1] t (0, 0)))) : w.cell? ⟨g, 0, none⟩ = some a0 ∧ w.cell? ⟨g, 1, none⟩ = some a1 ∧ w.frozen? ⟨g, 0, none⟩ = false ∧ w.frozen? ⟨g, 1, none⟩ = false := ⟨bc_ h 0 rfl, bc_ h 1 rfl, blk_frozen h.out 0, blk_frozen h.out 1⟩
theorem z3_ {w : World} {g : Nat} {t : TypeId} {a0 a1 a2 : Value} (h : Aside0 (w.heap[g]? = some (.cells #[a0, a1, a2] t (0, 0)))) : w.cell? ⟨g, 0, none⟩ = some a0 ∧ w.cell? ⟨g, 1, none⟩ = some a1 ∧ w.cell? ⟨g, 2, none⟩ = some a2 ∧ w.frozen? ⟨g, 0, none⟩ = false ∧ w.frozen? ⟨g, 1, none⟩ = false ∧ w.frozen? ⟨g, 2, none⟩ = false := ⟨bc_ h 0 rfl, bc_ h 1 rfl, bc_ h 2 rfl, blk_frozen h.out 0, blk_frozen h.out 1, blk_frozen h.out 2⟩
theorem z4_ {w : World} {g : Nat} {t : TypeId} {a0 a1 a2 a3 : Value} (h : Aside0 (w.heap[g]? = some (.cells #[a0, a1, a2, a3] t (0, 0)))) : w.cell? ⟨g, 0, none⟩ = some a0 ∧ w.cell? ⟨g, 1, none⟩ = some a1 ∧ w.cell? ⟨g, 2, none⟩ = some a2 ∧ w.cell? ⟨g, 3, none⟩ = some a3 ∧ w.frozen? ⟨g, 0, none⟩ = false ∧ w.frozen? ⟨g, 1, none⟩ = false ∧ w.frozen? ⟨g, 2, none⟩ = false ∧ w.frozen? ⟨g, 3, none⟩ = false := ⟨bc_ h 0 rfl, bc_ h 1 rfl, bc_ h 2 rfl, bc_ h 3 rfl, blk_frozen h.out 0, blk_frozen h.out 1, blk_frozen h.out 2, blk_frozen h.out 3⟩
theorem pa13_ {W : World} {g : Nat} {cs cs1 : Array Value} {t : TypeId} {x0 x1 x2 x3 x4 x5 x6 x7 x8 x9 x10 x11 x12 : Value} (h : W.heap[g]? = some (.cells cs t (0, 0))) (e : (((((((((((((cs.setIfInBounds 0 x0).setIfInBounds 1 x1).setIfInBounds 2 x2).setIfInBounds 3 x3).setIfInBounds 4 x4).setIfInBounds 5 x5).setIfInBounds 6 x6).setIfInBounds 7 x7).setIfInBounds 8 x8).setIfInBounds 9 x9).setIfInBounds 10 x10).setIfInBounds 11 x11).setIfInBounds 12 x12) = cs1) : (((((((((((((W.setCell ⟨g, 0, none⟩ x0).setCell ⟨g, 1, none⟩ x1).setCell ⟨g, 2, none⟩ x2).setCell ⟨g, 3, none⟩ x3).setCell ⟨g, 4, none⟩ x4).setCell ⟨g, 5, none⟩ x5).setCell ⟨g, 6, none⟩ x6).setCell ⟨g, 7, none⟩ x7).setCell ⟨g, 8, none⟩ x8).setCell ⟨g, 9, none⟩ x9).setCell ⟨g, 10, none⟩ x10).setCell ⟨g, 11, none⟩ x11).setCell ⟨g, 12, none⟩ x12).heap[g]? = some (.cells cs1 t (0, 0)) := e ▸ (blk_set (blk_set (blk_set (blk_set (blk_set (blk_set (blk_set (blk_set (blk_set (blk_set (blk_set (blk_set (blk_set h 0 x0) 1 x1) 2 x2) 3 x3) 4 x4) 5 x5) 6 x6) 7 x7) 8 x8) 9 x9) 10 x10) 11 x11) 12 x12)
theorem e1_ {α : Type} [BEq α] [LawfulBEq α] {a b : α} (h : a = b) : (a == b) = true ∧ (a != b) = false := ⟨beq_iff_eq.mpr h, bne_eq_false_iff_eq.mpr h⟩
theorem e0_ {α : Type} [BEq α] [LawfulBEq α] {a b : α} (h : ¬ a = b) : (a == b) = false ∧ (a != b) = true := ⟨beq_eq_false_iff_ne.mpr h, bne_iff_ne.mpr h⟩
theorem bo_ {α β : Type} {x : Option α} {f : α → Option β} {r : β} (h : x.bind f = some r) : ∃ t, Aside0 (x = some t) ∧ f t = some r := by obtain ⟨t, a, b⟩ := Option.bind_eq_some_iff.mp h; exact ⟨t, ⟨a⟩, b⟩
theorem it_ {α : Type} {c : Prop} [i : Decidable c] {a b r : α} (h : (if c then a else b) = r) (hc : c := by first | rfl | trivial) : a = r := by rw [if_pos hc] at h; exact h
theorem ie_ {α : Type} {c : Prop} [i : Decidable c] {a b r : α} (h : (if c then a else b) = r) (hc : ¬ c := by decide) : b = r := by rw [if_neg hc] at h; exact h
theorem le_ {a b : Nat} (h : a ≤ b := by first | omega | exact Nat.le_refl _) : Aside0 (a ≤ b) := ⟨h⟩
theorem sq_ {p : Prop} (h : p := by first | rfl | (simp; done) | (simp [*]; done)) : p := h
theorem fi_ {p q : Prop} (h : q) (k : p := by first | rfl | (simp [errW_none, errW_some] <;> rfl) | (simp [*, errW_none, errW_some] <;> rfl)) : p ∧ q := ⟨k, h⟩
theorem A_ {p : Prop} (h : p) : Aside0 p := ⟨h⟩
theorem ao_ {md : _} {ops : _} {T : _} {l l' : Array Bool} {i : Nat} (hT : Aside0 (rtab md ops = T)) (h : anyT T l.toList l'.toList i = true := by kernel_rfl) : anyB md ops l l' i = true := any_of hT.out h
theorem oo_ {md : _} {ops : _} {T : _} {l l' : Array Bool} {i : Nat} (hT : Aside0 (rtab md ops = T)) (h : (readyT T.2 l.toList == [i] && l.toList.set i true == l'.toList) = true := by kernel_rfl) : readyB md ops l l' i = true := one_of hT.out h
theorem tw_ {md : _} {ops : _} {T : _} {ds : _} {B : List Nat} {l l' : Array Bool} {i : Nat} (hT : Aside0 (rtab md ops = T)) (hB : Aside0 (waitsOk T.2 B = true)) (h : takeW T B ds l.toList l'.toList i = true := by kernel_rfl) : takeB md ops ds l l' i = true := take_ofW hT.out hB.out h
theorem as_ {p : Prop} (h : p := by first | (with_reducible assumption) | assumption) : p := h
theorem bl_ {p : Prop} (h : p := by repeat (first | (with_reducible first | exact HB.out | apply below_alloc | apply pw_below_drewN | apply below_drew1) | (with_reducible refine below_set ?_ ?_; rotate_left; exact Aside0.out (by assumption)) | exact HB.out)) : p := h
theorem ha_ {p : Prop} (h : p := by (try simp only [List.map_toArray, List.map_cons, List.map_nil]); first | done | rfl | (simp only [List.length_drop, List.length_take]; rfl)) : p := h
theorem gd_ {P : Program} {ops : Array Oper} {Q : Exit → Act → World → Prop} {o : Oper} {rest : List Oper} {a : Act} {W : World} (N : Tmp) (h : wpList P ops Q (o :: rest) a W) (_hd : o.dst = some N := by rfl) : wpList P ops Q (o :: rest) a W := h
theorem dr_ {p : Prop} (h : p := by repeat (first | exact Drawn0.refl _ | apply Drawn0.step)) : p := h
inductive Ch : World → World → Prop
  | self (W : World) : Ch W W
  | alloc {W0 W1 : World} (o : Obj) : Ch W0 W1 → Ch W0 (W1.alloc o)
  | drewN {W0 W1 : World} (n : Nat) : Ch W0 W1 → Ch W0 (W1.drewN n)
  | drew {W0 W1 : World} : Ch W0 W1 → Ch W0 W1.drew
class CH (W0 : outParam World) (W1 : World) : Prop where
  c : Ch W0 W1
instance (priority := low) CH.self (W : World) : CH W W := ⟨.self W⟩
instance CH.alloc (W0 W1 : World) (o : Obj) [h : CH W0 W1] : CH W0 (W1.alloc o) := ⟨.alloc o h.c⟩
instance CH.drewN (W0 W1 : World) (n : Nat) [h : CH W0 W1] : CH W0 (W1.drewN n) := ⟨.drewN n h.c⟩
instance CH.drew (W0 W1 : World) [h : CH W0 W1] : CH W0 W1.drew := ⟨.drew h.c⟩
theorem ra_ {α : Type} {d : Kd α} {e : Nat} {W0 W1 : World} {base : Nat} {ok : Nat → Prop} {v : Value} {xs : List α} [c : CH W0 W1] (h : Kd.R d e W0 base ok v xs) : Kd.R d e W1 base ok v xs := by
  have := c.c; clear c; induction this with
  | self => exact h
  | alloc o _ ih => exact Kd.R_alloc ih o
  | drewN n _ ih => exact Kd.R_drewN ih n
  | drew _ ih => exact Kd.R_drew ih
theorem ca_ {α : Type} {d : Kd α} {W0 W1 : World} {A : Option Addr} {n : Nat} {xs : List α} [c : CH W0 W1] (h : Kd.C d W0 A n xs) : Kd.C d W1 A n xs := by
  have := c.c; clear c; induction this with
  | self => exact h
  | alloc o _ ih => exact Kd.C_alloc ih o
  | drewN n _ ih => exact Kd.C_drewN ih n
  | drew _ ih => exact Kd.C_drew ih
end Go.Proofs.YtajoebfkkknjhaaDoor.X
namespace Go.Proofs.YtajoebfkkknjhaaDoor.X
open Go.RowKit Go.Proofs.YtajoebfkkknjhaaDoorW.PrintWords Go.Proofs.YtajoebfkkknjhaaDoorW.PrintLast Go.Proofs.YtajoebfkkknjhaaDoorW.PrintMore
attribute [local go_sem] max2_int min2_int max_two min_two max_three min_three max_four min_four
set_option linter.unusedVariables false
set_option linter.unusedSimpArgs false
theorem eqA25 (d : Nat) (w : World) (x0 y0 : Int) (x1 y1 : Int) :
  (Op.equalIn (d + 2) 25 (.agg #[.int .i64 x0, .int .u64 x1]) (.agg #[.int .i64 y0, .int .u64 y1])).run Tryd.prog w = .ok (x0 == y0 && (x1 == y1)) w := by
 refine eqA_of Tryd.underlying25 (by kernel_rfl) ?_
 refine eqf_cons (by rfl) (by go_simp; rfl) (by go_simp; rfl) (by go_simp) ?_
 exact eqf_last (by rfl) (by go_simp; rfl) (by go_simp; rfl) (by go_simp)
theorem eqA27 (d : Nat) (w : World) (x0 y0 : Int) (x1 y1 : Int) :
  (Op.equalIn (d + 2) 27 (.agg #[.int .i64 x0, .int .i64 x1]) (.agg #[.int .i64 y0, .int .i64 y1])).run Tryd.prog w = .ok (x0 == y0 && (x1 == y1)) w := by
 refine eqA_of Tryd.underlying27 (by kernel_rfl) ?_
 refine eqf_cons (by rfl) (by go_simp; rfl) (by go_simp; rfl) (by go_simp) ?_
 exact eqf_last (by rfl) (by go_simp; rfl) (by go_simp; rfl) (by go_simp)
theorem eqA29 (d : Nat) (w : World) (x0 y0 : Int) (x1 y1 : Int) (x2 y2 : Int) (x3 y3 : Int) :
  (Op.equalIn (d + 3) 29 (.agg #[.int .i64 x0, .int .i64 x1, .int .i64 x2, .int .i64 x3]) (.agg #[.int .i64 y0, .int .i64 y1, .int .i64 y2, .int .i64 y3])).run Tryd.prog w = .ok ((x0 == y0 && (x1 == y1)) && ((x2 == y2 && (x3 == y3)))) w := by
 refine eqA_of Tryd.underlying29 (by kernel_rfl) ?_
 refine eqf_cons (by rfl) (by go_simp) (by go_simp) (eqA27 (d + 0) w _ _ _ _) ?_
 exact eqf_last (by rfl) (by go_simp) (by go_simp) (eqA27 (d + 0) w _ _ _ _)
theorem eqA31 (d : Nat) (w : World) (x0 y0 : ByteArray) (x1 y1 : Int) (x2 y2 : Int) (x3 y3 : Int) (x4 y4 : Int) (x5 y5 : Int) (x6 y6 : Int) (x7 y7 : Int) (x8 y8 : Int) (x9 y9 : Int) (x10 y10 : ByteArray) (x11 y11 : Int) :
  (Op.equalIn (d + 4) 31 (.agg #[.string x0, .int .i64 x1, .int .u64 x2, .int .i64 x3, .int .i64 x4, .int .i64 x5, .int .i64 x6, .int .i64 x7, .int .i64 x8, .int .i64 x9, .string x10, .int .i64 x11]) (.agg #[.string y0, .int .i64 y1, .int .u64 y2, .int .i64 y3, .int .i64 y4, .int .i64 y5, .int .i64 y6, .int .i64 y7, .int .i64 y8, .int .i64 y9, .string y10, .int .i64 y11])).run Tryd.prog w = .ok (x0.toList == y0.toList && ((x1 == y1 && (x2 == y2)) && (x3 == y3 && ((x4 == y4 && (x5 == y5)) && (((x6 == y6 && (x7 == y7)) && ((x8 == y8 && (x9 == y9)))) && (x10.toList == y10.toList && (x11 == y11))))))) w := by
 refine eqA_of Tryd.underlying31 (by kernel_rfl) ?_
 refine eqf_cons (by rfl) (by go_simp; rfl) (by go_simp; rfl) (by go_simp) ?_
 refine eqf_cons (by rfl) (by go_simp) (by go_simp) (eqA25 (d + 1) w _ _ _ _) ?_
 refine eqf_cons (by rfl) (by go_simp; rfl) (by go_simp; rfl) (by go_simp) ?_
 refine eqf_cons (by rfl) (by go_simp) (by go_simp) (eqA27 (d + 1) w _ _ _ _) ?_
 refine eqf_cons (by rfl) (by go_simp) (by go_simp) (eqA29 (d + 0) w _ _ _ _ _ _ _ _) ?_
 refine eqf_cons (by rfl) (by go_simp; rfl) (by go_simp; rfl) (by go_simp) ?_
 exact eqf_last (by rfl) (by go_simp; rfl) (by go_simp; rfl) (by go_simp)
def command_word.f (a0 : Int) : Option (ByteArray) := if a0 = 1 then (some (⟨#[83, 69, 84]⟩ : ByteArray)) else (if a0 = 2 then (some (⟨#[67, 76, 69, 65, 82]⟩ : ByteArray)) else (if a0 = 3 then (some (⟨#[70, 73, 76, 76]⟩ : ByteArray)) else (if a0 = 4 then (some (⟨#[71, 69, 84]⟩ : ByteArray)) else (if a0 = 5 then (some (⟨#[71, 69, 84, 70, 79, 82, 77, 85, 76, 65]⟩ : ByteArray)) else (if a0 = 6 then (some (⟨#[86, 73, 69, 87]⟩ : ByteArray)) else (if a0 = 7 then (some (⟨#[82, 69, 86]⟩ : ByteArray)) else (if a0 = 8 then (some (⟨#[67, 72, 65, 78, 71, 69, 83]⟩ : ByteArray)) else (if a0 = 9 then (some (⟨#[83, 84, 65, 84, 83]⟩ : ByteArray)) else (if a0 = 10 then (some (⟨#[67, 79, 83, 84]⟩ : ByteArray)) else (some (⟨#[]⟩ : ByteArray)))))))))))
theorem command_word.calls (a0 : Int) (r : ByteArray) (w : World) (h : command_word.f a0 = some r) :
  Calls Tryd.prog 23 #[.int .i64 a0] w fun e w' => e = .returned (.string r) ∧ Drawn0 w w' := by
 have H : (if a0 = 1 then (some (⟨#[83, 69, 84]⟩ : ByteArray)) else (if a0 = 2 then (some (⟨#[67, 76, 69, 65, 82]⟩ : ByteArray)) else (if a0 = 3 then (some (⟨#[70, 73, 76, 76]⟩ : ByteArray)) else (if a0 = 4 then (some (⟨#[71, 69, 84]⟩ : ByteArray)) else (if a0 = 5 then (some (⟨#[71, 69, 84, 70, 79, 82, 77, 85, 76, 65]⟩ : ByteArray)) else (if a0 = 6 then (some (⟨#[86, 73, 69, 87]⟩ : ByteArray)) else (if a0 = 7 then (some (⟨#[82, 69, 86]⟩ : ByteArray)) else (if a0 = 8 then (some (⟨#[67, 72, 65, 78, 71, 69, 83]⟩ : ByteArray)) else (if a0 = 9 then (some (⟨#[83, 84, 65, 84, 83]⟩ : ByteArray)) else (if a0 = 10 then (some (⟨#[67, 79, 83, 84]⟩ : ByteArray)) else (some (⟨#[]⟩ : ByteArray)))))))))))) = some r := h
 clear h
 by_cases c2 : a0 = 1
 ·rw [if_pos c2] at H; have ⟨c2b0,c2b1⟩ := e1_ c2; clear c2; obtain rfl := Option.some.inj H
  go_enter Tryd.func23, Tryd.ntmps23
  go_wp2
  go_ret
  exact ⟨by first | rfl | (simp; done) | (simp [*]; done), dr_⟩
 ·rw [if_neg c2] at H; have ⟨c2b0,c2b1⟩ := e0_ c2
  by_cases c3 : a0 = 2
  ·rw [if_pos c3] at H; have ⟨c3b0,c3b1⟩ := e1_ c3; clear c3; obtain rfl := Option.some.inj H
   go_enter Tryd.func23, Tryd.ntmps23
   go_wp2
   go_ret
   exact ⟨by first | rfl | (simp; done) | (simp [*]; done), dr_⟩
  ·rw [if_neg c3] at H; have ⟨c3b0,c3b1⟩ := e0_ c3
   by_cases c4 : a0 = 3
   ·rw [if_pos c4] at H; have ⟨c4b0,c4b1⟩ := e1_ c4; clear c4; obtain rfl := Option.some.inj H
    go_enter Tryd.func23, Tryd.ntmps23
    go_wp2
    go_ret
    exact ⟨by first | rfl | (simp; done) | (simp [*]; done), dr_⟩
   ·rw [if_neg c4] at H; have ⟨c4b0,c4b1⟩ := e0_ c4
    by_cases c5 : a0 = 4
    ·rw [if_pos c5] at H; have ⟨c5b0,c5b1⟩ := e1_ c5; clear c5; obtain rfl := Option.some.inj H
     go_enter Tryd.func23, Tryd.ntmps23
     go_wp2
     go_ret
     exact ⟨by first | rfl | (simp; done) | (simp [*]; done), dr_⟩
    ·rw [if_neg c5] at H; have ⟨c5b0,c5b1⟩ := e0_ c5
     by_cases c6 : a0 = 5
     ·rw [if_pos c6] at H; have ⟨c6b0,c6b1⟩ := e1_ c6; clear c6; obtain rfl := Option.some.inj H
      go_enter Tryd.func23, Tryd.ntmps23
      go_wp2
      go_ret
      exact ⟨by first | rfl | (simp; done) | (simp [*]; done), dr_⟩
     ·rw [if_neg c6] at H; have ⟨c6b0,c6b1⟩ := e0_ c6
      by_cases c7 : a0 = 6
      ·rw [if_pos c7] at H; have ⟨c7b0,c7b1⟩ := e1_ c7; clear c7; obtain rfl := Option.some.inj H
       go_enter Tryd.func23, Tryd.ntmps23
       go_wp2
       go_ret
       exact ⟨by first | rfl | (simp; done) | (simp [*]; done), dr_⟩
      ·rw [if_neg c7] at H; have ⟨c7b0,c7b1⟩ := e0_ c7
       by_cases c8 : a0 = 7
       ·rw [if_pos c8] at H; have ⟨c8b0,c8b1⟩ := e1_ c8; clear c8; obtain rfl := Option.some.inj H
        go_enter Tryd.func23, Tryd.ntmps23
        go_wp2
        go_ret
        exact ⟨by first | rfl | (simp; done) | (simp [*]; done), dr_⟩
       ·rw [if_neg c8] at H; have ⟨c8b0,c8b1⟩ := e0_ c8
        by_cases c9 : a0 = 8
        ·rw [if_pos c9] at H; have ⟨c9b0,c9b1⟩ := e1_ c9; clear c9; obtain rfl := Option.some.inj H
         go_enter Tryd.func23, Tryd.ntmps23
         go_wp2
         go_ret
         exact ⟨by first | rfl | (simp; done) | (simp [*]; done), dr_⟩
        ·rw [if_neg c9] at H; have ⟨c9b0,c9b1⟩ := e0_ c9
         by_cases c10 : a0 = 9
         ·rw [if_pos c10] at H; have ⟨c10b0,c10b1⟩ := e1_ c10; clear c10; obtain rfl := Option.some.inj H
          go_enter Tryd.func23, Tryd.ntmps23
          go_wp2
          go_ret
          exact ⟨by first | rfl | (simp; done) | (simp [*]; done), dr_⟩
         ·rw [if_neg c10] at H; have ⟨c10b0,c10b1⟩ := e0_ c10
          by_cases c11 : a0 = 10
          ·rw [if_pos c11] at H; have ⟨c11b0,c11b1⟩ := e1_ c11; clear c11; obtain rfl := Option.some.inj H
           go_enter Tryd.func23, Tryd.ntmps23
           go_wp2
           go_ret
           exact ⟨by first | rfl | (simp; done) | (simp [*]; done), dr_⟩
          ·rw [if_neg c11] at H; have ⟨c11b0,c11b1⟩ := e0_ c11; obtain rfl := Option.some.inj H
           go_enter Tryd.func23, Tryd.ntmps23
           go_wp2
           go_ret
           exact ⟨by first | rfl | (simp; done) | (simp [*]; done), dr_⟩

def label_Top.f  : Option (Int × Int) := some (15, 18446744073709551615)
theorem label_Top.calls  (r1 : Int) (r2 : Int) (w : World) (h : label_Top.f  = some (r1, r2)) :
  Calls Tryd.prog 33 #[] w fun e w' => e = .returned (.agg #[.int .i64 r1, .int .u64 r2]) ∧ Below w.heap.size w w' := by
 have hu25 := Tryd.underlying25; have HB := A_ (Below.refl w.heap.size w)
 have H : (some (15, 18446744073709551615)) = some (r1, r2) := h
 clear h
 simp only [Option.some.injEq, Prod.mk.injEq] at H
 obtain ⟨rfl, rfl⟩ := H
 go_enter Tryd.func33, Tryd.ntmps33
 go_wp2_with (first | ((with_reducible refine gd_ 0 ?_); refine be_ (N:=0) (cs := #[.int .i64 0, .int .u64 0]) (t:=25) ?_; intro g1 hg w1 hbox hb; have B1 := A_ (hbox); have GW101 := hs_ HB hg; have GE101 := hs_ HB hg; replace HB := bs_ HB hb; clear hb hbox hg; have ⟨hcz2_0,hcz2_1,hfz2_0,hfz2_1⟩ := z2_ B1))
 refine bodyPost_ret (results_cell_row rfl _ _ g1 25 #[.int .i64 15, .int .u64 18446744073709551615] (0, 0) _ rfl (by refine pp_ (cs := #[.int .i64 15, .int .u64 0]) 1 ?_ rfl; refine blk_put (cs := #[.int .i64 0, .int .u64 0]) ?_ 0 _ rfl; exact pkx B1) Tryd.underlying25 rfl (by kernel_rfl)) rfl ?_
 exact fi_ bl_

def label_May.f (a0_0 : Int) (a0_1 : Int) : Option (Bool) := if a0_0 ≥ 0 then (some (decide (a0_0 ≤ 15))) else (some false)
theorem label_May.calls (a0_0 : Int) (a0_1 : Int) (r : Bool) (w : World) (h : label_May.f a0_0 a0_1 = some r) :
  Calls Tryd.prog 45 #[.agg #[.int .i64 a0_0, .int .u64 a0_1]] w fun e w' => e = .returned (.bool r) ∧ Below w.heap.size w w' := by
 have hu25 := Tryd.underlying25; have HB := A_ (Below.refl w.heap.size w)
 have H : (if a0_0 ≥ 0 then (some (decide (a0_0 ≤ 15))) else (some false)) = some r := h
 clear h
 by_cases c2 : a0_0 ≥ 0
 ·rw [if_pos c2] at H; have c2b0 := decide_eq_true c2; clear c2; obtain rfl := Option.some.inj H
  go_enter Tryd.func45, Tryd.ntmps45
  go_wp2_with (first | ((with_reducible refine gd_ 1 ?_); refine be_ (N:=1) (cs := #[.int .i64 a0_0, .int .u64 a0_1]) (t:=25) ?_; intro g1 hg w3 hbox hb; have B1 := A_ (hbox); replace HB := bs_ HB hb; clear hb hbox hg; have hcz4_0 : w3.cell? ⟨g1, 0, none⟩ = some (.int .i64 a0_0) := bc_ B1 0 rfl; have hcz4_1 : w3.cell? ⟨g1, 1, none⟩ = some (.int .u64 a0_1) := bc_ B1 1 rfl))
  go_ret
  exact fi_ (pbx HB)
 ·rw [if_neg c2] at H; have c2b0 := decide_eq_false c2; clear c2; obtain rfl := Option.some.inj H
  go_enter Tryd.func45, Tryd.ntmps45
  go_wp2_with (first | ((with_reducible refine gd_ 1 ?_); refine be_ (N:=1) (cs := #[.int .i64 a0_0, .int .u64 a0_1]) (t:=25) ?_; intro g1 hg w5 hbox hb; have B1 := A_ (hbox); replace HB := bs_ HB hb; clear hb hbox hg; have hcz6_0 : w5.cell? ⟨g1, 0, none⟩ = some (.int .i64 a0_0) := bc_ B1 0 rfl; have hcz6_1 : w5.cell? ⟨g1, 1, none⟩ = some (.int .u64 a0_1) := bc_ B1 1 rfl))
  go_ret
  exact fi_ (pbx HB)

end Go.Proofs.YtajoebfkkknjhaaDoor.X
/-
 DERIVED: THE SHELF's CONTRACTS AT THIS DUMP, IN PLAIN WORDS (tools/lay-plain.mjs out of 'TrydShelf.lean', which tools/lay-shelf.mjs wrote): THE SAME DECLARATIONS UNDER THE SAME NAMES: 'import', 'namespace', 'open', 'def', 'theorem' AND NOTHING ELSE: no command of the shelf's: FOR A HAND-IN. Each laying: the table of numbers ('.._ren') and one theorem, a field a fact of the dump's own or the kernel's comparison; each contract: ONE APPLICATION.
-/
namespace Go.Proofs
open Go.Shelf
def Tryd.lays169_ren : Go.Shelf.Ren := ⟨fun | 169 => 53 | n => n, fun | 70 => 83 | 9 => 9 | 0 => 0 | 72 => 86 | 37 => 84 | 127 => 108 | 3 => 3 | 5 => 5 | n => n, fun | n => n⟩
theorem Tryd.lays169 : Go.Proofs.Lays.n169 Tryd.prog Tryd.lays169_ren := {
 mixed := by kernel_rfl
 f169 := Tryd.func53.trans (congrArg some (by kernel_rfl))
 t0 := Tryd.underlying0
 a0 := Tryd.isAgg0
 z0 := Tryd.sizeOf0
 v0 := Tryd.zeroValue0
 t3 := Tryd.underlying3
 a3 := Tryd.isAgg3
 z3 := Tryd.sizeOf3
 v3 := Tryd.zeroValue3
 t9 := Tryd.underlying9
 a9 := Tryd.isAgg9
 z9 := Tryd.sizeOf9
 v9 := Tryd.zeroValue9
 t37 := Tryd.underlying84
 a37 := Tryd.isAgg84
 z37 := Tryd.sizeOf84
 v37 := Tryd.zeroValue84
 t70 := Tryd.underlying83
 a70 := Tryd.isAgg83
 z70 := Tryd.sizeOf83
 v70 := Tryd.zeroValue83
 t72 := Tryd.underlying86
 a72 := Tryd.isAgg86
 z72 := Tryd.sizeOf86
 v72 := Tryd.zeroValue86
 t127 := Tryd.underlying108
 a127 := Tryd.isAgg108
 z127 := Tryd.sizeOf108
 v127 := Tryd.zeroValue108 }
theorem Tryd.Builder_Extra_169 : Builder.Extra Tryd.prog Tryd.lays169_ren := {
 sizeBuilder := by kernel_rfl
 liesBuilder := by kernel_rfl
 t5 := Tryd.underlying5
 a5 := Tryd.isAgg5
 z5 := Tryd.sizeOf5
 v5 := Tryd.zeroValue5
 infoByte := by kernel_rfl
 cellsByte := by kernel_rfl
 sizeByte := by kernel_rfl
 neB5 := by decide }
def Tryd.lays165_ren : Go.Shelf.Ren := ⟨fun | 165 => 51 | 240 => 71 | 241 => 72 | 276 => 85 | 277 => 86 | n => n, fun | 70 => 83 | 3 => 3 | 0 => 0 | 4 => 4 | 9 => 9 | 20 => 20 | 72 => 86 | 37 => 84 | 164 => 118 | 5 => 5 | n => n, fun | n => n⟩
theorem Tryd.lays165 : Go.Proofs.Lays.n165 Tryd.prog Tryd.lays165_ren := {
 mixed := by kernel_rfl
 f165 := Tryd.func51.trans (congrArg some (by kernel_rfl))
 f240 := Tryd.func71.trans (congrArg some (by kernel_rfl))
 f241 := Tryd.func72.trans (congrArg some (by kernel_rfl))
 f276 := Tryd.func85.trans (congrArg some (by kernel_rfl))
 f277 := Tryd.func86.trans (congrArg some (by kernel_rfl))
 t0 := Tryd.underlying0
 a0 := Tryd.isAgg0
 z0 := Tryd.sizeOf0
 v0 := Tryd.zeroValue0
 t3 := Tryd.underlying3
 a3 := Tryd.isAgg3
 z3 := Tryd.sizeOf3
 v3 := Tryd.zeroValue3
 t4 := Tryd.underlying4
 a4 := Tryd.isAgg4
 z4 := Tryd.sizeOf4
 v4 := Tryd.zeroValue4
 t9 := Tryd.underlying9
 a9 := Tryd.isAgg9
 z9 := Tryd.sizeOf9
 v9 := Tryd.zeroValue9
 t20 := Tryd.underlying20
 a20 := Tryd.isAgg20
 z20 := Tryd.sizeOf20
 v20 := Tryd.zeroValue20
 t37 := Tryd.underlying84
 a37 := Tryd.isAgg84
 z37 := Tryd.sizeOf84
 v37 := Tryd.zeroValue84
 t70 := Tryd.underlying83
 a70 := Tryd.isAgg83
 z70 := Tryd.sizeOf83
 v70 := Tryd.zeroValue83
 t72 := Tryd.underlying86
 a72 := Tryd.isAgg86
 z72 := Tryd.sizeOf86
 v72 := Tryd.zeroValue86
 t164 := Tryd.underlying118
 a164 := Tryd.isAgg118
 z164 := Tryd.sizeOf118
 v164 := Tryd.zeroValue118 }
theorem Tryd.Builder_Extra_165 : Builder.Extra Tryd.prog Tryd.lays165_ren := {
 sizeBuilder := by kernel_rfl
 liesBuilder := by kernel_rfl
 t5 := Tryd.underlying5
 a5 := Tryd.isAgg5
 z5 := Tryd.sizeOf5
 v5 := Tryd.zeroValue5
 infoByte := by kernel_rfl
 cellsByte := by kernel_rfl
 sizeByte := by kernel_rfl
 neB5 := by decide }
open Go.RowKit in
theorem Tryd.Builder_Grow_fresh (B b n : Nat) (w : World) (hB : B ≤ b) (hbk : w.heap[b]? = some (.cells #[.pointer none, .slice none 0 0] 86 (0, 0))) (hBw : B ≤ w.heap.size) (hn : n ≤ 281474976710656) :
  Calls Tryd.prog 51 #[.pointer (some ⟨b, 0, none⟩), .int .i64 n] w fun e w' => e = .returned (.tuple #[]) ∧ (Lib.BuilderAt 86 5 B b (.pointer (some ⟨b, 0, none⟩)) [] w' ∧ Below B w w') := Any.Builder_Grow_fresh Tryd.lays165 Tryd.Builder_Extra_165 B b n w hB hbk hBw hn
open Go.RowKit in
theorem Tryd.Builder_String_any_k (B b : Nat) (l : List UInt8) (w : World) (h : Lib.IsBuilderF 86 5 B b (Lib.byteCells l) w) (hBw : B ≤ w.heap.size) :
  Calls Tryd.prog 53 #[.pointer (some ⟨b, 0, none⟩)] w fun e w' => e = .returned (.string ⟨l.toArray⟩) ∧ (Lib.IsBuilderF 86 5 B b (Lib.byteCells l) w' ∧ Below B w w' ∧ Lib.OthersKept 5 (some b) w w') := Any.Builder_String_any_k Tryd.lays169 Tryd.Builder_Extra_169 B b l w h hBw
def Tryd.laysM171_ren : Go.Shelf.Ren := ⟨fun | 171 => 26 | 243 => 50 | 246 => 70 | 283 => 81 | 284 => 82 | 285 => 83 | 286 => 84 | 129 => 93 | 317 => 92 | 318 => 94 | 319 => 95 | 320 => 96 | 337 => 100 | 338 => 80 | n => n, fun | 3 => 3 | 9 => 9 | 2 => 2 | 4 => 4 | 171 => 114 | 0 => 0 | 53 => 23 | 37 => 84 | 5 => 5 | 173 => 116 | 212 => 127 | 51 => 121 | 20 => 20 | 213 => 128 | 46 => 97 | 232 => 134 | 233 => 125 | n => n, fun | 17 => 2 | 18 => 3 | 19 => 1 | n => n⟩
theorem Tryd.laysM171 : Go.Proofs.LaysM.n171 Tryd.prog Tryd.laysM171_ren := {
 mixed := by kernel_rfl
 f129 := Tryd.func93.trans (congrArg some (by kernel_rfl))
 f171 := Tryd.func26.trans (congrArg some (by kernel_rfl))
 f243 := Tryd.func50.trans (congrArg some (by kernel_rfl))
 f246 := Tryd.func70.trans (congrArg some (by kernel_rfl))
 f283 := Tryd.func81.trans (congrArg some (by kernel_rfl))
 f284 := Tryd.func82.trans (congrArg some (by kernel_rfl))
 f285 := Tryd.func83.trans (congrArg some (by kernel_rfl))
 f286 := Tryd.func84.trans (congrArg some (by kernel_rfl))
 f317 := Tryd.func92.trans (congrArg some (by kernel_rfl))
 f318 := Tryd.func94.trans (congrArg some (by kernel_rfl))
 f319 := Tryd.func95.trans (congrArg some (by kernel_rfl))
 f320 := Tryd.func96.trans (congrArg some (by kernel_rfl))
 f337 := Tryd.func100.trans (congrArg some (by kernel_rfl))
 f338 := Tryd.func80.trans (congrArg some (by kernel_rfl))
 t0 := Tryd.underlying0
 a0 := Tryd.isAgg0
 z0 := Tryd.sizeOf0
 v0 := Tryd.zeroValue0
 t2 := Tryd.underlying2
 a2 := Tryd.isAgg2
 z2 := Tryd.sizeOf2
 v2 := Tryd.zeroValue2
 t3 := Tryd.underlying3
 a3 := Tryd.isAgg3
 z3 := Tryd.sizeOf3
 v3 := Tryd.zeroValue3
 t4 := Tryd.underlying4
 a4 := Tryd.isAgg4
 z4 := Tryd.sizeOf4
 v4 := Tryd.zeroValue4
 t5 := Tryd.underlying5
 a5 := Tryd.isAgg5
 z5 := Tryd.sizeOf5
 v5 := Tryd.zeroValue5
 t9 := Tryd.underlying9
 a9 := Tryd.isAgg9
 z9 := Tryd.sizeOf9
 v9 := Tryd.zeroValue9
 t20 := Tryd.underlying20
 a20 := Tryd.isAgg20
 z20 := Tryd.sizeOf20
 v20 := Tryd.zeroValue20
 t37 := Tryd.underlying84
 a37 := Tryd.isAgg84
 z37 := Tryd.sizeOf84
 v37 := Tryd.zeroValue84
 t46 := Tryd.underlying97
 a46 := Tryd.isAgg97
 z46 := Tryd.sizeOf97
 v46 := Tryd.zeroValue97
 t51 := Tryd.underlying121
 a51 := Tryd.isAgg121
 z51 := Tryd.sizeOf121
 v51 := Tryd.zeroValue121
 t53 := Tryd.underlying23
 a53 := Tryd.isAgg23
 z53 := Tryd.sizeOf23
 v53 := Tryd.zeroValue23
 t171 := Tryd.underlying114
 a171 := Tryd.isAgg114
 z171 := Tryd.sizeOf114
 v171 := Tryd.zeroValue114
 t173 := Tryd.underlying116
 a173 := Tryd.isAgg116
 z173 := Tryd.sizeOf116
 v173 := Tryd.zeroValue116
 t212 := Tryd.underlying127
 a212 := Tryd.isAgg127
 z212 := Tryd.sizeOf127
 v212 := Tryd.zeroValue127
 t213 := Tryd.underlying128
 a213 := Tryd.isAgg128
 z213 := Tryd.sizeOf128
 t232 := Tryd.underlying134
 a232 := Tryd.isAgg134
 z232 := Tryd.sizeOf134
 v232 := Tryd.zeroValue134
 t233 := Tryd.underlying125
 a233 := Tryd.isAgg125
 z233 := Tryd.sizeOf125
 v233 := Tryd.zeroValue125
 g17 := by kernel_rfl
 g18 := by kernel_rfl
 g19 := by kernel_rfl
 i0 := by kernel_rfl
 i2 := by kernel_rfl
 i3 := by kernel_rfl
 i4 := by kernel_rfl
 i5 := by kernel_rfl
 i9 := by kernel_rfl
 i20 := by kernel_rfl
 i37 := by kernel_rfl
 i46 := by kernel_rfl
 i51 := by kernel_rfl
 i53 := by kernel_rfl
 i171 := by kernel_rfl
 i173 := by kernel_rfl
 i212 := by kernel_rfl
 i232 := by kernel_rfl
 i233 := by kernel_rfl
 m17 := by kernel_rfl
 m18 := by kernel_rfl
 m19 := by kernel_rfl }
open Go.RowKit Go.Sort Go.Lib in
theorem Tryd.strconv_Itoa (n : Int) (h0 : -9223372036854775808 ≤ n) (h1 : n ≤ 9223372036854775807) (w : World) (htab : Lib.TabIs Tryd.prog w "internal/strconv.uint64pow10" .u64 Lib.pow10Tab) :
  Calls Tryd.prog 26 #[.int .i64 n] w fun e w' => e = .returned (.string ⟨(Lib.itoa n).toArray⟩) ∧ ∃ k os, w' = grow (w.drewN k) os := Any.strconv_Itoa Tryd.laysM171 n h0 h1 w htab
def Tryd.lays171_ren : Go.Shelf.Ren := ⟨fun | 171 => 26 | 243 => 50 | 246 => 70 | 283 => 81 | 284 => 82 | 285 => 83 | 286 => 84 | 129 => 93 | 317 => 92 | 318 => 94 | 319 => 95 | 320 => 96 | 337 => 100 | 338 => 80 | n => n, fun | 3 => 3 | 9 => 9 | 2 => 2 | 4 => 4 | 171 => 114 | 0 => 0 | 53 => 23 | 37 => 84 | 5 => 5 | 173 => 116 | 212 => 127 | 51 => 121 | 20 => 20 | 213 => 128 | 46 => 97 | 232 => 134 | 233 => 125 | n => n, fun | 17 => 2 | 18 => 3 | 19 => 1 | n => n⟩
theorem Tryd.lays171 : Go.Proofs.Lays.n171 Tryd.prog Tryd.lays171_ren := {
 mixed := by kernel_rfl
 f129 := Tryd.func93.trans (congrArg some (by kernel_rfl))
 f171 := Tryd.func26.trans (congrArg some (by kernel_rfl))
 f243 := Tryd.func50.trans (congrArg some (by kernel_rfl))
 f246 := Tryd.func70.trans (congrArg some (by kernel_rfl))
 f283 := Tryd.func81.trans (congrArg some (by kernel_rfl))
 f284 := Tryd.func82.trans (congrArg some (by kernel_rfl))
 f285 := Tryd.func83.trans (congrArg some (by kernel_rfl))
 f286 := Tryd.func84.trans (congrArg some (by kernel_rfl))
 f317 := Tryd.func92.trans (congrArg some (by kernel_rfl))
 f318 := Tryd.func94.trans (congrArg some (by kernel_rfl))
 f319 := Tryd.func95.trans (congrArg some (by kernel_rfl))
 f320 := Tryd.func96.trans (congrArg some (by kernel_rfl))
 f337 := Tryd.func100.trans (congrArg some (by kernel_rfl))
 f338 := Tryd.func80.trans (congrArg some (by kernel_rfl))
 t0 := Tryd.underlying0
 a0 := Tryd.isAgg0
 z0 := Tryd.sizeOf0
 v0 := Tryd.zeroValue0
 t2 := Tryd.underlying2
 a2 := Tryd.isAgg2
 z2 := Tryd.sizeOf2
 v2 := Tryd.zeroValue2
 t3 := Tryd.underlying3
 a3 := Tryd.isAgg3
 z3 := Tryd.sizeOf3
 v3 := Tryd.zeroValue3
 t4 := Tryd.underlying4
 a4 := Tryd.isAgg4
 z4 := Tryd.sizeOf4
 v4 := Tryd.zeroValue4
 t5 := Tryd.underlying5
 a5 := Tryd.isAgg5
 z5 := Tryd.sizeOf5
 v5 := Tryd.zeroValue5
 t9 := Tryd.underlying9
 a9 := Tryd.isAgg9
 z9 := Tryd.sizeOf9
 v9 := Tryd.zeroValue9
 t20 := Tryd.underlying20
 a20 := Tryd.isAgg20
 z20 := Tryd.sizeOf20
 v20 := Tryd.zeroValue20
 t37 := Tryd.underlying84
 a37 := Tryd.isAgg84
 z37 := Tryd.sizeOf84
 v37 := Tryd.zeroValue84
 t46 := Tryd.underlying97
 a46 := Tryd.isAgg97
 z46 := Tryd.sizeOf97
 v46 := Tryd.zeroValue97
 t51 := Tryd.underlying121
 a51 := Tryd.isAgg121
 z51 := Tryd.sizeOf121
 v51 := Tryd.zeroValue121
 t53 := Tryd.underlying23
 a53 := Tryd.isAgg23
 z53 := Tryd.sizeOf23
 v53 := Tryd.zeroValue23
 t171 := Tryd.underlying114
 a171 := Tryd.isAgg114
 z171 := Tryd.sizeOf114
 v171 := Tryd.zeroValue114
 t173 := Tryd.underlying116
 a173 := Tryd.isAgg116
 z173 := Tryd.sizeOf116
 v173 := Tryd.zeroValue116
 t212 := Tryd.underlying127
 a212 := Tryd.isAgg127
 z212 := Tryd.sizeOf127
 v212 := Tryd.zeroValue127
 t213 := Tryd.underlying128
 a213 := Tryd.isAgg128
 z213 := Tryd.sizeOf128
 t232 := Tryd.underlying134
 a232 := Tryd.isAgg134
 z232 := Tryd.sizeOf134
 v232 := Tryd.zeroValue134
 t233 := Tryd.underlying125
 a233 := Tryd.isAgg125
 z233 := Tryd.sizeOf125
 v233 := Tryd.zeroValue125
 g17 := by kernel_rfl
 g18 := by kernel_rfl
 g19 := by kernel_rfl }
open Go.RowKit Go.Sort Go.Lib in
theorem Tryd.strconv_Itoa_small (i : Nat) (hi : i < 100) (w : World) :
  Calls Tryd.prog 26 #[.int .i64 i] w fun e w' => e = .returned (.string ⟨(Lib.decDigits i).toArray⟩) ∧ w' = w := Any.strconv_Itoa_small Tryd.lays171 i hi w
def Tryd.lays219_ren : Go.Shelf.Ren := ⟨fun | 219 => 58 | 217 => 74 | 225 => 75 | 224 => 76 | 267 => 77 | 266 => 87 | 314 => 88 | n => n, fun | 9 => 9 | 3 => 3 | 4 => 4 | 5 => 5 | 46 => 97 | 146 => 122 | 51 => 121 | n => n, fun | 1 => 0 | n => n⟩
theorem Tryd.lays219 : Go.Proofs.Lays.n219 Tryd.prog Tryd.lays219_ren := {
 mixed := by kernel_rfl
 f217 := Tryd.func74.trans (congrArg some (by kernel_rfl))
 f219 := Tryd.func58.trans (congrArg some (by kernel_rfl))
 f224 := Tryd.func76.trans (congrArg some (by kernel_rfl))
 f225 := Tryd.func75.trans (congrArg some (by kernel_rfl))
 f266 := Tryd.func87.trans (congrArg some (by kernel_rfl))
 f267 := Tryd.func77.trans (congrArg some (by kernel_rfl))
 f314 := Tryd.func88.trans (congrArg some (by kernel_rfl))
 t3 := Tryd.underlying3
 a3 := Tryd.isAgg3
 z3 := Tryd.sizeOf3
 v3 := Tryd.zeroValue3
 t4 := Tryd.underlying4
 a4 := Tryd.isAgg4
 z4 := Tryd.sizeOf4
 v4 := Tryd.zeroValue4
 t5 := Tryd.underlying5
 a5 := Tryd.isAgg5
 z5 := Tryd.sizeOf5
 v5 := Tryd.zeroValue5
 t9 := Tryd.underlying9
 a9 := Tryd.isAgg9
 z9 := Tryd.sizeOf9
 v9 := Tryd.zeroValue9
 t46 := Tryd.underlying97
 a46 := Tryd.isAgg97
 z46 := Tryd.sizeOf97
 v46 := Tryd.zeroValue97
 t51 := Tryd.underlying121
 a51 := Tryd.isAgg121
 z51 := Tryd.sizeOf121
 v51 := Tryd.zeroValue121
 t146 := Tryd.underlying122
 a146 := Tryd.isAgg122
 z146 := Tryd.sizeOf122
 v146 := Tryd.zeroValue122
 g1 := by kernel_rfl }
open Go.RowKit Go.Lib in
theorem Tryd.stringslite_Index_one (s : ByteArray) (c : UInt8) (w : World) :
  Calls Tryd.prog 58 #[.string s, .string ⟨#[c]⟩] w fun e w' => e = .returned (.int .i64 (Lib.indexByte s.data.toList c)) ∧ w' = w := Any.stringslite_Index_one Tryd.lays219 s c w
open Go.RowKit Go.Lib in
theorem Tryd.stringslite_Index (s sub : ByteArray) (m : Int) (w : World) (hs : s.size < 4294967281) (hm : w.cell? ⟨0, 0, none⟩ = some (.int .i64 m)) :
  Calls Tryd.prog 58 #[.string s, .string sub] w fun e w' => e = .returned (.int .i64 (Lib.index s.data.toList sub.data.toList)) ∧ w' = w := Any.stringslite_Index Tryd.lays219 s sub m w hs hm
def Tryd.lays143_ren : Go.Shelf.Ren := ⟨fun | 143 => 91 | 219 => 58 | 217 => 74 | 225 => 75 | 224 => 76 | 267 => 77 | 266 => 87 | 314 => 88 | n => n, fun | 9 => 9 | 3 => 3 | 4 => 4 | 5 => 5 | 46 => 97 | 146 => 122 | 51 => 121 | n => n, fun | 1 => 0 | n => n⟩
theorem Tryd.lays143 : Go.Proofs.Lays.n143 Tryd.prog Tryd.lays143_ren := {
 mixed := by kernel_rfl
 f143 := Tryd.func91.trans (congrArg some (by kernel_rfl))
 f217 := Tryd.func74.trans (congrArg some (by kernel_rfl))
 f219 := Tryd.func58.trans (congrArg some (by kernel_rfl))
 f224 := Tryd.func76.trans (congrArg some (by kernel_rfl))
 f225 := Tryd.func75.trans (congrArg some (by kernel_rfl))
 f266 := Tryd.func87.trans (congrArg some (by kernel_rfl))
 f267 := Tryd.func77.trans (congrArg some (by kernel_rfl))
 f314 := Tryd.func88.trans (congrArg some (by kernel_rfl))
 t3 := Tryd.underlying3
 a3 := Tryd.isAgg3
 z3 := Tryd.sizeOf3
 v3 := Tryd.zeroValue3
 t4 := Tryd.underlying4
 a4 := Tryd.isAgg4
 z4 := Tryd.sizeOf4
 v4 := Tryd.zeroValue4
 t5 := Tryd.underlying5
 a5 := Tryd.isAgg5
 z5 := Tryd.sizeOf5
 v5 := Tryd.zeroValue5
 t9 := Tryd.underlying9
 a9 := Tryd.isAgg9
 z9 := Tryd.sizeOf9
 v9 := Tryd.zeroValue9
 t46 := Tryd.underlying97
 a46 := Tryd.isAgg97
 z46 := Tryd.sizeOf97
 v46 := Tryd.zeroValue97
 t51 := Tryd.underlying121
 a51 := Tryd.isAgg121
 z51 := Tryd.sizeOf121
 v51 := Tryd.zeroValue121
 t146 := Tryd.underlying122
 a146 := Tryd.isAgg122
 z146 := Tryd.sizeOf122
 v146 := Tryd.zeroValue122
 g1 := by kernel_rfl }
open Go.RowKit Go.Lib in
theorem Tryd.strings_Index_one (s : ByteArray) (c : UInt8) (w : World) :
  Calls Tryd.prog 91 #[.string s, .string ⟨#[c]⟩] w fun e w' => e = .returned (.int .i64 (Lib.indexByte s.data.toList c)) ∧ w' = w := Any.strings_Index_one Tryd.lays143 s c w
def Tryd.lays220_ren : Go.Shelf.Ren := ⟨fun | 220 => 32 | 219 => 58 | 217 => 74 | 225 => 75 | 224 => 76 | 267 => 77 | 266 => 87 | 314 => 88 | n => n, fun | 9 => 9 | 4 => 4 | 3 => 3 | 5 => 5 | 46 => 97 | 146 => 122 | 51 => 121 | n => n, fun | 1 => 0 | n => n⟩
theorem Tryd.lays220 : Go.Proofs.Lays.n220 Tryd.prog Tryd.lays220_ren := {
 mixed := by kernel_rfl
 f217 := Tryd.func74.trans (congrArg some (by kernel_rfl))
 f219 := Tryd.func58.trans (congrArg some (by kernel_rfl))
 f220 := Tryd.func32.trans (congrArg some (by kernel_rfl))
 f224 := Tryd.func76.trans (congrArg some (by kernel_rfl))
 f225 := Tryd.func75.trans (congrArg some (by kernel_rfl))
 f266 := Tryd.func87.trans (congrArg some (by kernel_rfl))
 f267 := Tryd.func77.trans (congrArg some (by kernel_rfl))
 f314 := Tryd.func88.trans (congrArg some (by kernel_rfl))
 t3 := Tryd.underlying3
 a3 := Tryd.isAgg3
 z3 := Tryd.sizeOf3
 v3 := Tryd.zeroValue3
 t4 := Tryd.underlying4
 a4 := Tryd.isAgg4
 z4 := Tryd.sizeOf4
 v4 := Tryd.zeroValue4
 t5 := Tryd.underlying5
 a5 := Tryd.isAgg5
 z5 := Tryd.sizeOf5
 v5 := Tryd.zeroValue5
 t9 := Tryd.underlying9
 a9 := Tryd.isAgg9
 z9 := Tryd.sizeOf9
 v9 := Tryd.zeroValue9
 t46 := Tryd.underlying97
 a46 := Tryd.isAgg97
 z46 := Tryd.sizeOf97
 v46 := Tryd.zeroValue97
 t51 := Tryd.underlying121
 a51 := Tryd.isAgg121
 z51 := Tryd.sizeOf121
 v51 := Tryd.zeroValue121
 t146 := Tryd.underlying122
 a146 := Tryd.isAgg122
 z146 := Tryd.sizeOf122
 v146 := Tryd.zeroValue122
 g1 := by kernel_rfl }
open Go.RowKit Go.Lib in
theorem Tryd.stringslite_Cut (s sep : ByteArray) (m : Int) (w : World) (hs : s.size < 4294967281) (hm : w.cell? ⟨0, 0, none⟩ = some (.int .i64 m)) :
  Calls Tryd.prog 32 #[.string s, .string sep] w fun e w' => e = .returned (.tuple #[.string ⟨(Lib.cut s.data.toList sep.data.toList).1.toArray⟩, .string ⟨(Lib.cut s.data.toList sep.data.toList).2.1.toArray⟩, .bool (Lib.cut s.data.toList sep.data.toList).2.2]) ∧ ∃ n, w' = w.drewN n := Any.stringslite_Cut Tryd.lays220 s sep m w hs hm
def Tryd.lays145_ren : Go.Shelf.Ren := ⟨fun | 145 => 11 | 220 => 32 | 219 => 58 | 217 => 74 | 225 => 75 | 224 => 76 | 267 => 77 | 266 => 87 | 314 => 88 | n => n, fun | 9 => 9 | 4 => 4 | 59 => 41 | 3 => 3 | 5 => 5 | 46 => 97 | 146 => 122 | 51 => 121 | n => n, fun | 1 => 0 | n => n⟩
theorem Tryd.lays145 : Go.Proofs.Lays.n145 Tryd.prog Tryd.lays145_ren := {
 mixed := by kernel_rfl
 f145 := Tryd.func11.trans (congrArg some (by kernel_rfl))
 f217 := Tryd.func74.trans (congrArg some (by kernel_rfl))
 f219 := Tryd.func58.trans (congrArg some (by kernel_rfl))
 f220 := Tryd.func32.trans (congrArg some (by kernel_rfl))
 f224 := Tryd.func76.trans (congrArg some (by kernel_rfl))
 f225 := Tryd.func75.trans (congrArg some (by kernel_rfl))
 f266 := Tryd.func87.trans (congrArg some (by kernel_rfl))
 f267 := Tryd.func77.trans (congrArg some (by kernel_rfl))
 f314 := Tryd.func88.trans (congrArg some (by kernel_rfl))
 t3 := Tryd.underlying3
 a3 := Tryd.isAgg3
 z3 := Tryd.sizeOf3
 v3 := Tryd.zeroValue3
 t4 := Tryd.underlying4
 a4 := Tryd.isAgg4
 z4 := Tryd.sizeOf4
 v4 := Tryd.zeroValue4
 t5 := Tryd.underlying5
 a5 := Tryd.isAgg5
 z5 := Tryd.sizeOf5
 v5 := Tryd.zeroValue5
 t9 := Tryd.underlying9
 a9 := Tryd.isAgg9
 z9 := Tryd.sizeOf9
 v9 := Tryd.zeroValue9
 t46 := Tryd.underlying97
 a46 := Tryd.isAgg97
 z46 := Tryd.sizeOf97
 v46 := Tryd.zeroValue97
 t51 := Tryd.underlying121
 a51 := Tryd.isAgg121
 z51 := Tryd.sizeOf121
 v51 := Tryd.zeroValue121
 t59 := Tryd.underlying41
 a59 := Tryd.isAgg41
 z59 := Tryd.sizeOf41
 v59 := Tryd.zeroValue41
 t146 := Tryd.underlying122
 a146 := Tryd.isAgg122
 z146 := Tryd.sizeOf122
 v146 := Tryd.zeroValue122
 g1 := by kernel_rfl }
open Go.RowKit Go.Lib in
theorem Tryd.strings_Cut (s sep : ByteArray) (m : Int) (w : World) (hs : s.size < 4294967281) (hm : w.cell? ⟨0, 0, none⟩ = some (.int .i64 m)) :
  Calls Tryd.prog 11 #[.string s, .string sep] w fun e w' => e = .returned (.tuple #[.string ⟨(Lib.cut s.data.toList sep.data.toList).1.toArray⟩, .string ⟨(Lib.cut s.data.toList sep.data.toList).2.1.toArray⟩, .bool (Lib.cut s.data.toList sep.data.toList).2.2]) ∧ ∃ n, w' = w.drewN n := Any.strings_Cut Tryd.lays145 s sep m w hs hm
def Tryd.lays138_ren : Go.Shelf.Ren := ⟨fun | 138 => 90 | 195 => 97 | 218 => 99 | 143 => 91 | 219 => 58 | 217 => 74 | 225 => 75 | 224 => 76 | 267 => 77 | 266 => 87 | 314 => 88 | n => n, fun | 9 => 9 | 3 => 3 | 4 => 4 | 5 => 5 | 0 => 0 | 46 => 97 | 146 => 122 | 51 => 121 | n => n, fun | 1 => 0 | n => n⟩
theorem Tryd.lays138 : Go.Proofs.Lays.n138 Tryd.prog Tryd.lays138_ren := {
 mixed := by kernel_rfl
 f138 := Tryd.func90.trans (congrArg some (by kernel_rfl))
 f143 := Tryd.func91.trans (congrArg some (by kernel_rfl))
 f195 := Tryd.func97.trans (congrArg some (by kernel_rfl))
 f217 := Tryd.func74.trans (congrArg some (by kernel_rfl))
 f218 := Tryd.func99.trans (congrArg some (by kernel_rfl))
 f219 := Tryd.func58.trans (congrArg some (by kernel_rfl))
 f224 := Tryd.func76.trans (congrArg some (by kernel_rfl))
 f225 := Tryd.func75.trans (congrArg some (by kernel_rfl))
 f266 := Tryd.func87.trans (congrArg some (by kernel_rfl))
 f267 := Tryd.func77.trans (congrArg some (by kernel_rfl))
 f314 := Tryd.func88.trans (congrArg some (by kernel_rfl))
 t0 := Tryd.underlying0
 a0 := Tryd.isAgg0
 z0 := Tryd.sizeOf0
 v0 := Tryd.zeroValue0
 t3 := Tryd.underlying3
 a3 := Tryd.isAgg3
 z3 := Tryd.sizeOf3
 v3 := Tryd.zeroValue3
 t4 := Tryd.underlying4
 a4 := Tryd.isAgg4
 z4 := Tryd.sizeOf4
 v4 := Tryd.zeroValue4
 t5 := Tryd.underlying5
 a5 := Tryd.isAgg5
 z5 := Tryd.sizeOf5
 v5 := Tryd.zeroValue5
 t9 := Tryd.underlying9
 a9 := Tryd.isAgg9
 z9 := Tryd.sizeOf9
 v9 := Tryd.zeroValue9
 t46 := Tryd.underlying97
 a46 := Tryd.isAgg97
 z46 := Tryd.sizeOf97
 v46 := Tryd.zeroValue97
 t51 := Tryd.underlying121
 a51 := Tryd.isAgg121
 z51 := Tryd.sizeOf121
 v51 := Tryd.zeroValue121
 t146 := Tryd.underlying122
 a146 := Tryd.isAgg122
 z146 := Tryd.sizeOf122
 v146 := Tryd.zeroValue122
 g1 := by kernel_rfl }
open Go.RowKit Go.Lib in
theorem Tryd.strings_Count_one (s : ByteArray) (c : UInt8) (w : World) :
  Calls Tryd.prog 90 #[.string s, .string ⟨#[c]⟩] w fun e w' => e = .returned (.int .i64 (Lib.countByte s.data.toList c)) ∧ w' = w := Any.strings_Count_one Tryd.lays138 s c w
def Tryd.lays221_ren : Go.Shelf.Ren := ⟨fun | 221 => 78 | 268 => 89 | 138 => 90 | 143 => 91 | 195 => 97 | 197 => 98 | 218 => 99 | 219 => 58 | 260 => 101 | 217 => 74 | 225 => 75 | 224 => 76 | 267 => 77 | 266 => 87 | 314 => 88 | n => n, fun | 9 => 9 | 3 => 3 | 31 => 48 | 4 => 4 | 0 => 0 | 105 => 131 | 21 => 21 | 5 => 5 | 46 => 97 | 119 => 135 | 139 => 138 | 138 => 137 | 146 => 122 | 51 => 121 | n => n, fun | 1 => 0 | 3 => 4 | 4 => 5 | n => n⟩
theorem Tryd.lays221 : Go.Proofs.Lays.n221 Tryd.prog Tryd.lays221_ren := {
 mixed := by kernel_rfl
 f138 := Tryd.func90.trans (congrArg some (by kernel_rfl))
 f143 := Tryd.func91.trans (congrArg some (by kernel_rfl))
 f195 := Tryd.func97.trans (congrArg some (by kernel_rfl))
 f197 := Tryd.func98.trans (congrArg some (by kernel_rfl))
 f217 := Tryd.func74.trans (congrArg some (by kernel_rfl))
 f218 := Tryd.func99.trans (congrArg some (by kernel_rfl))
 f219 := Tryd.func58.trans (congrArg some (by kernel_rfl))
 f221 := Tryd.func78.trans (congrArg some (by kernel_rfl))
 f224 := Tryd.func76.trans (congrArg some (by kernel_rfl))
 f225 := Tryd.func75.trans (congrArg some (by kernel_rfl))
 f260 := Tryd.func101.trans (congrArg some (by kernel_rfl))
 f266 := Tryd.func87.trans (congrArg some (by kernel_rfl))
 f267 := Tryd.func77.trans (congrArg some (by kernel_rfl))
 f268 := Tryd.func89.trans (congrArg some (by kernel_rfl))
 f314 := Tryd.func88.trans (congrArg some (by kernel_rfl))
 t0 := Tryd.underlying0
 a0 := Tryd.isAgg0
 z0 := Tryd.sizeOf0
 v0 := Tryd.zeroValue0
 t3 := Tryd.underlying3
 a3 := Tryd.isAgg3
 z3 := Tryd.sizeOf3
 v3 := Tryd.zeroValue3
 t4 := Tryd.underlying4
 a4 := Tryd.isAgg4
 z4 := Tryd.sizeOf4
 v4 := Tryd.zeroValue4
 t5 := Tryd.underlying5
 a5 := Tryd.isAgg5
 z5 := Tryd.sizeOf5
 v5 := Tryd.zeroValue5
 t9 := Tryd.underlying9
 a9 := Tryd.isAgg9
 z9 := Tryd.sizeOf9
 v9 := Tryd.zeroValue9
 t21 := Tryd.underlying21
 a21 := Tryd.isAgg21
 z21 := Tryd.sizeOf21
 v21 := Tryd.zeroValue21
 t31 := Tryd.underlying48
 a31 := Tryd.isAgg48
 z31 := Tryd.sizeOf48
 v31 := Tryd.zeroValue48
 t46 := Tryd.underlying97
 a46 := Tryd.isAgg97
 z46 := Tryd.sizeOf97
 v46 := Tryd.zeroValue97
 t51 := Tryd.underlying121
 a51 := Tryd.isAgg121
 z51 := Tryd.sizeOf121
 v51 := Tryd.zeroValue121
 t105 := Tryd.underlying131
 a105 := Tryd.isAgg131
 z105 := Tryd.sizeOf131
 v105 := Tryd.zeroValue131
 t119 := Tryd.underlying135
 a119 := Tryd.isAgg135
 z119 := Tryd.sizeOf135
 t138 := Tryd.underlying137
 a138 := Tryd.isAgg137
 z138 := Tryd.sizeOf137
 v138 := Tryd.zeroValue137
 t139 := Tryd.underlying138
 a139 := Tryd.isAgg138
 z139 := Tryd.sizeOf138
 v139 := Tryd.zeroValue138
 t146 := Tryd.underlying122
 a146 := Tryd.isAgg122
 z146 := Tryd.sizeOf122
 v146 := Tryd.zeroValue122
 g1 := by kernel_rfl
 g3 := by kernel_rfl
 g4 := by kernel_rfl }
def Tryd.lays146_ren : Go.Shelf.Ren := ⟨fun | 146 => 59 | 221 => 78 | 268 => 89 | 138 => 90 | 143 => 91 | 195 => 97 | 197 => 98 | 218 => 99 | 219 => 58 | 260 => 101 | 217 => 74 | 225 => 75 | 224 => 76 | 267 => 77 | 266 => 87 | 314 => 88 | n => n, fun | 9 => 9 | 31 => 48 | 3 => 3 | 4 => 4 | 0 => 0 | 105 => 131 | 21 => 21 | 5 => 5 | 46 => 97 | 119 => 135 | 139 => 138 | 138 => 137 | 146 => 122 | 51 => 121 | n => n, fun | 1 => 0 | 3 => 4 | 4 => 5 | n => n⟩
theorem Tryd.lays146 : Go.Proofs.Lays.n146 Tryd.prog Tryd.lays146_ren := {
 mixed := by kernel_rfl
 f138 := Tryd.func90.trans (congrArg some (by kernel_rfl))
 f143 := Tryd.func91.trans (congrArg some (by kernel_rfl))
 f146 := Tryd.func59.trans (congrArg some (by kernel_rfl))
 f195 := Tryd.func97.trans (congrArg some (by kernel_rfl))
 f197 := Tryd.func98.trans (congrArg some (by kernel_rfl))
 f217 := Tryd.func74.trans (congrArg some (by kernel_rfl))
 f218 := Tryd.func99.trans (congrArg some (by kernel_rfl))
 f219 := Tryd.func58.trans (congrArg some (by kernel_rfl))
 f221 := Tryd.func78.trans (congrArg some (by kernel_rfl))
 f224 := Tryd.func76.trans (congrArg some (by kernel_rfl))
 f225 := Tryd.func75.trans (congrArg some (by kernel_rfl))
 f260 := Tryd.func101.trans (congrArg some (by kernel_rfl))
 f266 := Tryd.func87.trans (congrArg some (by kernel_rfl))
 f267 := Tryd.func77.trans (congrArg some (by kernel_rfl))
 f268 := Tryd.func89.trans (congrArg some (by kernel_rfl))
 f314 := Tryd.func88.trans (congrArg some (by kernel_rfl))
 t0 := Tryd.underlying0
 a0 := Tryd.isAgg0
 z0 := Tryd.sizeOf0
 v0 := Tryd.zeroValue0
 t3 := Tryd.underlying3
 a3 := Tryd.isAgg3
 z3 := Tryd.sizeOf3
 v3 := Tryd.zeroValue3
 t4 := Tryd.underlying4
 a4 := Tryd.isAgg4
 z4 := Tryd.sizeOf4
 v4 := Tryd.zeroValue4
 t5 := Tryd.underlying5
 a5 := Tryd.isAgg5
 z5 := Tryd.sizeOf5
 v5 := Tryd.zeroValue5
 t9 := Tryd.underlying9
 a9 := Tryd.isAgg9
 z9 := Tryd.sizeOf9
 v9 := Tryd.zeroValue9
 t21 := Tryd.underlying21
 a21 := Tryd.isAgg21
 z21 := Tryd.sizeOf21
 v21 := Tryd.zeroValue21
 t31 := Tryd.underlying48
 a31 := Tryd.isAgg48
 z31 := Tryd.sizeOf48
 v31 := Tryd.zeroValue48
 t46 := Tryd.underlying97
 a46 := Tryd.isAgg97
 z46 := Tryd.sizeOf97
 v46 := Tryd.zeroValue97
 t51 := Tryd.underlying121
 a51 := Tryd.isAgg121
 z51 := Tryd.sizeOf121
 v51 := Tryd.zeroValue121
 t105 := Tryd.underlying131
 a105 := Tryd.isAgg131
 z105 := Tryd.sizeOf131
 v105 := Tryd.zeroValue131
 t119 := Tryd.underlying135
 a119 := Tryd.isAgg135
 z119 := Tryd.sizeOf135
 t138 := Tryd.underlying137
 a138 := Tryd.isAgg137
 z138 := Tryd.sizeOf137
 v138 := Tryd.zeroValue137
 t139 := Tryd.underlying138
 a139 := Tryd.isAgg138
 z139 := Tryd.sizeOf138
 v139 := Tryd.zeroValue138
 t146 := Tryd.underlying122
 a146 := Tryd.isAgg122
 z146 := Tryd.sizeOf122
 v146 := Tryd.zeroValue122
 g1 := by kernel_rfl
 g3 := by kernel_rfl
 g4 := by kernel_rfl }
open Go.RowKit Go.Lib in
theorem Tryd.strings_Split (s sep : ByteArray) (m : Int) (w : World) (hs : s.size < 4294967281) (hm : w.cell? ⟨0, 0, none⟩ = some (.int .i64 m)) (h1 : 1 ≤ sep.size) :
  Calls Tryd.prog 59 #[.string s, .string sep] w fun e w' =>
   e = .returned (.slice (some ⟨w.heap.size, 0, none⟩) (Lib.countB s sep + 1) (Lib.countB s sep + 1)) ∧ w' = w.alloc (.cells ((Lib.splitB sep 0 (Lib.countB s sep) s).map Value.string).toArray 9) := Any.strings_Split Tryd.lays146 (by kernel_rfl) s sep m w hs hm h1
end Go.Proofs
/- The contract of strconv.Itoa, out of the shelf's: where the table is laid. -/
set_option linter.unusedVariables false
namespace Go.Proofs.YtajoebfkkknjhaaDoor.X
open Go.RowKit Go.Proofs.YtajoebfkkknjhaaDoorW.PrintWords Go.Proofs.YtajoebfkkknjhaaDoorW.PrintLast Go.Proofs.YtajoebfkkknjhaaDoorW.PrintMore
open Go.Sort
def strconv_Itoa.f (a0 : Int) : Option ByteArray := if -9223372036854775808 ≤ a0 ∧ a0 ≤ 9223372036854775807 then some ⟨(Lib.itoa a0).toArray⟩ else none
theorem strconv_Itoa.calls (a0 : Int) (r : ByteArray) (w : World) (hT : Aside0 (Tab w)) (h : strconv_Itoa.f a0 = some r) :
  Calls Tryd.prog 26 #[.int .i64 a0] w fun e w' => e = .returned (.string r) ∧ Below w.heap.size w w' := by
 unfold strconv_Itoa.f at h
 by_cases hs : -9223372036854775808 ≤ a0 ∧ a0 ≤ 9223372036854775807
 ·rw [if_pos hs] at h
  obtain rfl := Option.some.inj h
  refine (Tryd.strconv_Itoa a0 hs.1 hs.2 w hT.out.pow).mono ?_
  rintro e w' ⟨rfl, k, os, rfl⟩
  refine ⟨rfl, ?_⟩
  have h1 : Below w.heap.size w (w.drewN k) := (Drawn0.refl w).step k |>.below
  have h2 : Below (w.drewN k).heap.size (w.drewN k) (grow (w.drewN k) os) := ⟨rfl, rfl, rfl, by simp [grow], fun i hi => by simp only [grow]; exact Array.getElem?_append_left hi⟩
  exact h1.trans h2
 ·rw [if_neg hs] at h
  cases h
end Go.Proofs.YtajoebfkkknjhaaDoor.X
/- The contracts of strings.Builder's WriteByte and WriteString, for a program in which copyCheck's last arm is refused: the shelf's proofs, walked at this program. -/
set_option linter.unusedVariables false
namespace Go.Proofs.YtajoebfkkknjhaaDoor.X
open Go.RowKit Go.Shelf Go.Proofs.YtajoebfkkknjhaaDoorW.PrintWords Go.Proofs.YtajoebfkkknjhaaDoorW.PrintLast Go.Proofs.YtajoebfkkknjhaaDoorW.PrintMore
theorem bldSize : (Tryd.prog.info? 86).map (·.size) = some 2 := by kernel_rfl
theorem bldLies : liesAt Tryd.prog Tryd.prog.depth 86 (2 / Tryd.prog.cellsOf 86) 0 86 1 = true := by kernel_rfl
theorem bldByte : (Tryd.prog.info? 5).map (fun i => (i.zero, i.size, i.bytes)) = some (some (.int .u8 0), 1, 1) := by kernel_rfl
theorem bld_check_used (b : Nat) (w : World) (h0 : w.cell? ⟨b, 0, none⟩ = some (.pointer (some ⟨b, 0, none⟩))) :
  Calls Tryd.prog 71 #[.pointer (some ⟨b, 0, none⟩)] w fun e w' => e = .returned (.tuple #[]) ∧ w' = w := by
 obtain ⟨j, hj, _⟩ := Option.map_eq_some_iff.1 bldSize
 go_enter Tryd.func71, Tryd.ntmps71
 go_wp2
 rw [Lib.run_neq_ptr_same w _ Tryd.underlying83 hj]
 go_wp2
 go_end0
 exact ⟨rfl, rfl⟩
theorem bld_check_fresh (b : Nat) (w : World) (h0 : w.cell? ⟨b, 0, none⟩ = some (.pointer none)) (hsh : w.shape? b = some (86, 2)) (hfz : w.frozen? ⟨b, 0, none⟩ = false) :
  Calls Tryd.prog 71 #[.pointer (some ⟨b, 0, none⟩)] w fun e w' => e = .returned (.tuple #[]) ∧ w' = w.setCell ⟨b, 0, none⟩ (.pointer (some ⟨b, 0, none⟩)) := by
 obtain ⟨j, hj, hjs⟩ := Option.map_eq_some_iff.1 bldSize
 go_enter Tryd.func71, Tryd.ntmps71
 go_wp2
 rw [Lib.run_to_unsafe w ⟨b, 0, none⟩ Tryd.underlying83 Tryd.underlying118 hj (by rw [hjs]; decide) hsh (Nat.zero_lt_succ 1)]
 simp only [Result.andThen]
 rw [Oper.upon_value]
 go_wp2
 rw [run_callFunc_extern Tryd.func85 (by kernel_rfl) (by kernel_rfl) (by kernel_rfl) (e := Extern.AbiNoEscape.same) (by kernel_rfl)]
 rw [Lib.run_noEscape]
 simp only [Result.andThen]
 rw [Oper.upon_value]
 go_wp2
 rw [Lib.run_from_unsafe w ⟨b, 0, none⟩ Tryd.underlying118 Tryd.underlying83 hj hsh bldLies]
 simp only [Result.andThen]
 rw [Oper.upon_value]
 go_wp2
 go_end0
 exact ⟨rfl, rfl⟩
theorem bld_check_k (B b : Nat) (bs : List Value) (w : World) (h : Lib.IsBuilderF 86 5 B b bs w) :
  Calls Tryd.prog 71 #[.pointer (some ⟨b, 0, none⟩)] w fun e w' => e = .returned (.tuple #[]) ∧ (Lib.BuilderAtF 86 5 B b (.pointer (some ⟨b, 0, none⟩)) bs w' ∧ Below B w w' ∧ Lib.OthersKept 5 (some b) w w') := by
 rcases h with h | h
 ·refine (bld_check_fresh b w h.cell0 h.shape h.frozen0).mono ?_
  rintro e w' ⟨rfl, rfl⟩
  exact ⟨rfl, h.used _, (Below.refl B w).setCell (p := ⟨b, 0, none⟩) h.1 _, (Lib.OthersKept.refl _ _ w).setCell ⟨b, 0, none⟩ rfl _⟩
 ·refine (bld_check_used b w h.cell0).mono ?_
  rintro e w' ⟨rfl, rfl⟩
  exact ⟨rfl, h, Below.refl B _, Lib.OthersKept.refl _ _ _⟩
theorem bld_byte_k (B b : Nat) (bs : List Value) (c : Int) (w : World) (h : Lib.IsBuilderF 86 5 B b bs w) (hlen : bs.length + 1 ≤ 140737488355328) (hBw : B ≤ w.heap.size) :
  Calls Tryd.prog 69 #[.pointer (some ⟨b, 0, none⟩), .int .u8 c] w fun e w' => e = .returned .nilIface ∧ (Lib.BuilderAtF 86 5 B b (.pointer (some ⟨b, 0, none⟩)) (bs ++ [.int .u8 c]) w' ∧ Below B w w' ∧ Lib.OthersKept 5 (some b) w w') := by
 obtain ⟨i0, hi, hz0, hz1, hz2⟩ := info_parts bldByte
 have e240 : ∀ args w, (callFunc 71 args).run Tryd.prog w = .ok (.enter 71 args) w := enters_of Tryd.func71 (by kernel_rfl) rfl
 go_enter Tryd.func69, Tryd.ntmps69
 go_wp2_with (go_at_call 71; refine (bld_check_k B b bs _ h).mono ?_)
 rintro e w1 ⟨rfl, h1, hb1, hk1⟩
 obtain ⟨hB, v, hbk, hown, hne⟩ := h1
 have c0 : w1.cell? ⟨b, 0, none⟩ = some (.pointer (some ⟨b, 0, none⟩)) := by rw [Lib.cell_of_heap hbk]; rfl
 have c1 : w1.cell? ⟨b, 1, none⟩ = some v := by rw [Lib.cell_of_heap hbk]; rfl
 go_wp2_with (at_builtin; refine wpList_append_ownF _ rfl _ _ 84 rfl B 5 i0 (.int .u8 0) 1 1 Tryd.underlying84 hi hz0 hz1 hz2 rfl (by decide) _ _ _ rfl (hown.alloc _) ⟨w1.heap.size, 0, none⟩ 1 1 [.int .u8 c] rfl rfl ?c1 ?c2 ?c3 ?c4 ?c5 ?_)
 case c1 =>
  intro j u hj
  match j, hj with
  | 0, hj => simp at hj; subst hj; simp [Addr.add]
 case c2 => intro u hu; simp at hu; subst hu; rfl
 case c3 => unfold maxLen; omega
 case c4 => omega
 case c5 => have := hb1.size; simp; omega
 intro v' w2 hown' hgrow _
 have hlt : b < w1.heap.size := by
  rcases Nat.lt_or_ge b w1.heap.size with h' | h'
  ·exact h'
  ·simp [Array.getElem?_eq_none h'] at hbk
 have hb2 : w2.heap[b]? = some (.cells #[.pointer (some ⟨b, 0, none⟩), v] 86 (0, 0)) := by
  rw [hgrow.block b (by simp; omega) (fun e => hne e.symm), Lib.alloc_old w1 _ b hlt]
  exact hbk
 have d0 : w2.cell? ⟨b, 0, none⟩ = some (.pointer (some ⟨b, 0, none⟩)) := by rw [Lib.cell_of_heap hb2]; rfl
 have d1 : w2.cell? ⟨b, 1, none⟩ = some v := by rw [Lib.cell_of_heap hb2]; rfl
 have f1 : w2.frozen? ⟨b, 1, none⟩ = false := Lib.frozen_of_heap hb2 1
 obtain ⟨g, cap, rfl⟩ : ∃ g cap, v' = .slice (some ⟨g, 0, none⟩) (bs.length + 1) cap := by
  rcases hown'.2 with ⟨_, h0⟩ | ⟨g, cap, cur, fz, hv, _⟩
  ·omega
  ·exact ⟨g, cap, hv⟩
 go_wp2
 go_ret
 refine ⟨rfl, ?_, ?_, ((hk1.alloc _).grown hgrow (Lib.ownsRowF_kind (hown.alloc _))).setCell ⟨b, 1, none⟩ rfl _⟩
 ·exact Lib.BuilderAtF.put (T := 86) (e := 5) hB hb2 (bs' := bs ++ [.int .u8 c]) (by simpa using hown') (by decide)
 ·exact ((hb1.alloc (by have := hb1.size; omega) _).grown hgrow (by have := hb1.size; simp; omega) (fun k hk => (hown.lt k hk).1)).setCell (p := ⟨b, 1, none⟩) hB _
theorem bld_string_k (B b : Nat) (bs : List Value) (s : ByteArray) (w : World) (h : Lib.IsBuilderF 86 5 B b bs w) (hlen : bs.length + s.size ≤ 140737488355328) (hBw : B ≤ w.heap.size) :
  Calls Tryd.prog 52 #[.pointer (some ⟨b, 0, none⟩), .string s] w fun e w' => e = .returned (.tuple #[.int .i64 s.size, .nilIface]) ∧ (Lib.BuilderAtF 86 5 B b (.pointer (some ⟨b, 0, none⟩)) (bs ++ Lib.strCells s) w' ∧ Below B w w' ∧ Lib.OthersKept 5 (some b) w w') := by
 obtain ⟨i0, hi, hz0, hz1, hz2⟩ := info_parts bldByte
 have e240 : ∀ args w, (callFunc 71 args).run Tryd.prog w = .ok (.enter 71 args) w := enters_of Tryd.func71 (by kernel_rfl) rfl
 go_enter Tryd.func52, Tryd.ntmps52
 go_wp2_with (go_at_call 71; refine (bld_check_k B b bs _ h).mono ?_)
 rintro e w1 ⟨rfl, h1, hb1, hk1⟩
 obtain ⟨hB, v, hbk, hown, hne⟩ := h1
 have c0 : w1.cell? ⟨b, 0, none⟩ = some (.pointer (some ⟨b, 0, none⟩)) := by rw [Lib.cell_of_heap hbk]; rfl
 have c1 : w1.cell? ⟨b, 1, none⟩ = some v := by rw [Lib.cell_of_heap hbk]; rfl
 go_wp2_with (at_builtin; refine Lib.wpList_append_own_stringF _ rfl _ _ 84 9 rfl B 5 i0 Tryd.underlying84 Tryd.underlying9 hi hz0 hz1 hz2 _ _ _ rfl hown s rfl ?c3 ?c4 ?c5 ?_)
 case c3 => unfold maxLen; omega
 case c4 => omega
 case c5 => have := hb1.size; omega
 intro v' w2 hown' hgrow _
 have hlt : b < w1.heap.size := by
  rcases Nat.lt_or_ge b w1.heap.size with h' | h'
  ·exact h'
  ·simp [Array.getElem?_eq_none h'] at hbk
 have hb2 : w2.heap[b]? = some (.cells #[.pointer (some ⟨b, 0, none⟩), v] 86 (0, 0)) := by
  rw [hgrow.block b hlt (fun e => hne e.symm)]
  exact hbk
 have d0 : w2.cell? ⟨b, 0, none⟩ = some (.pointer (some ⟨b, 0, none⟩)) := by rw [Lib.cell_of_heap hb2]; rfl
 have d1 : w2.cell? ⟨b, 1, none⟩ = some v := by rw [Lib.cell_of_heap hb2]; rfl
 have f1 : w2.frozen? ⟨b, 1, none⟩ = false := Lib.frozen_of_heap hb2 1
 obtain ⟨ao, n', cap, rfl⟩ : ∃ ao n' cap, v' = .slice ao n' cap := by
  rcases hown'.2 with ⟨hv, _⟩ | ⟨g, cap, cur, fz, hv, _⟩
  ·exact ⟨_, _, _, hv⟩
  ·exact ⟨_, _, _, hv⟩
 go_wp2
 go_ret2
 refine ⟨rfl, ?_, ?_, (hk1.grown hgrow (Lib.ownsRowF_kind hown)).setCell ⟨b, 1, none⟩ rfl _⟩
 ·exact Lib.BuilderAtF.put (T := 86) (e := 5) hB hb2 (bs' := bs ++ Lib.strCells s) (by simpa [Lib.strCells_length] using hown') (by decide)
 ·exact (hb1.grown hgrow (by have := hb1.size; omega) (fun k hk => (hown.lt k hk).1)).setCell (p := ⟨b, 1, none⟩) hB _
end Go.Proofs.YtajoebfkkknjhaaDoor.X
/- The contract of math/bits.TrailingZeros64: where the table is laid. -/
set_option linter.unusedVariables false
namespace Go.Proofs.YtajoebfkkknjhaaDoor.X
open Go.RowKit Go.Proofs.YtajoebfkkknjhaaDoorW.PrintWords Go.Proofs.YtajoebfkkknjhaaDoorW.PrintLast Go.Proofs.YtajoebfkkknjhaaDoorW.PrintMore
def bits_TrailingZeros64.f (a0 : Int) : Option Int := if 0 ≤ a0 ∧ a0 < 18446744073709551616 then some ((Lib.ctz 64 a0.toNat : Nat) : Int) else none
theorem bru_at : ∀ k, k < 64 → bru64.getD k 0 = ((Lib.deBruijn64tab.getD k 0 : Nat) : Int) := by decide +kernel
theorem bits_TrailingZeros64.core (x k idx : Nat) (w : World) (hx0 : ((x : Int) == 0) = false)
  (key : IntKind.u64.wrap (bits BinOp.and IntKind.u64 (x : Int) (IntKind.u64.wrap (-(x : Int))) * 285870213051353865) / 288230376151711744 = (idx : Int))
  (hi : idx < 64) (hk : k < 64) (hcell : w.cell? ⟨1, idx, none⟩ = some (.int .u8 k)) :
  Calls Tryd.prog 80 #[.int .u64 x] w fun e w' => e = .returned (.int .i64 k) ∧ w' = w := by
 go_enter Tryd.func80, Tryd.ntmps80
 go_wp2_with (simp only [key])
 go_ret
 exact ⟨rfl, rfl⟩
theorem bits_TrailingZeros64.zero (w : World) :
  Calls Tryd.prog 80 #[.int .u64 0] w fun e w' => e = .returned (.int .i64 64) ∧ w' = w := by
 go_enter Tryd.func80, Tryd.ntmps80
 go_wp2
 go_ret
 exact ⟨rfl, rfl⟩
theorem bits_TrailingZeros64.calls (a0 : Int) (r : Int) (w : World) (hT : Aside0 (Tab w)) (h : bits_TrailingZeros64.f a0 = some r) :
  Calls Tryd.prog 80 #[.int .u64 a0] w fun e w' => e = .returned (.int .i64 r) ∧ Drawn0 w w' := by
 unfold bits_TrailingZeros64.f at h
 by_cases hs : 0 ≤ a0 ∧ a0 < 18446744073709551616
 ·rw [if_pos hs] at h
  obtain rfl := Option.some.inj h
  obtain ⟨x, rfl⟩ : ∃ x : Nat, a0 = (x : Int) := ⟨a0.toNat, by omega⟩
  have hx : x < 18446744073709551616 := by omega
  rw [Int.toNat_natCast]
  by_cases hx0 : x = 0
  ·subst hx0
   refine (bits_TrailingZeros64.zero w).mono ?_
   rintro e w' ⟨rfl, rfl⟩
   exact ⟨rfl, Drawn0.refl _⟩
  ·obtain ⟨hlow, hk⟩ := Lib.lowest_bit 64 x hx0 hx
   obtain ⟨hi, htab⟩ := Lib.deBruijn64_at _ hk
   have hcell := hT.out.bru.cell (g := 1) (by kernel_rfl) _ (show _ < bru64.length from hi)
   rw [bru_at _ hi, htab] at hcell
   refine (bits_TrailingZeros64.core x _ _ w (by simp; omega) (tz64_key x _ hx hx0 hlow) hi hk hcell).mono ?_
   rintro e w' ⟨rfl, rfl⟩
   exact ⟨rfl, Drawn0.refl _⟩
 ·rw [if_neg hs] at h
  cases h
end Go.Proofs.YtajoebfkkknjhaaDoor.X
namespace Go.Proofs.YtajoebfkkknjhaaDoor.X
open Go.RowKit Go.Proofs.YtajoebfkkknjhaaDoorW.PrintWords Go.Proofs.YtajoebfkkknjhaaDoorW.PrintLast Go.Proofs.YtajoebfkkknjhaaDoorW.PrintMore
attribute [local go_sem] max2_int min2_int max_two min_two max_three min_three max_four min_four
set_option linter.unusedVariables false
set_option linter.unusedSimpArgs false
def cats_List.l0 : Nat → Int → List Int → Option (List Int)
 | 0, _, _ => none
 | k + 1, x0, x3 => if x0 = 0 then (some x3) else ((bits_TrailingZeros64.f x0).bind fun t101 => (if x3.length < 17592186044416 then (cats_List.l0 k (Go.bits .and .u64 x0 (IntKind.u64.wrap (x0 - 1))) (x3 ++ [t101])) else (none)))
def cats_List.f (k : Nat) (a0 : Int) : Option (List Int) := cats_List.l0 k a0 ([] : List Int)
theorem cats_List.calls (k : Nat) (a0 : Int) (r : List Int) (w : World) (hT : Aside0 (Tab w)) (h : cats_List.f k a0 = some r) :
  Calls Tryd.prog 68 #[.int .u64 a0] w fun e w' => ∃ v0_ : Value, e = .returned (v0_) ∧ Kd.R (Kd.int .i64) 3 w' w.heap.size (fun _ => True) v0_ r ∧ Below w.heap.size w w' := by
 have HB := A_ (Below.refl w.heap.size w)
 have H : (cats_List.l0 k a0 ([] : List Int)) = some r := h
 clear h
 have H' := A_ H
 clear H
 go_enter Tryd.func68, Tryd.ntmps68
 go_wp2
 go_loopg [0, 3] k (fun kq v0 v3 w' => ∃ (x0_1 : Int) (x3_1 : List Int), v0 = .int .u64 x0_1 ∧ Aside0 (cats_List.l0 kq x0_1 x3_1 = some r) ∧ Aside0 (kq ≤ k) ∧ Aside0 (Kd.R (Kd.int .i64) 3 w' w.heap.size (fun _ => True) v3 x3_1) ∧ Aside0 (Below w.heap.size w w'))
 case atStart => exact ⟨(a0), (([] : List Int)), sq_, H', ⟨Nat.le_refl _⟩, ⟨by first | exact Kd.R_nil _ _ _ _ _ | exact Kd.N_nil _ _ _ _ _ | exact Kd.V_nil _ _ _ _ _ | exact Kd.Q_nil _ _ _ _ _ | exact Kd.S_nil _ _ _ _ _⟩, ⟨pbx HB⟩⟩
 case round =>
  clear H'; obtain ⟨x0_1, x3_1, rfl, HA, HK1, HO_3, HB⟩ := hrel
  cases gk with
  | zero => exact absurd HA.out (by simp [cats_List.l0])
  | succ k1 =>
   have H := HA.out; clear HA
   simp only [cats_List.l0] at H
   by_cases c2 : x0_1 = 0
   ·rw [if_pos c2] at H; have ⟨c2b0,c2b1⟩ := e1_ c2; clear c2; obtain rfl := Option.some.inj H
    go_wp2
    go_ret
    exact ⟨_, by first | rfl | (simp [errW_none, errW_some] <;> rfl) | (simp [*, errW_none, errW_some] <;> rfl), ra_ HO_3.out, pbx HB⟩
   ·rw [if_neg c2] at H; have ⟨c2b0,c2b1⟩ := e0_ c2; obtain ⟨t101, A3, H⟩ := bo_ H
    by_cases c4 : x3_1.length < 17592186044416
    ·rw [if_pos c4] at H; have LMc4 := A_ c4; clear c4; obtain ⟨y102, hy102⟩ : ∃ y_ : List Int, y_ = (x3_1 ++ [t101]) := ⟨_, rfl⟩
     replace H : (cats_List.l0 k1 (Go.bits .and .u64 x0_1 (IntKind.u64.wrap (x0_1 - 1))) y102) = some r := by first | (rw [hy102]; with_reducible exact H) | (have H2_ := (Option.bind_some _ _).symm.trans H; rw [hy102]; with_reducible exact H2_) | (have H2_ := (Option.bind_some _ _).symm.trans H; with_reducible exact H2_) | with_reducible exact H | (rw [hy102]; exact H) | exact H
     have Ny102 := A_ hy102; clear hy102
     have H' := A_ H
     clear H
     go_wp2_with (first | ((with_reducible refine gate_callee (f:=80) rfl ?_); refine gL_ (some 8) rfl rfl Tryd.func80 rfl #[.int .u64 x0_1] rfl ?_; (with_reducible refine (bits_TrailingZeros64.calls x0_1 t101 _ (by refine tb_ ?_ hT; repeat' (first | exact pbx HB | exact Below.refl _ _ | assumption | refine below_set ?_ (Aside0.out ?_))) A3.out).mono ?_); rintro e w' ⟨rfl, ⟨nd, rfl⟩⟩; refine ⟨_, rfl, ?_⟩) | ((with_reducible refine gate_builtin (b := .append) (xs := #[.tmp 6, .tmp 9]) rfl ?_); at_builtin; refine Kd.R_append (Kd.int .i64) (w0 := w) w.heap.size rfl (.tmp 6) (.tmp 9) 104 3 (.int .i64 0) 8 rfl Tryd.underlying104 info3 rfl (by decide) (by omega) u3 x3_1 t101 [.int .i64 t101] (fun _ => True) (fun _ => False) rfl rfl ?aP (fun _ hk => hk.elim) ?aF ?aO ?aB ?aS ?aL ?_; (case aP => exact rfl); (case aB => exact (pbx HB)); (case aF => exact (fun _ _ => trivial)); (case aO => exact (ra_ HO_3.out)); (case aS => exact (below_size (pbx HB))); (case aL => have := LMc4.out; omega); intro v103 w5 ho hb hg hat; rw [← Ny102.out] at ho; have HO104 := A_ (ho); replace HB := A_ (hb); clear HO_3; clear ho hb hg hat))
     go_roundg k1
     case measure => have := HK1.out; omega
     case rel => exact ⟨(Go.bits .and .u64 x0_1 (IntKind.u64.wrap (x0_1 - 1))), (y102), sq_, H', ⟨by have := HK1.out; omega⟩, ⟨ra_ HO104.out⟩, ⟨pbx HB⟩⟩
    ·rw [if_neg c4] at H
     exact absurd H (by simp)

end Go.Proofs.YtajoebfkkknjhaaDoor.X
/- The contract of cats.Text: its categories, told through strings.Builder. -/
set_option linter.unusedVariables false
namespace Go.Proofs.YtajoebfkkknjhaaDoor.X
open Go.RowKit Go.Shelf Go.Proofs.YtajoebfkkknjhaaDoorW.PrintWords Go.Proofs.YtajoebfkkknjhaaDoorW.PrintLast Go.Proofs.YtajoebfkkknjhaaDoorW.PrintMore
def texG : Nat → List Int → List UInt8
 | _, [] => []
 | i, c :: r => (if i = 0 then [] else [44]) ++ (Lib.decDigits c.toNat ++ texG (i + 1) r)
def cats_Text.f (k : Nat) (a0 : Int) : Option ByteArray := (cats_List.f k a0).bind fun l => if l.length ≤ 1000 ∧ (∀ c ∈ l, 0 ≤ c ∧ c < 100) then some ⟨(texG 0 l).toArray⟩ else none
theorem dec_len (n : Nat) (h : n < 100) : (Lib.decDigits n).length ≤ 2 := by
 rw [Lib.decDigits]
 split
 ·simp
 ·rw [Lib.decDigits, dif_pos (by omega)]; simp
set_option maxRecDepth 1000000 in
theorem cats_Text.calls (k : Nat) (a0 : Int) (r : ByteArray) (w : World) (hT : Aside0 (Tab w)) (h : cats_Text.f k a0 = some r) :
  Calls Tryd.prog 46 #[.int .u64 a0] w fun e w' => e = .returned (.string r) ∧ Below w.heap.size w w' := by
 unfold cats_Text.f at h
 obtain ⟨l, hl, h⟩ := Option.bind_eq_some_iff.1 h
 by_cases hs : l.length ≤ 1000 ∧ (∀ c ∈ l, 0 ≤ c ∧ c < 100)
 rotate_left
 ·rw [if_neg hs] at h; cases h
 rw [if_pos hs] at h
 obtain rfl := Option.some.inj h
 clear h
 obtain ⟨hn, hc⟩ := hs
 have hb0 : Below w.heap.size w (w.alloc (.cells #[.pointer none, .slice none 0 0] 86)) := (Below.refl _ w).alloc (Nat.le_refl _) _
 have hT1 : Aside0 (Tab (w.alloc (.cells #[.pointer none, .slice none 0 0] 86))) := tb_ hb0 hT
 have hnew : (w.alloc (.cells #[.pointer none, .slice none 0 0] 86)).heap[w.heap.size]? = some (.cells #[.pointer none, .slice none 0 0] 86 (0, 0)) := by
  show (w.heap.push _)[w.heap.size]? = some _
  simp
 have hsz : (w.alloc (.cells #[.pointer none, .slice none 0 0] 86)).heap.size = w.heap.size + 1 := by simp
 go_enter Tryd.func46, Tryd.ntmps46
 go_wp2_with (go_at_call 68; refine (cats_List.calls k a0 l _ hT1 hl).mono ?_; rintro e w1 ⟨v, rfl, hR, hb1⟩; obtain ⟨A, cp, rfl, hrd⟩ := Kd.R_reads hR; obtain ⟨inner, hown⟩ := Kd.R_own hR)
 have hbk : w1.heap[w.heap.size]? = some (.cells #[.pointer none, .slice none 0 0] 86 (0, 0)) := (hb1.block _ (by rw [hsz]; omega)).trans hnew
 have hI0 : Lib.IsBuilderF 86 5 w.heap.size w.heap.size (Lib.byteCells []) w1 := Or.inl ⟨Nat.le_refl _, .slice none 0 0, hbk, ⟨rfl, Or.inl ⟨rfl, rfl⟩⟩, by simp [Value.ownBlock]⟩
 have hbw1 : Below w.heap.size w w1 := hb0.trans (hb1.mono (by rw [hsz]; omega))
 have hs1 : w.heap.size + 1 ≤ w1.heap.size := by have := hb1.size; rw [hsz] at this; exact this
 -- what the row's block is, if there is one
 have hrow : ∀ i : Nat, i < l.length → ∃ g cur, A = some ⟨g, 0, none⟩ ∧ w.heap.size + 1 ≤ g ∧ w1.heap[g]? = some (.cells cur 3 (0, 0)) ∧ w1.cell? ⟨g, i, none⟩ = some (.int .i64 (l.getD i 0)) := by
  intro i hi
  obtain ⟨ad, c, hA, hcl, hcr, hcell⟩ := ReadsRow.get_ hrd.2 0 (i : Int) (by omega) (by omega)
  rcases hown.2 with ⟨_, h0⟩ | ⟨g, cap, cur, hv, hg1, hg2, _⟩
  ·omega
  ·injection hv with hv1 hv2 hv3
   subst hv1
   injection hA with hA
   subst hA
   refine ⟨g, cur, rfl, by rw [hsz] at hg1; exact hg1, hg2, ?_⟩
   have hce : c = [.int .i64 (l.getD (Int.toNat (i : Int)) 0)] := hcr
   have := hcell 0 (.int .i64 (l.getD (Int.toNat (i : Int)) 0)) (by rw [hce]; rfl)
   rw [Int.toNat_natCast] at this
   have e : (⟨g, 0, none⟩ : Addr).add (i * (Kd.int .i64).sz + 0) = ⟨g, i, none⟩ := by
    simp [Addr.add, Kd.int, Kd.scalar]
    try exact fun h => h.symm
   rw [e] at this
   exact this
 have HROW := Aside0.mk hrow
 clear hrow hown hrd hR hnew hbk hT1 hb1 hb0
 have HB1 := Aside0.mk hbw1
 have HI0 := Aside0.mk hI0
 clear hbw1 hI0
 go_wp2
 go_loopg [9] (l.length + 1) (fun kq v9 wr => ∃ (i : Nat) (acc : List UInt8), v9 = .int .i64 (i : Int) ∧ Aside0 (i + kq = l.length + 1 ∧ i ≤ l.length) ∧ Aside0 (Lib.IsBuilderF 86 5 w.heap.size w.heap.size (Lib.byteCells acc) wr) ∧ Aside0 (Below w.heap.size w wr) ∧ Aside0 (Lib.OthersKept 5 (some w.heap.size) w1 wr) ∧ Aside0 (acc ++ texG i (l.drop i) = texG 0 l) ∧ Aside0 (acc.length ≤ 3 * i))
 case atStart => exact ⟨0, [], rfl, ⟨by omega, by omega⟩, HI0, HB1, ⟨Lib.OthersKept.refl _ _ _⟩, ⟨rfl⟩, ⟨by simp⟩⟩
 case round =>
  obtain ⟨i, acc, rfl, HQ, HI, HB, HK, HA, HL⟩ := hrel
  have hq := HQ.out
  cases gk with
  | zero =>
   exfalso
   have := HL.out
   omega
  | succ k1 =>
   by_cases hi : i < l.length
   ·have hd : decide ((i : Int) < (l.length : Int)) = true := decide_eq_true (by omega)
    obtain ⟨g, cur, hA, hg1, hg2, hcell⟩ := HROW.out i hi
    subst hA
    have hgk : wr.heap[g]? = some (.cells cur 3 (0, 0)) := HK.out g _ hg2 (by intro e; injection e with e; omega) (by intro c fz e; injection e with e1 e2 e3; exact absurd e2 (by decide))
    have hcw : wr.cell? ⟨g, i, none⟩ = some (.int .i64 (l.getD i 0)) := by rw [World.cell?_of_block (w := w1) (w' := wr) (a := ⟨g, i, none⟩) (by show wr.heap[g]? = w1.heap[g]?; rw [hgk, hg2])]; exact hcell
    obtain ⟨c, hce, hc1, hc2⟩ : ∃ c : Nat, l.getD i 0 = (c : Int) ∧ c < 100 ∧ l.drop i = (c : Int) :: l.drop (i + 1) := by
     have e : l.getD i 0 = l[i] := by rw [List.getD_eq_getElem?_getD, List.getElem?_eq_getElem hi]; rfl
     have := hc l[i] (List.getElem_mem hi)
     refine ⟨l[i].toNat, by rw [e]; omega, by omega, ?_⟩
     rw [List.drop_eq_getElem_cons hi]
     congr 1
     omega
    rw [hce] at hcw
    have hdl := dec_len c hc1
    have hal := HL.out
    have hwz : w.heap.size ≤ wr.heap.size := HB.out.size
    have hacc := HA.out
    rw [hc2, texG, Int.toNat_natCast] at hacc
    by_cases h0 : i = 0
    ·subst h0
     have hd2 : decide (((0 : Nat) : Int) > 0) = false := by decide
     go_wp2_with (first
      | (go_at_call 26; refine (Tryd.strconv_Itoa_small c hc1 _).mono ?_; rintro e w2 ⟨rfl, rfl⟩)
      | (go_at_call 52; refine (bld_string_k w.heap.size w.heap.size _ ⟨(Lib.decDigits c).toArray⟩ _ (by exact HI.out) (by rw [Lib.byteCells_length]; have e1 : (⟨(Lib.decDigits c).toArray⟩ : ByteArray).size = (Lib.decDigits c).length := rfl; rw [e1]; omega) (by exact hwz)).mono ?_; rintro e w3 ⟨rfl, h3, hb3, hk3⟩))
     go_roundg k1
     case measure => omega
     case rel =>
      refine ⟨1, acc ++ Lib.decDigits c, rfl, ⟨by omega, by omega⟩, ⟨Or.inr ?_⟩, ⟨HB.out.trans hb3⟩, ⟨HK.out.trans hk3⟩, ⟨?_⟩, ⟨?_⟩⟩
      ·rw [Lib.byteCells_append]; exact h3
      ·rw [← hacc]; simp
      ·rw [List.length_append]; omega
    ·have hd2 : decide ((i : Int) > 0) = true := decide_eq_true (by omega)
     go_wp2_with (first
      | (go_at_call 69; refine (bld_byte_k w.heap.size w.heap.size _ 44 _ (by exact HI.out) (by rw [Lib.byteCells_length]; omega) (by exact hwz)).mono ?_; rintro e w2 ⟨rfl, h2, hb2, hk2⟩)
      | (go_at_call 26; refine (Tryd.strconv_Itoa_small c hc1 _).mono ?_; rintro e w2_ ⟨rfl, rfl⟩)
      | (go_at_call 52; refine (bld_string_k w.heap.size w.heap.size (Lib.byteCells (acc ++ [44])) ⟨(Lib.decDigits c).toArray⟩ _ (by rw [Lib.byteCells_append]; exact Or.inr h2) (by rw [Lib.byteCells_length, List.length_append]; have e1 : (⟨(Lib.decDigits c).toArray⟩ : ByteArray).size = (Lib.decDigits c).length := rfl; rw [e1]; simp; omega) (by exact Nat.le_trans hwz hb2.size)).mono ?_; rintro e w3 ⟨rfl, h3, hb3, hk3⟩))
     go_roundg k1
     case measure => omega
     case rel =>
      refine ⟨i + 1, acc ++ [44] ++ Lib.decDigits c, by go_num, ⟨by omega, by omega⟩, ⟨Or.inr ?_⟩, ⟨(HB.out.trans hb2).trans hb3⟩, ⟨(HK.out.trans hk2).trans hk3⟩, ⟨?_⟩, ⟨?_⟩⟩
      ·rw [Lib.byteCells_append]; exact h3
      ·rw [← hacc, if_neg h0]; simp
      ·rw [List.length_append, List.length_append]; simp; omega
   ·have hd : decide ((i : Int) < (l.length : Int)) = false := decide_eq_false (by omega)
    have hwz : w.heap.size ≤ wr.heap.size := HB.out.size
    have hacc := HA.out
    rw [List.drop_eq_nil_of_le (by omega), texG, List.append_nil] at hacc
    subst hacc
    go_wp2_with (go_at_call 53; refine (Tryd.Builder_String_any_k w.heap.size w.heap.size _ _ (by exact HI.out) (by exact hwz)).mono ?_; rintro e w2 ⟨rfl, _, hb2, _⟩)
    go_ret
    exact ⟨rfl, HB.out.trans hb2⟩
end Go.Proofs.YtajoebfkkknjhaaDoor.X
namespace Go.Proofs.YtajoebfkkknjhaaDoor.X
open Go.RowKit Go.Proofs.YtajoebfkkknjhaaDoorW.PrintWords Go.Proofs.YtajoebfkkknjhaaDoorW.PrintLast Go.Proofs.YtajoebfkkknjhaaDoorW.PrintMore
attribute [local go_sem] max2_int min2_int max_two min_two max_three min_three max_four min_four
set_option linter.unusedVariables false
set_option linter.unusedSimpArgs false
attribute [local go_sem high] eqA25
def label_Text.j0 : Nat → Bool → Int → Int → Option (ByteArray)
 | 0, _, _, _ => none
 | k + 1, x7, x102000, x102001 => if x7 = true then (some (⟨#[116, 111, 112]⟩ : ByteArray)) else (if x102001 = 0 then ((strconv_Itoa.f x102000).bind fun t105 => (some t105)) else ((strconv_Itoa.f x102000).bind fun t106 => (if t106.size + 1 ≤ 9223372036854775807 then ((cats_Text.f k x102001).bind fun t107 => (if (t106 ++ (⟨#[58]⟩ : ByteArray)).size + t107.size ≤ 9223372036854775807 then (some ((t106 ++ (⟨#[58]⟩ : ByteArray)) ++ t107)) else (none))) else (none))))
def label_Text.f (k : Nat) (a0_0 : Int) (a0_1 : Int) : Option (ByteArray) := (label_May.f a0_0 a0_1).bind fun t102 => (if t102 = true then ((label_Top.f).bind fun bt103 => (label_Text.j0 k (a0_0 == bt103.1 && (a0_1 == bt103.2)) a0_0 a0_1)) else (some (⟨#[]⟩ : ByteArray)))
def label_Text.T7 : Bool × List (List Nat × List Nat) := (true, [([], []), ([0], [0]), ([1], [1]), ([2], [2]), ([], []), ([4], [4]), ([5, 2], [5]), ([3, 6], [3, 6]), ([7, 6, 0, 1, 2, 3, 4, 5, 6, 7], [7])])
def label_Text.B7 : List Nat := [0, 1, 3, 7, 0, 16, 55, 127, 255]
theorem label_Text.tab7 : rtab .any (opsOf Tryd.f22 7) = label_Text.T7 := by kernel_rfl
theorem label_Text.bits7 : waitsOk label_Text.T7.2 label_Text.B7 = true := by kernel_rfl
theorem label_Text.calls (k : Nat) (a0_0 : Int) (a0_1 : Int) (r : ByteArray) (w : World) (hT : Aside0 (Tab w)) (h : label_Text.f k a0_0 a0_1 = some r) :
  Calls Tryd.prog 22 #[.agg #[.int .i64 a0_0, .int .u64 a0_1]] w fun e w' => e = .returned (.string r) ∧ Below w.heap.size w w' := by
 have hu25 := Tryd.underlying25; have HB := A_ (Below.refl w.heap.size w)
 have H : ((label_May.f a0_0 a0_1).bind fun t102 => (if t102 = true then ((label_Top.f).bind fun bt103 => (label_Text.j0 k (a0_0 == bt103.1 && (a0_1 == bt103.2)) a0_0 a0_1)) else (some (⟨#[]⟩ : ByteArray)))) = some r := h
 clear h; obtain ⟨t102, A2, H⟩ := bo_ H
 by_cases c3 : t102 = true
 ·subst c3
  replace H := it_ H; have HC4 := A_ H; clear H
  go_enter Tryd.func22, Tryd.ntmps22
  go_upto_region 3 with (first | ((with_reducible refine gd_ 1 ?_); refine be_ (N:=1) (cs := #[.int .i64 a0_0, .int .u64 a0_1]) (t:=25) ?_; intro g1 hg w5 hbox hb; have B1 := A_ (hbox); have GW101 := hs_ HB hg; have GE101 := hs_ HB hg; replace HB := bs_ HB hb; clear hb hbox hg; have ⟨hcz6_0,hcz6_1,hfz6_0,hfz6_1⟩ := z2_ B1) | ((with_reducible refine gate_callee (f:=45) rfl ?_); refine gL_ (some 5) rfl rfl Tryd.func45 rfl #[.agg #[.int .i64 a0_0, .int .u64 a0_1]] rfl ?_; (with_reducible refine (label_May.calls a0_0 a0_1 true _ A2.out).mono ?_); rintro e w7 ⟨rfl, hb⟩; refine ⟨_, rfl, ?_⟩; replace B1 := bb_ B1 hb; replace HB := bs_ HB hb; ))
  (try simp only [q_])
  go_cut [7] (fun v7 wc => ∃ (kq : Nat) (x7_3 : Bool), v7 = .bool x7_3 ∧ Aside0 (label_Text.j0 kq x7_3 a0_0 a0_1 = some r) ∧ Aside0 (kq ≤ k) ∧ Aside0 (wc.heap[g1]? = some (.cells #[.int .i64 a0_0, .int .u64 a0_1] 25 (0, 0))) ∧ Aside0 (Below w.heap.size w wc))
  case first =>
   have H := HC4.out; clear HC4; obtain ⟨⟨t103, t104⟩, A8, H⟩ := bo_ H; dsimp only at H
   have H' := A_ H
   clear H
   try go_wp2
   (try (rw [drewN_self w7]; generalize hq_ : World.drewN w7 _ = w7; have n0_ : Aside0 (w7.heap[g1]? = some (.cells #[.int .i64 a0_0, .int .u64 a0_1] 25 (0, 0))) := ⟨by rw [← hq_]; exact (pkx B1)⟩; have n1_ : Aside0 (Below w.heap.size w w7) := ⟨by rw [← hq_]; exact (pbx HB)⟩; clear B1 HB hq_; have B1 := n0_; have HB := n1_; clear n0_ n1_))
   replace B1 := A_ (blk_drew B1.out); replace HB := A_ (below_drew1 HB.out)
   refine start_ (n:=4) (S := fun w' => w'.cell? ⟨g1, 0, none⟩ = some (.int .i64 a0_0) ∧ w'.cell? ⟨g1, 1, none⟩ = some (.int .u64 a0_1)) (ds := []) #[F,F,F,F] (by kernel_rfl) rfl rfl ⟨bc_ B1 0 rfl, bc_ B1 1 rfl⟩ (fun hHeld => ?_)
   generalize w7.drew = w9 at B1 HB hHeld ⊢; refine take_ (i:=0) (N:=some 8) (v:=?_) (a':=?_) ⟨m_ 4 1⟩ rfl rfl (by kernel_rfl) (fun _ _ _ h=>h) (Or.inl ⟨rfl, ?_⟩) hHeld ?_ ?_; rotate_left
   ·rintro w' ⟨s0, s1⟩; go_simp; with_reducible rfl
   rotate_left
   ·simp only [q_, i64_w, i32_w]; rfl
   refine one_ (i:=1) (N:=some 9) ⟨m_ 4 3⟩ rfl rfl (by kernel_rfl) (by decide) (fun K hK => ?_); refine goes_ Tryd.func33 (by kernel_rfl) rfl #[] (by rfl) rfl rfl ha_ ?_; with_reducible refine (label_Top.calls  t103 t104 _ A8.out).mono ?_; rintro e w10 ⟨rfl, hb⟩; refine ⟨_, rfl, ?_⟩
   replace B1 := bb_ B1 hb; replace HB := bs_ HB hb; (try clear hb); refine hK.out _ _ ⟨bc_ B1 0 rfl, bc_ B1 1 rfl⟩ (fun hHeld => ?_); clear hK K; refine norm_ (a':=?_) ?_ ?_; rotate_left
   ·show Act.put _ (some 9) _ = _; simp only [q_, i64_w, i32_w]; rfl
   refine pure_ (i:=2) (N:=some 10) (v:=?_) (a':=?_) ⟨m_ 4 7⟩ rfl rfl (by kernel_rfl) (fun _ _ _ h=>h) (Or.inl ⟨rfl, ?_⟩) ?_ ?_; rotate_left
   ·intro w'; go_simp; with_reducible rfl
   rotate_left
   ·simp only [q_, i64_w, i32_w]; rfl
   refine pure_ (i:=3) (N:=some 7) (v:=?_) (a':=?_) ⟨m_ 4 15⟩ rfl rfl (by kernel_rfl) (fun _ _ _ h=>h) (Or.inl ⟨rfl, ?_⟩) ?_ ?_; rotate_left
   ·intro w'; go_simp; with_reducible rfl
   rotate_left
   ·simp only [q_, i64_w, i32_w]; rfl
   refine done_ (by kernel_rfl) ?_
   try go_wp2
   go_meet
   case rel => exact ⟨_, ((a0_0 == t103 && (a0_1 == t104))), (by first | rfl | (simp; done) | (simp [*]; done) | (cases t103 <;> simp; done) | (cases t104 <;> simp; done)), H', le_, ⟨pkx B1⟩, ⟨pbx HB⟩⟩
  case rest =>
   clear HC4; (try clear c3); (try clear hcz6_0); (try clear hcz6_1); (try clear hfz6_0); (try clear hfz6_1); obtain ⟨kq, x7_3, rfl, HA, HJ3, B1, HB⟩ := hcut
   cases kq with
   | zero => exact absurd HA.out (by simp [label_Text.j0])
   | succ kj3 =>
    have H := HA.out; clear HA
    simp only [label_Text.j0] at H
    by_cases c11 : x7_3 = true
    ·subst c11
     replace H := it_ H; obtain rfl := Option.some.inj H
     go_wp2
     go_ret
     exact fi_ (pbx HB)
    ·replace c11 := Bool.eq_false_iff.mpr c11; subst c11
     replace H := ie_ H
     by_cases c12 : a0_1 = 0
     ·rw [if_pos c12] at H; have ⟨c12b0,c12b1⟩ := e1_ c12; clear c12; obtain ⟨t105, A13, H⟩ := bo_ H; obtain rfl := Option.some.inj H
      have ⟨hcz14_0,hcz14_1,hfz14_0,hfz14_1⟩ := z2_ B1
      go_wp2_with (first | ((with_reducible refine gate_callee (f:=26) rfl ?_); refine gL_ (some 17) rfl rfl Tryd.func26 rfl #[.int .i64 a0_0] rfl ?_; (with_reducible refine (strconv_Itoa.calls a0_0 t105 _ (by refine tb_ ?_ hT; repeat' (first | exact pbx HB | exact Below.refl _ _ | assumption | refine below_set ?_ (Aside0.out ?_))) A13.out).mono ?_); rintro e w15 ⟨rfl, hb⟩; refine ⟨_, rfl, ?_⟩; replace B1 := bb_ B1 hb; replace HB := bs_ HB hb; (try clear hb); ))
      go_ret
      exact fi_ (pbx HB)
     ·rw [if_neg c12] at H; have ⟨c12b0,c12b1⟩ := e0_ c12; obtain ⟨t106, A16, H⟩ := bo_ H
      by_cases c17 : t106.size + 1 ≤ 9223372036854775807
      ·rw [if_pos c17] at H; have c17b0 := eq_true c17; have c17b1 := decide_eq_true c17
       try have c17b2 : (9223372036854775807 < t106.size + 1) = False := eq_false (Nat.not_lt.2 c17)
       obtain ⟨t107, A18, H⟩ := bo_ H
       by_cases c19 : (t106 ++ (⟨#[58]⟩ : ByteArray)).size + t107.size ≤ 9223372036854775807
       ·rw [if_pos c19] at H; have c19b0 := eq_true c19; have c19b1 := decide_eq_true c19
        try have c19b2 : (9223372036854775807 < (t106 ++ (⟨#[58]⟩ : ByteArray)).size + t107.size) = False := eq_false (Nat.not_lt.2 c19)
        try have c19b2z : (9223372036854775807 < t106.size + 1 + t107.size) = False := by have h9_ := c19b2; rw [ByteArray.size_append] at h9_; exact h9_
        obtain rfl := Option.some.inj H
        have ⟨hcz20_0,hcz20_1,hfz20_0,hfz20_1⟩ := z2_ B1
        try go_wp2
        (try (rw [drewN_self wc]; generalize hq_ : World.drewN wc _ = wc; have n0_ : Aside0 (wc.heap[g1]? = some (.cells #[.int .i64 a0_0, .int .u64 a0_1] 25 (0, 0))) := ⟨by rw [← hq_]; exact (pkx B1)⟩; have n1_ : Aside0 (Below w.heap.size w wc) := ⟨by rw [← hq_]; exact (pbx HB)⟩; clear B1 HB hq_; have B1 := n0_; have HB := n1_; clear n0_ n1_))
        replace B1 := A_ (blk_drew B1.out); replace HB := A_ (below_drew1 HB.out)
        refine start_ (n:=9) (S := fun w' => w'.cell? ⟨g1, 0, none⟩ = some (.int .i64 a0_0) ∧ w'.cell? ⟨g1, 1, none⟩ = some (.int .u64 a0_1)) (ds := []) #[F,F,F,F,F,F,F,F,F] (by kernel_rfl) rfl rfl ⟨bc_ B1 0 rfl, bc_ B1 1 rfl⟩ (fun hHeld => ?_); refine with_tabW label_Text.tab7 label_Text.bits7 (fun HT_ HW_ => ?_)
        generalize wc.drew = w21 at B1 HB hHeld ⊢; refine pure_ (i:=0) (N:=some 18) (v:=?_) (a':=?_) ⟨m_ 9 1⟩ rfl rfl (ao_ HT_) (fun _ _ _ h=>h) (Or.inl ⟨rfl, ?_⟩) ?_ ?_; rotate_left
        ·intro w'; go_simp; with_reducible rfl
        rotate_left
        ·simp only [q_, i64_w, i32_w]; rfl
        refine pure_ (i:=4) (N:=some 22) (v:=?_) (a':=?_) ⟨m_ 9 17⟩ rfl rfl (ao_ HT_) (fun _ _ _ h=>h) (Or.inl ⟨rfl, ?_⟩) ?_ ?_; rotate_left
        ·intro w'; go_simp; with_reducible rfl
        rotate_left
        ·simp only [q_, i64_w, i32_w]; rfl
        refine take_ (i:=1) (N:=some 19) (v:=?_) (a':=?_) ⟨m_ 9 19⟩ rfl rfl (tw_ HT_ HW_) (fun _ _ _ h=>h) (Or.inl ⟨rfl, ?_⟩) hHeld ?_ ?_; rotate_left
        ·rintro w' ⟨s0, s1⟩; go_simp; with_reducible rfl
        rotate_left
        ·simp only [q_, i64_w, i32_w]; rfl
        refine take_ (i:=5) (N:=some 23) (v:=?_) (a':=?_) ⟨m_ 9 51⟩ rfl rfl (tw_ HT_ HW_) (fun _ _ _ h=>h) (Or.inl ⟨rfl, ?_⟩) hHeld ?_ ?_; rotate_left
        ·rintro w' ⟨s0, s1⟩; go_simp; with_reducible rfl
        rotate_left
        ·simp only [q_, i64_w, i32_w]; rfl
        refine one_ (i:=2) (N:=some 20) ⟨m_ 9 55⟩ rfl rfl (oo_ HT_) (by decide) (fun K hK => ?_); refine goes_ Tryd.func26 (by kernel_rfl) rfl #[.int .i64 a0_0] (by rfl) rfl rfl ha_ ?_; with_reducible refine (strconv_Itoa.calls a0_0 t106 _ (by refine tb_ ?_ hT; repeat' (first | exact pbx HB | exact Below.refl _ _ | assumption | refine below_set ?_ (Aside0.out ?_))) A16.out).mono ?_; rintro e w22 ⟨rfl, hb⟩; refine ⟨_, rfl, ?_⟩
        replace B1 := bb_ B1 hb; replace HB := bs_ HB hb; (try clear hb); refine hK.out _ _ ⟨bc_ B1 0 rfl, bc_ B1 1 rfl⟩ (fun hHeld => ?_); clear hK K; refine norm_ (a':=?_) ?_ ?_; rotate_left
        ·show Act.put _ (some 20) _ = _; simp only [q_, i64_w, i32_w]; rfl
        refine pure_ (i:=3) (N:=some 21) (v:=?_) (a':=?_) ⟨m_ 9 63⟩ rfl rfl (ao_ HT_) (fun _ _ _ h=>h) (Or.inl ⟨rfl, ?_⟩) ?_ ?_; rotate_left
        ·intro w'; go_simp; with_reducible rfl
        rotate_left
        ·simp only [q_, i64_w, i32_w]; rfl
        refine one_ (i:=6) (N:=some 24) ⟨m_ 9 127⟩ rfl rfl (oo_ HT_) (by decide) (fun K hK => ?_); refine goes_ Tryd.func46 (by kernel_rfl) rfl #[.int .u64 a0_1] (by rfl) rfl rfl ha_ ?_; with_reducible refine (cats_Text.calls kj3 a0_1 t107 _ (by refine tb_ ?_ hT; repeat' (first | exact pbx HB | exact Below.refl _ _ | assumption | refine below_set ?_ (Aside0.out ?_))) A18.out).mono ?_; rintro e w23 ⟨rfl, hb⟩; refine ⟨_, rfl, ?_⟩
        replace B1 := bb_ B1 hb; replace HB := bs_ HB hb; (try clear hb); refine hK.out _ _ ⟨bc_ B1 0 rfl, bc_ B1 1 rfl⟩ (fun hHeld => ?_); clear hK K; refine norm_ (a':=?_) ?_ ?_; rotate_left
        ·show Act.put _ (some 24) _ = _; simp only [q_, i64_w, i32_w]; rfl
        refine pure_ (i:=7) (N:=some 25) (v:=?_) (a':=?_) ⟨m_ 9 255⟩ rfl rfl (ao_ HT_) (fun _ _ _ h=>h) (Or.inl ⟨rfl, ?_⟩) ?_ ?_; rotate_left
        ·intro w'; go_simp; with_reducible rfl
        rotate_left
        ·simp only [q_, i64_w, i32_w]; rfl
        refine pure_ (i:=8) (N:=some 2) (v:=?_) (a':=?_) ⟨m_ 9 511⟩ rfl rfl (ao_ HT_) (fun _ _ _ h=>h) (Or.inl ⟨rfl, ?_⟩) ?_ ?_; rotate_left
        ·intro w'; go_simp; with_reducible rfl
        rotate_left
        ·simp only [q_, i64_w, i32_w]; rfl
        refine done_ (done_of HT_.out (by kernel_rfl)) ?_
        try go_wp2
        go_ret
        exact fi_ (pbx HB)
       ·rw [if_neg c19] at H
        exact absurd H (by simp)
      ·rw [if_neg c17] at H
       exact absurd H (by simp)
 ·replace c3 := Bool.eq_false_iff.mpr c3; subst c3
  replace H := ie_ H; obtain rfl := Option.some.inj H
  go_enter Tryd.func22, Tryd.ntmps22
  go_wp2_with (first | ((with_reducible refine gd_ 1 ?_); refine be_ (N:=1) (cs := #[.int .i64 a0_0, .int .u64 a0_1]) (t:=25) ?_; intro g1 hg w24 hbox hb; have B1 := A_ (hbox); have GW101 := hs_ HB hg; have GE101 := hs_ HB hg; replace HB := bs_ HB hb; clear hb hbox hg; have ⟨hcz25_0,hcz25_1,hfz25_0,hfz25_1⟩ := z2_ B1) | ((with_reducible refine gate_callee (f:=45) rfl ?_); refine gL_ (some 5) rfl rfl Tryd.func45 rfl #[.agg #[.int .i64 a0_0, .int .u64 a0_1]] rfl ?_; (with_reducible refine (label_May.calls a0_0 a0_1 false _ A2.out).mono ?_); rintro e w26 ⟨rfl, hb⟩; refine ⟨_, rfl, ?_⟩; replace B1 := bb_ B1 hb; replace HB := bs_ HB hb; ))
  go_ret
  exact fi_ (pbx HB)

end Go.Proofs.YtajoebfkkknjhaaDoor.X
namespace Go.Proofs.YtajoebfkkknjhaaDoor.X
open Go.RowKit Go.Proofs.YtajoebfkkknjhaaDoorW.PrintWords Go.Proofs.YtajoebfkkknjhaaDoorW.PrintLast Go.Proofs.YtajoebfkkknjhaaDoorW.PrintMore
attribute [local go_sem] max2_int min2_int max_two min_two max_three min_three max_four min_four
set_option linter.unusedVariables false
set_option linter.unusedSimpArgs false
def addr_May.f (a0_0 : Int) (a0_1 : Int) : Option (Bool) := if a0_0 ≥ 0 then (if a0_0 < 999 then (if a0_1 ≥ 0 then (some (decide (a0_1 < 702))) else (some false)) else (some false)) else (some false)
theorem addr_May.calls (a0_0 : Int) (a0_1 : Int) (r : Bool) (w : World) (h : addr_May.f a0_0 a0_1 = some r) :
  Calls Tryd.prog 47 #[.agg #[.int .i64 a0_0, .int .i64 a0_1]] w fun e w' => e = .returned (.bool r) ∧ Below w.heap.size w w' := by
 have hu27 := Tryd.underlying27; have HB := A_ (Below.refl w.heap.size w)
 have H : (if a0_0 ≥ 0 then (if a0_0 < 999 then (if a0_1 ≥ 0 then (some (decide (a0_1 < 702))) else (some false)) else (some false)) else (some false)) = some r := h
 clear h
 by_cases c2 : a0_0 ≥ 0
 ·rw [if_pos c2] at H; have c2b0 := decide_eq_true c2; clear c2
  by_cases c3 : a0_0 < 999
  ·rw [if_pos c3] at H; have c3b0 := decide_eq_true c3; clear c3
   by_cases c4 : a0_1 ≥ 0
   ·rw [if_pos c4] at H; have c4b0 := decide_eq_true c4; clear c4; obtain rfl := Option.some.inj H
    go_enter Tryd.func47, Tryd.ntmps47
    go_wp2_with (first | ((with_reducible refine gd_ 1 ?_); refine be_ (N:=1) (cs := #[.int .i64 a0_0, .int .i64 a0_1]) (t:=27) ?_; intro g1 hg w5 hbox hb; have B1 := A_ (hbox); replace HB := bs_ HB hb; clear hb hbox hg; have hcz6_0 : w5.cell? ⟨g1, 0, none⟩ = some (.int .i64 a0_0) := bc_ B1 0 rfl; have hcz6_1 : w5.cell? ⟨g1, 1, none⟩ = some (.int .i64 a0_1) := bc_ B1 1 rfl))
    go_ret
    exact fi_ (pbx HB)
   ·rw [if_neg c4] at H; have c4b0 := decide_eq_false c4; clear c4; obtain rfl := Option.some.inj H
    go_enter Tryd.func47, Tryd.ntmps47
    go_wp2_with (first | ((with_reducible refine gd_ 1 ?_); refine be_ (N:=1) (cs := #[.int .i64 a0_0, .int .i64 a0_1]) (t:=27) ?_; intro g1 hg w7 hbox hb; have B1 := A_ (hbox); replace HB := bs_ HB hb; clear hb hbox hg; have hcz8_0 : w7.cell? ⟨g1, 0, none⟩ = some (.int .i64 a0_0) := bc_ B1 0 rfl; have hcz8_1 : w7.cell? ⟨g1, 1, none⟩ = some (.int .i64 a0_1) := bc_ B1 1 rfl))
    go_ret
    exact fi_ (pbx HB)
  ·rw [if_neg c3] at H; have c3b0 := decide_eq_false c3; clear c3; obtain rfl := Option.some.inj H
   go_enter Tryd.func47, Tryd.ntmps47
   go_wp2_with (first | ((with_reducible refine gd_ 1 ?_); refine be_ (N:=1) (cs := #[.int .i64 a0_0, .int .i64 a0_1]) (t:=27) ?_; intro g1 hg w9 hbox hb; have B1 := A_ (hbox); replace HB := bs_ HB hb; clear hb hbox hg; have hcz10_0 : w9.cell? ⟨g1, 0, none⟩ = some (.int .i64 a0_0) := bc_ B1 0 rfl; have hcz10_1 : w9.cell? ⟨g1, 1, none⟩ = some (.int .i64 a0_1) := bc_ B1 1 rfl))
   go_ret
   exact fi_ (pbx HB)
 ·rw [if_neg c2] at H; have c2b0 := decide_eq_false c2; clear c2; obtain rfl := Option.some.inj H
  go_enter Tryd.func47, Tryd.ntmps47
  go_wp2_with (first | ((with_reducible refine gd_ 1 ?_); refine be_ (N:=1) (cs := #[.int .i64 a0_0, .int .i64 a0_1]) (t:=27) ?_; intro g1 hg w11 hbox hb; have B1 := A_ (hbox); replace HB := bs_ HB hb; clear hb hbox hg; have hcz12_0 : w11.cell? ⟨g1, 0, none⟩ = some (.int .i64 a0_0) := bc_ B1 0 rfl; have hcz12_1 : w11.cell? ⟨g1, 1, none⟩ = some (.int .i64 a0_1) := bc_ B1 1 rfl))
  go_ret
  exact fi_ (pbx HB)

def addr_Letters.j0 : Nat → Int → Bool → Option (ByteArray)
 | 0, _, _ => none
 | k + 1, x0, x3 => if x3 = true then (some (⟨#[]⟩ : ByteArray)) else (if x0 < 26 then (some (strOfNums (([(wrap64 (65 + x0)) % 256] : List Int)))) else (some (strOfNums (([(wrap64 ((wrap64 (65 + (wrap64 (Int.tdiv x0 26)))) - 1)) % 256, (wrap64 (65 + (Int.tmod x0 26))) % 256] : List Int)))))
def addr_Letters.f (k : Nat) (a0 : Int) : Option (ByteArray) := if a0 < 0 then (addr_Letters.j0 k a0 true) else (addr_Letters.j0 k a0 (decide (a0 ≥ 702)))
theorem addr_Letters.calls (k : Nat) (a0 : Int) (r : ByteArray) (w : World) (h : addr_Letters.f k a0 = some r) :
  Calls Tryd.prog 48 #[.int .i64 a0] w fun e w' => e = .returned (.string r) ∧ Below w.heap.size w w' := by
 have HB := A_ (Below.refl w.heap.size w)
 have H : (if a0 < 0 then (addr_Letters.j0 k a0 true) else (addr_Letters.j0 k a0 (decide (a0 ≥ 702)))) = some r := h
 clear h; have HC2 := A_ H; clear H
 go_enter Tryd.func48, Tryd.ntmps48
 go_upto_region 1 with (fail)
 go_cut [3] (fun v3 wc => ∃ (kq : Nat) (x3_1 : Bool), v3 = .bool x3_1 ∧ Aside0 (addr_Letters.j0 kq a0 x3_1 = some r) ∧ Aside0 (kq ≤ k) ∧ Aside0 (Below w.heap.size w wc))
 case first =>
  have H := HC2.out; clear HC2
  by_cases c3 : a0 < 0
  ·rw [if_pos c3] at H; have c3b0 := decide_eq_true c3; clear c3; (first | rw [c3b0] | (simp only [i64_w, i32_w]; rw [c3b0]) | skip)
   have H' := A_ H
   clear H
   go_wp2
   go_meet
   case rel => exact ⟨_, (true), sq_, H', le_, ⟨pbx HB⟩⟩
  ·rw [if_neg c3] at H; have c3b0 := decide_eq_false c3; clear c3; (first | rw [c3b0] | (simp only [i64_w, i32_w]; rw [c3b0]) | skip)
   have H' := A_ H
   clear H
   go_wp2
   go_meet
   case rel => exact ⟨_, (decide (a0 ≥ 702)), sq_, H', le_, ⟨pbx HB⟩⟩
 case rest =>
  clear HC2; obtain ⟨kq, x3_1, rfl, HA, HJ1, HB⟩ := hcut
  cases kq with
  | zero => exact absurd HA.out (by simp [addr_Letters.j0])
  | succ kj1 =>
   have H := HA.out; clear HA
   simp only [addr_Letters.j0] at H
   by_cases c4 : x3_1 = true
   ·subst c4
    replace H := it_ H; obtain rfl := Option.some.inj H
    go_wp2
    go_ret
    exact fi_ (pbx HB)
   ·replace c4 := Bool.eq_false_iff.mpr c4; subst c4
    replace H := ie_ H
    by_cases c5 : a0 < 26
    ·rw [if_pos c5] at H; have c5b0 := decide_eq_true c5; clear c5; obtain ⟨y101, hy101⟩ : ∃ y_ : List Int, y_ = (([(wrap64 (65 + a0)) % 256] : List Int)) := ⟨_, rfl⟩
     replace H : (some (strOfNums y101)) = some r := by first | (rw [hy101]; with_reducible exact H) | (have H2_ := (Option.bind_some _ _).symm.trans H; rw [hy101]; with_reducible exact H2_) | (have H2_ := (Option.bind_some _ _).symm.trans H; with_reducible exact H2_) | with_reducible exact H | (rw [hy101]; exact H) | exact H
     have Ny101 := A_ hy101; clear hy101; obtain rfl := Option.some.inj H
     go_wp2_with (first | ((with_reducible refine gd_ 16 ?_); refine Kd.R_lit (Kd.int .u8) _ 5 ?hg (N:=16) ?hd (xs := ([(wrap64 (65 + a0)) % 256] : List Int)) (inner := [.int .u8 ((wrap64 (65 + a0)) % 256)]) (ok := fun _ => True) (okp := fun _ => True) ?hr ?hp (fun _ hk => hk) trivial (Below.refl _ _) (Nat.le_refl _) (by simp) ?_; (case hd => rfl); (case hg => rfl); (case hr => first | (go_simp; done) | (go_simp; rfl)); (case hp => exact (Reps.one (show Kd.M (Kd.int .u8) _ _ _ ((wrap64 (65 + a0)) % 256) [.int .u8 ((wrap64 (65 + a0)) % 256)] from rfl) (Reps.none _ _))); intro v102 w6 ho7 hb hg_ hnew_; clear hg_ hnew_; (first | rw [← Ny101.out] at ho7 | (simp only [Int.reduceToNat] at ho7; rw [← Ny101.out] at ho7)); have HO103 := A_ (Kd.R_lower ho7 (below_size (pbx HB))); replace HB := bs_ HB hb; clear hb ho7; have hcv8 := own_string (P := Tryd.prog) Tryd.underlying84 Tryd.underlying5 Tryd.underlying9 (Kd.own_of_R HO103.out)))
     go_ret
     exact fi_ (pbx HB)
    ·rw [if_neg c5] at H; have c5b0 := decide_eq_false c5; clear c5; obtain ⟨y104, hy104⟩ : ∃ y_ : List Int, y_ = (([(wrap64 ((wrap64 (65 + (wrap64 (Int.tdiv a0 26)))) - 1)) % 256, (wrap64 (65 + (Int.tmod a0 26))) % 256] : List Int)) := ⟨_, rfl⟩
     replace H : (some (strOfNums y104)) = some r := by first | (rw [hy104]; with_reducible exact H) | (have H2_ := (Option.bind_some _ _).symm.trans H; rw [hy104]; with_reducible exact H2_) | (have H2_ := (Option.bind_some _ _).symm.trans H; with_reducible exact H2_) | with_reducible exact H | (rw [hy104]; exact H) | exact H
     have Ny104 := A_ hy104; clear hy104; obtain rfl := Option.some.inj H
     go_wp2_with (first | ((with_reducible refine gd_ 27 ?_); refine Kd.R_lit (Kd.int .u8) _ 5 ?hg (N:=27) ?hd (xs := ([(wrap64 ((wrap64 (65 + (wrap64 (Int.tdiv a0 26)))) - 1)) % 256, (wrap64 (65 + (Int.tmod a0 26))) % 256] : List Int)) (inner := [.int .u8 ((wrap64 ((wrap64 (65 + (wrap64 (Int.tdiv a0 26)))) - 1)) % 256), .int .u8 ((wrap64 (65 + (Int.tmod a0 26))) % 256)]) (ok := fun _ => True) (okp := fun _ => True) ?hr ?hp (fun _ hk => hk) trivial (Below.refl _ _) (Nat.le_refl _) (by simp) ?_; (case hd => rfl); (case hg => rfl); (case hr => first | (go_simp; done) | (go_simp; rfl)); (case hp => exact (Reps.one (show Kd.M (Kd.int .u8) _ _ _ ((wrap64 ((wrap64 (65 + (wrap64 (Int.tdiv a0 26)))) - 1)) % 256) [.int .u8 ((wrap64 ((wrap64 (65 + (wrap64 (Int.tdiv a0 26)))) - 1)) % 256)] from rfl) (Reps.one (show Kd.M (Kd.int .u8) _ _ _ ((wrap64 (65 + (Int.tmod a0 26))) % 256) [.int .u8 ((wrap64 (65 + (Int.tmod a0 26))) % 256)] from rfl) (Reps.none _ _)))); intro v105 w9 ho10 hb hg_ hnew_; clear hg_ hnew_; (first | rw [← Ny104.out] at ho10 | (simp only [Int.reduceToNat] at ho10; rw [← Ny104.out] at ho10)); have HO106 := A_ (Kd.R_lower ho10 (below_size (pbx HB))); replace HB := bs_ HB hb; clear hb ho10; have hcv11 := own_string (P := Tryd.prog) Tryd.underlying84 Tryd.underlying5 Tryd.underlying9 (Kd.own_of_R HO106.out)))
     go_ret
     exact fi_ (pbx HB)

def addr_Name.f (k : Nat) (a0_0 : Int) (a0_1 : Int) : Option (ByteArray) := (addr_May.f a0_0 a0_1).bind fun t102 => (if t102 = true then ((addr_Letters.f k a0_1).bind fun t103 => ((strconv_Itoa.f (wrap64 (a0_0 + 1))).bind fun t104 => (if t103.size + t104.size ≤ 9223372036854775807 then (some (t103 ++ t104)) else (none)))) else (some (⟨#[]⟩ : ByteArray)))
def addr_Name.T3 : Bool × List (List Nat × List Nat) := (true, [([], []), ([0], [0]), ([1], [1]), ([], []), ([3], [3]), ([4], [4]), ([5, 2], [5]), ([2, 6], [2, 6]), ([7, 6, 0, 1, 2, 3, 4, 5, 6, 7], [7])])
def addr_Name.B3 : List Nat := [0, 1, 3, 0, 8, 24, 63, 127, 255]
theorem addr_Name.tab3 : rtab .any (opsOf Tryd.f24 3) = addr_Name.T3 := by kernel_rfl
theorem addr_Name.bits3 : waitsOk addr_Name.T3.2 addr_Name.B3 = true := by kernel_rfl
theorem addr_Name.calls (k : Nat) (a0_0 : Int) (a0_1 : Int) (r : ByteArray) (w : World) (hT : Aside0 (Tab w)) (h : addr_Name.f k a0_0 a0_1 = some r) :
  Calls Tryd.prog 24 #[.agg #[.int .i64 a0_0, .int .i64 a0_1]] w fun e w' => e = .returned (.string r) ∧ Below w.heap.size w w' := by
 have hu27 := Tryd.underlying27; have HB := A_ (Below.refl w.heap.size w)
 have H : ((addr_May.f a0_0 a0_1).bind fun t102 => (if t102 = true then ((addr_Letters.f k a0_1).bind fun t103 => ((strconv_Itoa.f (wrap64 (a0_0 + 1))).bind fun t104 => (if t103.size + t104.size ≤ 9223372036854775807 then (some (t103 ++ t104)) else (none)))) else (some (⟨#[]⟩ : ByteArray)))) = some r := h
 clear h; obtain ⟨t102, A2, H⟩ := bo_ H
 by_cases c3 : t102 = true
 ·subst c3
  obtain ⟨t103, A4, H⟩ := bo_ (it_ H); obtain ⟨t104, A5, H⟩ := bo_ H
  by_cases c6 : t103.size + t104.size ≤ 9223372036854775807
  ·rw [if_pos c6] at H; have c6b0 := eq_true c6; have c6b1 := decide_eq_true c6
   try have c6b2 : (9223372036854775807 < t103.size + t104.size) = False := eq_false (Nat.not_lt.2 c6)
   obtain rfl := Option.some.inj H
   go_enter Tryd.func24, Tryd.ntmps24
   try go_wp2_with (first | ((with_reducible refine gd_ 1 ?_); refine be_ (N:=1) (cs := #[.int .i64 a0_0, .int .i64 a0_1]) (t:=27) ?_; intro g1 hg w7 hbox hb; have B1 := A_ (hbox); have GW101 := hs_ HB hg; have GE101 := hs_ HB hg; replace HB := bs_ HB hb; clear hb hbox hg; have ⟨hcz8_0,hcz8_1,hfz8_0,hfz8_1⟩ := z2_ B1) | ((with_reducible refine gate_callee (f:=47) rfl ?_); refine gL_ (some 4) rfl rfl Tryd.func47 rfl #[.agg #[.int .i64 a0_0, .int .i64 a0_1]] rfl ?_; (with_reducible refine (addr_May.calls a0_0 a0_1 true _ A2.out).mono ?_); rintro e w9 ⟨rfl, hb⟩; refine ⟨_, rfl, ?_⟩; replace B1 := bb_ B1 hb; replace HB := bs_ HB hb; ))
   (try (rw [drewN_self w9]; generalize hq_ : World.drewN w9 _ = w9; have n0_ : Aside0 (w9.heap[g1]? = some (.cells #[.int .i64 a0_0, .int .i64 a0_1] 27 (0, 0))) := ⟨by rw [← hq_]; exact (pkx B1)⟩; have n1_ : Aside0 (Below w.heap.size w w9) := ⟨by rw [← hq_]; exact (pbx HB)⟩; clear B1 HB hq_; have B1 := n0_; have HB := n1_; clear n0_ n1_))
   replace B1 := A_ (blk_drew B1.out); replace HB := A_ (below_drew1 HB.out)
   refine start_ (n:=9) (S := fun w' => w'.cell? ⟨g1, 0, none⟩ = some (.int .i64 a0_0) ∧ w'.cell? ⟨g1, 1, none⟩ = some (.int .i64 a0_1)) (ds := []) #[F,F,F,F,F,F,F,F,F] (by kernel_rfl) rfl rfl ⟨bc_ B1 0 rfl, bc_ B1 1 rfl⟩ (fun hHeld => ?_); refine with_tabW addr_Name.tab3 addr_Name.bits3 (fun HT_ HW_ => ?_)
   generalize w9.drew = w10 at B1 HB hHeld ⊢; refine pure_ (i:=0) (N:=some 6) (v:=?_) (a':=?_) ⟨m_ 9 1⟩ rfl rfl (ao_ HT_) (fun _ _ _ h=>h) (Or.inl ⟨rfl, ?_⟩) ?_ ?_; rotate_left
   ·intro w'; go_simp; with_reducible rfl
   rotate_left
   ·simp only [q_, i64_w, i32_w]; rfl
   refine pure_ (i:=3) (N:=some 9) (v:=?_) (a':=?_) ⟨m_ 9 9⟩ rfl rfl (ao_ HT_) (fun _ _ _ h=>h) (Or.inl ⟨rfl, ?_⟩) ?_ ?_; rotate_left
   ·intro w'; go_simp; with_reducible rfl
   rotate_left
   ·simp only [q_, i64_w, i32_w]; rfl
   refine take_ (i:=1) (N:=some 7) (v:=?_) (a':=?_) ⟨m_ 9 11⟩ rfl rfl (tw_ HT_ HW_) (fun _ _ _ h=>h) (Or.inl ⟨rfl, ?_⟩) hHeld ?_ ?_; rotate_left
   ·rintro w' ⟨s0, s1⟩; go_simp; with_reducible rfl
   rotate_left
   ·simp only [q_, i64_w, i32_w]; rfl
   refine take_ (i:=4) (N:=some 10) (v:=?_) (a':=?_) ⟨m_ 9 27⟩ rfl rfl (tw_ HT_ HW_) (fun _ _ _ h=>h) (Or.inl ⟨rfl, ?_⟩) hHeld ?_ ?_; rotate_left
   ·rintro w' ⟨s0, s1⟩; go_simp; with_reducible rfl
   rotate_left
   ·simp only [q_, i64_w, i32_w]; rfl
   refine pure_ (i:=5) (N:=some 11) (v:=?_) (a':=?_) ⟨m_ 9 59⟩ rfl rfl (ao_ HT_) (fun _ _ _ h=>h) (Or.inl ⟨rfl, ?_⟩) ?_ ?_; rotate_left
   ·intro w'; go_simp; with_reducible rfl
   rotate_left
   ·simp only [q_, i64_w, i32_w]; rfl
   refine one_ (i:=2) (N:=some 8) ⟨m_ 9 63⟩ rfl rfl (oo_ HT_) (by decide) (fun K hK => ?_); refine goes_ Tryd.func48 (by kernel_rfl) rfl #[.int .i64 a0_1] (by rfl) rfl rfl ha_ ?_; with_reducible refine (addr_Letters.calls k a0_1 t103 _ A4.out).mono ?_; rintro e w11 ⟨rfl, hb⟩; refine ⟨_, rfl, ?_⟩
   replace B1 := bb_ B1 hb; replace HB := bs_ HB hb; (try clear hb); refine hK.out _ _ ⟨bc_ B1 0 rfl, bc_ B1 1 rfl⟩ (fun hHeld => ?_); clear hK K; refine norm_ (a':=?_) ?_ ?_; rotate_left
   ·show Act.put _ (some 8) _ = _; simp only [q_, i64_w, i32_w]; rfl
   refine one_ (i:=6) (N:=some 12) ⟨m_ 9 127⟩ rfl rfl (oo_ HT_) (by decide) (fun K hK => ?_); refine goes_ Tryd.func26 (by kernel_rfl) rfl #[.int .i64 (wrap64 (a0_0 + 1))] (by rfl) rfl rfl ha_ ?_; with_reducible refine (strconv_Itoa.calls (wrap64 (a0_0 + 1)) t104 _ (by refine tb_ ?_ hT; repeat' (first | exact pbx HB | exact Below.refl _ _ | assumption | refine below_set ?_ (Aside0.out ?_))) A5.out).mono ?_; rintro e w12 ⟨rfl, hb⟩; refine ⟨_, rfl, ?_⟩
   replace B1 := bb_ B1 hb; replace HB := bs_ HB hb; (try clear hb); refine hK.out _ _ ⟨bc_ B1 0 rfl, bc_ B1 1 rfl⟩ (fun hHeld => ?_); clear hK K; refine norm_ (a':=?_) ?_ ?_; rotate_left
   ·show Act.put _ (some 12) _ = _; simp only [q_, i64_w, i32_w]; rfl
   refine pure_ (i:=7) (N:=some 13) (v:=?_) (a':=?_) ⟨m_ 9 255⟩ rfl rfl (ao_ HT_) (fun _ _ _ h=>h) (Or.inl ⟨rfl, ?_⟩) ?_ ?_; rotate_left
   ·intro w'; go_simp; with_reducible rfl
   rotate_left
   ·simp only [q_, i64_w, i32_w]; rfl
   refine pure_ (i:=8) (N:=some 2) (v:=?_) (a':=?_) ⟨m_ 9 511⟩ rfl rfl (ao_ HT_) (fun _ _ _ h=>h) (Or.inl ⟨rfl, ?_⟩) ?_ ?_; rotate_left
   ·intro w'; go_simp; with_reducible rfl
   rotate_left
   ·simp only [q_, i64_w, i32_w]; rfl
   refine done_ (done_of HT_.out (by kernel_rfl)) ?_
   try go_wp2
   go_ret
   exact fi_ (pbx HB)
  ·rw [if_neg c6] at H
   exact absurd H (by simp)
 ·replace c3 := Bool.eq_false_iff.mpr c3; subst c3
  replace H := ie_ H; obtain rfl := Option.some.inj H
  go_enter Tryd.func24, Tryd.ntmps24
  go_wp2_with (first | ((with_reducible refine gd_ 1 ?_); refine be_ (N:=1) (cs := #[.int .i64 a0_0, .int .i64 a0_1]) (t:=27) ?_; intro g1 hg w13 hbox hb; have B1 := A_ (hbox); have GW101 := hs_ HB hg; have GE101 := hs_ HB hg; replace HB := bs_ HB hb; clear hb hbox hg; have ⟨hcz14_0,hcz14_1,hfz14_0,hfz14_1⟩ := z2_ B1) | ((with_reducible refine gate_callee (f:=47) rfl ?_); refine gL_ (some 4) rfl rfl Tryd.func47 rfl #[.agg #[.int .i64 a0_0, .int .i64 a0_1]] rfl ?_; (with_reducible refine (addr_May.calls a0_0 a0_1 false _ A2.out).mono ?_); rintro e w15 ⟨rfl, hb⟩; refine ⟨_, rfl, ?_⟩; replace B1 := bb_ B1 hb; replace HB := bs_ HB hb; ))
  go_ret
  exact fi_ (pbx HB)

def span_May.f (a0_0 : Int) (a0_1 : Int) (a0_2 : Int) (a0_3 : Int) : Option (Bool) := (addr_May.f a0_0 a0_1).bind fun t102 => (if t102 = true then ((addr_May.f a0_2 a0_3).bind fun t103 => (some t103)) else (some false))
theorem span_May.calls (a0_0 : Int) (a0_1 : Int) (a0_2 : Int) (a0_3 : Int) (r : Bool) (w : World) (h : span_May.f a0_0 a0_1 a0_2 a0_3 = some r) :
  Calls Tryd.prog 49 #[.agg #[.int .i64 a0_0, .int .i64 a0_1, .int .i64 a0_2, .int .i64 a0_3]] w fun e w' => e = .returned (.bool r) ∧ Below w.heap.size w w' := by
 have hu29 := Tryd.underlying29; have hu27 := Tryd.underlying27; have HB := A_ (Below.refl w.heap.size w)
 have H : ((addr_May.f a0_0 a0_1).bind fun t102 => (if t102 = true then ((addr_May.f a0_2 a0_3).bind fun t103 => (some t103)) else (some false))) = some r := h
 clear h; obtain ⟨t102, A2, H⟩ := bo_ H
 by_cases c3 : t102 = true
 ·subst c3
  obtain ⟨t103, A4, H⟩ := bo_ (it_ H); obtain rfl := Option.some.inj H
  go_enter Tryd.func49, Tryd.ntmps49
  go_wp2_with (first | ((with_reducible refine gd_ 1 ?_); refine be_ (N:=1) (cs := #[.int .i64 a0_0, .int .i64 a0_1, .int .i64 a0_2, .int .i64 a0_3]) (t:=29) ?_; intro g1 hg w5 hbox hb; have B1 := A_ (hbox); replace HB := bs_ HB hb; clear hb hbox hg; have hcz6_0 : w5.cell? ⟨g1, 0, none⟩ = some (.int .i64 a0_0) := bc_ B1 0 rfl; have hcz6_1 : w5.cell? ⟨g1, 1, none⟩ = some (.int .i64 a0_1) := bc_ B1 1 rfl; have hcz6_2 : w5.cell? ⟨g1, 2, none⟩ = some (.int .i64 a0_2) := bc_ B1 2 rfl; have hcz6_3 : w5.cell? ⟨g1, 3, none⟩ = some (.int .i64 a0_3) := bc_ B1 3 rfl) | ((with_reducible refine gate_callee (f:=47) rfl ?_); refine gL_ (some 5) rfl rfl Tryd.func47 rfl #[.agg #[.int .i64 a0_0, .int .i64 a0_1]] rfl ?_; (with_reducible refine (addr_May.calls a0_0 a0_1 true _ A2.out).mono ?_); rintro e w7 ⟨rfl, hb⟩; refine ⟨_, rfl, ?_⟩; replace B1 := bb_ B1 hb; replace HB := bs_ HB hb; have hcz8_0 : w7.cell? ⟨g1, 0, none⟩ = some (.int .i64 a0_0) := bc_ B1 0 rfl; have hcz8_1 : w7.cell? ⟨g1, 1, none⟩ = some (.int .i64 a0_1) := bc_ B1 1 rfl; have hcz8_2 : w7.cell? ⟨g1, 2, none⟩ = some (.int .i64 a0_2) := bc_ B1 2 rfl; have hcz8_3 : w7.cell? ⟨g1, 3, none⟩ = some (.int .i64 a0_3) := bc_ B1 3 rfl) | (go_at_call 47; (with_reducible refine (addr_May.calls a0_2 a0_3 t103 _ A4.out).mono ?_); rintro e w9 ⟨rfl, hb⟩; replace B1 := bb_ B1 hb; replace HB := bs_ HB hb; ))
  go_ret
  exact fi_ (pbx HB)
 ·replace c3 := Bool.eq_false_iff.mpr c3; subst c3
  replace H := ie_ H; obtain rfl := Option.some.inj H
  go_enter Tryd.func49, Tryd.ntmps49
  go_wp2_with (first | ((with_reducible refine gd_ 1 ?_); refine be_ (N:=1) (cs := #[.int .i64 a0_0, .int .i64 a0_1, .int .i64 a0_2, .int .i64 a0_3]) (t:=29) ?_; intro g1 hg w10 hbox hb; have B1 := A_ (hbox); replace HB := bs_ HB hb; clear hb hbox hg; have hcz11_0 : w10.cell? ⟨g1, 0, none⟩ = some (.int .i64 a0_0) := bc_ B1 0 rfl; have hcz11_1 : w10.cell? ⟨g1, 1, none⟩ = some (.int .i64 a0_1) := bc_ B1 1 rfl; have hcz11_2 : w10.cell? ⟨g1, 2, none⟩ = some (.int .i64 a0_2) := bc_ B1 2 rfl; have hcz11_3 : w10.cell? ⟨g1, 3, none⟩ = some (.int .i64 a0_3) := bc_ B1 3 rfl) | ((with_reducible refine gate_callee (f:=47) rfl ?_); refine gL_ (some 5) rfl rfl Tryd.func47 rfl #[.agg #[.int .i64 a0_0, .int .i64 a0_1]] rfl ?_; (with_reducible refine (addr_May.calls a0_0 a0_1 false _ A2.out).mono ?_); rintro e w12 ⟨rfl, hb⟩; refine ⟨_, rfl, ?_⟩; replace B1 := bb_ B1 hb; replace HB := bs_ HB hb; ))
  go_ret
  exact fi_ (pbx HB)

end Go.Proofs.YtajoebfkkknjhaaDoor.X
namespace Go.Proofs.YtajoebfkkknjhaaDoor.X
open Go.RowKit Go.Proofs.YtajoebfkkknjhaaDoorW.PrintWords Go.Proofs.YtajoebfkkknjhaaDoorW.PrintLast Go.Proofs.YtajoebfkkknjhaaDoorW.PrintMore
attribute [local go_sem] max2_int min2_int max_two min_two max_three min_three max_four min_four
set_option linter.unusedVariables false
set_option linter.unusedSimpArgs false
attribute [local go_sem high] eqA27
def span_Text.j0 : Nat → Bool → Int → Int → Int → Int → Option (ByteArray)
 | 0, _, _, _, _, _ => none
 | k + 1, x3, x102000, x102001, x102002, x102003 => if x3 = true then (some (⟨#[]⟩ : ByteArray)) else (if (x102000 == x102002 && (x102001 == x102003)) = true then ((addr_Name.f k x102000 x102001).bind fun t103 => (some t103)) else ((addr_Name.f k x102000 x102001).bind fun t104 => (if t104.size + 1 ≤ 9223372036854775807 then ((addr_Name.f k x102002 x102003).bind fun t105 => (if (t104 ++ (⟨#[58]⟩ : ByteArray)).size + t105.size ≤ 9223372036854775807 then (some ((t104 ++ (⟨#[58]⟩ : ByteArray)) ++ t105)) else (none))) else (none))))
def span_Text.f (k : Nat) (a0_0 : Int) (a0_1 : Int) (a0_2 : Int) (a0_3 : Int) : Option (ByteArray) := (span_May.f a0_0 a0_1 a0_2 a0_3).bind fun t102 => (span_Text.j0 k (!t102) a0_0 a0_1 a0_2 a0_3)
def span_Text.T5 : Bool × List (List Nat × List Nat) := (true, [([], []), ([0], [0]), ([1], [1]), ([2], [2]), ([], []), ([4], [4]), ([5, 2], [5]), ([3, 6], [3, 6]), ([7, 6, 0, 1, 2, 3, 4, 5, 6, 7], [7])])
def span_Text.B5 : List Nat := [0, 1, 3, 7, 0, 16, 55, 127, 255]
theorem span_Text.tab5 : rtab .any (opsOf Tryd.f25 5) = span_Text.T5 := by kernel_rfl
theorem span_Text.bits5 : waitsOk span_Text.T5.2 span_Text.B5 = true := by kernel_rfl
theorem span_Text.calls (k : Nat) (a0_0 : Int) (a0_1 : Int) (a0_2 : Int) (a0_3 : Int) (r : ByteArray) (w : World) (hT : Aside0 (Tab w)) (h : span_Text.f k a0_0 a0_1 a0_2 a0_3 = some r) :
  Calls Tryd.prog 25 #[.agg #[.int .i64 a0_0, .int .i64 a0_1, .int .i64 a0_2, .int .i64 a0_3]] w fun e w' => e = .returned (.string r) ∧ Below w.heap.size w w' := by
 have hu29 := Tryd.underlying29; have hu27 := Tryd.underlying27; have HB := A_ (Below.refl w.heap.size w)
 have H : ((span_May.f a0_0 a0_1 a0_2 a0_3).bind fun t102 => (span_Text.j0 k (!t102) a0_0 a0_1 a0_2 a0_3)) = some r := h
 clear h; have HC2 := A_ H; clear H
 go_enter Tryd.func25, Tryd.ntmps25
 go_upto_region 1 with (first | ((with_reducible refine gd_ 1 ?_); refine be_ (N:=1) (cs := #[.int .i64 a0_0, .int .i64 a0_1, .int .i64 a0_2, .int .i64 a0_3]) (t:=29) ?_; intro g1 hg w3 hbox hb; have B1 := A_ (hbox); have GW101 := hs_ HB hg; have GE101 := hs_ HB hg; replace HB := bs_ HB hb; clear hb hbox hg))
 (try simp only [q_])
 go_cut [3] (fun v3 wc => ∃ (kq : Nat) (x3_1 : Bool), v3 = .bool x3_1 ∧ Aside0 (span_Text.j0 kq x3_1 a0_0 a0_1 a0_2 a0_3 = some r) ∧ Aside0 (kq ≤ k) ∧ Aside0 (wc.heap[g1]? = some (.cells #[.int .i64 a0_0, .int .i64 a0_1, .int .i64 a0_2, .int .i64 a0_3] 29 (0, 0))) ∧ Aside0 (Below w.heap.size w wc))
 case first =>
  have H := HC2.out; clear HC2; obtain ⟨t102, A4, H⟩ := bo_ H
  have H' := A_ H
  clear H
  have ⟨hcz5_0,hcz5_1,hcz5_2,hcz5_3,hfz5_0,hfz5_1,hfz5_2,hfz5_3⟩ := z4_ B1
  go_wp2_with (first | ((with_reducible refine gate_callee (f:=49) rfl ?_); refine gL_ (some 5) rfl rfl Tryd.func49 rfl #[.agg #[.int .i64 a0_0, .int .i64 a0_1, .int .i64 a0_2, .int .i64 a0_3]] rfl ?_; (with_reducible refine (span_May.calls a0_0 a0_1 a0_2 a0_3 t102 _ A4.out).mono ?_); rintro e w6 ⟨rfl, hb⟩; refine ⟨_, rfl, ?_⟩; replace B1 := bb_ B1 hb; replace HB := bs_ HB hb; (try clear hb); ))
  go_meet
  case rel => exact ⟨_, (!t102), (by first | rfl | (simp; done) | (simp [*]; done) | (cases t102 <;> simp; done)), H', le_, ⟨pkx B1⟩, ⟨pbx HB⟩⟩
 case rest =>
  clear HC2; obtain ⟨kq, x3_1, rfl, HA, HJ1, B1, HB⟩ := hcut
  cases kq with
  | zero => exact absurd HA.out (by simp [span_Text.j0])
  | succ kj1 =>
   have H := HA.out; clear HA
   simp only [span_Text.j0] at H
   by_cases c7 : x3_1 = true
   ·subst c7
    replace H := it_ H; obtain rfl := Option.some.inj H
    go_wp2
    go_ret
    exact fi_ (pbx HB)
   ·replace c7 := Bool.eq_false_iff.mpr c7; subst c7
    replace H := ie_ H
    by_cases c8 : (a0_0 == a0_2 && (a0_1 == a0_3)) = true
    ·rw [if_pos c8] at H
     have c8b0 : (a0_0 == a0_2 && (a0_1 == a0_3)) = true := c8
     (try (have c8b1 : decide (a0_0 = a0_2 && (a0_1 == a0_3)) = true := by simpa using c8)); (try (have c8b2 : (a0_0 == a0_2 && (a0_1 == a0_3)) = true := by simpa using c8))
     clear c8; obtain ⟨t103, A9, H⟩ := bo_ H; obtain rfl := Option.some.inj H
     have ⟨hcz10_0,hcz10_1,hcz10_2,hcz10_3,hfz10_0,hfz10_1,hfz10_2,hfz10_3⟩ := z4_ B1
     go_wp2_with (first | ((with_reducible refine gate_callee (f:=24) rfl ?_); refine gL_ (some 15) rfl rfl Tryd.func24 rfl #[.agg #[.int .i64 a0_0, .int .i64 a0_1]] rfl ?_; (with_reducible refine (addr_Name.calls kj1 a0_0 a0_1 t103 _ (by refine tb_ ?_ hT; repeat' (first | exact pbx HB | exact Below.refl _ _ | assumption | refine below_set ?_ (Aside0.out ?_))) A9.out).mono ?_); rintro e w11 ⟨rfl, hb⟩; refine ⟨_, rfl, ?_⟩; replace B1 := bb_ B1 hb; replace HB := bs_ HB hb; (try clear hb); ))
     go_ret
     exact fi_ (pbx HB)
    ·rw [if_neg c8] at H
     have c8b0 : (a0_0 == a0_2 && (a0_1 == a0_3)) = false := by simpa using c8
     (try (have c8b1 : decide (a0_0 = a0_2 && (a0_1 == a0_3)) = false := by simpa using c8)); (try (have c8b2 : (a0_0 == a0_2 && (a0_1 == a0_3)) = false := by simpa using c8)); (try (have c8b3 : ¬ (a0_0 = a0_2 && (a0_1 == a0_3)) := by simpa using c8))
     clear c8; obtain ⟨t104, A12, H⟩ := bo_ H
     by_cases c13 : t104.size + 1 ≤ 9223372036854775807
     ·rw [if_pos c13] at H; have c13b0 := eq_true c13; have c13b1 := decide_eq_true c13
      try have c13b2 : (9223372036854775807 < t104.size + 1) = False := eq_false (Nat.not_lt.2 c13)
      obtain ⟨t105, A14, H⟩ := bo_ H
      by_cases c15 : (t104 ++ (⟨#[58]⟩ : ByteArray)).size + t105.size ≤ 9223372036854775807
      ·rw [if_pos c15] at H; have c15b0 := eq_true c15; have c15b1 := decide_eq_true c15
       try have c15b2 : (9223372036854775807 < (t104 ++ (⟨#[58]⟩ : ByteArray)).size + t105.size) = False := eq_false (Nat.not_lt.2 c15)
       try have c15b2z : (9223372036854775807 < t104.size + 1 + t105.size) = False := by have h9_ := c15b2; rw [ByteArray.size_append] at h9_; exact h9_
       obtain rfl := Option.some.inj H
       have ⟨hcz16_0,hcz16_1,hcz16_2,hcz16_3,hfz16_0,hfz16_1,hfz16_2,hfz16_3⟩ := z4_ B1
       try go_wp2
       (try (rw [drewN_self wc]; generalize hq_ : World.drewN wc _ = wc; have n0_ : Aside0 (wc.heap[g1]? = some (.cells #[.int .i64 a0_0, .int .i64 a0_1, .int .i64 a0_2, .int .i64 a0_3] 29 (0, 0))) := ⟨by rw [← hq_]; exact (pkx B1)⟩; have n1_ : Aside0 (Below w.heap.size w wc) := ⟨by rw [← hq_]; exact (pbx HB)⟩; clear B1 HB hq_; have B1 := n0_; have HB := n1_; clear n0_ n1_))
       replace B1 := A_ (blk_drew B1.out); replace HB := A_ (below_drew1 HB.out)
       refine start_ (n:=9) (S := fun w' => w'.cell? ⟨g1, 0, none⟩ = some (.int .i64 a0_0) ∧ w'.cell? ⟨g1, 1, none⟩ = some (.int .i64 a0_1) ∧ w'.cell? ⟨g1, 2, none⟩ = some (.int .i64 a0_2) ∧ w'.cell? ⟨g1, 3, none⟩ = some (.int .i64 a0_3)) (ds := []) #[F,F,F,F,F,F,F,F,F] (by kernel_rfl) rfl rfl ⟨bc_ B1 0 rfl, bc_ B1 1 rfl, bc_ B1 2 rfl, bc_ B1 3 rfl⟩ (fun hHeld => ?_); refine with_tabW span_Text.tab5 span_Text.bits5 (fun HT_ HW_ => ?_)
       generalize wc.drew = w17 at B1 HB hHeld ⊢; refine pure_ (i:=0) (N:=some 16) (v:=?_) (a':=?_) ⟨m_ 9 1⟩ rfl rfl (ao_ HT_) (fun _ _ _ h=>h) (Or.inl ⟨rfl, ?_⟩) ?_ ?_; rotate_left
       ·intro w'; go_simp; with_reducible rfl
       rotate_left
       ·simp only [q_, i64_w, i32_w]; rfl
       refine pure_ (i:=4) (N:=some 20) (v:=?_) (a':=?_) ⟨m_ 9 17⟩ rfl rfl (ao_ HT_) (fun _ _ _ h=>h) (Or.inl ⟨rfl, ?_⟩) ?_ ?_; rotate_left
       ·intro w'; go_simp; with_reducible rfl
       rotate_left
       ·simp only [q_, i64_w, i32_w]; rfl
       refine take_ (i:=1) (N:=some 17) (v:=?_) (a':=?_) ⟨m_ 9 19⟩ rfl rfl (tw_ HT_ HW_) (fun _ _ _ h=>h) (Or.inl ⟨rfl, ?_⟩) hHeld ?_ ?_; rotate_left
       ·rintro w' ⟨s0, s1, s2, s3⟩; go_simp; with_reducible rfl
       rotate_left
       ·simp only [q_, i64_w, i32_w]; rfl
       refine take_ (i:=5) (N:=some 21) (v:=?_) (a':=?_) ⟨m_ 9 51⟩ rfl rfl (tw_ HT_ HW_) (fun _ _ _ h=>h) (Or.inl ⟨rfl, ?_⟩) hHeld ?_ ?_; rotate_left
       ·rintro w' ⟨s0, s1, s2, s3⟩; go_simp; with_reducible rfl
       rotate_left
       ·simp only [q_, i64_w, i32_w]; rfl
       refine one_ (i:=2) (N:=some 18) ⟨m_ 9 55⟩ rfl rfl (oo_ HT_) (by decide) (fun K hK => ?_); refine goes_ Tryd.func24 (by kernel_rfl) rfl #[.agg #[.int .i64 a0_0, .int .i64 a0_1]] (by rfl) rfl rfl ha_ ?_; with_reducible refine (addr_Name.calls kj1 a0_0 a0_1 t104 _ (by refine tb_ ?_ hT; repeat' (first | exact pbx HB | exact Below.refl _ _ | assumption | refine below_set ?_ (Aside0.out ?_))) A12.out).mono ?_; rintro e w18 ⟨rfl, hb⟩; refine ⟨_, rfl, ?_⟩
       replace B1 := bb_ B1 hb; replace HB := bs_ HB hb; (try clear hb); refine hK.out _ _ ⟨bc_ B1 0 rfl, bc_ B1 1 rfl, bc_ B1 2 rfl, bc_ B1 3 rfl⟩ (fun hHeld => ?_); clear hK K; refine norm_ (a':=?_) ?_ ?_; rotate_left
       ·show Act.put _ (some 18) _ = _; simp only [q_, i64_w, i32_w]; rfl
       refine pure_ (i:=3) (N:=some 19) (v:=?_) (a':=?_) ⟨m_ 9 63⟩ rfl rfl (ao_ HT_) (fun _ _ _ h=>h) (Or.inl ⟨rfl, ?_⟩) ?_ ?_; rotate_left
       ·intro w'; go_simp; with_reducible rfl
       rotate_left
       ·simp only [q_, i64_w, i32_w]; rfl
       refine one_ (i:=6) (N:=some 22) ⟨m_ 9 127⟩ rfl rfl (oo_ HT_) (by decide) (fun K hK => ?_); refine goes_ Tryd.func24 (by kernel_rfl) rfl #[.agg #[.int .i64 a0_2, .int .i64 a0_3]] (by rfl) rfl rfl ha_ ?_; with_reducible refine (addr_Name.calls kj1 a0_2 a0_3 t105 _ (by refine tb_ ?_ hT; repeat' (first | exact pbx HB | exact Below.refl _ _ | assumption | refine below_set ?_ (Aside0.out ?_))) A14.out).mono ?_; rintro e w19 ⟨rfl, hb⟩; refine ⟨_, rfl, ?_⟩
       replace B1 := bb_ B1 hb; replace HB := bs_ HB hb; (try clear hb); refine hK.out _ _ ⟨bc_ B1 0 rfl, bc_ B1 1 rfl, bc_ B1 2 rfl, bc_ B1 3 rfl⟩ (fun hHeld => ?_); clear hK K; refine norm_ (a':=?_) ?_ ?_; rotate_left
       ·show Act.put _ (some 22) _ = _; simp only [q_, i64_w, i32_w]; rfl
       refine pure_ (i:=7) (N:=some 23) (v:=?_) (a':=?_) ⟨m_ 9 255⟩ rfl rfl (ao_ HT_) (fun _ _ _ h=>h) (Or.inl ⟨rfl, ?_⟩) ?_ ?_; rotate_left
       ·intro w'; go_simp; with_reducible rfl
       rotate_left
       ·simp only [q_, i64_w, i32_w]; rfl
       refine pure_ (i:=8) (N:=some 2) (v:=?_) (a':=?_) ⟨m_ 9 511⟩ rfl rfl (ao_ HT_) (fun _ _ _ h=>h) (Or.inl ⟨rfl, ?_⟩) ?_ ?_; rotate_left
       ·intro w'; go_simp; with_reducible rfl
       rotate_left
       ·simp only [q_, i64_w, i32_w]; rfl
       refine done_ (done_of HT_.out (by kernel_rfl)) ?_
       try go_wp2
       go_ret
       exact fi_ (pbx HB)
      ·rw [if_neg c15] at H
       exact absurd H (by simp)
     ·rw [if_neg c13] at H
      exact absurd H (by simp)

end Go.Proofs.YtajoebfkkknjhaaDoor.X
/- Plain facts on whole numbers, bits and lists that the pure statements use. -/
set_option linter.unusedVariables false
set_option linter.unusedSimpArgs false
namespace Go.Proofs.YtajoebfkkknjhaaDoor.X
open Go.RowKit Go.Proofs.YtajoebfkkknjhaaDoorW.PrintWords Go.Proofs.YtajoebfkkknjhaaDoorW.PrintLast Go.Proofs.YtajoebfkkknjhaaDoorW.PrintMore
theorem w64 {x : Int} (h0 : -9223372036854775808 ≤ x) (h1 : x ≤ 9223372036854775807) : wrap64 x = x := by unfold wrap64; omega
theorem w64s {i n : Nat} (h : i < n) (hn : n ≤ 9223372036854775807) : wrap64 ((i : Int) + 1) = ((i + 1 : Nat) : Int) := by unfold wrap64; omega
theorem ev_now {α : Type} (r : α) : Ev (fun _ : Nat => some r) r := Ev.now r
theorem ev_some {α : Type} {g : Nat → Option α} {r : α} (h : ∀ k, g k = some r) : Ev g r := ⟨0, fun k _ => h k⟩
theorem ev_ite {α : Type} {c : Prop} [Decidable c] {f g : Nat → Option α} {r : α} (h1 : c → Ev f r) (h2 : ¬ c → Ev g r) : Ev (fun k => if c then f k else g k) r := by
 by_cases h : c
 ·simp only [if_pos h]; exact h1 h
 ·simp only [if_neg h]; exact h2 h
theorem ev_pos {α : Type} {c : Prop} [Decidable c] {f g : Nat → Option α} {r : α} (h : c) (h1 : Ev f r) : Ev (fun k => if c then f k else g k) r := by simp only [if_pos h]; exact h1
theorem ev_neg {α : Type} {c : Prop} [Decidable c] {f g : Nat → Option α} {r : α} (h : ¬ c) (h1 : Ev g r) : Ev (fun k => if c then f k else g k) r := by simp only [if_neg h]; exact h1
theorem ev_bind {α β : Type} {g : Nat → Option α} {f : Nat → α → Option β} {a : α} {r : β} (h : Ev g a) (k : Ev (fun n => f n a) r) : Ev (fun n => (g n).bind (f n)) r := Ev.bind h k
theorem ev_bsome {α β : Type} {x : α} {f : Nat → α → Option β} {r : β} (k : Ev (fun n => f n x) r) : Ev (fun n => (some x).bind (f n)) r := k
theorem mod_pow_succ (x i : Nat) : x % 2 ^ (i + 1) = x % 2 ^ i + 2 ^ i * (x.testBit i).toNat := by
 rw [Nat.pow_succ, Nat.mod_mul, Nat.testBit_eq_decide_div_mod_eq]
 have := Nat.mod_two_eq_zero_or_one (x / 2 ^ i)
 rcases this with h | h <;> simp [h]
end Go.Proofs.YtajoebfkkknjhaaDoor.X
/- Plain facts on texts as lists of bytes. -/
set_option linter.unusedVariables false
set_option linter.unusedSimpArgs false
namespace Go.Proofs.YtajoebfkkknjhaaDoor.X
open Go.RowKit Go.Proofs.YtajoebfkkknjhaaDoorW.PrintWords Go.Proofs.YtajoebfkkknjhaaDoorW.PrintLast Go.Proofs.YtajoebfkkknjhaaDoorW.PrintMore
def by_ (s : ByteArray) : List UInt8 := s.data.toList
def tx (l : List UInt8) : ByteArray := ⟨l.toArray⟩
theorem by_tx (l : List UInt8) : by_ (tx l) = l := by simp [by_, tx]
theorem tx_by (s : ByteArray) : tx (by_ s) = s := by
 obtain ⟨⟨l⟩⟩ := s
 rfl
theorem by_inj {s t : ByteArray} (h : by_ s = by_ t) : s = t := by rw [← tx_by s, ← tx_by t, h]
theorem toList_by (s : ByteArray) : s.toList = by_ s := ByteArray.toList_eq s
theorem size_by (s : ByteArray) : s.size = (by_ s).length := by
 obtain ⟨⟨l⟩⟩ := s
 rfl
theorem size_tx (l : List UInt8) : (tx l).size = l.length := by rw [size_by, by_tx]
theorem by_extract (s : ByteArray) (a b : Nat) : by_ (s.extract a b) = ((by_ s).drop a).take (b - a) := Go.Lib.extract_data s a b
theorem by_head (s : ByteArray) (b : Nat) : by_ (s.extract 0 b) = (by_ s).take b := by rw [by_extract]; simp
theorem by_tail (s : ByteArray) (a : Nat) : by_ (s.extract a s.size) = (by_ s).drop a := by
 rw [by_extract, List.take_of_length_le]
 rw [List.length_drop, size_by]
 exact Nat.le_refl _
theorem ext_head (s : ByteArray) (b : Nat) : s.extract 0 b = tx ((by_ s).take b) := by_inj (by rw [by_head, by_tx])
theorem ext_tail (s : ByteArray) (a : Nat) : s.extract a s.size = tx ((by_ s).drop a) := by_inj (by rw [by_tail, by_tx])
theorem ext_mid (s : ByteArray) (a b : Nat) : s.extract a b = tx (((by_ s).drop a).take (b - a)) := by_inj (by rw [by_extract, by_tx])
theorem by_append (s t : ByteArray) : by_ (s ++ t) = by_ s ++ by_ t := by
 obtain ⟨⟨l⟩⟩ := s
 obtain ⟨⟨m⟩⟩ := t
 simp [by_, ByteArray.data_append]
theorem tx_append (l m : List UInt8) : tx l ++ tx m = tx (l ++ m) := by_inj (by rw [by_append, by_tx, by_tx, by_tx])
theorem bt_by (s : ByteArray) (i : Nat) (h : i < (by_ s).length) : bt s (i : Int) = ((by_ s)[i].toNat : Int) := by
 obtain ⟨⟨l⟩⟩ := s
 have h' : (i : Int).toNat < (⟨⟨l⟩⟩ : ByteArray).size := by rw [Int.toNat_natCast]; exact h
 unfold bt
 rw [dif_pos h']
 simp only [Int.toNat_natCast]
 rfl
theorem bt_tx (l : List UInt8) (i : Nat) (h : i < l.length) : bt (tx l) (i : Int) = (l[i].toNat : Int) := by
 rw [bt_by (tx l) i (by rw [by_tx]; exact h)]
 simp only [by_tx]
theorem bt_tx0 (c : UInt8) (l : List UInt8) : bt (tx (c :: l)) 0 = (c.toNat : Int) := bt_tx (c :: l) 0 (by simp)
theorem u8_lt (c : UInt8) : c.toNat < 256 := c.toNat_lt
theorem u8_inj {a b : UInt8} (h : a.toNat = b.toNat) : a = b := UInt8.toNat_inj.1 h
end Go.Proofs.YtajoebfkkknjhaaDoor.X
/- The contract of strings.Join: the texts of a row, with a text between them, told through strings.Builder. -/
set_option linter.unusedVariables false
set_option linter.unusedSimpArgs false
namespace Go.Proofs.YtajoebfkkknjhaaDoor.X
open Go.RowKit Go.Shelf Go.Proofs.YtajoebfkkknjhaaDoorW.PrintWords Go.Proofs.YtajoebfkkknjhaaDoorW.PrintLast Go.Proofs.YtajoebfkkknjhaaDoorW.PrintMore
def joinL (s : List UInt8) : List (List UInt8) → List UInt8
 | [] => []
 | x :: xs => x ++ xs.flatMap fun y => s ++ y
def sizesT (l : List ByteArray) : Nat := (l.map ByteArray.size).sum
def strings_Join.f (l0 : List ByteArray) (a1 : ByteArray) : Option ByteArray :=
 if l0.length ≤ 100000 ∧ a1.size ≤ 100000 ∧ sizesT l0 ≤ 1000000000 then some (tx (joinL (by_ a1) (l0.map by_))) else none
theorem sizesT_take (l : List ByteArray) (i : Nat) (h : i < l.length) : sizesT (l.take (i + 1)) = sizesT (l.take i) + l[i].size := by
 unfold sizesT
 rw [List.take_add_one, List.getElem?_eq_getElem h]
 simp only [Option.toList_some, List.map_append, List.sum_append, List.map_cons, List.map_nil, List.sum_cons, List.sum_nil, Nat.add_zero]
theorem sizesT_le (l : List ByteArray) (i : Nat) : sizesT (l.take i) ≤ sizesT l := by
 conv => rhs; rw [← List.take_append_drop i l]
 unfold sizesT
 rw [List.map_append, List.sum_append]; omega
theorem rdS_ (l : List ByteArray) (i : Nat) (h : i < l.length) : rdOf ByteArray.empty l (i : Int) = l[i] := by
 unfold rdOf
 rw [Int.toNat_natCast, List.getD_eq_getElem?_getD, List.getElem?_eq_getElem h]; rfl
theorem strings_at {w : World} {A : Option Addr} {l : List ByteArray} (h : Kd.C Kd.string w A l.length l) (i : Nat) (hi : i < l.length) : ∃ ad, A = some ad ∧ w.cell? (ad.add i) = some (.string l[i]) := by
 obtain ⟨ad, hA, hc⟩ := Kd.at_string h (i : Int) (by omega) (by omega)
 refine ⟨ad, hA, ?_⟩
 rw [Int.toNat_natCast] at hc
 rw [hc]
 rw [rdS_ l i hi]
set_option maxRecDepth 1000000 in
theorem join0 (a1 : ByteArray) (A0 : Option Addr) (c0 : Nat) (w : World) :
  Calls Tryd.prog 27 #[.slice A0 0 c0, .string a1] w fun e w' => e = .returned (.string ⟨#[]⟩) ∧ Below w.heap.size w w' := by
 go_enter Tryd.func27, Tryd.ntmps27
 go_wp2
 go_ret
 exact ⟨rfl, Below.refl _ _⟩
set_option maxRecDepth 1000000 in
theorem join1 (a1 x : ByteArray) (ad : Addr) (c0 : Nat) (w : World) (hx : w.cell? ad = some (.string x)) :
  Calls Tryd.prog 27 #[.slice (some ad) 1 c0, .string a1] w fun e w' => e = .returned (.string x) ∧ Below w.heap.size w w' := by
 go_enter Tryd.func27, Tryd.ntmps27
 go_wp2
 go_ret
 exact ⟨rfl, Below.refl _ _⟩
def outJ (s : List UInt8) (l : List ByteArray) (k : Nat) : List UInt8 := joinL s ((l.take (k + 1)).map by_)
theorem joinL_snoc (s : List UInt8) (xs : List (List UInt8)) (z : List UInt8) (h : xs ≠ []) : joinL s (xs ++ [z]) = joinL s xs ++ (s ++ z) := by
 cases xs with
 | nil => exact absurd rfl h
 | cons x xs => simp [joinL, List.flatMap_append]
theorem outJ_succ (s : List UInt8) (l : List ByteArray) (k : Nat) (h : k + 1 < l.length) : outJ s l (k + 1) = outJ s l k ++ (s ++ by_ l[k + 1]) := by
 unfold outJ
 rw [List.take_add_one, List.getElem?_eq_getElem h, List.map_append]
 refine joinL_snoc s _ _ ?_
 intro e
 have := congrArg List.length e
 rw [List.length_map, List.length_take, List.length_nil] at this
 omega
theorem outJ_zero (s : List UInt8) (l : List ByteArray) (h : 0 < l.length) : outJ s l 0 = by_ l[0] := by
 unfold outJ
 rw [List.take_add_one, List.take_zero, List.getElem?_eq_getElem h]
 simp [joinL]
theorem outJ_len (s : List UInt8) (l : List ByteArray) : ∀ k, k < l.length → (outJ s l k).length = sizesT (l.take (k + 1)) + k * s.length
 | 0, h => by
  rw [outJ_zero s l h, sizesT_take l 0 h, ← size_by, List.take_zero]; simp [sizesT]
 | k + 1, h => by
  rw [outJ_succ s l k h, List.length_append, List.length_append, outJ_len s l k (by omega), sizesT_take l (k + 1) h, ← size_by, Nat.succ_mul]; omega
theorem quo_ok (n z : Nat) (hn : 2 ≤ n) (hn2 : n ≤ 100000) (hz : z ≤ 100000) : (z : Int) < 9223372036854775807 / ((n : Int) - 1) := by
 have h1 : ((z : Int) + 1) * ((n : Int) - 1) ≤ 9223372036854775807 := by
  have : ((z : Int) + 1) * ((n : Int) - 1) ≤ 100001 * 100000 := Int.mul_le_mul (by omega) (by omega) (by omega) (by omega)
  omega
 have := Int.le_ediv_of_mul_le (by omega) h1
 omega
set_option maxRecDepth 1000000 in
theorem join2 (a1 : ByteArray) (l : List ByteArray) (n : Nat) (ad : Addr) (c0 : Nat) (w : World) (hl : l.length = n) (hn : 2 ≤ n) (hn2 : n ≤ 100000) (hc : n ≤ c0) (hz : a1.size ≤ 100000) (ht : sizesT l ≤ 1000000000) (hr : ∀ (i : Nat) (x : ByteArray), l[i]? = some x → w.cell? (ad.add i) = some (.string x)) :
  Calls Tryd.prog 27 #[.slice (some ad) n c0, .string a1] w fun e w' => e = .returned (.string (tx (outJ (by_ a1) l (n - 1)))) ∧ Below w.heap.size w w' := by
 have HL := Aside0.mk hl
 have HT := Aside0.mk ht
 have HR := Aside0.mk hr
 have hq := quo_ok n a1.size hn hn2 hz
 have q1 : decide (9223372036854775807 / ((n : Int) - 1) ≤ (a1.size : Int)) = false := decide_eq_false (by omega)
 clear hl ht hr hq
 have HB0 := Aside0.mk (Below.refl w.heap.size w)
 have e0 : ((n : Int) == 0) = false := beq_eq_false_iff_ne.2 (by omega)
 have e1 : ((n : Int) == 1) = false := beq_eq_false_iff_ne.2 (by omega)
 have hx0 : wrap64 (wrap64 ((a1.size : Int) * ((n : Int) - 1))) = ((a1.size * (n - 1) : Nat) : Int) := by
  have h1 : ((a1.size * (n - 1) : Nat) : Int) = (a1.size : Int) * ((n : Int) - 1) := by
   rw [Int.natCast_mul]; congr 1; omega
  have h2 : a1.size * (n - 1) ≤ 100000 * 100000 := Nat.mul_le_mul hz (show n - 1 ≤ 100000 by omega)
  rw [← h1, w64 (x := ((a1.size * (n - 1) : Nat) : Int)) (by omega) (by omega), w64 (by omega) (by omega)]
 have hx1 : a1.size * (n - 1) ≤ 10000000000 := Nat.le_trans (Nat.mul_le_mul hz (show n - 1 ≤ 100000 by omega)) (by decide)
 have HX0 := Aside0.mk hx0
 have HZ := Aside0.mk hz
 clear hx0
 obtain ⟨b, g0⟩ : ∃ b, decide (0 < a1.size) = b := ⟨_, rfl⟩
 cases b
 all_goals
  go_enter Tryd.func27, Tryd.ntmps27
  go_wp2
  go_loop [5, 41] (fun v5 v41 => ∃ k x : Nat, v41 = .int .i64 (k : Int) ∧ v5 = .int .i64 (x : Int) ∧ Aside0 (k ≤ n ∧ x ≤ 10000000000 + sizesT (l.take k))) (fun _ v41 => n - (intOf v41).toNat)
  case atStart => first | exact ⟨0, 0, rfl, rfl, ⟨by omega, by omega⟩⟩ | exact ⟨0, a1.size * (n - 1), rfl, congrArg (Value.int IntKind.i64) HX0.out, ⟨by omega, by omega⟩⟩
  case round =>
   obtain ⟨k, x, rfl, rfl, HK⟩ := hrel
   have hk := HK.out
   clear q1 hx1 e0 e1 g0
   by_cases hlt : k < n
   ·have hd : decide ((k : Int) < (n : Int)) = true := decide_eq_true (by omega)
    have hdn : decide (k < n) = true := decide_eq_true hlt
    have hkl : k < l.length := by rw [HL.out]; exact hlt
    have hcell := HR.out k l[k] (List.getElem?_eq_getElem hkl)
    have hs := sizesT_take l k hkl
    have hs2 := sizesT_le l (k + 1)
    have ht := HT.out
    obtain ⟨y, hy⟩ : ∃ y, l[k] = y := ⟨_, rfl⟩
    rw [hy] at hcell hs
    have hd2 : decide (9223372036854775807 - (x : Int) < (y.size : Int)) = false := decide_eq_false (by omega)
    have HS := Aside0.mk hs
    have HS2 := Aside0.mk (show x + y.size ≤ 10000000000 + sizesT (l.take (k + 1)) by omega)
    have hy2 : y.size ≤ 1000000000 := by omega
    have hx2 : x ≤ 11000000000 := by omega
    clear hs hs2 ht hy hk
    go_wp2
    go_round
    case rel => exact ⟨k + 1, x + y.size, by go_num, by go_num, ⟨by omega, HS2.out⟩⟩
    case measure => simp [intOf]; omega
   ·have hd : decide ((k : Int) < (n : Int)) = false := decide_eq_false (by omega)
    have hdn : decide (k < n) = false := decide_eq_false hlt
    have hx2 : x ≤ 11000000000 := by have := sizesT_le l k; have := HT.out; omega
    have hlt0 : 0 < l.length := by rw [HL.out]; omega
    have hc0 := HR.out 0 l[0] (List.getElem?_eq_getElem hlt0)
    rw [show ad.add 0 = ad from if_pos rfl] at hc0
    obtain ⟨y0, hy0⟩ : ∃ y, l[0] = y := ⟨_, rfl⟩
    rw [hy0] at hc0
    have hadlt := World.block_lt_of_cell? w _ hc0
    have hy0s : y0.size ≤ 1000000000 := by
     have h1 := sizesT_take l 0 hlt0
     have h2 := sizesT_le l (0 + 1)
     have h3 := HT.out
     rw [hy0] at h1
     omega
    have HY0 := Aside0.mk hy0
    have hnew : (w.alloc (.cells #[.pointer none, .slice none 0 0] 86)).heap[w.heap.size]? = some (.cells #[.pointer none, .slice none 0 0] 86 (0, 0)) := by
     show (w.heap.push _)[w.heap.size]? = some _
     simp
    have HNEW := Aside0.mk hnew
    have HB1 : Aside0 (Below w.heap.size w (w.alloc (.cells #[.pointer none, .slice none 0 0] 86))) := ⟨(Below.refl _ _).alloc (Nat.le_refl _) _⟩
    have hcc : c0 ≠ 1 := by omega
    clear hk hy0 hnew hlt
    go_wp2_with (first
     | (go_at_call 51; refine (Tryd.Builder_Grow_fresh w.heap.size w.heap.size x _ (Nat.le_refl _) (by exact HNEW.out) (by exact HB1.out.size) (by omega)).mono ?_; rintro e w2 ⟨rfl, h2, hb2⟩; have HB2 := Aside0.mk (HB1.out.trans hb2); have hc2 := (HB2.out.cell (p := ad) hadlt).trans hc0; clear hb2)
     | (go_at_call 52; refine (bld_string_k w.heap.size w.heap.size [] y0 _ (Or.inr (Lib.BuilderAtF.of h2)) (by simp; omega) (by exact HB2.out.size)).mono ?_; rintro e w3 ⟨rfl, h3, hb3, hk3⟩; have HB3 := Aside0.mk (HB2.out.trans hb3); clear hb3 hk3))
    have HI3 : Aside0 (Lib.BuilderAtF 86 5 w.heap.size w.heap.size (.pointer (some ⟨w.heap.size, 0, none⟩)) (Lib.byteCells (outJ (by_ a1) l 0)) w3) := by
     have e : outJ (by_ a1) l 0 = by_ y0 := by
      rw [outJ_zero (by_ a1) l hlt0, HY0.out]
     rw [e]
     have h3 : Lib.BuilderAtF 86 5 w.heap.size w.heap.size (.pointer (some ⟨w.heap.size, 0, none⟩)) ([] ++ Lib.strCells y0) w3 := h3
     exact ⟨by rw [List.nil_append] at h3; exact h3⟩
    clear h2 h3 hc2 hc0
    go_loopw [65] (fun v w' => ∃ j : Nat, v = .int .i64 (j : Int) ∧ Aside0 (j ≤ n - 1) ∧ Aside0 (Lib.BuilderAtF 86 5 w.heap.size w.heap.size (.pointer (some ⟨w.heap.size, 0, none⟩)) (Lib.byteCells (outJ (by_ a1) l j)) w') ∧ Aside0 (Below w.heap.size w w')) (fun v _ => n - (intOf v).toNat)
    case atStart => exact ⟨0, rfl, ⟨by omega⟩, HI3, HB3⟩
    case round =>
     clear HI3 HB3 HB2 HB1 HNEW
     obtain ⟨j, rfl, HJ, HI, HB⟩ := hrel
     have hj := HJ.out
     by_cases hlt2 : j < n - 1
     ·have hdn : decide (j < n - 1) = true := decide_eq_true hlt2
      have hdi : decide ((j : Int) < (n : Int) - 1) = true := decide_eq_true (by omega)
      have hjl : j + 1 < l.length := by rw [HL.out]; omega
      have hcl := HR.out (j + 1) l[j + 1] (List.getElem?_eq_getElem hjl)
      have hcw := (HB.out.cell (World.block_lt_of_cell? w _ hcl)).trans hcl
      rw [show ad.add (j + 1) = ⟨ad.block, ad.off + 1 + j, none⟩ by simp [Addr.add]; omega] at hcw
      have HS := Aside0.mk (outJ_succ (by_ a1) l j hjl)
      have hlen := outJ_len (by_ a1) l j (by omega)
      have h2 := sizesT_le l (j + 1)
      have h3 := sizesT_take l (j + 1) hjl
      have h4 := sizesT_le l (j + 1 + 1)
      have h5 := HT.out
      have h6 : j * (by_ a1).length ≤ 100000 * 100000 := Nat.mul_le_mul (by omega) (by rw [← size_by]; exact HZ.out)
      obtain ⟨y, hy⟩ : ∃ y, l[j + 1] = y := ⟨_, rfl⟩
      rw [hy] at hcw h3
      have HY := Aside0.mk hy
      have HLEN := Aside0.mk (show (outJ (by_ a1) l j).length + (a1.size + y.size) ≤ 140737488355328 by have := HZ.out; omega)
      clear hcl hlen h2 h3 h4 h5 h6 hy hj
      go_wp2_with (first
       | (go_at_call 52; (with_reducible refine (bld_string_k w.heap.size w.heap.size (Lib.byteCells (outJ (by_ a1) l j)) a1 _ ?hA ?hB ?hC).mono ?_); (case hA => exact Or.inr HI.out); (case hB => have := HLEN.out; rw [Lib.byteCells_length]; omega); (case hC => exact HB.out.size); rintro e w4 ⟨rfl, h4, hb4, hk4⟩; have HB4 := Aside0.mk (HB.out.trans hb4); have H4 := Aside0.mk h4; clear hb4 hk4 h4)
       | (go_at_call 52; (with_reducible refine (bld_string_k w.heap.size w.heap.size (Lib.byteCells (outJ (by_ a1) l j) ++ Lib.strCells a1) y _ ?hA ?hB ?hC).mono ?_); (case hA => exact Or.inr H4.out); (case hB => have := HLEN.out; rw [List.length_append, Lib.byteCells_length, Lib.strCells_length]; omega); (case hC => exact HB4.out.size); rintro e w5 ⟨rfl, h5, hb5, hk5⟩; have HB5 := Aside0.mk (HB4.out.trans hb5); have H5 := Aside0.mk h5; clear hb5 hk5 h5))
      go_roundw
      case rel =>
       refine ⟨j + 1, by go_num, ⟨by omega⟩, ⟨?_⟩, HB5⟩
       rw [HS.out, HY.out, Lib.byteCells_append, Lib.byteCells_append, ← List.append_assoc]
       exact H5.out
      case measure => simp [intOf]; omega
     ·have hdn : decide (j < n - 1) = false := decide_eq_false hlt2
      have hdi : decide ((j : Int) < (n : Int) - 1) = false := decide_eq_false (by omega)
      obtain rfl : j = n - 1 := by omega
      clear hj
      go_wp2_with (go_at_call 53; refine (Tryd.Builder_String_any_k w.heap.size w.heap.size _ _ (by exact Or.inr HI.out) (by exact HB.out.size)).mono ?_; rintro e w2 ⟨rfl, _, hb2, _⟩)
      go_ret
      exact ⟨rfl, HB.out.trans hb2⟩
theorem strings_Join.calls (A0 : Option Addr) (c0 : Nat) (l0 : List ByteArray) (a1 : ByteArray) (r : ByteArray) (w : World) (hr0 : Kd.C Kd.string w A0 l0.length l0) (hc0 : l0.length ≤ c0) (h : strings_Join.f l0 a1 = some r) :
  Calls Tryd.prog 27 #[.slice A0 l0.length c0, .string a1] w fun e w' => e = .returned (.string r) ∧ Below w.heap.size w w' := by
 unfold strings_Join.f at h
 by_cases hg : l0.length ≤ 100000 ∧ a1.size ≤ 100000 ∧ sizesT l0 ≤ 1000000000
 ·rw [if_pos hg] at h
  obtain rfl := Option.some.inj h
  match l0, hr0, hc0, hg with
  | [], hr0, hc0, hg => exact join0 a1 A0 c0 w
  | [x], hr0, hc0, hg =>
   obtain ⟨ad, rfl, hc⟩ := strings_at hr0 0 (by simp)
   rw [show ad.add 0 = ad from if_pos rfl] at hc
   have := join1 a1 x ad c0 w hc
   have e : tx (joinL (by_ a1) ([x].map by_)) = x := by simp [joinL, tx_by]
   rw [e]
   exact this
  | x :: y :: l, hr0, hc0, hg =>
   obtain ⟨ad, rfl, _⟩ := strings_at hr0 0 (by simp)
   have hr : ∀ (i : Nat) (z : ByteArray), (x :: y :: l)[i]? = some z → w.cell? (ad.add i) = some (.string z) := by
    intro i z hz
    obtain ⟨hi, hz⟩ := List.getElem?_eq_some_iff.1 hz
    obtain ⟨ad2, e, hc⟩ := strings_at hr0 i hi
    obtain rfl := Option.some.inj e
    rw [hc, hz]
   have := join2 a1 (x :: y :: l) _ ad c0 w rfl (by simp) hg.1 hc0 hg.2.1 hg.2.2 hr
   have e : outJ (by_ a1) (x :: y :: l) ((x :: y :: l).length - 1) = joinL (by_ a1) ((x :: y :: l).map by_) := by
    unfold outJ
    rw [List.take_of_length_le (by simp)]
   rw [e] at this
   exact this
 ·rw [if_neg hg] at h; cases h
end Go.Proofs.YtajoebfkkknjhaaDoor.X
/- The contract, by hand, of internal/stringslite.Index at a needle of one byte: out of the shelf's. -/
set_option linter.unusedVariables false
namespace Go.Proofs.YtajoebfkkknjhaaDoor.X
open Go.RowKit Go.Proofs.YtajoebfkkknjhaaDoorW.PrintWords Go.Proofs.YtajoebfkkknjhaaDoorW.PrintLast Go.Proofs.YtajoebfkkknjhaaDoorW.PrintMore
def stringslite_Index.f (a0 : ByteArray) (a1 : ByteArray) : Option Int := if h : a1.size = 1 then some (Lib.indexByte a0.data.toList (a1[0]'(by omega))) else none
theorem stringslite_Index.calls (a0 : ByteArray) (a1 : ByteArray) (r : Int) (w : World) (h : stringslite_Index.f a0 a1 = some r) :
  Calls Tryd.prog 58 #[.string a0, .string a1] w fun e w' => e = .returned (.int .i64 r) ∧ Drawn0 w w' := by
 unfold stringslite_Index.f at h
 by_cases hs : a1.size = 1
 ·rw [dif_pos hs] at h
  obtain rfl := Option.some.inj h
  obtain ⟨⟨l⟩⟩ := a1
  obtain ⟨c, rfl⟩ : ∃ c, l = [c] := by
   match l, hs with
   | [c], _ => exact ⟨c, rfl⟩
  refine (Tryd.stringslite_Index_one a0 c w).mono ?_
  rintro e w' ⟨rfl, rfl⟩
  exact ⟨rfl, Drawn0.refl _⟩
 ·rw [dif_neg hs] at h
  cases h
end Go.Proofs.YtajoebfkkknjhaaDoor.X
namespace Go.Proofs.YtajoebfkkknjhaaDoor.X
open Go.RowKit Go.Proofs.YtajoebfkkknjhaaDoorW.PrintWords Go.Proofs.YtajoebfkkknjhaaDoorW.PrintLast Go.Proofs.YtajoebfkkknjhaaDoorW.PrintMore
attribute [local go_sem] max2_int min2_int max_two min_two max_three min_three max_four min_four
set_option linter.unusedVariables false
set_option linter.unusedSimpArgs false
def stringslite_Cut.f (a0 : ByteArray) (a1 : ByteArray) : Option (ByteArray × ByteArray × Bool) := (stringslite_Index.f a0 a1).bind fun t101 => (if t101 ≥ 0 then (if 0 ≤ t101 then (if t101 ≤ (a0.size : Int) then (if 0 ≤ (wrap64 (t101 + (a1.size : Int))) then (if (wrap64 (t101 + (a1.size : Int))) ≤ (a0.size : Int) then (some (a0.extract 0 (t101 : Int).toNat, a0.extract ((wrap64 (t101 + (a1.size : Int))) : Int).toNat a0.size, true)) else (none)) else (none)) else (none)) else (none)) else (some (a0, (⟨#[]⟩ : ByteArray), false)))
theorem stringslite_Cut.calls (a0 : ByteArray) (a1 : ByteArray) (r1 : ByteArray) (r2 : ByteArray) (r3 : Bool) (w : World) (h : stringslite_Cut.f a0 a1 = some (r1, r2, r3)) :
  Calls Tryd.prog 32 #[.string a0, .string a1] w fun e w' => e = .returned (.tuple #[.string r1, .string r2, .bool r3]) ∧ Drawn0 w w' := by
 have H : ((stringslite_Index.f a0 a1).bind fun t101 => (if t101 ≥ 0 then (if 0 ≤ t101 then (if t101 ≤ (a0.size : Int) then (if 0 ≤ (wrap64 (t101 + (a1.size : Int))) then (if (wrap64 (t101 + (a1.size : Int))) ≤ (a0.size : Int) then (some (a0.extract 0 (t101 : Int).toNat, a0.extract ((wrap64 (t101 + (a1.size : Int))) : Int).toNat a0.size, true)) else (none)) else (none)) else (none)) else (none)) else (some (a0, (⟨#[]⟩ : ByteArray), false)))) = some (r1, r2, r3) := h
 clear h; obtain ⟨t101, A3, H⟩ := bo_ H
 by_cases c4 : t101 ≥ 0
 ·rw [if_pos c4] at H; have c4b0 := decide_eq_true c4; clear c4
  by_cases c5 : 0 ≤ t101
  ·rw [if_pos c5] at H; have c5b0 := eq_true c5; have c5b1 := decide_eq_true c5; clear c5
   by_cases c6 : t101 ≤ (a0.size : Int)
   ·rw [if_pos c6] at H; have c6b0 := eq_true c6; have c6b1 := decide_eq_true c6; clear c6; obtain ⟨ji7, hji7⟩ : ∃ j_ : Int, (wrap64 (t101 + (a1.size : Int))) = j_ := ⟨_, rfl⟩
    replace H : (if 0 ≤ (ji7) then (if (ji7) ≤ (a0.size : Int) then (some (a0.extract 0 (t101 : Int).toNat, a0.extract ((ji7) : Int).toNat a0.size, true)) else (none)) else (none)) = some (r1, r2, r3) := by first | (rw [hji7] at H; exact H) | (simp only [hji7] at H ⊢; exact H)
    (try rw [hji7] at A3)
    have hji7w : (IntKind.i64.wrap (t101 + (a1.size : Int))) = ji7 := (i64_w _).trans hji7
    by_cases c8 : 0 ≤ (ji7)
    ·rw [if_pos c8] at H; have c8b0 := eq_true c8; have c8b1 := decide_eq_true c8; clear c8
     by_cases c9 : (ji7) ≤ (a0.size : Int)
     ·rw [if_pos c9] at H; have c9b0 := eq_true c9; have c9b1 := decide_eq_true c9; clear c9
      simp only [Option.some.injEq, Prod.mk.injEq] at H
      obtain ⟨rfl, rfl, rfl⟩ := H
      go_enter Tryd.func32, Tryd.ntmps32
      go_wp2_with (first | (go_at_call 58; (with_reducible refine (stringslite_Index.calls a0 a1 t101 _ A3.out).mono ?_); rintro e w' ⟨rfl, ⟨nd, rfl⟩⟩; (try first | exact ⟨rfl, _, World.drewN_drewN _ _ _⟩ | exact ⟨rfl, _, Eq.trans (World.drewN_drewN _ _ _) (congrArg (World.drewN _) (Nat.add_assoc _ _ _))⟩)))
      repeat (go_quiet (first | (go_at_call 58; (with_reducible refine (stringslite_Index.calls a0 a1 t101 _ A3.out).mono ?_); rintro e w' ⟨rfl, ⟨nd, rfl⟩⟩; (try first | exact ⟨rfl, _, World.drewN_drewN _ _ _⟩ | exact ⟨rfl, _, Eq.trans (World.drewN_drewN _ _ _) (congrArg (World.drewN _) (Nat.add_assoc _ _ _))⟩))); try go_wp2_with (first | (go_at_call 58; (with_reducible refine (stringslite_Index.calls a0 a1 t101 _ A3.out).mono ?_); rintro e w' ⟨rfl, ⟨nd, rfl⟩⟩; (try first | exact ⟨rfl, _, World.drewN_drewN _ _ _⟩ | exact ⟨rfl, _, Eq.trans (World.drewN_drewN _ _ _) (congrArg (World.drewN _) (Nat.add_assoc _ _ _))⟩))))
      go_ret3
      exact ⟨by first | rfl | (simp; done) | (simp only [← hji7] <;> (first | rfl | simp)) | (simp [*]; done), dr_⟩
     ·rw [if_neg c9] at H
      exact absurd H (by simp)
    ·rw [if_neg c8] at H
     exact absurd H (by simp)
   ·rw [if_neg c6] at H
    exact absurd H (by simp)
  ·rw [if_neg c5] at H
   exact absurd H (by simp)
 ·rw [if_neg c4] at H; have c4b0 := decide_eq_false c4; clear c4
  simp only [Option.some.injEq, Prod.mk.injEq] at H
  obtain ⟨rfl, rfl, rfl⟩ := H
  go_enter Tryd.func32, Tryd.ntmps32
  go_wp2_with (first | (go_at_call 58; (with_reducible refine (stringslite_Index.calls a0 a1 t101 _ A3.out).mono ?_); rintro e w' ⟨rfl, ⟨nd, rfl⟩⟩; (try first | exact ⟨rfl, _, World.drewN_drewN _ _ _⟩ | exact ⟨rfl, _, Eq.trans (World.drewN_drewN _ _ _) (congrArg (World.drewN _) (Nat.add_assoc _ _ _))⟩)))
  repeat (go_quiet (first | (go_at_call 58; (with_reducible refine (stringslite_Index.calls a0 a1 t101 _ A3.out).mono ?_); rintro e w' ⟨rfl, ⟨nd, rfl⟩⟩; (try first | exact ⟨rfl, _, World.drewN_drewN _ _ _⟩ | exact ⟨rfl, _, Eq.trans (World.drewN_drewN _ _ _) (congrArg (World.drewN _) (Nat.add_assoc _ _ _))⟩))); try go_wp2_with (first | (go_at_call 58; (with_reducible refine (stringslite_Index.calls a0 a1 t101 _ A3.out).mono ?_); rintro e w' ⟨rfl, ⟨nd, rfl⟩⟩; (try first | exact ⟨rfl, _, World.drewN_drewN _ _ _⟩ | exact ⟨rfl, _, Eq.trans (World.drewN_drewN _ _ _) (congrArg (World.drewN _) (Nat.add_assoc _ _ _))⟩))))
  go_ret3
  exact ⟨by first | rfl | (simp; done) | (simp [*]; done), dr_⟩

def strings_Cut.f (a0 : ByteArray) (a1 : ByteArray) : Option (ByteArray × ByteArray × Bool) := (stringslite_Cut.f a0 a1).bind fun bt101 => (some (bt101.1, bt101.2.1, bt101.2.2))
theorem strings_Cut.calls (a0 : ByteArray) (a1 : ByteArray) (r1 : ByteArray) (r2 : ByteArray) (r3 : Bool) (w : World) (h : strings_Cut.f a0 a1 = some (r1, r2, r3)) :
  Calls Tryd.prog 11 #[.string a0, .string a1] w fun e w' => e = .returned (.tuple #[.string r1, .string r2, .bool r3]) ∧ Drawn0 w w' := by
 have H : ((stringslite_Cut.f a0 a1).bind fun bt101 => (some (bt101.1, bt101.2.1, bt101.2.2))) = some (r1, r2, r3) := h
 clear h; obtain ⟨⟨t101, t102, t103⟩, A3, H⟩ := bo_ H; dsimp only at H
 simp only [Option.some.injEq, Prod.mk.injEq] at H
 obtain ⟨rfl, rfl, rfl⟩ := H
 go_enter Tryd.func11, Tryd.ntmps11
 go_wp2_with (first | ((with_reducible refine gate_callee (f:=32) rfl ?_); refine gL_ (some 9) rfl rfl Tryd.func32 rfl #[.string a0, .string a1] rfl ?_; (with_reducible refine (stringslite_Cut.calls a0 a1 t101 t102 t103 _ A3.out).mono ?_); rintro e w' ⟨rfl, ⟨nd, rfl⟩⟩; refine ⟨_, rfl, ?_⟩))
 go_ret3
 exact ⟨by first | rfl | (simp; done) | (simp [*]; done), dr_⟩

mutual
def addr_Column.j0 : Nat → ByteArray → Bool → Option (Int × Bool)
 | 0, _, _ => none
 | k + 1, x0, x13 => if x13 = true then (some (0, false)) else (addr_Column.l0 k x0 0 (x0.size : Int) 0)
def addr_Column.l0 : Nat → ByteArray → Int → Int → Int → Option (Int × Bool)
 | 0, _, _, _, _ => none
 | k + 1, x0, x4, x15, x16 => if x16 < x15 then (if 0 ≤ x16 then (if x16 < (x0.size : Int) then (if (bt x0 x16) < 65 then (some (0, false)) else (if (bt x0 x16) > 90 then (some (0, false)) else (addr_Column.l0 k x0 (wrap64 ((wrap64 ((wrap64 (x4 * 26)) + (((bt x0 x16) - 65) % 256))) + 1)) x15 (wrap64 (x16 + 1))))) else (none)) else (none)) else (some (wrap64 (x4 - 1), true))
end
def addr_Column.f (k : Nat) (a0 : ByteArray) : Option (Int × Bool) := if (a0.size : Int) < 1 then (addr_Column.j0 k a0 true) else (addr_Column.j0 k a0 (decide ((a0.size : Int) > 2)))
theorem addr_Column.calls (k : Nat) (a0 : ByteArray) (r1 : Int) (r2 : Bool) (w : World) (h : addr_Column.f k a0 = some (r1, r2)) :
  Calls Tryd.prog 61 #[.string a0] w fun e w' => e = .returned (.tuple #[.int .i64 r1, .bool r2]) ∧ Drawn0 w w' := by
 have H : (if (a0.size : Int) < 1 then (addr_Column.j0 k a0 true) else (addr_Column.j0 k a0 (decide ((a0.size : Int) > 2)))) = some (r1, r2) := h
 clear h; have HC2 := A_ H; clear H
 go_enter Tryd.func61, Tryd.ntmps61
 go_upto_region 1 with (fail)
 go_cut [13] (fun v13 wc => ∃ (kq : Nat) (x13_1 : Bool), v13 = .bool x13_1 ∧ Aside0 (addr_Column.j0 kq a0 x13_1 = some (r1, r2)) ∧ Aside0 (kq ≤ k) ∧ Drawn0 w wc)
 case first =>
  have H := HC2.out; clear HC2
  by_cases c3 : (a0.size : Int) < 1
  ·rw [if_pos c3] at H; have c3b0 := decide_eq_true c3; have c3b1 : decide (a0.size < 1) = true := decide_eq_true (by omega); clear c3; (first | rw [c3b0] | (simp only [i64_w, i32_w]; rw [c3b0]) | skip)
   have H' := A_ H
   clear H
   go_wp2
   go_meet
   case rel => exact ⟨_, (true), sq_, H', le_, dr_⟩
  ·rw [if_neg c3] at H; have c3b0 := decide_eq_false c3; have c3b1 : decide (a0.size < 1) = false := decide_eq_false (by omega); clear c3; (first | rw [c3b0] | (simp only [i64_w, i32_w]; rw [c3b0]) | skip)
   have H' := A_ H
   clear H
   go_wp2
   go_meet
   case rel => exact ⟨_, (decide ((a0.size : Int) > 2)), sq_, H', le_, dr_⟩
 case rest =>
  clear HC2; obtain ⟨kq, x13_1, rfl, HA, HJ1, ⟨mc1, rfl⟩⟩ := hcut
  cases kq with
  | zero => exact absurd HA.out (by simp [addr_Column.j0])
  | succ kj1 =>
   have H := HA.out; clear HA
   simp only [addr_Column.j0] at H
   by_cases c4 : x13_1 = true
   ·subst c4
    replace H := it_ H
    simp only [Option.some.injEq, Prod.mk.injEq] at H
    obtain ⟨rfl, rfl⟩ := H
    go_wp2
    go_ret2
    exact ⟨by first | rfl | (simp; done) | (simp [*]; done), dr_⟩
   ·replace c4 := Bool.eq_false_iff.mpr c4; subst c4
    replace H := ie_ H
    have H' := A_ H
    clear H
    go_wp2
    go_loopg [4, 16] kj1 (fun kq v4 v16 w' => ∃ (x4_2 : Int) (x16_2 : Int), v4 = .int .i64 x4_2 ∧ v16 = .int .i64 x16_2 ∧ Aside0 (addr_Column.l0 kq a0 x4_2 (a0.size : Int) x16_2 = some (r1, r2)) ∧ Aside0 (kq ≤ kj1) ∧ Drawn0 w w')
    case atStart => exact ⟨(0), (0), sq_, sq_, H', ⟨Nat.le_refl _⟩, dr_⟩
    case round =>
     clear H'; (try clear c4); obtain ⟨x4_2, x16_2, rfl, rfl, HA, HK2, ⟨m2, rfl⟩⟩ := hrel
     cases gk with
     | zero => exact absurd HA.out (by simp [addr_Column.l0])
     | succ k2 =>
      have H := HA.out; clear HA
      simp only [addr_Column.l0] at H
      by_cases c5 : x16_2 < (a0.size : Int)
      ·rw [if_pos c5] at H; have c5b0 := decide_eq_true c5; clear c5
       by_cases c6 : 0 ≤ x16_2
       ·rw [if_pos c6] at H; have c6b0 := decide_eq_true c6; clear c6
        by_cases c7 : x16_2 < (a0.size : Int)
        ·rw [if_pos c7] at H; have c7b0 := decide_eq_true c7; clear c7
         by_cases c9 : (bt a0 x16_2) < 65
         ·rw [if_pos c9] at H; have c9b0 := decide_eq_true c9; clear c9
          simp only [Option.some.injEq, Prod.mk.injEq] at H
          obtain ⟨rfl, rfl⟩ := H
          have p8 : 0 ≤ (x16_2 : Int) := of_decide_eq_true as_
          have q8 : x16_2 < (a0.size : Int) := of_decide_eq_true as_
          have hx8 := bt_at a0 x16_2; replace p8 := eq_true p8; replace q8 := eq_true q8
          go_wp2
          go_ret2
          exact ⟨by first | rfl | (simp; done) | (simp [*]; done), dr_⟩
         ·rw [if_neg c9] at H; have c9b0 := decide_eq_false c9; clear c9
          by_cases c11 : (bt a0 x16_2) > 90
          ·rw [if_pos c11] at H; have c11b0 := decide_eq_true c11; clear c11
           simp only [Option.some.injEq, Prod.mk.injEq] at H
           obtain ⟨rfl, rfl⟩ := H
           have p8 : 0 ≤ (x16_2 : Int) := of_decide_eq_true as_
           have q8 : x16_2 < (a0.size : Int) := of_decide_eq_true as_
           have hx8 := bt_at a0 x16_2; replace p8 := eq_true p8; replace q8 := eq_true q8
           have p10 : 0 ≤ (x16_2 : Int) := of_decide_eq_true as_
           have q10 : x16_2 < (a0.size : Int) := of_decide_eq_true as_
           have hx10 := bt_at a0 x16_2; replace p10 := eq_true p10; replace q10 := eq_true q10
           go_wp2
           go_ret2
           exact ⟨by first | rfl | (simp; done) | (simp [*]; done), dr_⟩
          ·rw [if_neg c11] at H; have c11b0 := decide_eq_false c11; clear c11
           have H' := A_ H
           clear H
           have p8 : 0 ≤ (x16_2 : Int) := of_decide_eq_true as_
           have q8 : x16_2 < (a0.size : Int) := of_decide_eq_true as_
           have hx8 := bt_at a0 x16_2; replace p8 := eq_true p8; replace q8 := eq_true q8
           have p10 : 0 ≤ (x16_2 : Int) := of_decide_eq_true as_
           have q10 : x16_2 < (a0.size : Int) := of_decide_eq_true as_
           have hx10 := bt_at a0 x16_2; replace p10 := eq_true p10; replace q10 := eq_true q10
           have p12 : 0 ≤ (x16_2 : Int) := of_decide_eq_true as_
           have q12 : x16_2 < (a0.size : Int) := of_decide_eq_true as_
           have hx12 := bt_at a0 x16_2; replace p12 := eq_true p12; replace q12 := eq_true q12
           go_wp2
           go_roundg k2
           case measure => have := HJ1.out; have := HK2.out; omega
           case rel => exact ⟨(wrap64 ((wrap64 ((wrap64 (x4_2 * 26)) + (((bt a0 x16_2) - 65) % 256))) + 1)), (wrap64 (x16_2 + 1)), sq_, sq_, H', ⟨by have := HJ1.out; have := HK2.out; omega⟩, dr_⟩
        ·rw [if_neg c7] at H
         exact absurd H (by simp)
       ·rw [if_neg c6] at H
        exact absurd H (by simp)
      ·rw [if_neg c5] at H; have c5b0 := decide_eq_false c5; clear c5
       simp only [Option.some.injEq, Prod.mk.injEq] at H
       obtain ⟨rfl, rfl⟩ := H
       go_wp2
       go_ret2
       exact ⟨by first | rfl | (simp; done) | (simp [*]; done), dr_⟩

mutual
def addr_Number.j0 : Nat → ByteArray → Bool → Option (Int × Bool)
 | 0, _, _ => none
 | k + 1, x0, x18 => if x18 = true then (some (0, false)) else (addr_Number.l0 k x0 0 (x0.size : Int) 0)
def addr_Number.l0 : Nat → ByteArray → Int → Int → Int → Option (Int × Bool)
 | 0, _, _, _, _ => none
 | k + 1, x0, x4, x20, x21 => if x21 < x20 then (if 0 ≤ x21 then (if x21 < (x0.size : Int) then (if (bt x0 x21) < 48 then (some (0, false)) else (if (bt x0 x21) > 57 then (some (0, false)) else (addr_Number.l0 k x0 (wrap64 ((wrap64 (x4 * 10)) + (((bt x0 x21) - 48) % 256))) x20 (wrap64 (x21 + 1))))) else (none)) else (none)) else (some (wrap64 (x4 - 1), true))
end
def addr_Number.f (k : Nat) (a0 : ByteArray) : Option (Int × Bool) := if (a0.size : Int) < 1 then (addr_Number.j0 k a0 true) else (if (a0.size : Int) > 3 then (addr_Number.j0 k a0 true) else (if 0 < (a0.size : Int) then (addr_Number.j0 k a0 ((bt a0 0) == 48)) else (none)))
theorem addr_Number.calls (k : Nat) (a0 : ByteArray) (r1 : Int) (r2 : Bool) (w : World) (h : addr_Number.f k a0 = some (r1, r2)) :
  Calls Tryd.prog 62 #[.string a0] w fun e w' => e = .returned (.tuple #[.int .i64 r1, .bool r2]) ∧ Drawn0 w w' := by
 have H : (if (a0.size : Int) < 1 then (addr_Number.j0 k a0 true) else (if (a0.size : Int) > 3 then (addr_Number.j0 k a0 true) else (if 0 < (a0.size : Int) then (addr_Number.j0 k a0 ((bt a0 0) == 48)) else (none)))) = some (r1, r2) := h
 clear h; have HC2 := A_ H; clear H
 go_enter Tryd.func62, Tryd.ntmps62
 go_upto_region 1 with (fail)
 go_cut [18] (fun v18 wc => ∃ (kq : Nat) (x18_1 : Bool), v18 = .bool x18_1 ∧ Aside0 (addr_Number.j0 kq a0 x18_1 = some (r1, r2)) ∧ Aside0 (kq ≤ k) ∧ Drawn0 w wc)
 case first =>
  have H := HC2.out; clear HC2
  by_cases c3 : (a0.size : Int) < 1
  ·rw [if_pos c3] at H; have c3b0 := decide_eq_true c3; have c3b1 : decide (a0.size < 1) = true := decide_eq_true (by omega); clear c3; (first | rw [c3b0] | (simp only [i64_w, i32_w]; rw [c3b0]) | skip)
   have H' := A_ H
   clear H
   go_wp2
   go_meet
   case rel => exact ⟨_, (true), sq_, H', le_, dr_⟩
  ·rw [if_neg c3] at H; have c3b0 := decide_eq_false c3; have c3b1 : decide (a0.size < 1) = false := decide_eq_false (by omega); clear c3; (first | rw [c3b0] | (simp only [i64_w, i32_w]; rw [c3b0]) | skip)
   by_cases c4 : (a0.size : Int) > 3
   ·rw [if_pos c4] at H; have c4b0 := decide_eq_true c4; have c4b1 : decide (3 < a0.size) = true := decide_eq_true (by omega); clear c4
    have H' := A_ H
    clear H
    go_wp2
    go_meet
    case rel => exact ⟨_, (true), sq_, H', le_, dr_⟩
   ·rw [if_neg c4] at H; have c4b0 := decide_eq_false c4; have c4b1 : decide (3 < a0.size) = false := decide_eq_false (by omega); clear c4
    by_cases c5 : 0 < (a0.size : Int)
    ·rw [if_pos c5] at H; have c5b0 := decide_eq_true c5; have c5b1 : decide (0 < a0.size) = true := decide_eq_true (by omega); clear c5
     have H' := A_ H
     clear H
     have p6 : 0 ≤ (0 : Int) := (by omega)
     have q6 : 0 < a0.size := (by have : (0 : Int) < (a0.size : Int) := of_decide_eq_true as_; omega)
     have hx6 : ∀ h : 0 < a0.size, ((a0[0]'h).toNat : Int) = bt a0 0 := bt_at a0 0
     clear p6; have qi6 : (0 < (a0.size : Int)) = True := eq_true (of_decide_eq_true as_); replace q6 := eq_true q6
     go_wp2
     go_meet
     case rel => exact ⟨_, (((bt a0 0) == 48)), sq_, H', le_, dr_⟩
    ·rw [if_neg c5] at H
     exact absurd H (by simp)
 case rest =>
  clear HC2; obtain ⟨kq, x18_1, rfl, HA, HJ1, ⟨mc1, rfl⟩⟩ := hcut
  cases kq with
  | zero => exact absurd HA.out (by simp [addr_Number.j0])
  | succ kj1 =>
   have H := HA.out; clear HA
   simp only [addr_Number.j0] at H
   by_cases c7 : x18_1 = true
   ·subst c7
    replace H := it_ H
    simp only [Option.some.injEq, Prod.mk.injEq] at H
    obtain ⟨rfl, rfl⟩ := H
    go_wp2
    go_ret2
    exact ⟨by first | rfl | (simp; done) | (simp [*]; done), dr_⟩
   ·replace c7 := Bool.eq_false_iff.mpr c7; subst c7
    replace H := ie_ H
    have H' := A_ H
    clear H
    go_wp2
    go_loopg [4, 21] kj1 (fun kq v4 v21 w' => ∃ (x4_2 : Int) (x21_2 : Int), v4 = .int .i64 x4_2 ∧ v21 = .int .i64 x21_2 ∧ Aside0 (addr_Number.l0 kq a0 x4_2 (a0.size : Int) x21_2 = some (r1, r2)) ∧ Aside0 (kq ≤ kj1) ∧ Drawn0 w w')
    case atStart => exact ⟨(0), (0), sq_, sq_, H', ⟨Nat.le_refl _⟩, dr_⟩
    case round =>
     clear H'; (try clear c7); obtain ⟨x4_2, x21_2, rfl, rfl, HA, HK2, ⟨m2, rfl⟩⟩ := hrel
     cases gk with
     | zero => exact absurd HA.out (by simp [addr_Number.l0])
     | succ k2 =>
      have H := HA.out; clear HA
      simp only [addr_Number.l0] at H
      by_cases c8 : x21_2 < (a0.size : Int)
      ·rw [if_pos c8] at H; have c8b0 := decide_eq_true c8; clear c8
       by_cases c9 : 0 ≤ x21_2
       ·rw [if_pos c9] at H; have c9b0 := decide_eq_true c9; clear c9
        by_cases c10 : x21_2 < (a0.size : Int)
        ·rw [if_pos c10] at H; have c10b0 := decide_eq_true c10; clear c10
         by_cases c12 : (bt a0 x21_2) < 48
         ·rw [if_pos c12] at H; have c12b0 := decide_eq_true c12; clear c12
          simp only [Option.some.injEq, Prod.mk.injEq] at H
          obtain ⟨rfl, rfl⟩ := H
          have p11 : 0 ≤ (x21_2 : Int) := of_decide_eq_true as_
          have q11 : x21_2 < (a0.size : Int) := of_decide_eq_true as_
          have hx11 := bt_at a0 x21_2; replace p11 := eq_true p11; replace q11 := eq_true q11
          go_wp2
          go_ret2
          exact ⟨by first | rfl | (simp; done) | (simp [*]; done), dr_⟩
         ·rw [if_neg c12] at H; have c12b0 := decide_eq_false c12; clear c12
          by_cases c14 : (bt a0 x21_2) > 57
          ·rw [if_pos c14] at H; have c14b0 := decide_eq_true c14; clear c14
           simp only [Option.some.injEq, Prod.mk.injEq] at H
           obtain ⟨rfl, rfl⟩ := H
           have p11 : 0 ≤ (x21_2 : Int) := of_decide_eq_true as_
           have q11 : x21_2 < (a0.size : Int) := of_decide_eq_true as_
           have hx11 := bt_at a0 x21_2; replace p11 := eq_true p11; replace q11 := eq_true q11
           have p13 : 0 ≤ (x21_2 : Int) := of_decide_eq_true as_
           have q13 : x21_2 < (a0.size : Int) := of_decide_eq_true as_
           have hx13 := bt_at a0 x21_2; replace p13 := eq_true p13; replace q13 := eq_true q13
           go_wp2
           go_ret2
           exact ⟨by first | rfl | (simp; done) | (simp [*]; done), dr_⟩
          ·rw [if_neg c14] at H; have c14b0 := decide_eq_false c14; clear c14
           have H' := A_ H
           clear H
           have p11 : 0 ≤ (x21_2 : Int) := of_decide_eq_true as_
           have q11 : x21_2 < (a0.size : Int) := of_decide_eq_true as_
           have hx11 := bt_at a0 x21_2; replace p11 := eq_true p11; replace q11 := eq_true q11
           have p13 : 0 ≤ (x21_2 : Int) := of_decide_eq_true as_
           have q13 : x21_2 < (a0.size : Int) := of_decide_eq_true as_
           have hx13 := bt_at a0 x21_2; replace p13 := eq_true p13; replace q13 := eq_true q13
           have p15 : 0 ≤ (x21_2 : Int) := of_decide_eq_true as_
           have q15 : x21_2 < (a0.size : Int) := of_decide_eq_true as_
           have hx15 := bt_at a0 x21_2; replace p15 := eq_true p15; replace q15 := eq_true q15
           go_wp2
           go_roundg k2
           case measure => have := HJ1.out; have := HK2.out; omega
           case rel => exact ⟨(wrap64 ((wrap64 (x4_2 * 10)) + (((bt a0 x21_2) - 48) % 256))), (wrap64 (x21_2 + 1)), sq_, sq_, H', ⟨by have := HJ1.out; have := HK2.out; omega⟩, dr_⟩
        ·rw [if_neg c10] at H
         exact absurd H (by simp)
       ·rw [if_neg c9] at H
        exact absurd H (by simp)
      ·rw [if_neg c8] at H; have c8b0 := decide_eq_false c8; clear c8
       simp only [Option.some.injEq, Prod.mk.injEq] at H
       obtain ⟨rfl, rfl⟩ := H
       go_wp2
       go_ret2
       exact ⟨by first | rfl | (simp; done) | (simp [*]; done), dr_⟩

mutual
def addr_Parse.j1 : Nat → ByteArray → Int → Option (Int × Int × Bool)
 | 0, _, _ => none
 | k + 1, x0, x4 => if 0 ≤ x4 then (if x4 ≤ (x0.size : Int) then ((addr_Column.f k (x0.extract 0 (x4 : Int).toNat)).bind fun bt102 => ((addr_Number.f k (x0.extract (x4 : Int).toNat x0.size)).bind fun bt104 => (if bt102.2 = true then (if bt104.2 = true then (some (bt104.1, bt102.1, true)) else (some (0, 0, false))) else (some (0, 0, false))))) else (none)) else (none)
def addr_Parse.l0 : Nat → ByteArray → Int → Option (Int × Int × Bool)
 | 0, _, _ => none
 | k + 1, x0, x4 => if x4 < (x0.size : Int) then (if 0 ≤ x4 then (if (bt x0 x4) ≥ 65 then (if (bt x0 x4) ≤ 90 then (addr_Parse.l0 k x0 (wrap64 (x4 + 1))) else (addr_Parse.j1 k x0 x4)) else (addr_Parse.j1 k x0 x4)) else (none)) else (addr_Parse.j1 k x0 x4)
end
def addr_Parse.f (k : Nat) (a0 : ByteArray) : Option (Int × Int × Bool) := addr_Parse.l0 k a0 0
theorem addr_Parse.calls (k : Nat) (a0 : ByteArray) (r1 : Int) (r2 : Int) (r3 : Bool) (w : World) (h : addr_Parse.f k a0 = some (r1, r2, r3)) :
  Calls Tryd.prog 36 #[.string a0] w fun e w' => e = .returned (.tuple #[.agg #[.int .i64 r1, .int .i64 r2], .bool r3]) ∧ Below w.heap.size w w' := by
 have hu27 := Tryd.underlying27; have HB := A_ (Below.refl w.heap.size w)
 have H : (addr_Parse.l0 k a0 0) = some (r1, r2, r3) := h
 clear h; have HC2 := A_ H; clear H
 go_enter Tryd.func36, Tryd.ntmps36
 go_upto_block 0 with (first | ((with_reducible refine gd_ 2 ?_); refine be_ (N:=2) (cs := #[.int .i64 0, .int .i64 0]) (t:=27) ?_; intro g1 hg w3 hbox hb; have B1 := A_ (hbox); have GW101 := hs_ HB hg; have GE101 := hs_ HB hg; replace HB := bs_ HB hb; clear hb hbox hg))
 (try simp only [q_])
 go_cut [4] (fun v4 wc => ∃ (kq : Nat) (x4_1 : Int), v4 = .int .i64 x4_1 ∧ Aside0 (addr_Parse.j1 kq a0 x4_1 = some (r1, r2, r3)) ∧ Aside0 (kq ≤ k) ∧ Aside0 (wc.heap[g1]? = some (.cells #[.int .i64 0, .int .i64 0] 27 (0, 0))) ∧ Aside0 (Below w.heap.size w wc))
 case first =>
  have H := HC2.out; clear HC2
  have H' := A_ H
  clear H
  go_wp2
  go_loopg [4] k (fun kq v4 w' => ∃ (x4_1 : Int), v4 = .int .i64 x4_1 ∧ Aside0 (addr_Parse.l0 kq a0 x4_1 = some (r1, r2, r3)) ∧ Aside0 (kq ≤ k) ∧ Aside0 (w'.heap[g1]? = some (.cells #[.int .i64 0, .int .i64 0] 27 (0, 0))) ∧ Aside0 (Below w.heap.size w w'))
  case atStart => exact ⟨(0), sq_, H', ⟨Nat.le_refl _⟩, ⟨pkx B1⟩, ⟨pbx HB⟩⟩
  case round =>
   clear H'; obtain ⟨x4_1, rfl, HA, HK1, B1, HB⟩ := hrel
   cases gk with
   | zero => exact absurd HA.out (by simp [addr_Parse.l0])
   | succ k1 =>
    have H := HA.out; clear HA
    simp only [addr_Parse.l0] at H
    by_cases c4 : x4_1 < (a0.size : Int)
    ·rw [if_pos c4] at H; have c4b0 := decide_eq_true c4; clear c4; (first | rw [c4b0] | (simp only [i64_w, i32_w]; rw [c4b0]) | skip)
     by_cases c5 : 0 ≤ x4_1
     ·rw [if_pos c5] at H; have c5b0 := decide_eq_true c5; clear c5
      by_cases c7 : (bt a0 x4_1) ≥ 65
      ·rw [if_pos c7] at H; have c7b0 := decide_eq_true c7; clear c7
       by_cases c9 : (bt a0 x4_1) ≤ 90
       ·rw [if_pos c9] at H; have c9b0 := decide_eq_true c9; clear c9
        have H' := A_ H
        clear H
        have p6 : 0 ≤ (x4_1 : Int) := of_decide_eq_true as_
        have q6 : x4_1 < (a0.size : Int) := of_decide_eq_true as_
        have hx6 := bt_at a0 x4_1; replace p6 := eq_true p6; replace q6 := eq_true q6
        have p8 : 0 ≤ (x4_1 : Int) := of_decide_eq_true as_
        have q8 : x4_1 < (a0.size : Int) := of_decide_eq_true as_
        have hx8 := bt_at a0 x4_1; replace p8 := eq_true p8; replace q8 := eq_true q8
        go_wp2
        go_roundg k1
        case measure => have := HK1.out; omega
        case rel => exact ⟨(wrap64 (x4_1 + 1)), sq_, H', ⟨by have := HK1.out; omega⟩, ⟨pkx B1⟩, ⟨pbx HB⟩⟩
       ·rw [if_neg c9] at H; have c9b0 := decide_eq_false c9; clear c9
        have H' := A_ H
        clear H
        have p6 : 0 ≤ (x4_1 : Int) := of_decide_eq_true as_
        have q6 : x4_1 < (a0.size : Int) := of_decide_eq_true as_
        have hx6 := bt_at a0 x4_1; replace p6 := eq_true p6; replace q6 := eq_true q6
        have p8 : 0 ≤ (x4_1 : Int) := of_decide_eq_true as_
        have q8 : x4_1 < (a0.size : Int) := of_decide_eq_true as_
        have hx8 := bt_at a0 x4_1; replace p8 := eq_true p8; replace q8 := eq_true q8
        go_wp2
        go_meet
        case rel => exact ⟨_, (x4_1), sq_, H', ⟨by have := HK1.out; first | omega | exact Nat.le_refl _⟩, ⟨pkx B1⟩, ⟨pbx HB⟩⟩
      ·rw [if_neg c7] at H; have c7b0 := decide_eq_false c7; clear c7
       have H' := A_ H
       clear H
       have p6 : 0 ≤ (x4_1 : Int) := of_decide_eq_true as_
       have q6 : x4_1 < (a0.size : Int) := of_decide_eq_true as_
       have hx6 := bt_at a0 x4_1; replace p6 := eq_true p6; replace q6 := eq_true q6
       go_wp2
       go_meet
       case rel => exact ⟨_, (x4_1), sq_, H', ⟨by have := HK1.out; first | omega | exact Nat.le_refl _⟩, ⟨pkx B1⟩, ⟨pbx HB⟩⟩
     ·rw [if_neg c5] at H
      exact absurd H (by simp)
    ·rw [if_neg c4] at H; have c4b0 := decide_eq_false c4; clear c4; (first | rw [c4b0] | (simp only [i64_w, i32_w]; rw [c4b0]) | skip)
     have H' := A_ H
     clear H
     go_wp2
     go_meet
     case rel => exact ⟨_, (x4_1), sq_, H', ⟨by have := HK1.out; first | omega | exact Nat.le_refl _⟩, ⟨pkx B1⟩, ⟨pbx HB⟩⟩
 case rest =>
  clear HC2; obtain ⟨kq, x4_1, rfl, HA, HJ1, B1, HB⟩ := hcut
  cases kq with
  | zero => exact absurd HA.out (by simp [addr_Parse.j1])
  | succ kj1 =>
   have H := HA.out; clear HA
   simp only [addr_Parse.j1] at H
   by_cases c10 : 0 ≤ x4_1
   ·rw [if_pos c10] at H; have c10b0 := eq_true c10; have c10b1 := decide_eq_true c10; clear c10
    by_cases c11 : x4_1 ≤ (a0.size : Int)
    ·rw [if_pos c11] at H; have c11b0 := eq_true c11; have c11b1 := decide_eq_true c11; clear c11; obtain ⟨⟨t102, t103⟩, A12, H⟩ := bo_ H; dsimp only at H; have c13b0 := eq_true (of_decide_eq_true as_ : 0 ≤ x4_1); have c14b0 := eq_true (of_decide_eq_true as_ : x4_1 ≤ (a0.size : Int)); obtain ⟨⟨t104, t105⟩, A15, H⟩ := bo_ H; dsimp only at H
     by_cases c16 : t103 = true
     ·subst c16
      replace H := it_ H
      by_cases c17 : t105 = true
      ·subst c17
       replace H := it_ H
       simp only [Option.some.injEq, Prod.mk.injEq] at H
       obtain ⟨rfl, rfl, rfl⟩ := H
       go_wp2_with (first | ((with_reducible refine gate_callee (f:=61) rfl ?_); refine gL_ (some 31) rfl rfl Tryd.func61 rfl #[.string (a0.extract 0 (x4_1 : Int).toNat)] rfl ?_; (with_reducible refine (addr_Column.calls kj1 (a0.extract 0 (x4_1 : Int).toNat) t102 true _ A12.out).mono ?_); rintro e w' ⟨rfl, ⟨nd, rfl⟩⟩; refine ⟨_, rfl, ?_⟩; (try (rw [drewN_self wc]; generalize hq_ : World.drewN wc _ = wc; have n0_ : Aside0 (wc.heap[g1]? = some (.cells #[.int .i64 0, .int .i64 0] 27 (0, 0))) := ⟨by rw [← hq_]; exact (pkx B1)⟩; have n1_ : Aside0 (Below w.heap.size w wc) := ⟨by rw [← hq_]; exact (pbx HB)⟩; clear B1 HB hq_; have B1 := n0_; have HB := n1_; clear n0_ n1_))) | ((with_reducible refine gate_callee (f:=62) rfl ?_); refine gL_ (some 38) rfl rfl Tryd.func62 rfl #[.string (a0.extract (x4_1 : Int).toNat a0.size)] rfl ?_; (with_reducible refine (addr_Number.calls kj1 (a0.extract (x4_1 : Int).toNat a0.size) t104 true _ A15.out).mono ?_); rintro e w' ⟨rfl, ⟨nd, rfl⟩⟩; refine ⟨_, rfl, ?_⟩; (try (rw [drewN_self wc]; generalize hq_ : World.drewN wc _ = wc; have n0_ : Aside0 (wc.heap[g1]? = some (.cells #[.int .i64 0, .int .i64 0] 27 (0, 0))) := ⟨by rw [← hq_]; exact (pkx B1)⟩; have n1_ : Aside0 (Below w.heap.size w wc) := ⟨by rw [← hq_]; exact (pbx HB)⟩; clear B1 HB hq_; have B1 := n0_; have HB := n1_; clear n0_ n1_)); have ⟨hcz18_0,hcz18_1,hfz18_0,hfz18_1⟩ := z2_ B1))
       refine bodyPost_ret (results_ct rfl _ _ g1 27 #[.int .i64 t104, .int .i64 t102] (0, 0) _ rfl (by refine pp_ (cs := #[.int .i64 t104, .int .i64 0]) 1 ?_ rfl; refine blk_put (cs := #[.int .i64 0, .int .i64 0]) ?_ 0 _ rfl; exact pkx B1) Tryd.underlying27 rfl (by kernel_rfl)) rfl ?_
       exact fi_ bl_
      ·replace c17 := Bool.eq_false_iff.mpr c17; subst c17
       replace H := ie_ H
       simp only [Option.some.injEq, Prod.mk.injEq] at H
       obtain ⟨rfl, rfl, rfl⟩ := H
       go_wp2_with (first | ((with_reducible refine gate_callee (f:=61) rfl ?_); refine gL_ (some 31) rfl rfl Tryd.func61 rfl #[.string (a0.extract 0 (x4_1 : Int).toNat)] rfl ?_; (with_reducible refine (addr_Column.calls kj1 (a0.extract 0 (x4_1 : Int).toNat) t102 true _ A12.out).mono ?_); rintro e w' ⟨rfl, ⟨nd, rfl⟩⟩; refine ⟨_, rfl, ?_⟩; (try (rw [drewN_self wc]; generalize hq_ : World.drewN wc _ = wc; have n0_ : Aside0 (wc.heap[g1]? = some (.cells #[.int .i64 0, .int .i64 0] 27 (0, 0))) := ⟨by rw [← hq_]; exact (pkx B1)⟩; have n1_ : Aside0 (Below w.heap.size w wc) := ⟨by rw [← hq_]; exact (pbx HB)⟩; clear B1 HB hq_; have B1 := n0_; have HB := n1_; clear n0_ n1_))) | ((with_reducible refine gate_callee (f:=62) rfl ?_); refine gL_ (some 38) rfl rfl Tryd.func62 rfl #[.string (a0.extract (x4_1 : Int).toNat a0.size)] rfl ?_; (with_reducible refine (addr_Number.calls kj1 (a0.extract (x4_1 : Int).toNat a0.size) t104 false _ A15.out).mono ?_); rintro e w' ⟨rfl, ⟨nd, rfl⟩⟩; refine ⟨_, rfl, ?_⟩; (try (rw [drewN_self wc]; generalize hq_ : World.drewN wc _ = wc; have n0_ : Aside0 (wc.heap[g1]? = some (.cells #[.int .i64 0, .int .i64 0] 27 (0, 0))) := ⟨by rw [← hq_]; exact (pkx B1)⟩; have n1_ : Aside0 (Below w.heap.size w wc) := ⟨by rw [← hq_]; exact (pbx HB)⟩; clear B1 HB hq_; have B1 := n0_; have HB := n1_; clear n0_ n1_)); have ⟨hcz19_0,hcz19_1,hfz19_0,hfz19_1⟩ := z2_ B1))
       refine bodyPost_ret (results_ct rfl _ _ g1 27 #[.int .i64 0, .int .i64 0] (0, 0) _ rfl (by refine pp_ (cs := #[.int .i64 0, .int .i64 0]) 1 ?_ rfl; refine blk_put (cs := #[.int .i64 0, .int .i64 0]) ?_ 0 _ rfl; exact pkx B1) Tryd.underlying27 rfl (by kernel_rfl)) rfl ?_
       exact fi_ bl_
     ·replace c16 := Bool.eq_false_iff.mpr c16; subst c16
      replace H := ie_ H
      simp only [Option.some.injEq, Prod.mk.injEq] at H
      obtain ⟨rfl, rfl, rfl⟩ := H
      go_wp2_with (first | ((with_reducible refine gate_callee (f:=61) rfl ?_); refine gL_ (some 31) rfl rfl Tryd.func61 rfl #[.string (a0.extract 0 (x4_1 : Int).toNat)] rfl ?_; (with_reducible refine (addr_Column.calls kj1 (a0.extract 0 (x4_1 : Int).toNat) t102 false _ A12.out).mono ?_); rintro e w' ⟨rfl, ⟨nd, rfl⟩⟩; refine ⟨_, rfl, ?_⟩; (try (rw [drewN_self wc]; generalize hq_ : World.drewN wc _ = wc; have n0_ : Aside0 (wc.heap[g1]? = some (.cells #[.int .i64 0, .int .i64 0] 27 (0, 0))) := ⟨by rw [← hq_]; exact (pkx B1)⟩; have n1_ : Aside0 (Below w.heap.size w wc) := ⟨by rw [← hq_]; exact (pbx HB)⟩; clear B1 HB hq_; have B1 := n0_; have HB := n1_; clear n0_ n1_))) | ((with_reducible refine gate_callee (f:=62) rfl ?_); refine gL_ (some 38) rfl rfl Tryd.func62 rfl #[.string (a0.extract (x4_1 : Int).toNat a0.size)] rfl ?_; (with_reducible refine (addr_Number.calls kj1 (a0.extract (x4_1 : Int).toNat a0.size) t104 t105 _ A15.out).mono ?_); rintro e w' ⟨rfl, ⟨nd, rfl⟩⟩; refine ⟨_, rfl, ?_⟩; (try (rw [drewN_self wc]; generalize hq_ : World.drewN wc _ = wc; have n0_ : Aside0 (wc.heap[g1]? = some (.cells #[.int .i64 0, .int .i64 0] 27 (0, 0))) := ⟨by rw [← hq_]; exact (pkx B1)⟩; have n1_ : Aside0 (Below w.heap.size w wc) := ⟨by rw [← hq_]; exact (pbx HB)⟩; clear B1 HB hq_; have B1 := n0_; have HB := n1_; clear n0_ n1_)); have ⟨hcz20_0,hcz20_1,hfz20_0,hfz20_1⟩ := z2_ B1))
      refine bodyPost_ret (results_ct rfl _ _ g1 27 #[.int .i64 0, .int .i64 0] (0, 0) _ rfl (by refine pp_ (cs := #[.int .i64 0, .int .i64 0]) 1 ?_ rfl; refine blk_put (cs := #[.int .i64 0, .int .i64 0]) ?_ 0 _ rfl; exact pkx B1) Tryd.underlying27 rfl (by kernel_rfl)) rfl ?_
      exact fi_ bl_
    ·rw [if_neg c11] at H
     exact absurd H (by simp)
   ·rw [if_neg c10] at H
    exact absurd H (by simp)

end Go.Proofs.YtajoebfkkknjhaaDoor.X
