/- Contracts of the functions that the law SpanCells reaches, and what they answer (a session's own texts, joined; part 1). -/
import Derived.Test.YtcbjihedobhjcaaDoorProg
import Derived.Below
import Derived.Deep.Draws
import Derived.Deep.AppendLies
import Derived.Maps.AppendAt
import Derived.OwnWalk
import Derived.Laws.BytesArg
import Derived.Laws.MakeOwn
import Derived.Laws.OwnMore
import Derived.Deep.OwnRows
import Derived.Tactics
import Derived.Lib.ConvBytes
import Derived.Laws.Slices
import Derived.WalkKit
import Derived.KernelRfl
import Derived.RowKit3
import Derived.Deep.LoopGhost
import Derived.Deep.QuietTactic
import Derived.BigQuiet
import Derived.WideLaws
import Derived.Deep.DeepCutAuto
import Derived.Deep.CutBlock
import Derived.Deep.RegionHeld3
import Derived.Laws.Rows
import Derived.Lib.AppendStr
import Derived.ArgAppend
import Derived.Laws.IdiomCopy
import Derived.OrdersHeld
import Derived.Laws.BitsLemmas
import Derived.RowKit
import Derived.Laws.BitsAllLaws
import Derived.RangeFuncNested
import Derived.RangeFuncBound
import Derived.RangeFuncCalls
import Derived.RangeFuncLeaves
import Derived.Shelf.Abstract
import Derived.Shelf.RegionOpen
import Derived.OwnWalkIn
import Derived.TacticsInMore
import Derived.LoopNIn
import Derived.LoopIn
import Derived.Lib.LaidTab
import Derived.Lib.ItoaNum
import Derived.Test.YtcbjihedobhjcaaDoorBSpanCells0
/- What holds of a block, or of all that is old, holds where nothing but new blocks and draws came since: found by instances, so that a walk's text need not say how. -/
set_option linter.unusedVariables false
namespace Go.Proofs.YtcbjihedobhjcaaDoorW.PrintWords
open Go.RowKit Go.Proofs.YtcbjihedobhjcaaDoorW.PrintLast Go.Proofs.YtcbjihedobhjcaaDoorW.PrintMore
class Peel (W0 W1 : World) : Prop where
  blk : ∀ (g : Nat) (o : Obj), W0.heap[g]? = some o → W1.heap[g]? = some o
  bel : ∀ w : World, Below w.heap.size w W0 → Below w.heap.size w W1
instance (priority := high) Peel.self (W : World) : Peel W W := ⟨fun _ _ h => h, fun _ h => h⟩
instance Peel.alloc (W0 W1 : World) (o' : Obj) [h : Peel W0 W1] : Peel W0 (W1.alloc o') := ⟨fun g o hk => blk_alloc (h.blk g o hk) o', fun w hb => below_alloc (h.bel w hb) o'⟩
instance Peel.drewN (W0 W1 : World) (n : Nat) [h : Peel W0 W1] : Peel W0 (W1.drewN n) := ⟨fun g o hk => blk_drewN (h.blk g o hk) n, fun w hb => pw_below_drewN (h.bel w hb) n⟩
instance Peel.drew (W0 W1 : World) [h : Peel W0 W1] : Peel W0 W1.drew := ⟨fun g o hk => blk_drew (h.blk g o hk), fun w hb => below_drew1 (h.bel w hb)⟩
theorem pkx {W0 W1 : World} [h : Peel W0 W1] {g : Nat} {o : Obj} (k : Aside0 (W0.heap[g]? = some o)) : W1.heap[g]? = some o := h.blk _ _ k.out
theorem pbx {W0 W1 w : World} [h : Peel W0 W1] (k : Aside0 (Below w.heap.size w W0)) : Below w.heap.size w W1 := h.bel _ k.out
end Go.Proofs.YtcbjihedobhjcaaDoorW.PrintWords
namespace Go.Proofs.YtcbjihedobhjcaaDoor.X
open Go.RowKit Go.Proofs.YtcbjihedobhjcaaDoorW.PrintWords Go.Proofs.YtcbjihedobhjcaaDoorW.PrintLast Go.Proofs.YtcbjihedobhjcaaDoorW.PrintMore
attribute [local go_sem] max2_int min2_int max_two min_two max_three min_three max_four min_four   -- for this text's walks alone
set_option linter.unusedVariables false
set_option linter.unusedSimpArgs false
def errW : Option Int → Value
  | none => .nilIface
  | some c => .iface 0 (.int .i64 c)
theorem errW_none : errW none = .nilIface := rfl
theorem errW_some (c : Int) : errW (some c) = .iface 0 (.int .i64 c) := rfl

theorem info23 : (Tryd.prog.info? 23).map (fun i => (i.zero, i.size, i.bytes)) = some (some (.agg #[(.int .i64 0), (.int .i64 0)]), 2, 16) := by kernel_rfl
-- the values' own types
structure S23 where
  f0 : Int
  f1 : Int
def z23 : S23 := ⟨(0 : Int), (0 : Int)⟩
def k23 : Kd S23 := Kd.iso (Kd.pair (Kd.int .i64) (Kd.int .i64)) (fun x : S23 => (x.f0, x.f1))
theorem k23_open {w : World} {x : S23} {cs : List Value} (h : k23.K w x cs) : cs = [.int .i64 x.f0, .int .i64 x.f1] := by
  obtain ⟨_, _, rfl, rfl, rfl⟩ := h
  exact rfl
theorem k23_mkM (w : World) (base : Nat) (ok : Nat → Prop) (x : S23)  : k23.M w base ok x [.int .i64 x.f0, .int .i64 x.f1] := ⟨[.int .i64 x.f0], [.int .i64 x.f1], rfl, rfl, rfl⟩
def rd_T23 (xs : List S23) (i : Int) : S23 := xs.getD i.toNat z23
theorem at_T23 {w : World} {A : Option Addr} {n : Nat} {xs : List S23} (h : Kd.C k23 w A n xs) (i : Int) (h0 : 0 ≤ i) (h1 : i < n) : ∃ ad , A = some ad ∧ w.cell? (ad.add (i.toNat * 2)) = some (.int .i64 (rd_T23 xs i).f0) ∧ w.cell? ⟨(ad.add (i.toNat * 2)).block, (ad.add (i.toNat * 2)).off + 1, none⟩ = some (.int .i64 (rd_T23 xs i).f1) := by
  obtain ⟨ad, c, e, _, hK, hc0⟩ := Kd.C_get h z23 i h0 h1
  have hc : ∀ j u, c[j]? = some u → w.cell? (ad.add (i.toNat * 2 + j)) = some u := hc0
  obtain rfl := k23_open hK
  exact ⟨ad, e, hc 0 _ rfl, by rw [← add_field _ _ 1 (by omega)]; exact hc 1 _ rfl⟩

structure S25 where
  f0 : S23
  f1 : S23
def k25 : Kd S25 := Kd.iso (Kd.pair k23 k23) (fun x : S25 => (x.f0, x.f1))
theorem k25_open {w : World} {x : S25} {cs : List Value} (h : k25.K w x cs) : cs = [.int .i64 x.f0.f0, .int .i64 x.f0.f1, .int .i64 x.f1.f0, .int .i64 x.f1.f1] := by
  obtain ⟨_, _, rfl, s0, s2⟩ := h
  obtain rfl := k23_open s0
  obtain rfl := k23_open s2
  exact rfl
end Go.Proofs.YtcbjihedobhjcaaDoor.X
/- Plain facts on whole numbers, bits and lists that the pure statements use. -/
set_option linter.unusedVariables false
set_option linter.unusedSimpArgs false
namespace Go.Proofs.YtcbjihedobhjcaaDoor.X
open Go.RowKit Go.Proofs.YtcbjihedobhjcaaDoorW.PrintWords Go.Proofs.YtcbjihedobhjcaaDoorW.PrintLast Go.Proofs.YtcbjihedobhjcaaDoorW.PrintMore

theorem w64 {x : Int} (h0 : -9223372036854775808 ≤ x) (h1 : x ≤ 9223372036854775807) : wrap64 x = x := by unfold wrap64; omega
theorem w64s {i n : Nat} (h : i < n) (hn : n ≤ 9223372036854775807) : wrap64 ((i : Int) + 1) = ((i + 1 : Nat) : Int) := by unfold wrap64; omega

theorem ev_some {α : Type} {g : Nat → Option α} {r : α} (h : ∀ k, g k = some r) : Ev g r := ⟨0, fun k _ => h k⟩
theorem ev_ite {α : Type} {c : Prop} [Decidable c] {f g : Nat → Option α} {r : α} (h1 : c → Ev f r) (h2 : ¬ c → Ev g r) : Ev (fun k => if c then f k else g k) r := by
  by_cases h : c
  · simp only [if_pos h]; exact h1 h
  · simp only [if_neg h]; exact h2 h
theorem ev_pos {α : Type} {c : Prop} [Decidable c] {f g : Nat → Option α} {r : α} (h : c) (h1 : Ev f r) : Ev (fun k => if c then f k else g k) r := by simp only [if_pos h]; exact h1
theorem ev_neg {α : Type} {c : Prop} [Decidable c] {f g : Nat → Option α} {r : α} (h : ¬ c) (h1 : Ev g r) : Ev (fun k => if c then f k else g k) r := by simp only [if_neg h]; exact h1
theorem ev_bind {α β : Type} {g : Nat → Option α} {f : Nat → α → Option β} {a : α} {r : β} (h : Ev g a) (k : Ev (fun n => f n a) r) : Ev (fun n => (g n).bind (f n)) r := Ev.bind h k
theorem ev_bsome {α β : Type} {x : α} {f : Nat → α → Option β} {r : β} (k : Ev (fun n => f n x) r) : Ev (fun n => (some x).bind (f n)) r := k

end Go.Proofs.YtcbjihedobhjcaaDoor.X
namespace Go.Proofs.YtcbjihedobhjcaaDoor.X
open Go.RowKit Go.Proofs.YtcbjihedobhjcaaDoorW.PrintWords
abbrev T_ : Bool := true
abbrev F_ : Bool := false
theorem hl_ {W0 W1 : World} [Peel W0 W1] {g gb : Nat} {o : Obj} (k : Aside0 (W0.heap[g]? = some o)) (hg : gb = W1.heap.size) : Aside0 (g ≠ gb) := ⟨by rw [hg]; exact Nat.ne_of_lt (blk_lt (pkx k))⟩
theorem hr_ {W0 W1 : World} [Peel W0 W1] {g gb : Nat} {o : Obj} (k : Aside0 (W0.heap[g]? = some o)) (hg : gb = W1.heap.size) : Aside0 (gb ≠ g) := ⟨by rw [hg]; exact Nat.ne_of_gt (blk_lt (pkx k))⟩
theorem hs_ {W0 W1 w : World} [Peel W0 W1] {gb : Nat} (k : Aside0 (Below w.heap.size w W0)) (hg : gb = W1.heap.size) : Aside0 (w.heap.size ≤ gb) := ⟨by rw [hg]; exact below_size (pbx k)⟩
abbrev T : Bool := true
abbrev F : Bool := false
def m_ : Nat → Nat → List Bool
  | 0, _ => []
  | n + 1, x => (x % 2 == 1) :: m_ n (x / 2)
theorem bb_ {W0 W1 W2 : World} [h : Peel W0 W1] {g : Nat} {o : Obj} (k : Aside0 (W0.heap[g]? = some o)) (hb : Below W1.heap.size W1 W2) : Aside0 (W2.heap[g]? = some o) := Aside0.mk (blk_below (pkx k) hb)
theorem bs_ {W0 W1 W2 w : World} [h : Peel W0 W1] (k : Aside0 (Below w.heap.size w W0)) (hb : Below W1.heap.size W1 W2) : Aside0 (Below w.heap.size w W2) := Aside0.mk (below_step (pbx k) hb)
theorem bc_ {w : World} {g : Nat} {t : TypeId} {cs : Array Value} {v : Value} (h : Aside0 (w.heap[g]? = some (.cells cs t (0, 0)))) (i : Nat) (e : cs[i]? = some v) : w.cell? ⟨g, i, none⟩ = some v := (blk_cell h.out i).trans e
theorem q_ : (∀ (a : Act) (v : Value), a.put none v = a) ∧ (∀ (a : Act) (t : Tmp) (v : Value), a.put (some t) v = { a with tmps := a.tmps.setIfInBounds t v }) ∧ (∀ (l : List Value) (i : Nat) (v : Value), l.toArray.setIfInBounds i v = (l.set i v).toArray) ∧ (∀ (a b : Value) (l : List Value), (a :: l).set 0 b = b :: l) ∧ (∀ (a b : Value) (l : List Value) (n : Nat), (a :: l).set (n + 1) b = a :: l.set n b) := ⟨fun _ _ => rfl, fun _ _ _ => rfl, fun _ _ _ => List.setIfInBounds_toArray .., fun _ _ _ => rfl, fun _ _ _ _ => rfl⟩
end Go.Proofs.YtcbjihedobhjcaaDoor.X
namespace Go.Proofs.YtcbjihedobhjcaaDoor.X
open Go.RowKit Go.Proofs.YtcbjihedobhjcaaDoorW.PrintWords Go.Proofs.YtcbjihedobhjcaaDoorW.PrintLast Go.Proofs.YtcbjihedobhjcaaDoorW.PrintMore
class PO (W0 : outParam World) (W1 : World) : Prop where
  of : ∀ (g : Nat) (o : Obj), W0.heap[g]? = some o → W1.heap[g]? = some o
instance (priority := low) PO.self (W : World) : PO W W := ⟨fun _ _ h => h⟩
instance PO.alloc (W0 W1 : World) (o9 : Obj) [h : PO W0 W1] : PO W0 (W1.alloc o9) := ⟨fun g o k => blk_alloc (h.of g o k) o9⟩
instance PO.drewN (W0 W1 : World) (n : Nat) [h : PO W0 W1] : PO W0 (W1.drewN n) := ⟨fun g o k => blk_drewN (h.of g o k) n⟩
instance PO.drew (W0 W1 : World) [h : PO W0 W1] : PO W0 W1.drew := ⟨fun g o k => blk_drew (h.of g o k)⟩
theorem pf_ {W W1 : World} {g : Nat} {cs : Array Value} {t : TypeId} {p : Addr} {v : Value} [h : PO (W.setCell p v) W1] (k : W.heap[g]? = some (.cells cs t (0, 0))) (hne : g ≠ p.block) : W1.heap[g]? = some (.cells cs t (0, 0)) := h.of _ _ (blk_far k hne v)
theorem pp_ {W W1 : World} {g : Nat} {cs cs2 : Array Value} {t : TypeId} {v : Value} (i : Nat) [h : PO (W.setCell ⟨g, i, none⟩ v) W1] (k : W.heap[g]? = some (.cells cs t (0, 0))) (e : cs.setIfInBounds i v = cs2) : W1.heap[g]? = some (.cells cs2 t (0, 0)) := h.of _ _ (blk_put k i v e)
theorem gL_ {P : Program} {ops : Array Oper} {Q : Exit → Act → World → Prop} {rest : List Oper} {oi : Oper} {a : Act} {w : World} (N : Option Tmp) (hd : oi.dst = N) (hg : oi.guard = none) {f : FuncId} {fn : Func} {asx : Array Operand} {ts : Array TypeId} (hf : P.funcs[f]? = some fn) (hb : fn.body.isSome = true) (args : Array Value) (hop : oi.op = .call { callee := .value (.func f), args := asx, argTypes := ts })
    (h : Calls P f args w fun e w9 => ∃ v, e = .returned v ∧ wpList P ops Q rest (a.put N v) w9) (hname : (fn.name == "runtime.NumGoroutine") = false := by kernel_rfl) (hargs : asx.map a.eval = args := by (try simp only [List.map_toArray, List.map_cons, List.map_nil]); first | done | rfl | (simp only [List.length_drop, List.length_take]; rfl)) : wpList P ops Q (oi :: rest) a w := goesL_ N hd hg hf hname hb args hop hargs h
theorem be_ {P : Program} {ops : Array Oper} {Q : Exit → Act → World → Prop} {rest : List Oper} {o : Oper} {a : Act} {W : World} {N : Tmp} {cs : Array Value} {t : TypeId} (h : ∀ g, g = W.heap.size → ∀ w1, w1.heap[g]? = some (.cells cs t (0, 0)) → Below W.heap.size W w1 → wpList P ops Q rest (a.put o.dst (.pointer (some ⟨g, 0, none⟩))) w1) (hgd : o.guard = none := by rfl) (hd : o.dst = some N := by rfl) (hrun : (execOp a.eval o).run P W = .ok (.value (.pointer (some ⟨W.heap.size, 0, none⟩))) (W.alloc (.cells cs t (0, 0))) := by first | (go_simp; done) | (go_simp; rfl)) : wpList P ops Q (o :: rest) a W := box_event hgd hd hrun h
end Go.Proofs.YtcbjihedobhjcaaDoor.X
namespace Go.Proofs.YtcbjihedobhjcaaDoor.X
open Go.RowKit Go.Proofs.YtcbjihedobhjcaaDoorW.PrintWords Go.Proofs.YtcbjihedobhjcaaDoorW.PrintLast Go.Proofs.YtcbjihedobhjcaaDoorW.PrintMore
attribute [local go_sem] max2_int min2_int max_two min_two max_three min_three max_four min_four
set_option linter.unusedVariables false
set_option linter.unusedSimpArgs false
def addr_May.f (a0_0 : Int) (a0_1 : Int) : Option (Bool) := if a0_0 ≥ 0 then (if a0_0 < 999 then (if a0_1 ≥ 0 then (some (decide (a0_1 < 702))) else (some false)) else (some false)) else (some false)
set_option maxHeartbeats 8000000 in
set_option maxRecDepth 100000 in
theorem addr_May.calls (a0_0 : Int) (a0_1 : Int) (r : Bool) (w : World) (h : addr_May.f a0_0 a0_1 = some r) :
  Calls Tryd.prog 25 #[.agg #[.int .i64 a0_0, .int .i64 a0_1]] w fun e w' => e = .returned (.bool r) ∧ Below w.heap.size w w' := by
 have hu23 := Tryd.underlying23; have HB := Aside0.mk (Below.refl w.heap.size w)
 have H : (if a0_0 ≥ 0 then (if a0_0 < 999 then (if a0_1 ≥ 0 then (some (decide (a0_1 < 702))) else (some false)) else (some false)) else (some false)) = some r := h
 clear h
 by_cases c2 : a0_0 ≥ 0
 ·rw [if_pos c2] at H; have c2b0 : decide (0 ≤ a0_0) = true := decide_eq_true c2; clear c2
  by_cases c3 : a0_0 < 999
  ·rw [if_pos c3] at H; have c3b0 : decide (a0_0 < 999) = true := decide_eq_true c3; clear c3
   by_cases c4 : a0_1 ≥ 0
   ·rw [if_pos c4] at H; have c4b0 : decide (0 ≤ a0_1) = true := decide_eq_true c4; clear c4; obtain rfl := Option.some.inj H
    go_enter Tryd.func25, Tryd.ntmps25
    go_wp2_with (first | ((with_reducible refine gate_dst (N:=1) rfl ?_); refine be_ (N:=1) (cs := #[.int .i64 a0_0, .int .i64 a0_1]) (t:=23) ?_; intro gb101 hg w5 hbox hb; have BK101 := Aside0.mk (hbox); replace HB := bs_ HB hb; clear hb hbox hg; have hcz6_0 : w5.cell? ⟨gb101, 0, none⟩ = some (.int .i64 a0_0) := bc_ BK101 0 rfl; have hcz6_1 : w5.cell? ⟨gb101, 1, none⟩ = some (.int .i64 a0_1) := bc_ BK101 1 rfl))
    go_ret
    exact ⟨by first | rfl | (simp [errW_none, errW_some] <;> rfl) | (simp [*, errW_none, errW_some] <;> rfl), pbx HB⟩
   ·rw [if_neg c4] at H; have c4b0 : decide (0 ≤ a0_1) = false := decide_eq_false c4; clear c4; obtain rfl := Option.some.inj H
    go_enter Tryd.func25, Tryd.ntmps25
    go_wp2_with (first | ((with_reducible refine gate_dst (N:=1) rfl ?_); refine be_ (N:=1) (cs := #[.int .i64 a0_0, .int .i64 a0_1]) (t:=23) ?_; intro gb101 hg w7 hbox hb; have BK101 := Aside0.mk (hbox); replace HB := bs_ HB hb; clear hb hbox hg; have hcz8_0 : w7.cell? ⟨gb101, 0, none⟩ = some (.int .i64 a0_0) := bc_ BK101 0 rfl; have hcz8_1 : w7.cell? ⟨gb101, 1, none⟩ = some (.int .i64 a0_1) := bc_ BK101 1 rfl))
    go_ret
    exact ⟨by first | rfl | (simp [errW_none, errW_some] <;> rfl) | (simp [*, errW_none, errW_some] <;> rfl), pbx HB⟩
  ·rw [if_neg c3] at H; have c3b0 : decide (a0_0 < 999) = false := decide_eq_false c3; clear c3; obtain rfl := Option.some.inj H
   go_enter Tryd.func25, Tryd.ntmps25
   go_wp2_with (first | ((with_reducible refine gate_dst (N:=1) rfl ?_); refine be_ (N:=1) (cs := #[.int .i64 a0_0, .int .i64 a0_1]) (t:=23) ?_; intro gb101 hg w9 hbox hb; have BK101 := Aside0.mk (hbox); replace HB := bs_ HB hb; clear hb hbox hg; have hcz10_0 : w9.cell? ⟨gb101, 0, none⟩ = some (.int .i64 a0_0) := bc_ BK101 0 rfl; have hcz10_1 : w9.cell? ⟨gb101, 1, none⟩ = some (.int .i64 a0_1) := bc_ BK101 1 rfl))
   go_ret
   exact ⟨by first | rfl | (simp [errW_none, errW_some] <;> rfl) | (simp [*, errW_none, errW_some] <;> rfl), pbx HB⟩
 ·rw [if_neg c2] at H; have c2b0 : decide (0 ≤ a0_0) = false := decide_eq_false c2; clear c2; obtain rfl := Option.some.inj H
  go_enter Tryd.func25, Tryd.ntmps25
  go_wp2_with (first | ((with_reducible refine gate_dst (N:=1) rfl ?_); refine be_ (N:=1) (cs := #[.int .i64 a0_0, .int .i64 a0_1]) (t:=23) ?_; intro gb101 hg w11 hbox hb; have BK101 := Aside0.mk (hbox); replace HB := bs_ HB hb; clear hb hbox hg; have hcz12_0 : w11.cell? ⟨gb101, 0, none⟩ = some (.int .i64 a0_0) := bc_ BK101 0 rfl; have hcz12_1 : w11.cell? ⟨gb101, 1, none⟩ = some (.int .i64 a0_1) := bc_ BK101 1 rfl))
  go_ret
  exact ⟨by first | rfl | (simp [errW_none, errW_some] <;> rfl) | (simp [*, errW_none, errW_some] <;> rfl), pbx HB⟩

def span_May.f (a0_0 : Int) (a0_1 : Int) (a0_2 : Int) (a0_3 : Int) : Option (Bool) := (addr_May.f a0_0 a0_1).bind fun t102 => (if t102 = true then ((addr_May.f a0_2 a0_3).bind fun t103 => (some t103)) else (some false))
set_option maxHeartbeats 8000000 in
set_option maxRecDepth 100000 in
theorem span_May.calls (a0_0 : Int) (a0_1 : Int) (a0_2 : Int) (a0_3 : Int) (r : Bool) (w : World) (h : span_May.f a0_0 a0_1 a0_2 a0_3 = some r) :
  Calls Tryd.prog 16 #[.agg #[.int .i64 a0_0, .int .i64 a0_1, .int .i64 a0_2, .int .i64 a0_3]] w fun e w' => e = .returned (.bool r) ∧ Below w.heap.size w w' := by
 have hu25 := Tryd.underlying25; have hu23 := Tryd.underlying23; have HB := Aside0.mk (Below.refl w.heap.size w)
 have H : ((addr_May.f a0_0 a0_1).bind fun t102 => (if t102 = true then ((addr_May.f a0_2 a0_3).bind fun t103 => (some t103)) else (some false))) = some r := h
 clear h; replace H := Option.bind_eq_some_iff.mp H; obtain ⟨t102, A20, H⟩ := H
 replace H : (if t102 = true then ((addr_May.f a0_2 a0_3).bind fun t103 => (some t103)) else (some false)) = some r := H
 have A2 := Aside0.mk A20; clear A20
 by_cases c3 : t102 = true
 ·subst c3
  have H1 : ((addr_May.f a0_2 a0_3).bind fun t103 => (some t103)) = some r := by rw [if_pos rfl] at H; exact H
  clear H; have H := H1; clear H1; replace H := Option.bind_eq_some_iff.mp H; obtain ⟨t103, A40, H⟩ := H
  replace H : (some t103) = some r := H
  have A4 := Aside0.mk A40; clear A40; obtain rfl := Option.some.inj H
  go_enter Tryd.func16, Tryd.ntmps16
  go_wp2_with (first | ((with_reducible refine gate_dst (N:=1) rfl ?_); refine be_ (N:=1) (cs := #[.int .i64 a0_0, .int .i64 a0_1, .int .i64 a0_2, .int .i64 a0_3]) (t:=25) ?_; intro gb101 hg w5 hbox hb; have BK101 := Aside0.mk (hbox); replace HB := bs_ HB hb; clear hb hbox hg; have hcz6_0 : w5.cell? ⟨gb101, 0, none⟩ = some (.int .i64 a0_0) := bc_ BK101 0 rfl; have hcz6_1 : w5.cell? ⟨gb101, 1, none⟩ = some (.int .i64 a0_1) := bc_ BK101 1 rfl; have hcz6_2 : w5.cell? ⟨gb101, 2, none⟩ = some (.int .i64 a0_2) := bc_ BK101 2 rfl; have hcz6_3 : w5.cell? ⟨gb101, 3, none⟩ = some (.int .i64 a0_3) := bc_ BK101 3 rfl) | ((with_reducible refine gate_callee (f:=25) rfl ?_); refine gL_ (some 5) rfl rfl Tryd.func25 rfl #[.agg #[.int .i64 a0_0, .int .i64 a0_1]] rfl ?_; (with_reducible refine (addr_May.calls a0_0 a0_1 true _ A2.out).mono ?_); rintro e w7 ⟨rfl, hb⟩; refine ⟨_, rfl, ?_⟩; replace BK101 := bb_ BK101 hb; replace HB := bs_ HB hb; (try clear hb); (try clear hb2); (try clear hk); (try clear hi); have hcz8_0 : w7.cell? ⟨gb101, 0, none⟩ = some (.int .i64 a0_0) := bc_ BK101 0 rfl; have hcz8_1 : w7.cell? ⟨gb101, 1, none⟩ = some (.int .i64 a0_1) := bc_ BK101 1 rfl; have hcz8_2 : w7.cell? ⟨gb101, 2, none⟩ = some (.int .i64 a0_2) := bc_ BK101 2 rfl; have hcz8_3 : w7.cell? ⟨gb101, 3, none⟩ = some (.int .i64 a0_3) := bc_ BK101 3 rfl) | (go_at_call 25; (with_reducible refine (addr_May.calls a0_2 a0_3 t103 _ A4.out).mono ?_); rintro e w9 ⟨rfl, hb⟩; replace BK101 := bb_ BK101 hb; replace HB := bs_ HB hb; (try clear hb); (try clear hb2); (try clear hk); (try clear hi)))
  go_ret
  exact ⟨by first | rfl | (simp [errW_none, errW_some] <;> rfl) | (simp [*, errW_none, errW_some] <;> rfl), pbx HB⟩
 ·replace c3 := Bool.eq_false_iff.mpr c3; subst c3
  have H1 : (some false) = some r := by rw [if_neg (show ¬ (false = true) by decide)] at H; exact H
  clear H; have H := H1; clear H1; obtain rfl := Option.some.inj H
  go_enter Tryd.func16, Tryd.ntmps16
  go_wp2_with (first | ((with_reducible refine gate_dst (N:=1) rfl ?_); refine be_ (N:=1) (cs := #[.int .i64 a0_0, .int .i64 a0_1, .int .i64 a0_2, .int .i64 a0_3]) (t:=25) ?_; intro gb101 hg w10 hbox hb; have BK101 := Aside0.mk (hbox); replace HB := bs_ HB hb; clear hb hbox hg; have hcz11_0 : w10.cell? ⟨gb101, 0, none⟩ = some (.int .i64 a0_0) := bc_ BK101 0 rfl; have hcz11_1 : w10.cell? ⟨gb101, 1, none⟩ = some (.int .i64 a0_1) := bc_ BK101 1 rfl; have hcz11_2 : w10.cell? ⟨gb101, 2, none⟩ = some (.int .i64 a0_2) := bc_ BK101 2 rfl; have hcz11_3 : w10.cell? ⟨gb101, 3, none⟩ = some (.int .i64 a0_3) := bc_ BK101 3 rfl) | ((with_reducible refine gate_callee (f:=25) rfl ?_); refine gL_ (some 5) rfl rfl Tryd.func25 rfl #[.agg #[.int .i64 a0_0, .int .i64 a0_1]] rfl ?_; (with_reducible refine (addr_May.calls a0_0 a0_1 false _ A2.out).mono ?_); rintro e w12 ⟨rfl, hb⟩; refine ⟨_, rfl, ?_⟩; replace BK101 := bb_ BK101 hb; replace HB := bs_ HB hb; (try clear hb); (try clear hb2); (try clear hk); (try clear hi)))
  go_ret
  exact ⟨by first | rfl | (simp [errW_none, errW_some] <;> rfl) | (simp [*, errW_none, errW_some] <;> rfl), pbx HB⟩

def span_Straight.f (a0_0 : Int) (a0_1 : Int) (a0_2 : Int) (a0_3 : Int) : Option (Int × Int × Int × Int) := (span_May.f a0_0 a0_1 a0_2 a0_3).bind fun t103 => (if t103 = true then (some (mn a0_0 a0_2, mn a0_1 a0_3, mx a0_0 a0_2, mx a0_1 a0_3)) else (some (0, 0, 0, 0)))
set_option maxHeartbeats 8000000 in
set_option maxRecDepth 100000 in
theorem span_Straight.calls (a0_0 : Int) (a0_1 : Int) (a0_2 : Int) (a0_3 : Int) (r1 : Int) (r2 : Int) (r3 : Int) (r4 : Int) (w : World) (h : span_Straight.f a0_0 a0_1 a0_2 a0_3 = some (r1, r2, r3, r4)) :
  Calls Tryd.prog 17 #[.agg #[.int .i64 a0_0, .int .i64 a0_1, .int .i64 a0_2, .int .i64 a0_3]] w fun e w' => e = .returned (.agg #[.int .i64 r1, .int .i64 r2, .int .i64 r3, .int .i64 r4]) ∧ Below w.heap.size w w' := by
 have hu25 := Tryd.underlying25; have hu23 := Tryd.underlying23; have HB := Aside0.mk (Below.refl w.heap.size w)
 have H : ((span_May.f a0_0 a0_1 a0_2 a0_3).bind fun t103 => (if t103 = true then (some (mn a0_0 a0_2, mn a0_1 a0_3, mx a0_0 a0_2, mx a0_1 a0_3)) else (some (0, 0, 0, 0)))) = some (r1, r2, r3, r4) := h
 clear h; replace H := Option.bind_eq_some_iff.mp H; obtain ⟨t103, A20, H⟩ := H
 replace H : (if t103 = true then (some (mn a0_0 a0_2, mn a0_1 a0_3, mx a0_0 a0_2, mx a0_1 a0_3)) else (some (0, 0, 0, 0))) = some (r1, r2, r3, r4) := H
 have A2 := Aside0.mk A20; clear A20
 by_cases c3 : t103 = true
 ·subst c3
  have H1 : (some (mn a0_0 a0_2, mn a0_1 a0_3, mx a0_0 a0_2, mx a0_1 a0_3)) = some (r1, r2, r3, r4) := by rw [if_pos rfl] at H; exact H
  clear H; have H := H1; clear H1; obtain ⟨ji4, hji4⟩ : ∃ j_ : Int, (mn a0_0 a0_2) = j_ := ⟨_, rfl⟩
  replace H : (some (ji4, mn a0_1 a0_3, mx a0_0 a0_2, mx a0_1 a0_3)) = some (r1, r2, r3, r4) := by first | (rw [hji4] at H; exact H) | (simp only [hji4] at H ⊢; exact H)
  (try rw [hji4] at A2)
  have hji4_ : (if a0_2 < a0_0 then a0_2 else a0_0) = ji4 := hji4
  obtain ⟨ji5, hji5⟩ : ∃ j_ : Int, (mn a0_1 a0_3) = j_ := ⟨_, rfl⟩
  replace H : (some (ji4, ji5, mx a0_0 a0_2, mx a0_1 a0_3)) = some (r1, r2, r3, r4) := by first | (rw [hji5] at H; exact H) | (simp only [hji5] at H ⊢; exact H)
  (try rw [hji5] at A2)
  have hji5_ : (if a0_3 < a0_1 then a0_3 else a0_1) = ji5 := hji5
  obtain ⟨ji6, hji6⟩ : ∃ j_ : Int, (mx a0_0 a0_2) = j_ := ⟨_, rfl⟩
  replace H : (some (ji4, ji5, ji6, mx a0_1 a0_3)) = some (r1, r2, r3, r4) := by first | (rw [hji6] at H; exact H) | (simp only [hji6] at H ⊢; exact H)
  (try rw [hji6] at A2)
  have hji6_ : (if a0_0 < a0_2 then a0_2 else a0_0) = ji6 := hji6
  obtain ⟨ji7, hji7⟩ : ∃ j_ : Int, (mx a0_1 a0_3) = j_ := ⟨_, rfl⟩
  replace H : (some (ji4, ji5, ji6, ji7)) = some (r1, r2, r3, r4) := by first | (rw [hji7] at H; exact H) | (simp only [hji7] at H ⊢; exact H)
  (try rw [hji7] at A2)
  have hji7_ : (if a0_1 < a0_3 then a0_3 else a0_1) = ji7 := hji7
  simp only [Option.some.injEq, Prod.mk.injEq] at H
  obtain ⟨rfl, rfl, rfl, rfl⟩ := H
  go_enter Tryd.func17, Tryd.ntmps17
  go_wp2_with (first | ((with_reducible refine gate_dst (N:=1) rfl ?_); refine be_ (N:=1) (cs := #[.int .i64 a0_0, .int .i64 a0_1, .int .i64 a0_2, .int .i64 a0_3]) (t:=25) ?_; intro gb101 hg w8 hbox hb; have BK101 := Aside0.mk (hbox); have GW101 := hs_ HB hg; have GE101 := hs_ HB hg; replace HB := bs_ HB hb; clear hb hbox hg) | ((with_reducible refine gate_dst (N:=2) rfl ?_); refine be_ (N:=2) (cs := #[.int .i64 0, .int .i64 0, .int .i64 0, .int .i64 0]) (t:=25) ?_; intro gb102 hg w9 hbox hb; have BK102 := Aside0.mk (hbox); have GW102 := hs_ HB hg; have GE102 := hs_ HB hg; have NB101_102 := hl_ BK101 hg; have NB102_101 := hr_ BK101 hg; replace BK101 := bb_ BK101 hb; replace HB := bs_ HB hb; clear hb hbox hg; have hnb10 := NB101_102.out; have hnc10 := NB102_101.out; have hcz11_0 : w9.cell? ⟨gb101, 0, none⟩ = some (.int .i64 a0_0) := bc_ BK101 0 rfl; have hcz11_1 : w9.cell? ⟨gb101, 1, none⟩ = some (.int .i64 a0_1) := bc_ BK101 1 rfl; have hcz11_2 : w9.cell? ⟨gb101, 2, none⟩ = some (.int .i64 a0_2) := bc_ BK101 2 rfl; have hcz11_3 : w9.cell? ⟨gb101, 3, none⟩ = some (.int .i64 a0_3) := bc_ BK101 3 rfl; have hfz11_0 := blk_frozen BK101.out 0; have hfz11_1 := blk_frozen BK101.out 1; have hfz11_2 := blk_frozen BK101.out 2; have hfz11_3 := blk_frozen BK101.out 3) | ((with_reducible refine gate_callee (f:=16) rfl ?_); refine gL_ (some 4) rfl rfl Tryd.func16 rfl #[.agg #[.int .i64 a0_0, .int .i64 a0_1, .int .i64 a0_2, .int .i64 a0_3]] rfl ?_; (with_reducible refine (span_May.calls a0_0 a0_1 a0_2 a0_3 true _ A2.out).mono ?_); rintro e w12 ⟨rfl, hb⟩; refine ⟨_, rfl, ?_⟩; replace BK101 := bb_ BK101 hb; replace BK102 := bb_ BK102 hb; replace HB := bs_ HB hb; (try clear hb); (try clear hb2); (try clear hk); (try clear hi); have hcz13_0 : w12.cell? ⟨gb101, 0, none⟩ = some (.int .i64 a0_0) := bc_ BK101 0 rfl; have hcz13_1 : w12.cell? ⟨gb101, 1, none⟩ = some (.int .i64 a0_1) := bc_ BK101 1 rfl; have hcz13_2 : w12.cell? ⟨gb101, 2, none⟩ = some (.int .i64 a0_2) := bc_ BK101 2 rfl; have hcz13_3 : w12.cell? ⟨gb101, 3, none⟩ = some (.int .i64 a0_3) := bc_ BK101 3 rfl; have hfz13_0 := blk_frozen BK101.out 0; have hfz13_1 := blk_frozen BK101.out 1; have hfz13_2 := blk_frozen BK101.out 2; have hfz13_3 := blk_frozen BK101.out 3; have hcz14_0 : w12.cell? ⟨gb102, 0, none⟩ = some (.int .i64 0) := bc_ BK102 0 rfl; have hcz14_1 : w12.cell? ⟨gb102, 1, none⟩ = some (.int .i64 0) := bc_ BK102 1 rfl; have hcz14_2 : w12.cell? ⟨gb102, 2, none⟩ = some (.int .i64 0) := bc_ BK102 2 rfl; have hcz14_3 : w12.cell? ⟨gb102, 3, none⟩ = some (.int .i64 0) := bc_ BK102 3 rfl; have hfz14_0 := blk_frozen BK102.out 0; have hfz14_1 := blk_frozen BK102.out 1; have hfz14_2 := blk_frozen BK102.out 2; have hfz14_3 := blk_frozen BK102.out 3))
  refine bodyPost_ret (results_cell_row rfl _ _ gb102 25 #[.int .i64 ji4, .int .i64 ji5, .int .i64 ji6, .int .i64 ji7] (0, 0) _ rfl (by refine pp_ (cs := #[.int .i64 ji4, .int .i64 ji5, .int .i64 ji6, .int .i64 0]) 3 ?_ rfl; refine blk_put (cs := #[.int .i64 ji4, .int .i64 ji5, .int .i64 0, .int .i64 0]) ?_ 2 _ rfl; refine blk_put (cs := #[.int .i64 ji4, .int .i64 0, .int .i64 0, .int .i64 0]) ?_ 1 _ rfl; refine blk_put (cs := #[.int .i64 0, .int .i64 0, .int .i64 0, .int .i64 0]) ?_ 0 _ rfl; exact pkx BK102) Tryd.underlying25 rfl (by kernel_rfl)) rfl ?_
  exact ⟨by first | rfl | (simp [errW_none, errW_some] <;> rfl) | (simp only [← hji4, ← hji5, ← hji6, ← hji7]; first | rfl | (simp [errW_none, errW_some] <;> rfl)) | (simp [*, errW_none, errW_some] <;> rfl), by repeat (first | (with_reducible first | exact HB.out | apply below_alloc | apply pw_below_drewN | apply below_drew1 | refine below_set ?_ GE101.out | refine below_set ?_ GE102.out) | exact HB.out)⟩
 ·replace c3 := Bool.eq_false_iff.mpr c3; subst c3
  have H1 : (some (0, 0, 0, 0)) = some (r1, r2, r3, r4) := by rw [if_neg (show ¬ (false = true) by decide)] at H; exact H
  clear H; have H := H1; clear H1
  simp only [Option.some.injEq, Prod.mk.injEq] at H
  obtain ⟨rfl, rfl, rfl, rfl⟩ := H
  go_enter Tryd.func17, Tryd.ntmps17
  go_wp2_with (first | ((with_reducible refine gate_dst (N:=1) rfl ?_); refine be_ (N:=1) (cs := #[.int .i64 a0_0, .int .i64 a0_1, .int .i64 a0_2, .int .i64 a0_3]) (t:=25) ?_; intro gb101 hg w15 hbox hb; have BK101 := Aside0.mk (hbox); have GW101 := hs_ HB hg; have GE101 := hs_ HB hg; replace HB := bs_ HB hb; clear hb hbox hg) | ((with_reducible refine gate_dst (N:=2) rfl ?_); refine be_ (N:=2) (cs := #[.int .i64 0, .int .i64 0, .int .i64 0, .int .i64 0]) (t:=25) ?_; intro gb102 hg w16 hbox hb; have BK102 := Aside0.mk (hbox); have GW102 := hs_ HB hg; have GE102 := hs_ HB hg; have NB101_102 := hl_ BK101 hg; have NB102_101 := hr_ BK101 hg; replace BK101 := bb_ BK101 hb; replace HB := bs_ HB hb; clear hb hbox hg; have hnb17 := NB101_102.out; have hnc17 := NB102_101.out; have hcz18_0 : w16.cell? ⟨gb101, 0, none⟩ = some (.int .i64 a0_0) := bc_ BK101 0 rfl; have hcz18_1 : w16.cell? ⟨gb101, 1, none⟩ = some (.int .i64 a0_1) := bc_ BK101 1 rfl; have hcz18_2 : w16.cell? ⟨gb101, 2, none⟩ = some (.int .i64 a0_2) := bc_ BK101 2 rfl; have hcz18_3 : w16.cell? ⟨gb101, 3, none⟩ = some (.int .i64 a0_3) := bc_ BK101 3 rfl; have hfz18_0 := blk_frozen BK101.out 0; have hfz18_1 := blk_frozen BK101.out 1; have hfz18_2 := blk_frozen BK101.out 2; have hfz18_3 := blk_frozen BK101.out 3) | ((with_reducible refine gate_callee (f:=16) rfl ?_); refine gL_ (some 4) rfl rfl Tryd.func16 rfl #[.agg #[.int .i64 a0_0, .int .i64 a0_1, .int .i64 a0_2, .int .i64 a0_3]] rfl ?_; (with_reducible refine (span_May.calls a0_0 a0_1 a0_2 a0_3 false _ A2.out).mono ?_); rintro e w19 ⟨rfl, hb⟩; refine ⟨_, rfl, ?_⟩; replace BK101 := bb_ BK101 hb; replace BK102 := bb_ BK102 hb; replace HB := bs_ HB hb; (try clear hb); (try clear hb2); (try clear hk); (try clear hi); have hcz20_0 : w19.cell? ⟨gb102, 0, none⟩ = some (.int .i64 0) := bc_ BK102 0 rfl; have hcz20_1 : w19.cell? ⟨gb102, 1, none⟩ = some (.int .i64 0) := bc_ BK102 1 rfl; have hcz20_2 : w19.cell? ⟨gb102, 2, none⟩ = some (.int .i64 0) := bc_ BK102 2 rfl; have hcz20_3 : w19.cell? ⟨gb102, 3, none⟩ = some (.int .i64 0) := bc_ BK102 3 rfl; have hfz20_0 := blk_frozen BK102.out 0; have hfz20_1 := blk_frozen BK102.out 1; have hfz20_2 := blk_frozen BK102.out 2; have hfz20_3 := blk_frozen BK102.out 3))
  refine bodyPost_ret (results_cell_row rfl _ _ gb102 25 #[.int .i64 0, .int .i64 0, .int .i64 0, .int .i64 0] (0, 0) _ rfl (by refine pp_ (cs := #[.int .i64 0, .int .i64 0, .int .i64 0, .int .i64 0]) 3 ?_ rfl; refine blk_put (cs := #[.int .i64 0, .int .i64 0, .int .i64 0, .int .i64 0]) ?_ 2 _ rfl; refine blk_put (cs := #[.int .i64 0, .int .i64 0, .int .i64 0, .int .i64 0]) ?_ 1 _ rfl; refine blk_put (cs := #[.int .i64 0, .int .i64 0, .int .i64 0, .int .i64 0]) ?_ 0 _ rfl; exact pkx BK102) Tryd.underlying25 rfl (by kernel_rfl)) rfl ?_
  exact ⟨by first | rfl | (simp [errW_none, errW_some] <;> rfl) | (simp [*, errW_none, errW_some] <;> rfl), by repeat (first | (with_reducible first | exact HB.out | apply below_alloc | apply pw_below_drewN | apply below_drew1 | refine below_set ?_ GE101.out | refine below_set ?_ GE102.out) | exact HB.out)⟩

end Go.Proofs.YtcbjihedobhjcaaDoor.X
/- The iterator of span.All: a span's cells, row by row; for every loop body that keeps blocks of the span's type. -/
set_option linter.unusedVariables false
set_option linter.unusedSimpArgs false
namespace Go.Proofs.YtcbjihedobhjcaaDoor.X
open Go.RowKit Go.Shelf Go.Proofs.YtcbjihedobhjcaaDoorW.PrintWords Go.Proofs.YtcbjihedobhjcaaDoorW.PrintLast Go.Proofs.YtcbjihedobhjcaaDoorW.PrintMore
attribute [local go_sem] Oper.semAt_some
structure KeepT (t : TypeId) (W W' : World) : Prop where
  size : W.heap.size ≤ W'.heap.size
  same : ∀ (k : Nat) (cs : Array Value), W.heap[k]? = some (Obj.cells cs t (0, 0)) → W'.heap[k]? = some (Obj.cells cs t (0, 0))
def rowL (c0 : Int) (r : Int) (n : Nat) : List S23 := (List.range n).map fun (j : Nat) => ⟨r, c0 + (j : Int)⟩
def rowsLs (c0 : Int) (m : Nat) (r0 : Int) (n : Nat) : List S23 := (List.range n).flatMap fun (i : Nat) => rowL c0 (r0 + (i : Int)) m
def cellsL (r0 c0 r1 c1 : Int) : List S23 := rowsLs c0 (c1 - c0 + 1).toNat r0 (r1 - r0 + 1).toNat
def encC (x : S23) : Value := .agg #[.int .i64 x.f0, .int .i64 x.f1]
theorem rowL_succ (c0 r : Int) (n : Nat) : rowL c0 r (n + 1) = rowL c0 r n ++ [⟨r, c0 + (n : Int)⟩] := by simp [rowL, List.range_succ]
theorem rowsLs_succ (c0 : Int) (m : Nat) (r0 : Int) (n : Nat) : rowsLs c0 m r0 (n + 1) = rowsLs c0 m r0 n ++ rowL c0 (r0 + (n : Int)) m := by simp [rowsLs, List.range_succ, List.flatMap_append]
theorem rowL_length (c0 r : Int) (n : Nat) : (rowL c0 r n).length = n := by simp [rowL]
theorem rowsLs_length (c0 : Int) (m : Nat) (r0 : Int) : ∀ n, (rowsLs c0 m r0 n).length = n * m
  | 0 => by simp [rowsLs]
  | n + 1 => by rw [rowsLs_succ, List.length_append, rowsLs_length c0 m r0 n, rowL_length, Nat.succ_mul]
theorem rowL_pre (c0 r : Int) (j : Nat) : ∀ d, rowL c0 r j <+: rowL c0 r (j + d)
  | 0 => List.prefix_refl _
  | d + 1 => (rowL_pre c0 r j d).trans (by rw [show j + (d + 1) = j + d + 1 by omega, rowL_succ]; exact List.prefix_append _ _)
theorem rowsLs_pre (c0 : Int) (m : Nat) (r0 : Int) (i : Nat) : ∀ d, rowsLs c0 m r0 i <+: rowsLs c0 m r0 (i + d)
  | 0 => List.prefix_refl _
  | d + 1 => (rowsLs_pre c0 m r0 i d).trans (by rw [show i + (d + 1) = i + d + 1 by omega, rowsLs_succ]; exact List.prefix_append _ _)
theorem cell_pre (c0 r0 : Int) (m n i j : Nat) (hi : i < n) (hj : j < m) : rowsLs c0 m r0 i ++ rowL c0 (r0 + (i : Int)) j ++ [⟨r0 + (i : Int), c0 + (j : Int)⟩] <+: rowsLs c0 m r0 n := by
  obtain ⟨d, rfl⟩ : ∃ d, n = i + 1 + d := ⟨n - (i + 1), by omega⟩
  obtain ⟨e, rfl⟩ : ∃ e, m = j + 1 + e := ⟨m - (j + 1), by omega⟩
  rw [List.append_assoc, ← rowL_succ]
  refine List.IsPrefix.trans ?_ (rowsLs_pre c0 _ r0 (i + 1) d)
  rw [rowsLs_succ]
  exact (List.prefix_append_right_inj _).2 (rowL_pre c0 _ (j + 1) e)
theorem abides_below {β : Type} {B : Nat} {J : β → World → Prop} (hJ : AbidesFrom B J) {s : β} {W W' : World} (h : J s W) (hb : Below W.heap.size W W') : J s W' :=
  hJ s W W' none h ⟨hb.os, hb.tape, hb.output, hb.size, fun k hk _ => hb.block k hk⟩ (fun r e => by cases e)
set_option maxRecDepth 100000 in
set_option maxHeartbeats 4000000 in
theorem span_All1_in (n : Nat) (hn : 1 ≤ n) (l Bn : Nat) (a0 a1 a2 a3 t0 t1 t2 t3 : Int) (J Jx : List S23 → World → Prop) (W : World) (hJ : AbidesFrom W.heap.size J)
    (hm : span_May.f a0 a1 a2 a3 = some true) (hs : span_Straight.f a0 a1 a2 a3 = some (t0, t1, t2, t3)) (hb0 : 0 ≤ t0 ∧ 0 ≤ t1 ∧ t2 < 1000 ∧ t3 < 1000 ∧ t0 ≤ t2 ∧ t1 ≤ t3)
    (hY : ∀ pre x W1, J pre W1 → pre.length < (cellsL t0 t1 t2 t3).length → YieldAt Fence.wide (n - 1) Tryd.prog l #[encC x] W1 fun e W' =>
      (e = .returned (.bool true) ∧ J (pre ++ [x]) W' ∧ KeepT 25 W1 W') ∨ (e = .returned (.bool false) ∧ Jx (pre ++ [x]) W'))
    (hBn : W.heap[Bn]? = some (.cells #[.int .i64 a0, .int .i64 a1, .int .i64 a2, .int .i64 a3] 25 (0, 0))) (h0 : J [] W) :
    CallsIn Fence.wide n Tryd.prog 18 #[.func (.yield l) #[] #[], .pointer (some ⟨Bn, 0, none⟩)] W fun e W' => (∃ v, e = .returned v) ∧
      ((∃ ys, ys = cellsL t0 t1 t2 t3 ∧ J ys W') ∨ (∃ pre, pre <+: cellsL t0 t1 t2 t3 ∧ Jx pre W')) := by
  have hu26 := Tryd.underlying25
  have c0 : W.cell? ⟨Bn, 0, none⟩ = some (.int .i64 a0) := by simp [World.cell?, hBn]
  have c1 : W.cell? ⟨Bn, 1, none⟩ = some (.int .i64 a1) := by simp [World.cell?, hBn]
  have c2 : W.cell? ⟨Bn, 2, none⟩ = some (.int .i64 a2) := by simp [World.cell?, hBn]
  have c3 : W.cell? ⟨Bn, 3, none⟩ = some (.int .i64 a3) := by simp [World.cell?, hBn]
  refine callsIn_of_wp Tryd.func18 rfl trivial ?_ rfl
  simp only [Tryd.ntmps18, List.size_toArray, List.length_cons, List.length_nil, Nat.reduceAdd, Nat.reduceSub, Array.replicate_succ, Array.replicate_zero, List.push_toArray, List.append_toArray, List.nil_append, List.cons_append]
  gi_wp2_with (first
    | (refine ⟨trivial, ?_⟩; gi_at_call 16; refine (callsIn_wide.2 (span_May.calls a0 a1 a2 a3 true _ hm)).mono ?_; rintro e w' ⟨rfl, hb⟩; have hlt : Bn < W.heap.size := (Array.getElem?_eq_some_iff.1 hBn).1; have d0 := (hb.cell (p := ⟨Bn, 0, none⟩) hlt).trans c0; have d1 := (hb.cell (p := ⟨Bn, 1, none⟩) hlt).trans c1; have d2 := (hb.cell (p := ⟨Bn, 2, none⟩) hlt).trans c2; have d3 := (hb.cell (p := ⟨Bn, 3, none⟩) hlt).trans c3; clear c0 c1 c2 c3)
    | (refine ⟨trivial, ?_⟩; gi_at_call 17; refine (callsIn_wide.2 (span_Straight.calls a0 a1 a2 a3 t0 t1 t2 t3 _ hs)).mono ?_; rintro e w2 ⟨rfl, hb2⟩))
  have hB2 : Below W.heap.size W w2 := hb.trans (hb2.mono hb.size)
  have hJ1 := abides_below hJ h0 (hB2.alloc hB2.size (.cells #[.int .i64 t0, .int .i64 t1, .int .i64 t2, .int .i64 t3] 25))
  have hT0 := World.alloc_heap_new w2 (.cells #[.int .i64 t0, .int .i64 t1, .int .i64 t2, .int .i64 t3] 25)
  obtain ⟨W2, hW2⟩ : ∃ W2, w2.alloc (.cells #[.int .i64 t0, .int .i64 t1, .int .i64 t2, .int .i64 t3] 25) = W2 := ⟨_, rfl⟩
  rw [hW2] at hJ1 hT0 ⊢
  clear hW2
  obtain ⟨T, hT⟩ : ∃ T, w2.heap.size = T := ⟨_, rfl⟩
  rw [hT] at hT0 ⊢
  clear hT d0 d1 d2 d3 hb hb2 hB2
  obtain ⟨m, hm_⟩ : ∃ m, (t3 - t1 + 1).toNat = m := ⟨_, rfl⟩
  have hlen : ∀ (i j : Nat), i < (t2 - t0 + 1).toNat → j < m → (rowsLs t1 m t0 i ++ rowL t1 (t0 + (i : Int)) j).length < (cellsL t0 t1 t2 t3).length := by
    intro i j hi hj
    have h1 : ∀ n, (rowL t1 (t0 + (i : Int)) n).length = n := by intro n; simp [rowL]
    have h2 : ∀ n, (rowsLs t1 m t0 n).length = n * m := rowsLs_length t1 m t0
    unfold cellsL
    rw [hm_, List.length_append, h1, h2, h2]
    have h3 : (i + 1) * m ≤ (t2 - t0 + 1).toNat * m := Nat.mul_le_mul_right m (by omega)
    rw [Nat.succ_mul] at h3
    omega
  gi_loopw [4] (fun p wr => ∃ i : Nat, p = .int .i64 (t0 + (i : Int)) ∧ i ≤ (t2 - t0 + 1).toNat ∧ wr.heap[T]? = some (.cells #[.int .i64 t0, .int .i64 t1, .int .i64 t2, .int .i64 t3] 25 (0, 0)) ∧ J (rowsLs t1 m t0 i) wr) (fun p wr => (t2 + 1 - intOf p).toNat)
  case atStart =>
    exact ⟨0, by simp, by omega, hT0, hJ1⟩
  case round =>
    obtain ⟨i, rfl, hi, hT, hJs⟩ := hrel
    have e0 : wr.cell? ⟨T, 0, none⟩ = some (.int .i64 t0) := by simp [World.cell?, hT]
    have e1 : wr.cell? ⟨T, 1, none⟩ = some (.int .i64 t1) := by simp [World.cell?, hT]
    have e2 : wr.cell? ⟨T, 2, none⟩ = some (.int .i64 t2) := by simp [World.cell?, hT]
    by_cases hc : t0 + (i : Int) ≤ t2
    · have hd : decide (t0 + (i : Int) ≤ t2) = true := decide_eq_true hc
      gi_wp2
      gi_loopw [5] (fun p w3 => ∃ j : Nat, p = .int .i64 (t1 + (j : Int)) ∧ j ≤ m ∧ w3.heap[T]? = some (.cells #[.int .i64 t0, .int .i64 t1, .int .i64 t2, .int .i64 t3] 25 (0, 0)) ∧ J (rowsLs t1 m t0 i ++ rowL t1 (t0 + (i : Int)) j) w3) (fun p w3 => (t3 + 1 - intOf p).toNat)
      case atStart =>
        exact ⟨0, by simp, by omega, hT, by simpa [rowL] using hJs⟩
      case round =>
        obtain ⟨j, rfl, hj, hT3, hJ3⟩ := hrel
        have f3 : wr.cell? ⟨T, 3, none⟩ = some (.int .i64 t3) := by simp [World.cell?, hT3]
        by_cases hc2 : t1 + (j : Int) ≤ t3
        · have hd2 : decide (t1 + (j : Int) ≤ t3) = true := decide_eq_true hc2
          obtain ⟨fn, tmps, assign, body, hy, hR⟩ := hY (rowsLs t1 m t0 i ++ rowL t1 (t0 + (i : Int)) j) ⟨t0 + (i : Int), t1 + (j : Int)⟩ wr hJ3 (hlen i j (by omega) (by omega))
          dsimp only [encC] at hy
          gi_wp2
          refine hR.mono ?_
          rintro e W3 (⟨rfl, hJ4, hk⟩ | ⟨rfl, hJx4⟩)
          · gi_wp2
            go_roundw
            case rel => exact ⟨j + 1, by first | (congr 1; rw [w64 (by omega) (by omega)]; omega) | go_num, by omega, hk.same _ _ hT3, by rw [rowL_succ, ← List.append_assoc]; exact hJ4⟩
            case measure => simp only [intOf]; first | omega | (rw [w64 (by omega) (by omega)]; omega)
          · gi_wp2
            refine bodyPost_ret (results_none rfl _ _ _) rfl ?_
            exact ⟨⟨_, rfl⟩, .inr ⟨_, by unfold cellsL; rw [hm_]; exact cell_pre t1 t0 m _ i j (by omega) (by omega), hJx4⟩⟩
        · have hd2 : decide (t1 + (j : Int) ≤ t3) = false := decide_eq_false hc2
          gi_wp2
          go_roundw
          case rel => exact ⟨i + 1, by first | (congr 1; rw [w64 (by omega) (by omega)]; omega) | go_num, by omega, hT3, by rw [rowsLs_succ]; rw [show m = j by omega] at hJ3 ⊢; exact hJ3⟩
          case measure => simp only [intOf]; first | omega | (rw [w64 (by omega) (by omega)]; omega)
    · have hd : decide (t0 + (i : Int) ≤ t2) = false := decide_eq_false hc
      gi_wp2
      go_end0
      refine ⟨⟨_, rfl⟩, .inl ?_⟩
      unfold cellsL
      rw [hm_, show (t2 - t0 + 1).toNat = i by omega]
      exact hJs
set_option maxRecDepth 100000 in
set_option maxHeartbeats 4000000 in
theorem span_All1_none (n : Nat) (hn : 1 ≤ n) (l Bn : Nat) (a0 a1 a2 a3 : Int) (J Jx : List S23 → World → Prop) (W : World) (hJ : AbidesFrom W.heap.size J)
    (hm : span_May.f a0 a1 a2 a3 = some false)
    (hBn : W.heap[Bn]? = some (.cells #[.int .i64 a0, .int .i64 a1, .int .i64 a2, .int .i64 a3] 25 (0, 0))) (h0 : J [] W) :
    CallsIn Fence.wide n Tryd.prog 18 #[.func (.yield l) #[] #[], .pointer (some ⟨Bn, 0, none⟩)] W fun e W' => (∃ v, e = .returned v) ∧
      ((∃ ys, ys = [] ∧ J ys W') ∨ (∃ pre, pre <+: ([] : List S23) ∧ Jx pre W')) := by
  have hu26 := Tryd.underlying25
  have c0 : W.cell? ⟨Bn, 0, none⟩ = some (.int .i64 a0) := by simp [World.cell?, hBn]
  have c1 : W.cell? ⟨Bn, 1, none⟩ = some (.int .i64 a1) := by simp [World.cell?, hBn]
  have c2 : W.cell? ⟨Bn, 2, none⟩ = some (.int .i64 a2) := by simp [World.cell?, hBn]
  have c3 : W.cell? ⟨Bn, 3, none⟩ = some (.int .i64 a3) := by simp [World.cell?, hBn]
  refine callsIn_of_wp Tryd.func18 rfl trivial ?_ rfl
  simp only [Tryd.ntmps18, List.size_toArray, List.length_cons, List.length_nil, Nat.reduceAdd, Nat.reduceSub, Array.replicate_succ, Array.replicate_zero, List.push_toArray, List.append_toArray, List.nil_append, List.cons_append]
  gi_wp2_with (refine ⟨trivial, ?_⟩; gi_at_call 16; refine (callsIn_wide.2 (span_May.calls a0 a1 a2 a3 false _ hm)).mono ?_; rintro e w' ⟨rfl, hb⟩)
  refine bodyPost_ret (results_none rfl _ _ _) rfl ?_
  exact ⟨⟨_, rfl⟩, .inl ⟨[], rfl, abides_below hJ h0 hb⟩⟩
theorem KeepT.trans {t : TypeId} {A B C : World} (h : KeepT t A B) (k : KeepT t B C) : KeepT t A C := ⟨Nat.le_trans h.size k.size, fun i cs hi => k.same i cs (h.same i cs hi)⟩
theorem KeepT.refl (t : TypeId) (W : World) : KeepT t W W := ⟨Nat.le_refl _, fun _ _ h => h⟩
theorem KeepT.put {t : TypeId} (W : World) (l : Nat) (o o' : Obj) (hl : W.heap[l]? = some o) (ho : o.isCells = false) : KeepT t W (W.putObj l o') :=
  ⟨Nat.le_of_eq (by simp), fun k cs hk => by
    by_cases h : k = l
    · subst h; rw [hl] at hk; cases hk; cases ho
    · exact (World.putObj_heap_other (by omega)).trans hk⟩
theorem KeepT.alloc {t : TypeId} (W : World) (o : Obj) : KeepT t W (W.alloc o) :=
  ⟨by simp, fun k cs hk => (Below.heap_alloc W o k (Array.getElem?_eq_some_iff.1 hk).1).trans hk⟩
def allF (a0 a1 a2 a3 : Int) : Option (List S23) := (span_May.f a0 a1 a2 a3).bind fun m => if m = true then (span_Straight.f a0 a1 a2 a3).bind fun t => some (cellsL t.1 t.2.1 t.2.2.1 t.2.2.2) else some []
theorem may_bounds {a0 a1 a2 a3 : Int} (h : span_May.f a0 a1 a2 a3 = some true) : (0 ≤ a0 ∧ a0 < 999) ∧ (0 ≤ a1 ∧ a1 < 702) ∧ (0 ≤ a2 ∧ a2 < 999) ∧ (0 ≤ a3 ∧ a3 < 702) := by
  unfold span_May.f addr_May.f at h
  by_cases h1 : a0 ≥ 0 <;> by_cases h2 : a0 < 999 <;> by_cases h3 : a1 ≥ 0 <;> simp only [h1, h2, h3, if_true, if_false, Option.bind_some] at h <;> try (simp at h; done)
  by_cases h4 : a1 < 702 <;> simp [h4] at h
  by_cases h5 : a2 ≥ 0 <;> by_cases h6 : a2 < 999 <;> by_cases h7 : a3 ≥ 0 <;> simp only [h5, h6, h7, if_true, if_false, Option.some.injEq, decide_eq_true_eq] at h <;> try (simp at h; done)
  omega
theorem straight_eq {a0 a1 a2 a3 : Int} (h : span_May.f a0 a1 a2 a3 = some true) : span_Straight.f a0 a1 a2 a3 = some (mn a0 a2, mn a1 a3, mx a0 a2, mx a1 a3) := by
  unfold span_Straight.f
  rw [h]
  rfl
theorem span_All_stops (n : Nat) (hn : 1 ≤ n) (Bn : Nat) (a0 a1 a2 a3 : Int) (L : List S23) (hL : allF a0 a1 a2 a3 = some L) (w : World) (hlt : Bn < w.heap.size)
    (hBn : w.heap[Bn]? = some (.cells #[.int .i64 a0, .int .i64 a1, .int .i64 a2, .int .i64 a3] 25 (0, 0))) :
    SeqStopsK Fence.wide n Tryd.prog 18 #[.pointer (some ⟨Bn, 0, none⟩)] (fun x : S23 => #[Value.agg #[.int .i64 x.f0, .int .i64 x.f1]]) (KeepT 25) (fun ys => ys = L) (fun pre => pre <+: L) L.length w := by
  intro l J Jx W hW hJ _ hY h0
  have hB := (hW.block Bn hlt).trans hBn
  unfold allF at hL
  obtain ⟨m, hm, hL⟩ := Option.bind_eq_some_iff.1 hL
  cases m with
  | false =>
    rw [if_neg (by simp)] at hL
    obtain rfl := Option.some.inj hL
    exact span_All1_none n hn l Bn a0 a1 a2 a3 J Jx W hJ hm hB h0
  | true =>
    rw [if_pos rfl, straight_eq hm] at hL
    obtain rfl := Option.some.inj hL
    have hb := may_bounds hm
    have hh : 0 ≤ mn a0 a2 ∧ 0 ≤ mn a1 a3 ∧ mx a0 a2 < 1000 ∧ mx a1 a3 < 1000 ∧ mn a0 a2 ≤ mx a0 a2 ∧ mn a1 a3 ≤ mx a1 a3 := by
      unfold mn mx
      refine ⟨?_, ?_, ?_, ?_, ?_, ?_⟩ <;> (repeat' split) <;> omega
    exact span_All1_in n hn l Bn a0 a1 a2 a3 _ _ _ _ J Jx W hJ hm (straight_eq hm) hh hY hB h0
set_option maxHeartbeats 1000000 in
theorem span_All_in (n : Nat) (a0 a1 a2 a3 : Int) (w : World) :
    CallsIn Fence.wide n Tryd.prog 9 #[.agg #[.int .i64 a0, .int .i64 a1, .int .i64 a2, .int .i64 a3]] w fun e w' => e = .returned (.func (.func 18) #[] #[.pointer (some ⟨w.heap.size, 0, none⟩)]) ∧ w' = w.alloc (.cells #[.int .i64 a0, .int .i64 a1, .int .i64 a2, .int .i64 a3] 25) := by
  refine callsIn_of_wp Tryd.func9 rfl trivial ?_ rfl
  simp only [Tryd.ntmps9, List.size_toArray, List.length_cons, List.length_nil, Nat.reduceAdd, Nat.reduceSub, Array.replicate_succ, Array.replicate_zero, List.push_toArray, List.append_toArray, List.nil_append, List.cons_append]
  gi_wp2
  go_ret
  exact ⟨rfl, rfl⟩
end Go.Proofs.YtcbjihedobhjcaaDoor.X
namespace Go.Proofs.YtcbjihedobhjcaaDoor.X
open Go.RowKit Go.Proofs.YtcbjihedobhjcaaDoorW.PrintWords Go.Proofs.YtcbjihedobhjcaaDoorW.PrintLast Go.Proofs.YtcbjihedobhjcaaDoorW.PrintMore
attribute [local go_sem] max2_int min2_int max_two min_two max_three min_three max_four min_four
set_option linter.unusedVariables false
set_option linter.unusedSimpArgs false
def span_Rows.f (a0_0 : Int) (a0_1 : Int) (a0_2 : Int) (a0_3 : Int) : Option (Int) := (span_May.f a0_0 a0_1 a0_2 a0_3).bind fun t102 => (if t102 = true then ((span_Straight.f a0_0 a0_1 a0_2 a0_3).bind fun bt103 => (some (wrap64 ((wrap64 (bt103.2.2.1 - bt103.1)) + 1)))) else (some 0))
set_option maxHeartbeats 8000000 in
set_option maxRecDepth 100000 in
theorem span_Rows.calls (a0_0 : Int) (a0_1 : Int) (a0_2 : Int) (a0_3 : Int) (r : Int) (w : World) (h : span_Rows.f a0_0 a0_1 a0_2 a0_3 = some r) :
  Calls Tryd.prog 19 #[.agg #[.int .i64 a0_0, .int .i64 a0_1, .int .i64 a0_2, .int .i64 a0_3]] w fun e w' => e = .returned (.int .i64 r) ∧ Below w.heap.size w w' := by
 have hu25 := Tryd.underlying25; have HB := Aside0.mk (Below.refl w.heap.size w)
 have H : ((span_May.f a0_0 a0_1 a0_2 a0_3).bind fun t102 => (if t102 = true then ((span_Straight.f a0_0 a0_1 a0_2 a0_3).bind fun bt103 => (some (wrap64 ((wrap64 (bt103.2.2.1 - bt103.1)) + 1)))) else (some 0))) = some r := h
 clear h; replace H := Option.bind_eq_some_iff.mp H; obtain ⟨t102, A20, H⟩ := H
 replace H : (if t102 = true then ((span_Straight.f a0_0 a0_1 a0_2 a0_3).bind fun bt103 => (some (wrap64 ((wrap64 (bt103.2.2.1 - bt103.1)) + 1)))) else (some 0)) = some r := H
 have A2 := Aside0.mk A20; clear A20
 by_cases c3 : t102 = true
 ·subst c3
  have H1 : ((span_Straight.f a0_0 a0_1 a0_2 a0_3).bind fun bt103 => (some (wrap64 ((wrap64 (bt103.2.2.1 - bt103.1)) + 1)))) = some r := by rw [if_pos rfl] at H; exact H
  clear H; have H := H1; clear H1; replace H := Option.bind_eq_some_iff.mp H; obtain ⟨⟨t103, t104, t105, t106⟩, A40, H⟩ := H
  replace H : (some (wrap64 ((wrap64 (t105 - t103)) + 1))) = some r := H
  have A4 := Aside0.mk A40; clear A40; obtain rfl := Option.some.inj H
  go_enter Tryd.func19, Tryd.ntmps19
  go_wp2_with (first | ((with_reducible refine gate_dst (N:=1) rfl ?_); refine be_ (N:=1) (cs := #[.int .i64 a0_0, .int .i64 a0_1, .int .i64 a0_2, .int .i64 a0_3]) (t:=25) ?_; intro gb101 hg w5 hbox hb; have BK101 := Aside0.mk (hbox); have GW101 := hs_ HB hg; have GE101 := hs_ HB hg; replace HB := bs_ HB hb; clear hb hbox hg; have hcz6_0 : w5.cell? ⟨gb101, 0, none⟩ = some (.int .i64 a0_0) := bc_ BK101 0 rfl; have hcz6_1 : w5.cell? ⟨gb101, 1, none⟩ = some (.int .i64 a0_1) := bc_ BK101 1 rfl; have hcz6_2 : w5.cell? ⟨gb101, 2, none⟩ = some (.int .i64 a0_2) := bc_ BK101 2 rfl; have hcz6_3 : w5.cell? ⟨gb101, 3, none⟩ = some (.int .i64 a0_3) := bc_ BK101 3 rfl; have hfz6_0 := blk_frozen BK101.out 0; have hfz6_1 := blk_frozen BK101.out 1; have hfz6_2 := blk_frozen BK101.out 2; have hfz6_3 := blk_frozen BK101.out 3) | ((with_reducible refine gate_callee (f:=16) rfl ?_); refine gL_ (some 4) rfl rfl Tryd.func16 rfl #[.agg #[.int .i64 a0_0, .int .i64 a0_1, .int .i64 a0_2, .int .i64 a0_3]] rfl ?_; (with_reducible refine (span_May.calls a0_0 a0_1 a0_2 a0_3 true _ A2.out).mono ?_); rintro e w7 ⟨rfl, hb⟩; refine ⟨_, rfl, ?_⟩; replace BK101 := bb_ BK101 hb; replace HB := bs_ HB hb; (try clear hb); (try clear hb2); (try clear hk); (try clear hi); have hcz8_0 : w7.cell? ⟨gb101, 0, none⟩ = some (.int .i64 a0_0) := bc_ BK101 0 rfl; have hcz8_1 : w7.cell? ⟨gb101, 1, none⟩ = some (.int .i64 a0_1) := bc_ BK101 1 rfl; have hcz8_2 : w7.cell? ⟨gb101, 2, none⟩ = some (.int .i64 a0_2) := bc_ BK101 2 rfl; have hcz8_3 : w7.cell? ⟨gb101, 3, none⟩ = some (.int .i64 a0_3) := bc_ BK101 3 rfl; have hfz8_0 := blk_frozen BK101.out 0; have hfz8_1 := blk_frozen BK101.out 1; have hfz8_2 := blk_frozen BK101.out 2; have hfz8_3 := blk_frozen BK101.out 3) | ((with_reducible refine gate_callee (f:=17) rfl ?_); refine gL_ (some 7) rfl rfl Tryd.func17 rfl #[.agg #[.int .i64 a0_0, .int .i64 a0_1, .int .i64 a0_2, .int .i64 a0_3]] rfl ?_; (with_reducible refine (span_Straight.calls a0_0 a0_1 a0_2 a0_3 t103 t104 t105 t106 _ A4.out).mono ?_); rintro e w9 ⟨rfl, hb⟩; refine ⟨_, rfl, ?_⟩; replace BK101 := bb_ BK101 hb; replace HB := bs_ HB hb; (try clear hb); (try clear hb2); (try clear hk); (try clear hi); have hcz10_0 : w9.cell? ⟨gb101, 0, none⟩ = some (.int .i64 a0_0) := bc_ BK101 0 rfl; have hcz10_1 : w9.cell? ⟨gb101, 1, none⟩ = some (.int .i64 a0_1) := bc_ BK101 1 rfl; have hcz10_2 : w9.cell? ⟨gb101, 2, none⟩ = some (.int .i64 a0_2) := bc_ BK101 2 rfl; have hcz10_3 : w9.cell? ⟨gb101, 3, none⟩ = some (.int .i64 a0_3) := bc_ BK101 3 rfl; have hfz10_0 := blk_frozen BK101.out 0; have hfz10_1 := blk_frozen BK101.out 1; have hfz10_2 := blk_frozen BK101.out 2; have hfz10_3 := blk_frozen BK101.out 3))
  go_ret
  exact ⟨by first | rfl | (simp [errW_none, errW_some] <;> rfl) | (simp [*, errW_none, errW_some] <;> rfl), by repeat (first | (with_reducible first | exact HB.out | apply below_alloc | apply pw_below_drewN | apply below_drew1 | refine below_set ?_ GE101.out) | exact HB.out)⟩
 ·replace c3 := Bool.eq_false_iff.mpr c3; subst c3
  have H1 : (some 0) = some r := by rw [if_neg (show ¬ (false = true) by decide)] at H; exact H
  clear H; have H := H1; clear H1; obtain rfl := Option.some.inj H
  go_enter Tryd.func19, Tryd.ntmps19
  go_wp2_with (first | ((with_reducible refine gate_dst (N:=1) rfl ?_); refine be_ (N:=1) (cs := #[.int .i64 a0_0, .int .i64 a0_1, .int .i64 a0_2, .int .i64 a0_3]) (t:=25) ?_; intro gb101 hg w11 hbox hb; have BK101 := Aside0.mk (hbox); have GW101 := hs_ HB hg; have GE101 := hs_ HB hg; replace HB := bs_ HB hb; clear hb hbox hg; have hcz12_0 : w11.cell? ⟨gb101, 0, none⟩ = some (.int .i64 a0_0) := bc_ BK101 0 rfl; have hcz12_1 : w11.cell? ⟨gb101, 1, none⟩ = some (.int .i64 a0_1) := bc_ BK101 1 rfl; have hcz12_2 : w11.cell? ⟨gb101, 2, none⟩ = some (.int .i64 a0_2) := bc_ BK101 2 rfl; have hcz12_3 : w11.cell? ⟨gb101, 3, none⟩ = some (.int .i64 a0_3) := bc_ BK101 3 rfl; have hfz12_0 := blk_frozen BK101.out 0; have hfz12_1 := blk_frozen BK101.out 1; have hfz12_2 := blk_frozen BK101.out 2; have hfz12_3 := blk_frozen BK101.out 3) | ((with_reducible refine gate_callee (f:=16) rfl ?_); refine gL_ (some 4) rfl rfl Tryd.func16 rfl #[.agg #[.int .i64 a0_0, .int .i64 a0_1, .int .i64 a0_2, .int .i64 a0_3]] rfl ?_; (with_reducible refine (span_May.calls a0_0 a0_1 a0_2 a0_3 false _ A2.out).mono ?_); rintro e w13 ⟨rfl, hb⟩; refine ⟨_, rfl, ?_⟩; replace BK101 := bb_ BK101 hb; replace HB := bs_ HB hb; (try clear hb); (try clear hb2); (try clear hk); (try clear hi)))
  go_ret
  exact ⟨by first | rfl | (simp [errW_none, errW_some] <;> rfl) | (simp [*, errW_none, errW_some] <;> rfl), pbx HB⟩

def span_Cols.f (a0_0 : Int) (a0_1 : Int) (a0_2 : Int) (a0_3 : Int) : Option (Int) := (span_May.f a0_0 a0_1 a0_2 a0_3).bind fun t102 => (if t102 = true then ((span_Straight.f a0_0 a0_1 a0_2 a0_3).bind fun bt103 => (some (wrap64 ((wrap64 (bt103.2.2.2 - bt103.2.1)) + 1)))) else (some 0))
set_option maxHeartbeats 8000000 in
set_option maxRecDepth 100000 in
theorem span_Cols.calls (a0_0 : Int) (a0_1 : Int) (a0_2 : Int) (a0_3 : Int) (r : Int) (w : World) (h : span_Cols.f a0_0 a0_1 a0_2 a0_3 = some r) :
  Calls Tryd.prog 20 #[.agg #[.int .i64 a0_0, .int .i64 a0_1, .int .i64 a0_2, .int .i64 a0_3]] w fun e w' => e = .returned (.int .i64 r) ∧ Below w.heap.size w w' := by
 have hu25 := Tryd.underlying25; have HB := Aside0.mk (Below.refl w.heap.size w)
 have H : ((span_May.f a0_0 a0_1 a0_2 a0_3).bind fun t102 => (if t102 = true then ((span_Straight.f a0_0 a0_1 a0_2 a0_3).bind fun bt103 => (some (wrap64 ((wrap64 (bt103.2.2.2 - bt103.2.1)) + 1)))) else (some 0))) = some r := h
 clear h; replace H := Option.bind_eq_some_iff.mp H; obtain ⟨t102, A20, H⟩ := H
 replace H : (if t102 = true then ((span_Straight.f a0_0 a0_1 a0_2 a0_3).bind fun bt103 => (some (wrap64 ((wrap64 (bt103.2.2.2 - bt103.2.1)) + 1)))) else (some 0)) = some r := H
 have A2 := Aside0.mk A20; clear A20
 by_cases c3 : t102 = true
 ·subst c3
  have H1 : ((span_Straight.f a0_0 a0_1 a0_2 a0_3).bind fun bt103 => (some (wrap64 ((wrap64 (bt103.2.2.2 - bt103.2.1)) + 1)))) = some r := by rw [if_pos rfl] at H; exact H
  clear H; have H := H1; clear H1; replace H := Option.bind_eq_some_iff.mp H; obtain ⟨⟨t103, t104, t105, t106⟩, A40, H⟩ := H
  replace H : (some (wrap64 ((wrap64 (t106 - t104)) + 1))) = some r := H
  have A4 := Aside0.mk A40; clear A40; obtain rfl := Option.some.inj H
  go_enter Tryd.func20, Tryd.ntmps20
  go_wp2_with (first | ((with_reducible refine gate_dst (N:=1) rfl ?_); refine be_ (N:=1) (cs := #[.int .i64 a0_0, .int .i64 a0_1, .int .i64 a0_2, .int .i64 a0_3]) (t:=25) ?_; intro gb101 hg w5 hbox hb; have BK101 := Aside0.mk (hbox); have GW101 := hs_ HB hg; have GE101 := hs_ HB hg; replace HB := bs_ HB hb; clear hb hbox hg; have hcz6_0 : w5.cell? ⟨gb101, 0, none⟩ = some (.int .i64 a0_0) := bc_ BK101 0 rfl; have hcz6_1 : w5.cell? ⟨gb101, 1, none⟩ = some (.int .i64 a0_1) := bc_ BK101 1 rfl; have hcz6_2 : w5.cell? ⟨gb101, 2, none⟩ = some (.int .i64 a0_2) := bc_ BK101 2 rfl; have hcz6_3 : w5.cell? ⟨gb101, 3, none⟩ = some (.int .i64 a0_3) := bc_ BK101 3 rfl; have hfz6_0 := blk_frozen BK101.out 0; have hfz6_1 := blk_frozen BK101.out 1; have hfz6_2 := blk_frozen BK101.out 2; have hfz6_3 := blk_frozen BK101.out 3) | ((with_reducible refine gate_callee (f:=16) rfl ?_); refine gL_ (some 4) rfl rfl Tryd.func16 rfl #[.agg #[.int .i64 a0_0, .int .i64 a0_1, .int .i64 a0_2, .int .i64 a0_3]] rfl ?_; (with_reducible refine (span_May.calls a0_0 a0_1 a0_2 a0_3 true _ A2.out).mono ?_); rintro e w7 ⟨rfl, hb⟩; refine ⟨_, rfl, ?_⟩; replace BK101 := bb_ BK101 hb; replace HB := bs_ HB hb; (try clear hb); (try clear hb2); (try clear hk); (try clear hi); have hcz8_0 : w7.cell? ⟨gb101, 0, none⟩ = some (.int .i64 a0_0) := bc_ BK101 0 rfl; have hcz8_1 : w7.cell? ⟨gb101, 1, none⟩ = some (.int .i64 a0_1) := bc_ BK101 1 rfl; have hcz8_2 : w7.cell? ⟨gb101, 2, none⟩ = some (.int .i64 a0_2) := bc_ BK101 2 rfl; have hcz8_3 : w7.cell? ⟨gb101, 3, none⟩ = some (.int .i64 a0_3) := bc_ BK101 3 rfl; have hfz8_0 := blk_frozen BK101.out 0; have hfz8_1 := blk_frozen BK101.out 1; have hfz8_2 := blk_frozen BK101.out 2; have hfz8_3 := blk_frozen BK101.out 3) | ((with_reducible refine gate_callee (f:=17) rfl ?_); refine gL_ (some 7) rfl rfl Tryd.func17 rfl #[.agg #[.int .i64 a0_0, .int .i64 a0_1, .int .i64 a0_2, .int .i64 a0_3]] rfl ?_; (with_reducible refine (span_Straight.calls a0_0 a0_1 a0_2 a0_3 t103 t104 t105 t106 _ A4.out).mono ?_); rintro e w9 ⟨rfl, hb⟩; refine ⟨_, rfl, ?_⟩; replace BK101 := bb_ BK101 hb; replace HB := bs_ HB hb; (try clear hb); (try clear hb2); (try clear hk); (try clear hi); have hcz10_0 : w9.cell? ⟨gb101, 0, none⟩ = some (.int .i64 a0_0) := bc_ BK101 0 rfl; have hcz10_1 : w9.cell? ⟨gb101, 1, none⟩ = some (.int .i64 a0_1) := bc_ BK101 1 rfl; have hcz10_2 : w9.cell? ⟨gb101, 2, none⟩ = some (.int .i64 a0_2) := bc_ BK101 2 rfl; have hcz10_3 : w9.cell? ⟨gb101, 3, none⟩ = some (.int .i64 a0_3) := bc_ BK101 3 rfl; have hfz10_0 := blk_frozen BK101.out 0; have hfz10_1 := blk_frozen BK101.out 1; have hfz10_2 := blk_frozen BK101.out 2; have hfz10_3 := blk_frozen BK101.out 3))
  go_ret
  exact ⟨by first | rfl | (simp [errW_none, errW_some] <;> rfl) | (simp [*, errW_none, errW_some] <;> rfl), by repeat (first | (with_reducible first | exact HB.out | apply below_alloc | apply pw_below_drewN | apply below_drew1 | refine below_set ?_ GE101.out) | exact HB.out)⟩
 ·replace c3 := Bool.eq_false_iff.mpr c3; subst c3
  have H1 : (some 0) = some r := by rw [if_neg (show ¬ (false = true) by decide)] at H; exact H
  clear H; have H := H1; clear H1; obtain rfl := Option.some.inj H
  go_enter Tryd.func20, Tryd.ntmps20
  go_wp2_with (first | ((with_reducible refine gate_dst (N:=1) rfl ?_); refine be_ (N:=1) (cs := #[.int .i64 a0_0, .int .i64 a0_1, .int .i64 a0_2, .int .i64 a0_3]) (t:=25) ?_; intro gb101 hg w11 hbox hb; have BK101 := Aside0.mk (hbox); have GW101 := hs_ HB hg; have GE101 := hs_ HB hg; replace HB := bs_ HB hb; clear hb hbox hg; have hcz12_0 : w11.cell? ⟨gb101, 0, none⟩ = some (.int .i64 a0_0) := bc_ BK101 0 rfl; have hcz12_1 : w11.cell? ⟨gb101, 1, none⟩ = some (.int .i64 a0_1) := bc_ BK101 1 rfl; have hcz12_2 : w11.cell? ⟨gb101, 2, none⟩ = some (.int .i64 a0_2) := bc_ BK101 2 rfl; have hcz12_3 : w11.cell? ⟨gb101, 3, none⟩ = some (.int .i64 a0_3) := bc_ BK101 3 rfl; have hfz12_0 := blk_frozen BK101.out 0; have hfz12_1 := blk_frozen BK101.out 1; have hfz12_2 := blk_frozen BK101.out 2; have hfz12_3 := blk_frozen BK101.out 3) | ((with_reducible refine gate_callee (f:=16) rfl ?_); refine gL_ (some 4) rfl rfl Tryd.func16 rfl #[.agg #[.int .i64 a0_0, .int .i64 a0_1, .int .i64 a0_2, .int .i64 a0_3]] rfl ?_; (with_reducible refine (span_May.calls a0_0 a0_1 a0_2 a0_3 false _ A2.out).mono ?_); rintro e w13 ⟨rfl, hb⟩; refine ⟨_, rfl, ?_⟩; replace BK101 := bb_ BK101 hb; replace HB := bs_ HB hb; (try clear hb); (try clear hb2); (try clear hk); (try clear hi)))
  go_ret
  exact ⟨by first | rfl | (simp [errW_none, errW_some] <;> rfl) | (simp [*, errW_none, errW_some] <;> rfl), pbx HB⟩

def span_Size.f (a0_0 : Int) (a0_1 : Int) (a0_2 : Int) (a0_3 : Int) : Option (Int) := (span_Rows.f a0_0 a0_1 a0_2 a0_3).bind fun t102 => ((span_Cols.f a0_0 a0_1 a0_2 a0_3).bind fun t103 => (some (wrap64 (t102 * t103))))
set_option maxHeartbeats 8000000 in
set_option maxRecDepth 100000 in
theorem span_Size.calls (a0_0 : Int) (a0_1 : Int) (a0_2 : Int) (a0_3 : Int) (r : Int) (w : World) (h : span_Size.f a0_0 a0_1 a0_2 a0_3 = some r) :
  Calls Tryd.prog 10 #[.agg #[.int .i64 a0_0, .int .i64 a0_1, .int .i64 a0_2, .int .i64 a0_3]] w fun e w' => e = .returned (.int .i64 r) ∧ Below w.heap.size w w' := by
 have hu25 := Tryd.underlying25; have HB := Aside0.mk (Below.refl w.heap.size w)
 have H : ((span_Rows.f a0_0 a0_1 a0_2 a0_3).bind fun t102 => ((span_Cols.f a0_0 a0_1 a0_2 a0_3).bind fun t103 => (some (wrap64 (t102 * t103))))) = some r := h
 clear h; replace H := Option.bind_eq_some_iff.mp H; obtain ⟨t102, A20, H⟩ := H
 replace H : ((span_Cols.f a0_0 a0_1 a0_2 a0_3).bind fun t103 => (some (wrap64 (t102 * t103)))) = some r := H
 have A2 := Aside0.mk A20; clear A20; replace H := Option.bind_eq_some_iff.mp H; obtain ⟨t103, A30, H⟩ := H
 replace H : (some (wrap64 (t102 * t103))) = some r := H
 have A3 := Aside0.mk A30; clear A30; obtain rfl := Option.some.inj H
 go_enter Tryd.func10, Tryd.ntmps10
 try go_wp2_with (first | ((with_reducible refine gate_dst (N:=1) rfl ?_); refine be_ (N:=1) (cs := #[.int .i64 a0_0, .int .i64 a0_1, .int .i64 a0_2, .int .i64 a0_3]) (t:=25) ?_; intro gb101 hg w4 hbox hb; have BK101 := Aside0.mk (hbox); have GW101 := hs_ HB hg; have GE101 := hs_ HB hg; replace HB := bs_ HB hb; clear hb hbox hg))
 (try (rw [drewN_self w4]; generalize hq_ : World.drewN w4 _ = w4; have n0_ : Aside0 (w4.heap[gb101]? = some (.cells #[.int .i64 a0_0, .int .i64 a0_1, .int .i64 a0_2, .int .i64 a0_3] 25 (0, 0))) := ⟨by rw [← hq_]; exact (pkx BK101)⟩; have n1_ : Aside0 (Below w.heap.size w w4) := ⟨by rw [← hq_]; exact (pbx HB)⟩; clear BK101 HB hq_; have BK101 := n0_; have HB := n1_; clear n0_ n1_))
 replace BK101 := Aside0.mk (blk_drew BK101.out); replace HB := Aside0.mk (below_drew1 HB.out)
 refine start_ (n:=6) (S := fun w' => w'.cell? ⟨gb101, 0, none⟩ = some (.int .i64 a0_0) ∧ w'.cell? ⟨gb101, 1, none⟩ = some (.int .i64 a0_1) ∧ w'.cell? ⟨gb101, 2, none⟩ = some (.int .i64 a0_2) ∧ w'.cell? ⟨gb101, 3, none⟩ = some (.int .i64 a0_3)) (ds := []) #[F,F,F,F,F,F] (by kernel_rfl) rfl rfl ⟨bc_ BK101 0 rfl, bc_ BK101 1 rfl, bc_ BK101 2 rfl, bc_ BK101 3 rfl⟩ (fun hHeld => ?_)
 generalize w4.drew = w5 at BK101 HB hHeld ⊢; refine take_ (i:=0) (N:=some 3) (v:=?_) (a':=?_) ⟨m_ 6 1⟩ rfl rfl (by kernel_rfl) (fun _ _ _ h=>h) (Or.inl ⟨rfl, ?_⟩) hHeld ?_ ?_; rotate_left
 ·rintro w' ⟨s0, s1, s2, s3⟩; go_simp; with_reducible rfl
 rotate_left
 ·simp only [q_, i64_w, i32_w]; rfl
 refine take_ (i:=2) (N:=some 5) (v:=?_) (a':=?_) ⟨m_ 6 5⟩ rfl rfl (by kernel_rfl) (fun _ _ _ h=>h) (Or.inl ⟨rfl, ?_⟩) hHeld ?_ ?_; rotate_left
 ·rintro w' ⟨s0, s1, s2, s3⟩; go_simp; with_reducible rfl
 rotate_left
 ·simp only [q_, i64_w, i32_w]; rfl
 refine one_ (i:=1) (N:=some 4) ⟨m_ 6 7⟩ rfl rfl (by kernel_rfl) (by decide) (fun K hK => ?_); refine goes_ Tryd.func19 (by kernel_rfl) rfl #[.agg #[.int .i64 a0_0, .int .i64 a0_1, .int .i64 a0_2, .int .i64 a0_3]] (by rfl) rfl rfl (by (try simp only [List.map_toArray, List.map_cons, List.map_nil]); first | done | rfl | (simp only [List.length_drop, List.length_take]; rfl)) ?_; with_reducible refine (span_Rows.calls a0_0 a0_1 a0_2 a0_3 t102 _ A2.out).mono ?_; rintro e w6 ⟨rfl, hb⟩; refine ⟨_, rfl, ?_⟩
 replace BK101 := bb_ BK101 hb; replace HB := bs_ HB hb; (try clear hb); (try clear hb2); (try clear hk); (try clear hi); refine hK.out _ _ ⟨bc_ BK101 0 rfl, bc_ BK101 1 rfl, bc_ BK101 2 rfl, bc_ BK101 3 rfl⟩ (fun hHeld => ?_); clear hK K; refine norm_ (a':=?_) ?_ ?_; rotate_left
 ·show Act.put _ (some 4) _ = _; simp only [q_, i64_w, i32_w]; rfl
 refine one_ (i:=3) (N:=some 6) ⟨m_ 6 15⟩ rfl rfl (by kernel_rfl) (by decide) (fun K hK => ?_); refine goes_ Tryd.func20 (by kernel_rfl) rfl #[.agg #[.int .i64 a0_0, .int .i64 a0_1, .int .i64 a0_2, .int .i64 a0_3]] (by rfl) rfl rfl (by (try simp only [List.map_toArray, List.map_cons, List.map_nil]); first | done | rfl | (simp only [List.length_drop, List.length_take]; rfl)) ?_; with_reducible refine (span_Cols.calls a0_0 a0_1 a0_2 a0_3 t103 _ A3.out).mono ?_; rintro e w7 ⟨rfl, hb⟩; refine ⟨_, rfl, ?_⟩
 replace BK101 := bb_ BK101 hb; replace HB := bs_ HB hb; (try clear hb); (try clear hb2); (try clear hk); (try clear hi); refine hK.out _ _ ⟨bc_ BK101 0 rfl, bc_ BK101 1 rfl, bc_ BK101 2 rfl, bc_ BK101 3 rfl⟩ (fun hHeld => ?_); clear hK K; refine norm_ (a':=?_) ?_ ?_; rotate_left
 ·show Act.put _ (some 6) _ = _; simp only [q_, i64_w, i32_w]; rfl
 refine pure_ (i:=4) (N:=some 7) (v:=?_) (a':=?_) ⟨m_ 6 31⟩ rfl rfl (by kernel_rfl) (fun _ _ _ h=>h) (Or.inl ⟨rfl, ?_⟩) ?_ ?_; rotate_left
 ·intro w'; go_simp; with_reducible rfl
 rotate_left
 ·simp only [q_, i64_w, i32_w]; rfl
 refine pure_ (i:=5) (N:=some 2) (v:=?_) (a':=?_) ⟨m_ 6 63⟩ rfl rfl (by kernel_rfl) (fun _ _ _ h=>h) (Or.inl ⟨rfl, ?_⟩) ?_ ?_; rotate_left
 ·intro w'; go_simp; with_reducible rfl
 rotate_left
 ·simp only [q_, i64_w, i32_w]; rfl
 refine done_ (by kernel_rfl) ?_
 try go_wp2
 go_ret
 exact ⟨by first | rfl | (simp [errW_none, errW_some] <;> rfl) | (simp [*, errW_none, errW_some] <;> rfl), pbx HB⟩

end Go.Proofs.YtcbjihedobhjcaaDoor.X
/- The contract of span.Cells: a row of the span's cells, of the call's own. -/
set_option linter.unusedVariables false
set_option linter.unusedSimpArgs false
namespace Go.Proofs.YtcbjihedobhjcaaDoor.X
open Go.RowKit Go.Shelf Go.Proofs.YtcbjihedobhjcaaDoorW.PrintWords Go.Proofs.YtcbjihedobhjcaaDoorW.PrintLast Go.Proofs.YtcbjihedobhjcaaDoorW.PrintMore
attribute [local go_sem] Oper.semAt_some
def cellsV (l : List S23) : List Value := l.flatMap fun c => [.int .i64 c.f0, .int .i64 c.f1]
theorem cellsV_snoc (l : List S23) (c : S23) : cellsV (l ++ [c]) = cellsV l ++ [.int .i64 c.f0, .int .i64 c.f1] := by simp [cellsV, List.flatMap_append]
theorem cell_two_new (w : World) (x y : Value) (t : TypeId) : ∀ j u, [x, y][j]? = some u → (w.alloc (.cells #[x, y] t)).cell? ((⟨w.heap.size, 0, none⟩ : Addr).add j) = some u := by
  intro j u hj
  have hh := World.alloc_heap_new w (.cells #[x, y] t)
  match j, hj with
  | 0, hj => simp at hj; subst hj; show (World.cell? _ ⟨w.heap.size, 0, none⟩) = _; unfold World.cell?; rw [hh]; rfl
  | 1, hj => simp at hj; subst hj; show (World.cell? _ ⟨w.heap.size, 0 + 1, none⟩) = _; unfold World.cell?; rw [hh]; rfl
  | j + 2, hj => simp at hj
theorem keepT_grown {t : TypeId} {W W' : World} {row : Option Nat} (hg : W.grownBy W' row) (hr : ∀ k cs, row = some k → W.heap[k]? ≠ some (Obj.cells cs t (0, 0))) : KeepT t W W' :=
  ⟨hg.size, fun k cs hk => (hg.block k (Array.getElem?_eq_some_iff.1 hk).1 (fun e => hr k cs e.symm hk)).trans hk⟩
theorem keepT_setCell {t t' : TypeId} {W : World} {B : Nat} {cs : Array Value} (hB : W.heap[B]? = some (.cells cs t' (0, 0))) (hne : t' ≠ t) (u : Value) : KeepT t W (W.setCell ⟨B, 0, none⟩ u) :=
  ⟨by simp [World.setCell], fun k c hk => by
    by_cases h : k = B
    · subst h; rw [hB] at hk; cases hk; exact absurd rfl hne
    · exact (Below.heap_setCell W ⟨B, 0, none⟩ u k h).trans hk⟩
theorem cell_al {W : World} {a : Addr} {v : Value} (o : Obj) (h : W.cell? a = some v) : (W.alloc o).cell? a = some v := cell_kept h (World.grownBy_alloc W o none) (fun r e => by cases e)
theorem cells_reps {R : S23 → List Value → Prop} (hR : ∀ c, R c [.int .i64 c.f0, .int .i64 c.f1]) : ∀ (l pre : List S23), Reps R 2 pre (cellsV pre) → Reps R 2 (pre ++ l) (cellsV (pre ++ l))
  | [], pre, h => by simpa using h
  | c :: l, pre, h => by
    have := cells_reps hR l (pre ++ [c]) (by rw [cellsV_snoc]; exact Reps.snoc h (hR c) rfl)
    simpa using this
theorem cells_R {W : World} {base : Nat} {v : Value} {l : List S23} (h : W.ownsRow base 23 2 v l.length (cellsV l)) : Kd.R k23 23 W base (fun _ => True) v l :=
  ⟨fun _ _ => trivial, cellsV l, h, cells_reps (fun c => k23_mkM W base _ c) l [] (Reps.none _ _)⟩
def span_Cells.f (a0 a1 a2 a3 : Int) : Option (List S23) := (span_Size.f a0 a1 a2 a3).bind fun n => if n > 1000 then some [] else allF a0 a1 a2 a3
theorem allF_short {a0 a1 a2 a3 n : Int} {L : List S23} (hs : span_Size.f a0 a1 a2 a3 = some n) (hn : n ≤ 1000) (hL : allF a0 a1 a2 a3 = some L) : L.length ≤ 1000 := by
  unfold allF at hL
  obtain ⟨m, hm, hL⟩ := Option.bind_eq_some_iff.1 hL
  cases m with
  | false =>
    rw [if_neg (by simp)] at hL
    obtain rfl := Option.some.inj hL
    simp
  | true =>
    rw [if_pos rfl, straight_eq hm] at hL
    obtain rfl := Option.some.inj hL
    have hb := may_bounds hm
    unfold span_Size.f span_Rows.f span_Cols.f at hs
    rw [hm, straight_eq hm] at hs
    simp only [Option.bind_some, if_true, Option.some.injEq] at hs
    simp only [cellsL, rowsLs_length]
    have hh : mn a0 a2 ≤ mx a0 a2 ∧ mn a1 a3 ≤ mx a1 a3 ∧ 0 ≤ mn a0 a2 ∧ 0 ≤ mn a1 a3 ∧ mx a0 a2 < 1000 ∧ mx a1 a3 < 1000 := by
      unfold mn mx
      refine ⟨?_, ?_, ?_, ?_, ?_, ?_⟩ <;> (repeat' split) <;> omega
    generalize mn a0 a2 = p0 at *
    generalize mn a1 a3 = p1 at *
    generalize mx a0 a2 = p2 at *
    generalize mx a1 a3 = p3 at *
    rw [w64 (x := p2 - p0) (by omega) (by omega), w64 (x := p2 - p0 + 1) (by omega) (by omega), w64 (x := p3 - p1) (by omega) (by omega), w64 (x := p3 - p1 + 1) (by omega) (by omega)] at hs
    obtain ⟨x, hx⟩ : ∃ x : Nat, p2 - p0 + 1 = (x : Int) := ⟨(p2 - p0 + 1).toNat, by omega⟩
    obtain ⟨y, hy⟩ : ∃ y : Nat, p3 - p1 + 1 = (y : Int) := ⟨(p3 - p1 + 1).toNat, by omega⟩
    rw [hx, hy] at hs ⊢
    have hxy : x * y ≤ 1000 * 1000 := Nat.mul_le_mul (by omega) (by omega)
    have hc : (x : Int) * (y : Int) = ((x * y : Nat) : Int) := by simp
    rw [hc, w64 (by omega) (by omega)] at hs
    simp only [Int.toNat_natCast]
    omega
set_option maxRecDepth 100000 in
set_option maxHeartbeats 4000000 in
theorem span_Cells.calls (a0 a1 a2 a3 : Int) (r : List S23) (w : World) (h : span_Cells.f a0 a1 a2 a3 = some r) :
    Calls Tryd.prog 4 #[.agg #[.int .i64 a0, .int .i64 a1, .int .i64 a2, .int .i64 a3]] w fun e w' => ∃ v0_ : Value, e = .returned (v0_) ∧ Kd.R k23 23 w' w.heap.size (fun _ => True) v0_ r ∧ Below w.heap.size w w' := by
  have hu26 := Tryd.underlying25
  have hu24 := Tryd.underlying23
  unfold span_Cells.f at h
  obtain ⟨n, hn, h⟩ := Option.bind_eq_some_iff.1 h
  have hb1 : Below w.heap.size w (w.alloc (.cells #[.int .i64 a0, .int .i64 a1, .int .i64 a2, .int .i64 a3] 25)) := (Below.refl _ w).alloc (Nat.le_refl _) _
  have hT0 := World.alloc_heap_new w (.cells #[.int .i64 a0, .int .i64 a1, .int .i64 a2, .int .i64 a3] 25)
  have b0 : (w.alloc (.cells #[.int .i64 a0, .int .i64 a1, .int .i64 a2, .int .i64 a3] 25)).cell? ⟨w.heap.size, 0, none⟩ = some (.int .i64 a0) := by unfold World.cell?; rw [hT0]; rfl
  have b1 : (w.alloc (.cells #[.int .i64 a0, .int .i64 a1, .int .i64 a2, .int .i64 a3] 25)).cell? ⟨w.heap.size, 1, none⟩ = some (.int .i64 a1) := by unfold World.cell?; rw [hT0]; rfl
  have b2 : (w.alloc (.cells #[.int .i64 a0, .int .i64 a1, .int .i64 a2, .int .i64 a3] 25)).cell? ⟨w.heap.size, 2, none⟩ = some (.int .i64 a2) := by unfold World.cell?; rw [hT0]; rfl
  have b3 : (w.alloc (.cells #[.int .i64 a0, .int .i64 a1, .int .i64 a2, .int .i64 a3] 25)).cell? ⟨w.heap.size, 3, none⟩ = some (.int .i64 a3) := by unfold World.cell?; rw [hT0]; rfl
  refine (callsIn_wide (n := 3)).1 ?_
  by_cases hc : n > 1000
  · rw [if_pos hc] at h
    obtain rfl := Option.some.inj h
    have hd : decide (n > 1000) = true := decide_eq_true hc
    refine callsIn_of_wp Tryd.func4 rfl trivial ?_ rfl
    simp only [Tryd.ntmps4, List.size_toArray, List.length_cons, List.length_nil, Nat.reduceAdd, Nat.reduceSub, Array.replicate_succ, Array.replicate_zero, List.push_toArray, List.append_toArray, List.nil_append, List.cons_append]
    gi_wp2_with (refine ⟨trivial, ?_⟩; gi_at_call 10; refine (callsIn_wide.2 (span_Size.calls a0 a1 a2 a3 n _ hn)).mono ?_; rintro e w1 ⟨rfl, hb2⟩)
    go_ret
    exact ⟨_, rfl, Kd.R_nil _ _ _ _ _, hb1.trans (hb2.mono hb1.size)⟩
  · rw [if_neg hc] at h
    have hd : decide (n > 1000) = false := decide_eq_false hc
    have hlen := allF_short hn (by omega) h
    have hlt : w.heap.size < (w.alloc (.cells #[.int .i64 a0, .int .i64 a1, .int .i64 a2, .int .i64 a3] 25)).heap.size := by rw [World.size_alloc]; omega
    obtain ⟨i0, hi, hz0, hz1, hz2⟩ := info_parts info23
    refine callsIn_of_wp_marks Tryd.func4 rfl trivial ?_ rfl
    simp only [Tryd.ntmps4, List.size_toArray, List.length_cons, List.length_nil, Nat.reduceAdd, Nat.reduceSub, Array.replicate_succ, Array.replicate_zero, List.push_toArray, List.append_toArray, List.nil_append, List.cons_append]
    gi_wp2_with (first
      | (refine ⟨trivial, ?_⟩; gi_at_call 10; refine (callsIn_wide.2 (span_Size.calls a0 a1 a2 a3 n _ hn)).mono ?_; rintro e w1 ⟨rfl, hb2⟩; have d0 := (hb2.cell (p := ⟨w.heap.size, 0, none⟩) hlt).trans b0; have d1 := (hb2.cell (p := ⟨w.heap.size, 1, none⟩) hlt).trans b1; have d2 := (hb2.cell (p := ⟨w.heap.size, 2, none⟩) hlt).trans b2; have d3 := (hb2.cell (p := ⟨w.heap.size, 3, none⟩) hlt).trans b3; have g0 := cell_al (Obj.cells #[Value.slice none 0 0] 26 (0, 0)) d0; have g1 := cell_al (Obj.cells #[Value.slice none 0 0] 26 (0, 0)) d1; have g2 := cell_al (Obj.cells #[Value.slice none 0 0] 26 (0, 0)) d2; have g3 := cell_al (Obj.cells #[Value.slice none 0 0] 26 (0, 0)) d3)
      | (refine ⟨trivial, ?_⟩; gi_at_call 9; refine (span_All_in _ a0 a1 a2 a3 _).mono ?_; rintro e w' ⟨rfl, rfl⟩))
    have hB1 : Below w.heap.size w w1 := hb1.trans (hb2.mono hb1.size)
    have hs1 : w.heap.size + 1 ≤ w1.heap.size := by have := hb2.size; rw [World.size_alloc] at this; exact this
    have hB0 : Below w.heap.size w ((w1.alloc (.cells #[.slice none 0 0] 26)).alloc (.cells #[.int .i64 a0, .int .i64 a1, .int .i64 a2, .int .i64 a3] 25)) := (hB1.alloc hB1.size _).alloc (by rw [World.size_alloc]; omega) _
    have bO := (Boxed.new w1 26 (.slice none 0 0)).alloc (.cells #[.int .i64 a0, .int .i64 a1, .int .i64 a2, .int .i64 a3] 25)
    have bA := World.alloc_heap_new (w1.alloc (.cells #[.slice none 0 0] 26)) (.cells #[.int .i64 a0, .int .i64 a1, .int .i64 a2, .int .i64 a3] 25)
    have hsz : ((w1.alloc (.cells #[.slice none 0 0] 26)).alloc (.cells #[.int .i64 a0, .int .i64 a1, .int .i64 a2, .int .i64 a3] 25)).heap.size = w1.heap.size + 2 := by simp
    rw [World.size_alloc] at bA
    obtain ⟨W0, hW0⟩ : ∃ W0, (w1.alloc (.cells #[.slice none 0 0] 26)).alloc (.cells #[.int .i64 a0, .int .i64 a1, .int .i64 a2, .int .i64 a3] 25) = W0 := ⟨_, rfl⟩
    rw [hW0] at bO bA hB0 hsz ⊢
    clear hW0
    refine wpIn_rangeFunc_ownH rfl (by omega) (gf := 18) (lb := #[.pointer (some ⟨w1.heap.size + 1, 0, none⟩)]) rfl trivial (enters_of Tryd.func18 (by kernel_rfl) rfl)
      (span_All_stops _ (by omega) (w1.heap.size + 1) a0 a1 a2 a3 r h W0 (by omega) bA) KeepT.trans (fun W l o o' _ hl ho _ => KeepT.put W l o o' hl ho) (Below.refl _ _) (fun _ => rfl)
      (fun pre W => (∃ v, Boxed W w1.heap.size 26 v ∧ W.ownsRow w.heap.size 23 2 v pre.length (cellsV pre) ∧ True) ∧ Below w.heap.size w W)
      (fun _ _ _ => False)
      (OwnFrom.and (Own.from (holdsRow_own w.heap.size w1.heap.size 26 23 2 (fun pre => pre.length) (fun pre => cellsV pre) (fun _ _ => True)) _) (ownFrom_below (Nat.le_refl _) (by omega)))
      (fun _ _ _ _ _ hs _ _ => hs)
      ⟨⟨_, bO, World.ownsRow_nil _ _ _ _, trivial⟩, hB0⟩
      (fun x a' W => ∃ Bx, w1.heap.size < Bx ∧ W.heap[Bx]? = some (.cells #[.int .i64 x.f0, .int .i64 x.f1] 23 (0, 0)) ∧ a' = { tmps := #[.agg #[.int .i64 a0, .int .i64 a1, .int .i64 a2, .int .i64 a3], .pointer (some ⟨w.heap.size, 0, none⟩), .slice none 0 0, .pointer (some ⟨w1.heap.size, 0, none⟩), .pointer (some ⟨Bx, 0, none⟩), .agg #[.int .i64 a0, .int .i64 a1, .int .i64 a2, .int .i64 a3], .int .i64 n, .bool false, .agg #[.int .i64 a0, .int .i64 a1, .int .i64 a2, .int .i64 a3], .func (.func 18) #[] #[.pointer (some ⟨w1.heap.size + 1, 0, none⟩)], .agg #[.int .i64 x.f0, .int .i64 x.f1], undef, undef, undef, undef, undef], defers := [] })
      (fun x a' _ X Y row hs hg hr => by obtain ⟨Bx, h1, h2, h3⟩ := hs; exact ⟨Bx, h1, (hg.block Bx (Array.getElem?_eq_some_iff.1 h2).1 (fun e => by obtain ⟨_, o, ho, hc⟩ := hr Bx e.symm; rw [h2] at ho; cases ho; cases hc)).trans h2, h3⟩)
      ?assign ?body ?done ?stop
    case assign =>
      rintro l pre x W K ⟨⟨v, hv, hrow, _⟩, hB⟩ hK
      gi_wp2
      exact hK _ _ ((KeepsOthers.alloc _ _).from _) (KeepT.alloc _ _) ⟨⟨v, hv.alloc _, hrow.alloc _, trivial⟩, hB.alloc hB.size _⟩ ⟨W.heap.size, hv.lt, World.alloc_heap_new W _, rfl⟩
    case body =>
      rintro l pre x a' W hl ⟨rl, hrl⟩ ⟨⟨v, hv, hrow, _⟩, hB⟩ ⟨Bx, hBx, bX, rfl⟩ hlt
      have hc := hv.cell
      have x0 : W.cell? ⟨Bx, 0, none⟩ = some (.int .i64 x.f0) := by unfold World.cell?; rw [bX]; rfl
      have x1 : W.cell? ⟨Bx, 1, none⟩ = some (.int .i64 x.f1) := by unfold World.cell?; rw [bX]; rfl
      gi_wp2_with (gi_at_builtin; refine wpListIn_append_own _ rfl _ _ 26 rfl w.heap.size 23 i0 (.agg #[.int .i64 0, .int .i64 0]) 2 16 Tryd.underlying26 hi hz0 hz1 hz2 rfl (by decide) _ _ _ rfl (hrow.alloc _) ⟨W.heap.size, 0, none⟩ 1 1 [.int .i64 x.f0, .int .i64 x.f1] rfl rfl (cell_two_new _ _ _ _) (by simp [Value.oneCell']) (by have : maxLen = 9223372036854775807 := rfl; omega) (by omega) (by have := hB.size; simp; omega) ?_; intro v' w2 hown' hgrow _; obtain ⟨g', cap', rfl⟩ := ownsRow_succ hown'; obtain ⟨hv1, hv2, hr2, hk2, hb3⟩ := hv.appended (by decide) hrow hB.size hB1.size hown' hgrow; have hc1 := hv1.cell; have hf1 := hv1.frozen)
      have hgrow' : (W.alloc (.cells #[.int .i64 x.f0, .int .i64 x.f1] 23)).grownBy w2 v.ownBlock := hgrow
      have hK1 : KeepT 25 W (w2.setCell ⟨w1.heap.size, 0, none⟩ (.slice (some ⟨g', 0, none⟩) (pre.length + 1) cap')) :=
        ((KeepT.alloc W _).trans (keepT_grown hgrow' (fun k cs e hk => by
          obtain ⟨cells, hcl⟩ := own_typed (hrow.alloc (.cells #[.int .i64 x.f0, .int .i64 x.f1] 23)) k e
          rw [hk] at hcl
          cases hcl))).trans (keepT_setCell hv1 (by decide) _)
      exact ⟨hk2.from _, hK1, ⟨_, hv2, by rw [cellsV_snoc, List.length_append]; exact hr2, trivial⟩, hB.trans hb3⟩
    case done =>
      rintro D ys W hD rfl ⟨⟨v, hv, hrow, _⟩, hB⟩ hK
      have hc := hv.cell
      gi_wp2
      refine ⟨by simp, .inl ⟨_, _, rfl, run_takeDeferred hK, ?_⟩⟩
      exact ⟨_, results_tmp rfl _ _ _, v, rfl, cells_R (ownsRow_putObj hrow _ hK rfl), hB.trans (belowK_b (w := w) (Nat.le_refl _) W D _ _ (by omega) hK rfl rfl)⟩
    case stop =>
      rintro D c pre W _ _ h _
      exact h.elim
end Go.Proofs.YtcbjihedobhjcaaDoor.X
namespace Go.Proofs.YtcbjihedobhjcaaDoor.X
open Go.RowKit Go.Proofs.YtcbjihedobhjcaaDoorW.PrintWords Go.Proofs.YtcbjihedobhjcaaDoorW.PrintLast Go.Proofs.YtcbjihedobhjcaaDoorW.PrintMore
attribute [local go_sem] max2_int min2_int max_two min_two max_three min_three max_four min_four
set_option linter.unusedVariables false
set_option linter.unusedSimpArgs false
def oculusref03_May.f (a0_0 : Int) (a0_1 : Int) : Option (Bool) := if a0_0 ≥ 0 then (if a0_0 ≤ 998 then (if a0_1 ≥ 0 then (some (decide (a0_1 ≤ 701))) else (some false)) else (some false)) else (some false)
set_option maxHeartbeats 8000000 in
set_option maxRecDepth 100000 in
theorem oculusref03_May.calls (a0_0 : Int) (a0_1 : Int) (r : Bool) (w : World) (h : oculusref03_May.f a0_0 a0_1 = some r) :
  Calls Tryd.prog 23 #[.agg #[.int .i64 a0_0, .int .i64 a0_1]] w fun e w' => e = .returned (.bool r) ∧ Below w.heap.size w w' := by
 have hu23 := Tryd.underlying23; have HB := Aside0.mk (Below.refl w.heap.size w)
 have H : (if a0_0 ≥ 0 then (if a0_0 ≤ 998 then (if a0_1 ≥ 0 then (some (decide (a0_1 ≤ 701))) else (some false)) else (some false)) else (some false)) = some r := h
 clear h
 by_cases c2 : a0_0 ≥ 0
 ·rw [if_pos c2] at H; have c2b0 : decide (0 ≤ a0_0) = true := decide_eq_true c2; clear c2
  by_cases c3 : a0_0 ≤ 998
  ·rw [if_pos c3] at H; have c3b0 : decide (a0_0 ≤ 998) = true := decide_eq_true c3; clear c3
   by_cases c4 : a0_1 ≥ 0
   ·rw [if_pos c4] at H; have c4b0 : decide (0 ≤ a0_1) = true := decide_eq_true c4; clear c4; obtain rfl := Option.some.inj H
    go_enter Tryd.func23, Tryd.ntmps23
    go_wp2_with (first | ((with_reducible refine gate_dst (N:=1) rfl ?_); refine be_ (N:=1) (cs := #[.int .i64 a0_0, .int .i64 a0_1]) (t:=23) ?_; intro gb101 hg w5 hbox hb; have BK101 := Aside0.mk (hbox); replace HB := bs_ HB hb; clear hb hbox hg; have hcz6_0 : w5.cell? ⟨gb101, 0, none⟩ = some (.int .i64 a0_0) := bc_ BK101 0 rfl; have hcz6_1 : w5.cell? ⟨gb101, 1, none⟩ = some (.int .i64 a0_1) := bc_ BK101 1 rfl))
    go_ret
    exact ⟨by first | rfl | (simp [errW_none, errW_some] <;> rfl) | (simp [*, errW_none, errW_some] <;> rfl), pbx HB⟩
   ·rw [if_neg c4] at H; have c4b0 : decide (0 ≤ a0_1) = false := decide_eq_false c4; clear c4; obtain rfl := Option.some.inj H
    go_enter Tryd.func23, Tryd.ntmps23
    go_wp2_with (first | ((with_reducible refine gate_dst (N:=1) rfl ?_); refine be_ (N:=1) (cs := #[.int .i64 a0_0, .int .i64 a0_1]) (t:=23) ?_; intro gb101 hg w7 hbox hb; have BK101 := Aside0.mk (hbox); replace HB := bs_ HB hb; clear hb hbox hg; have hcz8_0 : w7.cell? ⟨gb101, 0, none⟩ = some (.int .i64 a0_0) := bc_ BK101 0 rfl; have hcz8_1 : w7.cell? ⟨gb101, 1, none⟩ = some (.int .i64 a0_1) := bc_ BK101 1 rfl))
    go_ret
    exact ⟨by first | rfl | (simp [errW_none, errW_some] <;> rfl) | (simp [*, errW_none, errW_some] <;> rfl), pbx HB⟩
  ·rw [if_neg c3] at H; have c3b0 : decide (a0_0 ≤ 998) = false := decide_eq_false c3; clear c3; obtain rfl := Option.some.inj H
   go_enter Tryd.func23, Tryd.ntmps23
   go_wp2_with (first | ((with_reducible refine gate_dst (N:=1) rfl ?_); refine be_ (N:=1) (cs := #[.int .i64 a0_0, .int .i64 a0_1]) (t:=23) ?_; intro gb101 hg w9 hbox hb; have BK101 := Aside0.mk (hbox); replace HB := bs_ HB hb; clear hb hbox hg; have hcz10_0 : w9.cell? ⟨gb101, 0, none⟩ = some (.int .i64 a0_0) := bc_ BK101 0 rfl; have hcz10_1 : w9.cell? ⟨gb101, 1, none⟩ = some (.int .i64 a0_1) := bc_ BK101 1 rfl))
   go_ret
   exact ⟨by first | rfl | (simp [errW_none, errW_some] <;> rfl) | (simp [*, errW_none, errW_some] <;> rfl), pbx HB⟩
 ·rw [if_neg c2] at H; have c2b0 : decide (0 ≤ a0_0) = false := decide_eq_false c2; clear c2; obtain rfl := Option.some.inj H
  go_enter Tryd.func23, Tryd.ntmps23
  go_wp2_with (first | ((with_reducible refine gate_dst (N:=1) rfl ?_); refine be_ (N:=1) (cs := #[.int .i64 a0_0, .int .i64 a0_1]) (t:=23) ?_; intro gb101 hg w11 hbox hb; have BK101 := Aside0.mk (hbox); replace HB := bs_ HB hb; clear hb hbox hg; have hcz12_0 : w11.cell? ⟨gb101, 0, none⟩ = some (.int .i64 a0_0) := bc_ BK101 0 rfl; have hcz12_1 : w11.cell? ⟨gb101, 1, none⟩ = some (.int .i64 a0_1) := bc_ BK101 1 rfl))
  go_ret
  exact ⟨by first | rfl | (simp [errW_none, errW_some] <;> rfl) | (simp [*, errW_none, errW_some] <;> rfl), pbx HB⟩

def oculusref04_May.f (a0_0 : Int) (a0_1 : Int) (a0_2 : Int) (a0_3 : Int) : Option (Bool) := (oculusref03_May.f a0_0 a0_1).bind fun t102 => (if t102 = true then ((oculusref03_May.f a0_2 a0_3).bind fun t103 => (some t103)) else (some false))
set_option maxHeartbeats 8000000 in
set_option maxRecDepth 100000 in
theorem oculusref04_May.calls (a0_0 : Int) (a0_1 : Int) (a0_2 : Int) (a0_3 : Int) (r : Bool) (w : World) (h : oculusref04_May.f a0_0 a0_1 a0_2 a0_3 = some r) :
  Calls Tryd.prog 13 #[.agg #[.int .i64 a0_0, .int .i64 a0_1, .int .i64 a0_2, .int .i64 a0_3]] w fun e w' => e = .returned (.bool r) ∧ Below w.heap.size w w' := by
 have hu25 := Tryd.underlying25; have hu23 := Tryd.underlying23; have HB := Aside0.mk (Below.refl w.heap.size w)
 have H : ((oculusref03_May.f a0_0 a0_1).bind fun t102 => (if t102 = true then ((oculusref03_May.f a0_2 a0_3).bind fun t103 => (some t103)) else (some false))) = some r := h
 clear h; replace H := Option.bind_eq_some_iff.mp H; obtain ⟨t102, A20, H⟩ := H
 replace H : (if t102 = true then ((oculusref03_May.f a0_2 a0_3).bind fun t103 => (some t103)) else (some false)) = some r := H
 have A2 := Aside0.mk A20; clear A20
 by_cases c3 : t102 = true
 ·subst c3
  have H1 : ((oculusref03_May.f a0_2 a0_3).bind fun t103 => (some t103)) = some r := by rw [if_pos rfl] at H; exact H
  clear H; have H := H1; clear H1; replace H := Option.bind_eq_some_iff.mp H; obtain ⟨t103, A40, H⟩ := H
  replace H : (some t103) = some r := H
  have A4 := Aside0.mk A40; clear A40; obtain rfl := Option.some.inj H
  go_enter Tryd.func13, Tryd.ntmps13
  go_wp2_with (first | ((with_reducible refine gate_dst (N:=1) rfl ?_); refine be_ (N:=1) (cs := #[.int .i64 a0_0, .int .i64 a0_1, .int .i64 a0_2, .int .i64 a0_3]) (t:=25) ?_; intro gb101 hg w5 hbox hb; have BK101 := Aside0.mk (hbox); replace HB := bs_ HB hb; clear hb hbox hg; have hcz6_0 : w5.cell? ⟨gb101, 0, none⟩ = some (.int .i64 a0_0) := bc_ BK101 0 rfl; have hcz6_1 : w5.cell? ⟨gb101, 1, none⟩ = some (.int .i64 a0_1) := bc_ BK101 1 rfl; have hcz6_2 : w5.cell? ⟨gb101, 2, none⟩ = some (.int .i64 a0_2) := bc_ BK101 2 rfl; have hcz6_3 : w5.cell? ⟨gb101, 3, none⟩ = some (.int .i64 a0_3) := bc_ BK101 3 rfl) | ((with_reducible refine gate_callee (f:=23) rfl ?_); refine gL_ (some 5) rfl rfl Tryd.func23 rfl #[.agg #[.int .i64 a0_0, .int .i64 a0_1]] rfl ?_; (with_reducible refine (oculusref03_May.calls a0_0 a0_1 true _ A2.out).mono ?_); rintro e w7 ⟨rfl, hb⟩; refine ⟨_, rfl, ?_⟩; replace BK101 := bb_ BK101 hb; replace HB := bs_ HB hb; (try clear hb); (try clear hb2); (try clear hk); (try clear hi); have hcz8_0 : w7.cell? ⟨gb101, 0, none⟩ = some (.int .i64 a0_0) := bc_ BK101 0 rfl; have hcz8_1 : w7.cell? ⟨gb101, 1, none⟩ = some (.int .i64 a0_1) := bc_ BK101 1 rfl; have hcz8_2 : w7.cell? ⟨gb101, 2, none⟩ = some (.int .i64 a0_2) := bc_ BK101 2 rfl; have hcz8_3 : w7.cell? ⟨gb101, 3, none⟩ = some (.int .i64 a0_3) := bc_ BK101 3 rfl) | (go_at_call 23; (with_reducible refine (oculusref03_May.calls a0_2 a0_3 t103 _ A4.out).mono ?_); rintro e w9 ⟨rfl, hb⟩; replace BK101 := bb_ BK101 hb; replace HB := bs_ HB hb; (try clear hb); (try clear hb2); (try clear hk); (try clear hi)))
  go_ret
  exact ⟨by first | rfl | (simp [errW_none, errW_some] <;> rfl) | (simp [*, errW_none, errW_some] <;> rfl), pbx HB⟩
 ·replace c3 := Bool.eq_false_iff.mpr c3; subst c3
  have H1 : (some false) = some r := by rw [if_neg (show ¬ (false = true) by decide)] at H; exact H
  clear H; have H := H1; clear H1; obtain rfl := Option.some.inj H
  go_enter Tryd.func13, Tryd.ntmps13
  go_wp2_with (first | ((with_reducible refine gate_dst (N:=1) rfl ?_); refine be_ (N:=1) (cs := #[.int .i64 a0_0, .int .i64 a0_1, .int .i64 a0_2, .int .i64 a0_3]) (t:=25) ?_; intro gb101 hg w10 hbox hb; have BK101 := Aside0.mk (hbox); replace HB := bs_ HB hb; clear hb hbox hg; have hcz11_0 : w10.cell? ⟨gb101, 0, none⟩ = some (.int .i64 a0_0) := bc_ BK101 0 rfl; have hcz11_1 : w10.cell? ⟨gb101, 1, none⟩ = some (.int .i64 a0_1) := bc_ BK101 1 rfl; have hcz11_2 : w10.cell? ⟨gb101, 2, none⟩ = some (.int .i64 a0_2) := bc_ BK101 2 rfl; have hcz11_3 : w10.cell? ⟨gb101, 3, none⟩ = some (.int .i64 a0_3) := bc_ BK101 3 rfl) | ((with_reducible refine gate_callee (f:=23) rfl ?_); refine gL_ (some 5) rfl rfl Tryd.func23 rfl #[.agg #[.int .i64 a0_0, .int .i64 a0_1]] rfl ?_; (with_reducible refine (oculusref03_May.calls a0_0 a0_1 false _ A2.out).mono ?_); rintro e w12 ⟨rfl, hb⟩; refine ⟨_, rfl, ?_⟩; replace BK101 := bb_ BK101 hb; replace HB := bs_ HB hb; (try clear hb); (try clear hb2); (try clear hk); (try clear hi)))
  go_ret
  exact ⟨by first | rfl | (simp [errW_none, errW_some] <;> rfl) | (simp [*, errW_none, errW_some] <;> rfl), pbx HB⟩

mutual
def oculusref04_Straight.j0 : Nat → Bool → Int → Int → Int → Int → Option (Int × Int × Int × Int)
 | 0, _, _, _, _, _ => none
 | k + 1, x6, x102000, x102001, x102002, x102003 => if x6 = true then (some (0, 0, 0, 0)) else (if x102000 > x102002 then (oculusref04_Straight.j1 k x102000 x102001 x102002 x102003 x102002 x102001 x102000 x102003) else (oculusref04_Straight.j1 k x102000 x102001 x102002 x102003 x102000 x102001 x102002 x102003))
def oculusref04_Straight.j1 : Nat → Int → Int → Int → Int → Int → Int → Int → Int → Option (Int × Int × Int × Int)
 | 0, _, _, _, _, _, _, _, _ => none
 | k + 1, x102000, x102001, x102002, x102003, x105000, x105001, x105002, x105003 => if x102001 > x102003 then (some (x105000, x102003, x105002, x102001)) else (some (x105000, x105001, x105002, x105003))
end
def oculusref04_Straight.f (k : Nat) (a0_0 : Int) (a0_1 : Int) (a0_2 : Int) (a0_3 : Int) : Option (Int × Int × Int × Int) := (oculusref04_May.f a0_0 a0_1 a0_2 a0_3).bind fun t103 => (oculusref04_Straight.j0 k (!t103) a0_0 a0_1 a0_2 a0_3)
set_option maxHeartbeats 8000000 in
set_option maxRecDepth 100000 in
theorem oculusref04_Straight.calls (k : Nat) (a0_0 : Int) (a0_1 : Int) (a0_2 : Int) (a0_3 : Int) (r1 : Int) (r2 : Int) (r3 : Int) (r4 : Int) (w : World) (h : oculusref04_Straight.f k a0_0 a0_1 a0_2 a0_3 = some (r1, r2, r3, r4)) :
  Calls Tryd.prog 12 #[.agg #[.int .i64 a0_0, .int .i64 a0_1, .int .i64 a0_2, .int .i64 a0_3]] w fun e w' => e = .returned (.agg #[.int .i64 r1, .int .i64 r2, .int .i64 r3, .int .i64 r4]) ∧ Below w.heap.size w w' := by
 have hu25 := Tryd.underlying25; have HB := Aside0.mk (Below.refl w.heap.size w)
 have H : ((oculusref04_May.f a0_0 a0_1 a0_2 a0_3).bind fun t103 => (oculusref04_Straight.j0 k (!t103) a0_0 a0_1 a0_2 a0_3)) = some (r1, r2, r3, r4) := h
 clear h; have HC2 := Aside0.mk H; clear H
 go_enter Tryd.func12, Tryd.ntmps12
 go_upto_region 1 with (first | ((with_reducible refine gate_dst (N:=1) rfl ?_); refine be_ (N:=1) (cs := #[.int .i64 a0_0, .int .i64 a0_1, .int .i64 a0_2, .int .i64 a0_3]) (t:=25) ?_; intro gb101 hg w3 hbox hb; have BK101 := Aside0.mk (hbox); have GW101 := hs_ HB hg; have GE101 := hs_ HB hg; replace HB := bs_ HB hb; clear hb hbox hg) | ((with_reducible refine gate_dst (N:=2) rfl ?_); refine be_ (N:=2) (cs := #[.int .i64 0, .int .i64 0, .int .i64 0, .int .i64 0]) (t:=25) ?_; intro gb102 hg w4 hbox hb; have BK102 := Aside0.mk (hbox); have GW102 := hs_ HB hg; have GE102 := hs_ HB hg; have NB101_102 := hl_ BK101 hg; have NB102_101 := hr_ BK101 hg; replace BK101 := bb_ BK101 hb; replace HB := bs_ HB hb; clear hb hbox hg))
 (try simp only [q_])
 go_cut [6] (fun v6 wc => ∃ (kq : Nat) (x6_1 : Bool), v6 = .bool x6_1 ∧ Aside0 (oculusref04_Straight.j0 kq x6_1 a0_0 a0_1 a0_2 a0_3 = some (r1, r2, r3, r4)) ∧ Aside0 (kq ≤ k) ∧ Aside0 (wc.heap[gb101]? = some (.cells #[.int .i64 a0_0, .int .i64 a0_1, .int .i64 a0_2, .int .i64 a0_3] 25 (0, 0))) ∧ Aside0 (wc.heap[gb102]? = some (.cells #[.int .i64 0, .int .i64 0, .int .i64 0, .int .i64 0] 25 (0, 0))) ∧ Aside0 (Below w.heap.size w wc))
 case first =>
  have H := HC2.out; clear HC2; replace H := Option.bind_eq_some_iff.mp H; obtain ⟨t103, A50, H⟩ := H
  replace H : (oculusref04_Straight.j0 k (!t103) a0_0 a0_1 a0_2 a0_3) = some (r1, r2, r3, r4) := H
  have A5 := Aside0.mk A50; clear A50
  have H' := Aside0.mk H
  clear H; have hnb6 := NB101_102.out; have hnc6 := NB102_101.out
  have hcz7_0 : w4.cell? ⟨gb101, 0, none⟩ = some (.int .i64 a0_0) := bc_ BK101 0 rfl
  have hcz7_1 : w4.cell? ⟨gb101, 1, none⟩ = some (.int .i64 a0_1) := bc_ BK101 1 rfl
  have hcz7_2 : w4.cell? ⟨gb101, 2, none⟩ = some (.int .i64 a0_2) := bc_ BK101 2 rfl
  have hcz7_3 : w4.cell? ⟨gb101, 3, none⟩ = some (.int .i64 a0_3) := bc_ BK101 3 rfl
  have hfz7_0 := blk_frozen BK101.out 0; have hfz7_1 := blk_frozen BK101.out 1; have hfz7_2 := blk_frozen BK101.out 2; have hfz7_3 := blk_frozen BK101.out 3
  go_wp2_with (first | ((with_reducible refine gate_callee (f:=13) rfl ?_); refine gL_ (some 5) rfl rfl Tryd.func13 rfl #[.agg #[.int .i64 a0_0, .int .i64 a0_1, .int .i64 a0_2, .int .i64 a0_3]] rfl ?_; (with_reducible refine (oculusref04_May.calls a0_0 a0_1 a0_2 a0_3 t103 _ A5.out).mono ?_); rintro e w8 ⟨rfl, hb⟩; refine ⟨_, rfl, ?_⟩; replace BK101 := bb_ BK101 hb; replace BK102 := bb_ BK102 hb; replace HB := bs_ HB hb; (try clear hb); (try clear hb2); (try clear hk); (try clear hi)))
  go_meet
  case rel => exact ⟨_, (!t103), (by first | rfl | (simp; done) | (simp [*]; done) | (cases t103 <;> simp; done)), H', ⟨by first | omega | exact Nat.le_refl _⟩, ⟨pkx BK101⟩, ⟨pkx BK102⟩, ⟨pbx HB⟩⟩
 case rest =>
  clear HC2; (try clear c1); (try clear p2); (try clear c6); (try clear hcz7_0); (try clear hcz7_1); (try clear hcz7_2); (try clear hcz7_3); (try clear hfz7_0); (try clear hfz7_1); (try clear hfz7_2); (try clear hfz7_3); obtain ⟨kq, x6_1, rfl, HA, HJ1, BK101, BK102, HB⟩ := hcut
  cases kq with
  | zero => exact absurd HA.out (by simp [oculusref04_Straight.j0])
  | succ kj1 =>
   have H := HA.out; clear HA
   simp only [oculusref04_Straight.j0] at H
   by_cases c9 : x6_1 = true
   ·subst c9
    have H1 : (some (0, 0, 0, 0)) = some (r1, r2, r3, r4) := by rw [if_pos rfl] at H; exact H
    clear H; have H := H1; clear H1
    simp only [Option.some.injEq, Prod.mk.injEq] at H
    obtain ⟨rfl, rfl, rfl, rfl⟩ := H; have hnb10 := NB102_101.out; have hnc10 := NB101_102.out
    have hcz11_0 : wc.cell? ⟨gb102, 0, none⟩ = some (.int .i64 0) := bc_ BK102 0 rfl
    have hcz11_1 : wc.cell? ⟨gb102, 1, none⟩ = some (.int .i64 0) := bc_ BK102 1 rfl
    have hcz11_2 : wc.cell? ⟨gb102, 2, none⟩ = some (.int .i64 0) := bc_ BK102 2 rfl
    have hcz11_3 : wc.cell? ⟨gb102, 3, none⟩ = some (.int .i64 0) := bc_ BK102 3 rfl
    have hfz11_0 := blk_frozen BK102.out 0; have hfz11_1 := blk_frozen BK102.out 1; have hfz11_2 := blk_frozen BK102.out 2; have hfz11_3 := blk_frozen BK102.out 3
    go_wp2
    refine bodyPost_ret (results_cell_row rfl _ _ gb102 25 #[.int .i64 0, .int .i64 0, .int .i64 0, .int .i64 0] (0, 0) _ rfl (by refine pp_ (cs := #[.int .i64 0, .int .i64 0, .int .i64 0, .int .i64 0]) 3 ?_ rfl; refine blk_put (cs := #[.int .i64 0, .int .i64 0, .int .i64 0, .int .i64 0]) ?_ 2 _ rfl; refine blk_put (cs := #[.int .i64 0, .int .i64 0, .int .i64 0, .int .i64 0]) ?_ 1 _ rfl; refine blk_put (cs := #[.int .i64 0, .int .i64 0, .int .i64 0, .int .i64 0]) ?_ 0 _ rfl; exact pkx BK102) Tryd.underlying25 rfl (by kernel_rfl)) rfl ?_
    exact ⟨by first | rfl | (simp [errW_none, errW_some] <;> rfl) | (simp [*, errW_none, errW_some] <;> rfl), by repeat (first | (with_reducible first | exact HB.out | apply below_alloc | apply pw_below_drewN | apply below_drew1 | refine below_set ?_ GE101.out | refine below_set ?_ GE102.out) | exact HB.out)⟩
   ·replace c9 := Bool.eq_false_iff.mpr c9; subst c9
    have H1 : (if a0_0 > a0_2 then (oculusref04_Straight.j1 kj1 a0_0 a0_1 a0_2 a0_3 a0_2 a0_1 a0_0 a0_3) else (oculusref04_Straight.j1 kj1 a0_0 a0_1 a0_2 a0_3 a0_0 a0_1 a0_2 a0_3)) = some (r1, r2, r3, r4) := by rw [if_neg (show ¬ (false = true) by decide)] at H; exact H
    clear H; have H := H1; clear H1; have HC12 := Aside0.mk H; clear H; have hnb13 := NB101_102.out; have hnc13 := NB102_101.out
    have hcz14_0 : wc.cell? ⟨gb101, 0, none⟩ = some (.int .i64 a0_0) := bc_ BK101 0 rfl
    have hcz14_1 : wc.cell? ⟨gb101, 1, none⟩ = some (.int .i64 a0_1) := bc_ BK101 1 rfl
    have hcz14_2 : wc.cell? ⟨gb101, 2, none⟩ = some (.int .i64 a0_2) := bc_ BK101 2 rfl
    have hcz14_3 : wc.cell? ⟨gb101, 3, none⟩ = some (.int .i64 a0_3) := bc_ BK101 3 rfl
    have hfz14_0 := blk_frozen BK101.out 0; have hfz14_1 := blk_frozen BK101.out 1; have hfz14_2 := blk_frozen BK101.out 2; have hfz14_3 := blk_frozen BK101.out 3
    go_upto_if 15 with (first | ((with_reducible refine gate_dst (N:=3) rfl ?_); refine be_ (N:=3) (cs := #[.int .i64 0, .int .i64 0, .int .i64 0, .int .i64 0]) (t:=25) ?_; intro gb104 hg w15 hbox hb; have BK104 := Aside0.mk (hbox); have GW104 := hs_ HB hg; have GE104 := hs_ HB hg; have NB101_104 := hl_ BK101 hg; have NB104_101 := hr_ BK101 hg; have NB102_104 := hl_ BK102 hg; have NB104_102 := hr_ BK102 hg; replace BK101 := bb_ BK101 hb; replace BK102 := bb_ BK102 hb; replace HB := bs_ HB hb; clear hb hbox hg; have hnb16 := NB104_101.out; have hnc16 := NB101_104.out; have hnb17 := NB104_102.out; have hnc17 := NB102_104.out; have hcz18_0 : w15.cell? ⟨gb104, 0, none⟩ = some (.int .i64 0) := bc_ BK104 0 rfl; have hcz18_1 : w15.cell? ⟨gb104, 1, none⟩ = some (.int .i64 0) := bc_ BK104 1 rfl; have hcz18_2 : w15.cell? ⟨gb104, 2, none⟩ = some (.int .i64 0) := bc_ BK104 2 rfl; have hcz18_3 : w15.cell? ⟨gb104, 3, none⟩ = some (.int .i64 0) := bc_ BK104 3 rfl; have hfz18_0 := blk_frozen BK104.out 0; have hfz18_1 := blk_frozen BK104.out 1; have hfz18_2 := blk_frozen BK104.out 2; have hfz18_3 := blk_frozen BK104.out 3; have hcz19_0 : w15.cell? ⟨gb101, 0, none⟩ = some (.int .i64 a0_0) := bc_ BK101 0 rfl; have hcz19_1 : w15.cell? ⟨gb101, 1, none⟩ = some (.int .i64 a0_1) := bc_ BK101 1 rfl; have hcz19_2 : w15.cell? ⟨gb101, 2, none⟩ = some (.int .i64 a0_2) := bc_ BK101 2 rfl; have hcz19_3 : w15.cell? ⟨gb101, 3, none⟩ = some (.int .i64 a0_3) := bc_ BK101 3 rfl; have hfz19_0 := blk_frozen BK101.out 0; have hfz19_1 := blk_frozen BK101.out 1; have hfz19_2 := blk_frozen BK101.out 2; have hfz19_3 := blk_frozen BK101.out 3))
    (try simp only [q_])
    go_cut [] (fun wc => ∃ (kq : Nat) (x105000_11 : Int) (x105002_11 : Int), Aside0 (oculusref04_Straight.j1 kq a0_0 a0_1 a0_2 a0_3 x105000_11 a0_1 x105002_11 a0_3 = some (r1, r2, r3, r4)) ∧ Aside0 (kq ≤ kj1) ∧ Aside0 (wc.heap[gb101]? = some (.cells #[.int .i64 a0_0, .int .i64 a0_1, .int .i64 a0_2, .int .i64 a0_3] 25 (0, 0))) ∧ Aside0 (wc.heap[gb102]? = some (.cells #[.int .i64 0, .int .i64 0, .int .i64 0, .int .i64 0] 25 (0, 0))) ∧ Aside0 (wc.heap[gb104]? = some (.cells #[.int .i64 x105000_11, .int .i64 a0_1, .int .i64 x105002_11, .int .i64 a0_3] 25 (0, 0))) ∧ Aside0 (Below w.heap.size w wc))
    case first =>
     have H := HC12.out; clear HC12
     by_cases c20 : a0_0 > a0_2
     ·rw [if_pos c20] at H; have c20b0 : decide (a0_2 < a0_0) = true := decide_eq_true c20; clear c20; (first | rw [c20b0] | (simp only [i64_w, i32_w]; rw [c20b0]) | skip)
      have H' := Aside0.mk H
      clear H; have hnb21 := NB101_102.out; have hnc21 := NB102_101.out; have hnb22 := NB101_104.out; have hnc22 := NB104_101.out
      have hcz23_0 : w15.cell? ⟨gb101, 0, none⟩ = some (.int .i64 a0_0) := bc_ BK101 0 rfl
      have hcz23_1 : w15.cell? ⟨gb101, 1, none⟩ = some (.int .i64 a0_1) := bc_ BK101 1 rfl
      have hcz23_2 : w15.cell? ⟨gb101, 2, none⟩ = some (.int .i64 a0_2) := bc_ BK101 2 rfl
      have hcz23_3 : w15.cell? ⟨gb101, 3, none⟩ = some (.int .i64 a0_3) := bc_ BK101 3 rfl
      have hfz23_0 := blk_frozen BK101.out 0; have hfz23_1 := blk_frozen BK101.out 1; have hfz23_2 := blk_frozen BK101.out 2; have hfz23_3 := blk_frozen BK101.out 3; have hnb24 := NB104_102.out; have hnc24 := NB102_104.out
      have hcz25_0 : w15.cell? ⟨gb104, 0, none⟩ = some (.int .i64 0) := bc_ BK104 0 rfl
      have hcz25_1 : w15.cell? ⟨gb104, 1, none⟩ = some (.int .i64 0) := bc_ BK104 1 rfl
      have hcz25_2 : w15.cell? ⟨gb104, 2, none⟩ = some (.int .i64 0) := bc_ BK104 2 rfl
      have hcz25_3 : w15.cell? ⟨gb104, 3, none⟩ = some (.int .i64 0) := bc_ BK104 3 rfl
      have hfz25_0 := blk_frozen BK104.out 0; have hfz25_1 := blk_frozen BK104.out 1; have hfz25_2 := blk_frozen BK104.out 2; have hfz25_3 := blk_frozen BK104.out 3
      go_wp2
      go_meet
      case rel => exact ⟨_, (a0_2), (a0_0), H', ⟨by have := HJ1.out; first | omega | exact Nat.le_refl _⟩, ⟨by refine pf_ ?_ NB101_104.out; refine blk_far ?_ NB101_104.out _; refine blk_far ?_ NB101_104.out _; refine blk_far ?_ NB101_104.out _; refine blk_far ?_ NB101_104.out _; refine blk_far ?_ NB101_104.out _; exact pkx BK101⟩, ⟨by refine pf_ ?_ NB102_104.out; refine blk_far ?_ NB102_104.out _; refine blk_far ?_ NB102_104.out _; refine blk_far ?_ NB102_104.out _; refine blk_far ?_ NB102_104.out _; refine blk_far ?_ NB102_104.out _; exact pkx BK102⟩, ⟨by refine pp_ (cs := #[.int .i64 a0_2, .int .i64 a0_1, .int .i64 a0_2, .int .i64 a0_3]) 2 ?_ rfl; refine blk_put (cs := #[.int .i64 a0_0, .int .i64 a0_1, .int .i64 a0_2, .int .i64 a0_3]) ?_ 0 _ rfl; refine blk_put (cs := #[.int .i64 a0_0, .int .i64 a0_1, .int .i64 a0_2, .int .i64 0]) ?_ 3 _ rfl; refine blk_put (cs := #[.int .i64 a0_0, .int .i64 a0_1, .int .i64 0, .int .i64 0]) ?_ 2 _ rfl; refine blk_put (cs := #[.int .i64 a0_0, .int .i64 0, .int .i64 0, .int .i64 0]) ?_ 1 _ rfl; refine blk_put (cs := #[.int .i64 0, .int .i64 0, .int .i64 0, .int .i64 0]) ?_ 0 _ rfl; exact pkx BK104⟩, ⟨by repeat (first | (with_reducible first | exact HB.out | apply below_alloc | apply pw_below_drewN | apply below_drew1 | refine below_set ?_ GE101.out | refine below_set ?_ GE102.out | refine below_set ?_ GE104.out) | exact HB.out)⟩⟩
     ·rw [if_neg c20] at H; have c20b0 : decide (a0_2 < a0_0) = false := decide_eq_false c20; clear c20; (first | rw [c20b0] | (simp only [i64_w, i32_w]; rw [c20b0]) | skip)
      have H' := Aside0.mk H
      clear H
      go_wp2
      go_meet
      case rel => exact ⟨_, (a0_0), (a0_2), H', ⟨by have := HJ1.out; first | omega | exact Nat.le_refl _⟩, ⟨by refine pf_ ?_ NB101_104.out; refine blk_far ?_ NB101_104.out _; refine blk_far ?_ NB101_104.out _; refine blk_far ?_ NB101_104.out _; exact pkx BK101⟩, ⟨by refine pf_ ?_ NB102_104.out; refine blk_far ?_ NB102_104.out _; refine blk_far ?_ NB102_104.out _; refine blk_far ?_ NB102_104.out _; exact pkx BK102⟩, ⟨by refine pp_ (cs := #[.int .i64 a0_0, .int .i64 a0_1, .int .i64 a0_2, .int .i64 0]) 3 ?_ rfl; refine blk_put (cs := #[.int .i64 a0_0, .int .i64 a0_1, .int .i64 0, .int .i64 0]) ?_ 2 _ rfl; refine blk_put (cs := #[.int .i64 a0_0, .int .i64 0, .int .i64 0, .int .i64 0]) ?_ 1 _ rfl; refine blk_put (cs := #[.int .i64 0, .int .i64 0, .int .i64 0, .int .i64 0]) ?_ 0 _ rfl; exact pkx BK104⟩, ⟨by repeat (first | (with_reducible first | exact HB.out | apply below_alloc | apply pw_below_drewN | apply below_drew1 | refine below_set ?_ GE101.out | refine below_set ?_ GE102.out | refine below_set ?_ GE104.out) | exact HB.out)⟩⟩
    case rest =>
     clear HC12; (try clear c1); (try clear c2); (try clear p2); (try clear c6); (try clear c9); (try clear c10); (try clear c12); (try clear c13); (try clear c16); (try clear c17); (try clear c20); (try clear c20b0); (try clear c21); (try clear c22); (try clear c24); (try clear hcz11_0); (try clear hcz11_1); (try clear hcz11_2); (try clear hcz11_3); (try clear hcz14_0); (try clear hcz14_1); (try clear hcz14_2); (try clear hcz14_3); (try clear hcz18_0); (try clear hcz18_1); (try clear hcz18_2); (try clear hcz18_3); (try clear hcz19_0); (try clear hcz19_1); (try clear hcz19_2); (try clear hcz19_3); (try clear hcz23_0); (try clear hcz23_1); (try clear hcz23_2); (try clear hcz23_3); (try clear hcz25_0); (try clear hcz25_1); (try clear hcz25_2); (try clear hcz25_3); (try clear hcz7_0); (try clear hcz7_1); (try clear hcz7_2); (try clear hcz7_3); (try clear hfz11_0); (try clear hfz11_1); (try clear hfz11_2)
     (try clear hfz11_3); (try clear hfz14_0); (try clear hfz14_1); (try clear hfz14_2); (try clear hfz14_3); (try clear hfz18_0); (try clear hfz18_1); (try clear hfz18_2); (try clear hfz18_3); (try clear hfz19_0); (try clear hfz19_1); (try clear hfz19_2); (try clear hfz19_3); (try clear hfz23_0); (try clear hfz23_1); (try clear hfz23_2); (try clear hfz23_3); (try clear hfz25_0); (try clear hfz25_1); (try clear hfz25_2); (try clear hfz25_3); (try clear hfz7_0); (try clear hfz7_1); (try clear hfz7_2); (try clear hfz7_3); (try clear p2); obtain ⟨kq, x105000_11, x105002_11, HA, HJ11, BK101, BK102, BK104, HB⟩ := hcut
     cases kq with
     | zero => exact absurd HA.out (by simp [oculusref04_Straight.j1])
     | succ kj11 =>
      have H := HA.out; clear HA
      simp only [oculusref04_Straight.j1] at H
      by_cases c26 : a0_1 > a0_3
      ·rw [if_pos c26] at H; have c26b0 : decide (a0_3 < a0_1) = true := decide_eq_true c26; clear c26
       simp only [Option.some.injEq, Prod.mk.injEq] at H
       obtain ⟨rfl, rfl, rfl, rfl⟩ := H; have hnb27 := NB101_102.out; have hnc27 := NB102_101.out; have hnb28 := NB101_104.out; have hnc28 := NB104_101.out
       have hcz29_0 : wc.cell? ⟨gb101, 0, none⟩ = some (.int .i64 a0_0) := bc_ BK101 0 rfl
       have hcz29_1 : wc.cell? ⟨gb101, 1, none⟩ = some (.int .i64 a0_1) := bc_ BK101 1 rfl
       have hcz29_2 : wc.cell? ⟨gb101, 2, none⟩ = some (.int .i64 a0_2) := bc_ BK101 2 rfl
       have hcz29_3 : wc.cell? ⟨gb101, 3, none⟩ = some (.int .i64 a0_3) := bc_ BK101 3 rfl
       have hfz29_0 := blk_frozen BK101.out 0; have hfz29_1 := blk_frozen BK101.out 1; have hfz29_2 := blk_frozen BK101.out 2; have hfz29_3 := blk_frozen BK101.out 3; have hnb30 := NB104_102.out; have hnc30 := NB102_104.out
       have hcz31_0 : wc.cell? ⟨gb104, 0, none⟩ = some (.int .i64 x105000_11) := bc_ BK104 0 rfl
       have hcz31_1 : wc.cell? ⟨gb104, 1, none⟩ = some (.int .i64 a0_1) := bc_ BK104 1 rfl
       have hcz31_2 : wc.cell? ⟨gb104, 2, none⟩ = some (.int .i64 x105002_11) := bc_ BK104 2 rfl
       have hcz31_3 : wc.cell? ⟨gb104, 3, none⟩ = some (.int .i64 a0_3) := bc_ BK104 3 rfl
       have hfz31_0 := blk_frozen BK104.out 0; have hfz31_1 := blk_frozen BK104.out 1; have hfz31_2 := blk_frozen BK104.out 2; have hfz31_3 := blk_frozen BK104.out 3
       have hcz32_0 : wc.cell? ⟨gb102, 0, none⟩ = some (.int .i64 0) := bc_ BK102 0 rfl
       have hcz32_1 : wc.cell? ⟨gb102, 1, none⟩ = some (.int .i64 0) := bc_ BK102 1 rfl
       have hcz32_2 : wc.cell? ⟨gb102, 2, none⟩ = some (.int .i64 0) := bc_ BK102 2 rfl
       have hcz32_3 : wc.cell? ⟨gb102, 3, none⟩ = some (.int .i64 0) := bc_ BK102 3 rfl
       have hfz32_0 := blk_frozen BK102.out 0; have hfz32_1 := blk_frozen BK102.out 1; have hfz32_2 := blk_frozen BK102.out 2; have hfz32_3 := blk_frozen BK102.out 3
       go_wp2
       refine bodyPost_ret (results_cell_row rfl _ _ gb102 25 #[.int .i64 x105000_11, .int .i64 a0_3, .int .i64 x105002_11, .int .i64 a0_1] (0, 0) _ rfl (by refine pp_ (cs := #[.int .i64 x105000_11, .int .i64 a0_3, .int .i64 x105002_11, .int .i64 0]) 3 ?_ rfl; refine blk_put (cs := #[.int .i64 x105000_11, .int .i64 a0_3, .int .i64 0, .int .i64 0]) ?_ 2 _ rfl; refine blk_put (cs := #[.int .i64 x105000_11, .int .i64 0, .int .i64 0, .int .i64 0]) ?_ 1 _ rfl; refine blk_put (cs := #[.int .i64 0, .int .i64 0, .int .i64 0, .int .i64 0]) ?_ 0 _ rfl; refine pf_ ?_ NB102_104.out; refine blk_far ?_ NB102_104.out _; exact pkx BK102) Tryd.underlying25 rfl (by kernel_rfl)) rfl ?_
       exact ⟨by first | rfl | (simp [errW_none, errW_some] <;> rfl) | (simp [*, errW_none, errW_some] <;> rfl), by repeat (first | (with_reducible first | exact HB.out | apply below_alloc | apply pw_below_drewN | apply below_drew1 | refine below_set ?_ GE101.out | refine below_set ?_ GE102.out | refine below_set ?_ GE104.out) | exact HB.out)⟩
      ·rw [if_neg c26] at H; have c26b0 : decide (a0_3 < a0_1) = false := decide_eq_false c26; clear c26
       simp only [Option.some.injEq, Prod.mk.injEq] at H
       obtain ⟨rfl, rfl, rfl, rfl⟩ := H; have hnb33 := NB101_102.out; have hnc33 := NB102_101.out; have hnb34 := NB101_104.out; have hnc34 := NB104_101.out
       have hcz35_0 : wc.cell? ⟨gb101, 0, none⟩ = some (.int .i64 a0_0) := bc_ BK101 0 rfl
       have hcz35_1 : wc.cell? ⟨gb101, 1, none⟩ = some (.int .i64 a0_1) := bc_ BK101 1 rfl
       have hcz35_2 : wc.cell? ⟨gb101, 2, none⟩ = some (.int .i64 a0_2) := bc_ BK101 2 rfl
       have hcz35_3 : wc.cell? ⟨gb101, 3, none⟩ = some (.int .i64 a0_3) := bc_ BK101 3 rfl
       have hfz35_0 := blk_frozen BK101.out 0; have hfz35_1 := blk_frozen BK101.out 1; have hfz35_2 := blk_frozen BK101.out 2; have hfz35_3 := blk_frozen BK101.out 3; have hnb36 := NB104_102.out; have hnc36 := NB102_104.out
       have hcz37_0 : wc.cell? ⟨gb104, 0, none⟩ = some (.int .i64 x105000_11) := bc_ BK104 0 rfl
       have hcz37_1 : wc.cell? ⟨gb104, 1, none⟩ = some (.int .i64 a0_1) := bc_ BK104 1 rfl
       have hcz37_2 : wc.cell? ⟨gb104, 2, none⟩ = some (.int .i64 x105002_11) := bc_ BK104 2 rfl
       have hcz37_3 : wc.cell? ⟨gb104, 3, none⟩ = some (.int .i64 a0_3) := bc_ BK104 3 rfl
       have hfz37_0 := blk_frozen BK104.out 0; have hfz37_1 := blk_frozen BK104.out 1; have hfz37_2 := blk_frozen BK104.out 2; have hfz37_3 := blk_frozen BK104.out 3
       have hcz38_0 : wc.cell? ⟨gb102, 0, none⟩ = some (.int .i64 0) := bc_ BK102 0 rfl
       have hcz38_1 : wc.cell? ⟨gb102, 1, none⟩ = some (.int .i64 0) := bc_ BK102 1 rfl
       have hcz38_2 : wc.cell? ⟨gb102, 2, none⟩ = some (.int .i64 0) := bc_ BK102 2 rfl
       have hcz38_3 : wc.cell? ⟨gb102, 3, none⟩ = some (.int .i64 0) := bc_ BK102 3 rfl
       have hfz38_0 := blk_frozen BK102.out 0; have hfz38_1 := blk_frozen BK102.out 1; have hfz38_2 := blk_frozen BK102.out 2; have hfz38_3 := blk_frozen BK102.out 3
       go_wp2
       refine bodyPost_ret (results_cell_row rfl _ _ gb102 25 #[.int .i64 x105000_11, .int .i64 a0_1, .int .i64 x105002_11, .int .i64 a0_3] (0, 0) _ rfl (by refine pp_ (cs := #[.int .i64 x105000_11, .int .i64 a0_1, .int .i64 x105002_11, .int .i64 0]) 3 ?_ rfl; refine blk_put (cs := #[.int .i64 x105000_11, .int .i64 a0_1, .int .i64 0, .int .i64 0]) ?_ 2 _ rfl; refine blk_put (cs := #[.int .i64 x105000_11, .int .i64 0, .int .i64 0, .int .i64 0]) ?_ 1 _ rfl; refine blk_put (cs := #[.int .i64 0, .int .i64 0, .int .i64 0, .int .i64 0]) ?_ 0 _ rfl; exact pkx BK102) Tryd.underlying25 rfl (by kernel_rfl)) rfl ?_
       exact ⟨by first | rfl | (simp [errW_none, errW_some] <;> rfl) | (simp [*, errW_none, errW_some] <;> rfl), by repeat (first | (with_reducible first | exact HB.out | apply below_alloc | apply pw_below_drewN | apply below_drew1 | refine below_set ?_ GE101.out | refine below_set ?_ GE102.out | refine below_set ?_ GE104.out) | exact HB.out)⟩

def oculusref04_apart.f (a0 : Int) (a1 : Int) : Option (Int) := if a0 > a1 then (some (wrap64 (a0 - a1))) else (some (wrap64 (a1 - a0)))
set_option maxHeartbeats 8000000 in
set_option maxRecDepth 100000 in
theorem oculusref04_apart.calls (a0 : Int) (a1 : Int) (r : Int) (w : World) (h : oculusref04_apart.f a0 a1 = some r) :
  Calls Tryd.prog 24 #[.int .i64 a0, .int .i64 a1] w fun e w' => e = .returned (.int .i64 r) ∧ Drawn0 w w' := by
 have H : (if a0 > a1 then (some (wrap64 (a0 - a1))) else (some (wrap64 (a1 - a0)))) = some r := h
 clear h
 by_cases c3 : a0 > a1
 ·rw [if_pos c3] at H; have c3b0 : decide (a1 < a0) = true := decide_eq_true c3; clear c3; obtain rfl := Option.some.inj H
  go_enter Tryd.func24, Tryd.ntmps24
  go_wp2
  go_ret
  exact ⟨by first | rfl | (simp; done) | (simp [*]; done), by repeat (first | exact Drawn0.refl _ | apply Drawn0.step)⟩
 ·rw [if_neg c3] at H; have c3b0 : decide (a1 < a0) = false := decide_eq_false c3; clear c3; obtain rfl := Option.some.inj H
  go_enter Tryd.func24, Tryd.ntmps24
  go_wp2
  go_ret
  exact ⟨by first | rfl | (simp; done) | (simp [*]; done), by repeat (first | exact Drawn0.refl _ | apply Drawn0.step)⟩

def oculusref04_Rows.f (a0_0 : Int) (a0_1 : Int) (a0_2 : Int) (a0_3 : Int) : Option (Int) := (oculusref04_May.f a0_0 a0_1 a0_2 a0_3).bind fun t102 => (if t102 = true then ((oculusref04_apart.f a0_0 a0_2).bind fun t103 => (some (wrap64 (t103 + 1)))) else (some 0))
set_option maxHeartbeats 8000000 in
set_option maxRecDepth 100000 in
theorem oculusref04_Rows.calls (a0_0 : Int) (a0_1 : Int) (a0_2 : Int) (a0_3 : Int) (r : Int) (w : World) (h : oculusref04_Rows.f a0_0 a0_1 a0_2 a0_3 = some r) :
  Calls Tryd.prog 14 #[.agg #[.int .i64 a0_0, .int .i64 a0_1, .int .i64 a0_2, .int .i64 a0_3]] w fun e w' => e = .returned (.int .i64 r) ∧ Below w.heap.size w w' := by
 have hu25 := Tryd.underlying25; have HB := Aside0.mk (Below.refl w.heap.size w)
 have H : ((oculusref04_May.f a0_0 a0_1 a0_2 a0_3).bind fun t102 => (if t102 = true then ((oculusref04_apart.f a0_0 a0_2).bind fun t103 => (some (wrap64 (t103 + 1)))) else (some 0))) = some r := h
 clear h; replace H := Option.bind_eq_some_iff.mp H; obtain ⟨t102, A20, H⟩ := H
 replace H : (if t102 = true then ((oculusref04_apart.f a0_0 a0_2).bind fun t103 => (some (wrap64 (t103 + 1)))) else (some 0)) = some r := H
 have A2 := Aside0.mk A20; clear A20
 by_cases c3 : t102 = true
 ·subst c3
  have H1 : ((oculusref04_apart.f a0_0 a0_2).bind fun t103 => (some (wrap64 (t103 + 1)))) = some r := by rw [if_pos rfl] at H; exact H
  clear H; have H := H1; clear H1; replace H := Option.bind_eq_some_iff.mp H; obtain ⟨t103, A40, H⟩ := H
  replace H : (some (wrap64 (t103 + 1))) = some r := H
  have A4 := Aside0.mk A40; clear A40; obtain rfl := Option.some.inj H
  go_enter Tryd.func14, Tryd.ntmps14
  go_wp2_with (first | ((with_reducible refine gate_dst (N:=1) rfl ?_); refine be_ (N:=1) (cs := #[.int .i64 a0_0, .int .i64 a0_1, .int .i64 a0_2, .int .i64 a0_3]) (t:=25) ?_; intro gb101 hg w5 hbox hb; have BK101 := Aside0.mk (hbox); replace HB := bs_ HB hb; clear hb hbox hg; have hcz6_0 : w5.cell? ⟨gb101, 0, none⟩ = some (.int .i64 a0_0) := bc_ BK101 0 rfl; have hcz6_1 : w5.cell? ⟨gb101, 1, none⟩ = some (.int .i64 a0_1) := bc_ BK101 1 rfl; have hcz6_2 : w5.cell? ⟨gb101, 2, none⟩ = some (.int .i64 a0_2) := bc_ BK101 2 rfl; have hcz6_3 : w5.cell? ⟨gb101, 3, none⟩ = some (.int .i64 a0_3) := bc_ BK101 3 rfl) | ((with_reducible refine gate_callee (f:=13) rfl ?_); refine gL_ (some 4) rfl rfl Tryd.func13 rfl #[.agg #[.int .i64 a0_0, .int .i64 a0_1, .int .i64 a0_2, .int .i64 a0_3]] rfl ?_; (with_reducible refine (oculusref04_May.calls a0_0 a0_1 a0_2 a0_3 true _ A2.out).mono ?_); rintro e w7 ⟨rfl, hb⟩; refine ⟨_, rfl, ?_⟩; replace BK101 := bb_ BK101 hb; replace HB := bs_ HB hb; (try clear hb); (try clear hb2); (try clear hk); (try clear hi); have hcz8_0 : w7.cell? ⟨gb101, 0, none⟩ = some (.int .i64 a0_0) := bc_ BK101 0 rfl; have hcz8_1 : w7.cell? ⟨gb101, 1, none⟩ = some (.int .i64 a0_1) := bc_ BK101 1 rfl; have hcz8_2 : w7.cell? ⟨gb101, 2, none⟩ = some (.int .i64 a0_2) := bc_ BK101 2 rfl; have hcz8_3 : w7.cell? ⟨gb101, 3, none⟩ = some (.int .i64 a0_3) := bc_ BK101 3 rfl) | ((with_reducible refine gate_callee (f:=24) rfl ?_); refine gL_ (some 12) rfl rfl Tryd.func24 rfl #[.int .i64 a0_0, .int .i64 a0_2] rfl ?_; (with_reducible refine (oculusref04_apart.calls a0_0 a0_2 t103 _ A4.out).mono ?_); rintro e w' ⟨rfl, ⟨nd, rfl⟩⟩; refine ⟨_, rfl, ?_⟩))
  go_ret
  exact ⟨by first | rfl | (simp [errW_none, errW_some] <;> rfl) | (simp [*, errW_none, errW_some] <;> rfl), pbx HB⟩
 ·replace c3 := Bool.eq_false_iff.mpr c3; subst c3
  have H1 : (some 0) = some r := by rw [if_neg (show ¬ (false = true) by decide)] at H; exact H
  clear H; have H := H1; clear H1; obtain rfl := Option.some.inj H
  go_enter Tryd.func14, Tryd.ntmps14
  go_wp2_with (first | ((with_reducible refine gate_dst (N:=1) rfl ?_); refine be_ (N:=1) (cs := #[.int .i64 a0_0, .int .i64 a0_1, .int .i64 a0_2, .int .i64 a0_3]) (t:=25) ?_; intro gb101 hg w9 hbox hb; have BK101 := Aside0.mk (hbox); replace HB := bs_ HB hb; clear hb hbox hg; have hcz10_0 : w9.cell? ⟨gb101, 0, none⟩ = some (.int .i64 a0_0) := bc_ BK101 0 rfl; have hcz10_1 : w9.cell? ⟨gb101, 1, none⟩ = some (.int .i64 a0_1) := bc_ BK101 1 rfl; have hcz10_2 : w9.cell? ⟨gb101, 2, none⟩ = some (.int .i64 a0_2) := bc_ BK101 2 rfl; have hcz10_3 : w9.cell? ⟨gb101, 3, none⟩ = some (.int .i64 a0_3) := bc_ BK101 3 rfl) | ((with_reducible refine gate_callee (f:=13) rfl ?_); refine gL_ (some 4) rfl rfl Tryd.func13 rfl #[.agg #[.int .i64 a0_0, .int .i64 a0_1, .int .i64 a0_2, .int .i64 a0_3]] rfl ?_; (with_reducible refine (oculusref04_May.calls a0_0 a0_1 a0_2 a0_3 false _ A2.out).mono ?_); rintro e w11 ⟨rfl, hb⟩; refine ⟨_, rfl, ?_⟩; replace BK101 := bb_ BK101 hb; replace HB := bs_ HB hb; (try clear hb); (try clear hb2); (try clear hk); (try clear hi)))
  go_ret
  exact ⟨by first | rfl | (simp [errW_none, errW_some] <;> rfl) | (simp [*, errW_none, errW_some] <;> rfl), pbx HB⟩

def oculusref04_Cols.f (a0_0 : Int) (a0_1 : Int) (a0_2 : Int) (a0_3 : Int) : Option (Int) := (oculusref04_May.f a0_0 a0_1 a0_2 a0_3).bind fun t102 => (if t102 = true then ((oculusref04_apart.f a0_1 a0_3).bind fun t103 => (some (wrap64 (t103 + 1)))) else (some 0))
set_option maxHeartbeats 8000000 in
set_option maxRecDepth 100000 in
theorem oculusref04_Cols.calls (a0_0 : Int) (a0_1 : Int) (a0_2 : Int) (a0_3 : Int) (r : Int) (w : World) (h : oculusref04_Cols.f a0_0 a0_1 a0_2 a0_3 = some r) :
  Calls Tryd.prog 15 #[.agg #[.int .i64 a0_0, .int .i64 a0_1, .int .i64 a0_2, .int .i64 a0_3]] w fun e w' => e = .returned (.int .i64 r) ∧ Below w.heap.size w w' := by
 have hu25 := Tryd.underlying25; have HB := Aside0.mk (Below.refl w.heap.size w)
 have H : ((oculusref04_May.f a0_0 a0_1 a0_2 a0_3).bind fun t102 => (if t102 = true then ((oculusref04_apart.f a0_1 a0_3).bind fun t103 => (some (wrap64 (t103 + 1)))) else (some 0))) = some r := h
 clear h; replace H := Option.bind_eq_some_iff.mp H; obtain ⟨t102, A20, H⟩ := H
 replace H : (if t102 = true then ((oculusref04_apart.f a0_1 a0_3).bind fun t103 => (some (wrap64 (t103 + 1)))) else (some 0)) = some r := H
 have A2 := Aside0.mk A20; clear A20
 by_cases c3 : t102 = true
 ·subst c3
  have H1 : ((oculusref04_apart.f a0_1 a0_3).bind fun t103 => (some (wrap64 (t103 + 1)))) = some r := by rw [if_pos rfl] at H; exact H
  clear H; have H := H1; clear H1; replace H := Option.bind_eq_some_iff.mp H; obtain ⟨t103, A40, H⟩ := H
  replace H : (some (wrap64 (t103 + 1))) = some r := H
  have A4 := Aside0.mk A40; clear A40; obtain rfl := Option.some.inj H
  go_enter Tryd.func15, Tryd.ntmps15
  go_wp2_with (first | ((with_reducible refine gate_dst (N:=1) rfl ?_); refine be_ (N:=1) (cs := #[.int .i64 a0_0, .int .i64 a0_1, .int .i64 a0_2, .int .i64 a0_3]) (t:=25) ?_; intro gb101 hg w5 hbox hb; have BK101 := Aside0.mk (hbox); replace HB := bs_ HB hb; clear hb hbox hg; have hcz6_0 : w5.cell? ⟨gb101, 0, none⟩ = some (.int .i64 a0_0) := bc_ BK101 0 rfl; have hcz6_1 : w5.cell? ⟨gb101, 1, none⟩ = some (.int .i64 a0_1) := bc_ BK101 1 rfl; have hcz6_2 : w5.cell? ⟨gb101, 2, none⟩ = some (.int .i64 a0_2) := bc_ BK101 2 rfl; have hcz6_3 : w5.cell? ⟨gb101, 3, none⟩ = some (.int .i64 a0_3) := bc_ BK101 3 rfl) | ((with_reducible refine gate_callee (f:=13) rfl ?_); refine gL_ (some 4) rfl rfl Tryd.func13 rfl #[.agg #[.int .i64 a0_0, .int .i64 a0_1, .int .i64 a0_2, .int .i64 a0_3]] rfl ?_; (with_reducible refine (oculusref04_May.calls a0_0 a0_1 a0_2 a0_3 true _ A2.out).mono ?_); rintro e w7 ⟨rfl, hb⟩; refine ⟨_, rfl, ?_⟩; replace BK101 := bb_ BK101 hb; replace HB := bs_ HB hb; (try clear hb); (try clear hb2); (try clear hk); (try clear hi); have hcz8_0 : w7.cell? ⟨gb101, 0, none⟩ = some (.int .i64 a0_0) := bc_ BK101 0 rfl; have hcz8_1 : w7.cell? ⟨gb101, 1, none⟩ = some (.int .i64 a0_1) := bc_ BK101 1 rfl; have hcz8_2 : w7.cell? ⟨gb101, 2, none⟩ = some (.int .i64 a0_2) := bc_ BK101 2 rfl; have hcz8_3 : w7.cell? ⟨gb101, 3, none⟩ = some (.int .i64 a0_3) := bc_ BK101 3 rfl) | ((with_reducible refine gate_callee (f:=24) rfl ?_); refine gL_ (some 12) rfl rfl Tryd.func24 rfl #[.int .i64 a0_1, .int .i64 a0_3] rfl ?_; (with_reducible refine (oculusref04_apart.calls a0_1 a0_3 t103 _ A4.out).mono ?_); rintro e w' ⟨rfl, ⟨nd, rfl⟩⟩; refine ⟨_, rfl, ?_⟩))
  go_ret
  exact ⟨by first | rfl | (simp [errW_none, errW_some] <;> rfl) | (simp [*, errW_none, errW_some] <;> rfl), pbx HB⟩
 ·replace c3 := Bool.eq_false_iff.mpr c3; subst c3
  have H1 : (some 0) = some r := by rw [if_neg (show ¬ (false = true) by decide)] at H; exact H
  clear H; have H := H1; clear H1; obtain rfl := Option.some.inj H
  go_enter Tryd.func15, Tryd.ntmps15
  go_wp2_with (first | ((with_reducible refine gate_dst (N:=1) rfl ?_); refine be_ (N:=1) (cs := #[.int .i64 a0_0, .int .i64 a0_1, .int .i64 a0_2, .int .i64 a0_3]) (t:=25) ?_; intro gb101 hg w9 hbox hb; have BK101 := Aside0.mk (hbox); replace HB := bs_ HB hb; clear hb hbox hg; have hcz10_0 : w9.cell? ⟨gb101, 0, none⟩ = some (.int .i64 a0_0) := bc_ BK101 0 rfl; have hcz10_1 : w9.cell? ⟨gb101, 1, none⟩ = some (.int .i64 a0_1) := bc_ BK101 1 rfl; have hcz10_2 : w9.cell? ⟨gb101, 2, none⟩ = some (.int .i64 a0_2) := bc_ BK101 2 rfl; have hcz10_3 : w9.cell? ⟨gb101, 3, none⟩ = some (.int .i64 a0_3) := bc_ BK101 3 rfl) | ((with_reducible refine gate_callee (f:=13) rfl ?_); refine gL_ (some 4) rfl rfl Tryd.func13 rfl #[.agg #[.int .i64 a0_0, .int .i64 a0_1, .int .i64 a0_2, .int .i64 a0_3]] rfl ?_; (with_reducible refine (oculusref04_May.calls a0_0 a0_1 a0_2 a0_3 false _ A2.out).mono ?_); rintro e w11 ⟨rfl, hb⟩; refine ⟨_, rfl, ?_⟩; replace BK101 := bb_ BK101 hb; replace HB := bs_ HB hb; (try clear hb); (try clear hb2); (try clear hk); (try clear hi)))
  go_ret
  exact ⟨by first | rfl | (simp [errW_none, errW_some] <;> rfl) | (simp [*, errW_none, errW_some] <;> rfl), pbx HB⟩

mutual
def oculusref04_Cells.j0 : Nat → List (S23) → Bool → Int → Int → Int → Int → Int → Int → Int → Int → Option ((List (S23)))
 | 0, _, _, _, _, _, _, _, _, _, _ => none
 | k + 1, x3, x19, x102000, x102001, x102002, x102003, x107000, x107001, x107002, x107003 => if x19 = true then (some x3) else (oculusref04_Cells.l0 k x3 0 x102000 x102001 x102002 x102003 x107000 x107001 x107002 x107003)
def oculusref04_Cells.l0 : Nat → List (S23) → Int → Int → Int → Int → Int → Int → Int → Int → Int → Option ((List (S23)))
 | 0, _, _, _, _, _, _, _, _, _, _ => none
 | k + 1, x3, x5, x102000, x102001, x102002, x102003, x107000, x107001, x107002, x107003 => (oculusref04_Rows.f x102000 x102001 x102002 x102003).bind fun t110 => (if x5 < t110 then (oculusref04_Cells.l1 k x3 x5 0 x102000 x102001 x102002 x102003 x107000 x107001 x107002 x107003) else (some x3))
def oculusref04_Cells.l1 : Nat → List (S23) → Int → Int → Int → Int → Int → Int → Int → Int → Int → Int → Option ((List (S23)))
 | 0, _, _, _, _, _, _, _, _, _, _, _ => none
 | k + 1, x3, x5, x6, x102000, x102001, x102002, x102003, x107000, x107001, x107002, x107003 => (oculusref04_Cols.f x102000 x102001 x102002 x102003).bind fun t111 => (if x6 < t111 then (if x3.length < 8796093022208 then (oculusref04_Cells.l1 k (x3 ++ [(⟨wrap64 (x107000 + x5), wrap64 (x107001 + x6)⟩ : S23)]) x5 (wrap64 (x6 + 1)) x102000 x102001 x102002 x102003 x107000 x107001 x107002 x107003) else (none)) else (oculusref04_Cells.l0 k x3 (wrap64 (x5 + 1)) x102000 x102001 x102002 x102003 x107000 x107001 x107002 x107003))
end
def oculusref04_Cells.f (k : Nat) (a0_0 : Int) (a0_1 : Int) (a0_2 : Int) (a0_3 : Int) : Option ((List (S23))) := (oculusref04_Straight.f k a0_0 a0_1 a0_2 a0_3).bind fun bt102 => ((oculusref04_May.f a0_0 a0_1 a0_2 a0_3).bind fun t107 => (if t107 = true then ((oculusref04_Rows.f a0_0 a0_1 a0_2 a0_3).bind fun t108 => ((oculusref04_Cols.f a0_0 a0_1 a0_2 a0_3).bind fun t109 => (oculusref04_Cells.j0 k ([] : List (S23)) (decide ((wrap64 (t108 * t109)) > 1000)) a0_0 a0_1 a0_2 a0_3 bt102.1 bt102.2.1 bt102.2.2.1 bt102.2.2.2))) else (oculusref04_Cells.j0 k ([] : List (S23)) true a0_0 a0_1 a0_2 a0_3 bt102.1 bt102.2.1 bt102.2.2.1 bt102.2.2.2)))
def oculusref04_Cells.T3 : Bool × List (List Nat × List Nat) := (true, [([], []), ([0], [0]), ([1], [1]), ([2, 1], [2]), ([3], [3]), ([4, 3, 3], [3, 4]), ([3], [3]), ([6, 5, 3], [3, 6]), ([5, 7, 3], [3, 5, 7]), ([8, 3], [3, 8]), ([3, 9], [3, 9])])
def oculusref04_Cells.B3 : List Nat := [0, 1, 3, 7, 15, 31, 15, 127, 255, 511, 1023]
theorem oculusref04_Cells.tab3 : rtab .any (opsOf Tryd.f6 3) = oculusref04_Cells.T3 := by kernel_rfl
theorem oculusref04_Cells.bits3 : waitsOk oculusref04_Cells.T3.2 oculusref04_Cells.B3 = true := by kernel_rfl
set_option maxHeartbeats 8000000 in
set_option maxRecDepth 100000 in
theorem oculusref04_Cells.calls (k : Nat) (a0_0 : Int) (a0_1 : Int) (a0_2 : Int) (a0_3 : Int) (r : List (S23)) (w : World) (h : oculusref04_Cells.f k a0_0 a0_1 a0_2 a0_3 = some r) :
  Calls Tryd.prog 6 #[.agg #[.int .i64 a0_0, .int .i64 a0_1, .int .i64 a0_2, .int .i64 a0_3]] w fun e w' => ∃ v0_ : Value, e = .returned (v0_) ∧ Kd.R k23 23 w' w.heap.size (fun _ => True) v0_ r ∧ Below w.heap.size w w' := by
 have hu25 := Tryd.underlying25; have hu23 := Tryd.underlying23; have HB := Aside0.mk (Below.refl w.heap.size w)
 have H : ((oculusref04_Straight.f k a0_0 a0_1 a0_2 a0_3).bind fun bt102 => ((oculusref04_May.f a0_0 a0_1 a0_2 a0_3).bind fun t107 => (if t107 = true then ((oculusref04_Rows.f a0_0 a0_1 a0_2 a0_3).bind fun t108 => ((oculusref04_Cols.f a0_0 a0_1 a0_2 a0_3).bind fun t109 => (oculusref04_Cells.j0 k ([] : List (S23)) (decide ((wrap64 (t108 * t109)) > 1000)) a0_0 a0_1 a0_2 a0_3 bt102.1 bt102.2.1 bt102.2.2.1 bt102.2.2.2))) else (oculusref04_Cells.j0 k ([] : List (S23)) true a0_0 a0_1 a0_2 a0_3 bt102.1 bt102.2.1 bt102.2.2.1 bt102.2.2.2)))) = some r := h
 clear h; replace H := Option.bind_eq_some_iff.mp H; obtain ⟨⟨t102, t103, t104, t105⟩, A20, H⟩ := H
 replace H : ((oculusref04_May.f a0_0 a0_1 a0_2 a0_3).bind fun t107 => (if t107 = true then ((oculusref04_Rows.f a0_0 a0_1 a0_2 a0_3).bind fun t108 => ((oculusref04_Cols.f a0_0 a0_1 a0_2 a0_3).bind fun t109 => (oculusref04_Cells.j0 k ([] : List (S23)) (decide ((wrap64 (t108 * t109)) > 1000)) a0_0 a0_1 a0_2 a0_3 t102 t103 t104 t105))) else (oculusref04_Cells.j0 k ([] : List (S23)) true a0_0 a0_1 a0_2 a0_3 t102 t103 t104 t105))) = some r := H
 have A2 := Aside0.mk A20; clear A20; have HC3 := Aside0.mk H; clear H
 go_enter Tryd.func6, Tryd.ntmps6
 go_upto_region 3 with (first | ((with_reducible refine gate_dst (N:=1) rfl ?_); refine be_ (N:=1) (cs := #[.int .i64 a0_0, .int .i64 a0_1, .int .i64 a0_2, .int .i64 a0_3]) (t:=25) ?_; intro gb101 hg w4 hbox hb; have BK101 := Aside0.mk (hbox); have GW101 := hs_ HB hg; have GE101 := hs_ HB hg; replace HB := bs_ HB hb; clear hb hbox hg; have hcz5_0 : w4.cell? ⟨gb101, 0, none⟩ = some (.int .i64 a0_0) := bc_ BK101 0 rfl; have hcz5_1 : w4.cell? ⟨gb101, 1, none⟩ = some (.int .i64 a0_1) := bc_ BK101 1 rfl; have hcz5_2 : w4.cell? ⟨gb101, 2, none⟩ = some (.int .i64 a0_2) := bc_ BK101 2 rfl; have hcz5_3 : w4.cell? ⟨gb101, 3, none⟩ = some (.int .i64 a0_3) := bc_ BK101 3 rfl; have hfz5_0 := blk_frozen BK101.out 0; have hfz5_1 := blk_frozen BK101.out 1; have hfz5_2 := blk_frozen BK101.out 2; have hfz5_3 := blk_frozen BK101.out 3) | ((with_reducible refine gate_callee (f:=12) rfl ?_); refine gL_ (some 8) rfl rfl Tryd.func12 rfl #[.agg #[.int .i64 a0_0, .int .i64 a0_1, .int .i64 a0_2, .int .i64 a0_3]] rfl ?_; (with_reducible refine (oculusref04_Straight.calls k a0_0 a0_1 a0_2 a0_3 t102 t103 t104 t105 _ A2.out).mono ?_); rintro e w6 ⟨rfl, hb⟩; refine ⟨_, rfl, ?_⟩; replace BK101 := bb_ BK101 hb; replace HB := bs_ HB hb; (try clear hb); (try clear hb2); (try clear hk); (try clear hi)) | ((with_reducible refine gate_dst (N:=4) rfl ?_); refine be_ (N:=4) (cs := #[.int .i64 0, .int .i64 0, .int .i64 0, .int .i64 0]) (t:=25) ?_; intro gb106 hg w7 hbox hb; have BK106 := Aside0.mk (hbox); have GW106 := hs_ HB hg; have GE106 := hs_ HB hg; have NB101_106 := hl_ BK101 hg; have NB106_101 := hr_ BK101 hg; replace BK101 := bb_ BK101 hb; replace HB := bs_ HB hb; clear hb hbox hg; have hnb8 := NB106_101.out; have hnc8 := NB101_106.out; have hcz9_0 : w7.cell? ⟨gb106, 0, none⟩ = some (.int .i64 0) := bc_ BK106 0 rfl; have hcz9_1 : w7.cell? ⟨gb106, 1, none⟩ = some (.int .i64 0) := bc_ BK106 1 rfl; have hcz9_2 : w7.cell? ⟨gb106, 2, none⟩ = some (.int .i64 0) := bc_ BK106 2 rfl; have hcz9_3 : w7.cell? ⟨gb106, 3, none⟩ = some (.int .i64 0) := bc_ BK106 3 rfl; have hfz9_0 := blk_frozen BK106.out 0; have hfz9_1 := blk_frozen BK106.out 1; have hfz9_2 := blk_frozen BK106.out 2; have hfz9_3 := blk_frozen BK106.out 3))
 (try simp only [q_])
 go_cut [19] (fun v19 wc => ∃ (kq : Nat) (x19_2 : Bool), v19 = .bool x19_2 ∧ Aside0 (oculusref04_Cells.j0 kq ([] : List (S23)) x19_2 a0_0 a0_1 a0_2 a0_3 t102 t103 t104 t105 = some r) ∧ Aside0 (kq ≤ k) ∧ Aside0 (Kd.R k23 23 wc w.heap.size (fun _ => True) (.slice none 0 0) ([] : List (S23))) ∧ Aside0 (wc.heap[gb101]? = some (.cells #[.int .i64 a0_0, .int .i64 a0_1, .int .i64 a0_2, .int .i64 a0_3] 25 (0, 0))) ∧ Aside0 (wc.heap[gb106]? = some (.cells #[.int .i64 t102, .int .i64 t103, .int .i64 t104, .int .i64 t105] 25 (0, 0))) ∧ Aside0 (Below w.heap.size w wc))
 case first =>
  have H := HC3.out; clear HC3; replace H := Option.bind_eq_some_iff.mp H; obtain ⟨t107, A100, H⟩ := H
  replace H : (if t107 = true then ((oculusref04_Rows.f a0_0 a0_1 a0_2 a0_3).bind fun t108 => ((oculusref04_Cols.f a0_0 a0_1 a0_2 a0_3).bind fun t109 => (oculusref04_Cells.j0 k ([] : List (S23)) (decide ((wrap64 (t108 * t109)) > 1000)) a0_0 a0_1 a0_2 a0_3 t102 t103 t104 t105))) else (oculusref04_Cells.j0 k ([] : List (S23)) true a0_0 a0_1 a0_2 a0_3 t102 t103 t104 t105)) = some r := H
  have A10 := Aside0.mk A100; clear A100
  by_cases c11 : t107 = true
  ·subst c11
   have H1 : ((oculusref04_Rows.f a0_0 a0_1 a0_2 a0_3).bind fun t108 => ((oculusref04_Cols.f a0_0 a0_1 a0_2 a0_3).bind fun t109 => (oculusref04_Cells.j0 k ([] : List (S23)) (decide ((wrap64 (t108 * t109)) > 1000)) a0_0 a0_1 a0_2 a0_3 t102 t103 t104 t105))) = some r := by rw [if_pos rfl] at H; exact H
   clear H; have H := H1; clear H1; replace H := Option.bind_eq_some_iff.mp H; obtain ⟨t108, A120, H⟩ := H
   replace H : ((oculusref04_Cols.f a0_0 a0_1 a0_2 a0_3).bind fun t109 => (oculusref04_Cells.j0 k ([] : List (S23)) (decide ((wrap64 (t108 * t109)) > 1000)) a0_0 a0_1 a0_2 a0_3 t102 t103 t104 t105)) = some r := H
   have A12 := Aside0.mk A120; clear A120; replace H := Option.bind_eq_some_iff.mp H; obtain ⟨t109, A130, H⟩ := H
   replace H : (oculusref04_Cells.j0 k ([] : List (S23)) (decide ((wrap64 (t108 * t109)) > 1000)) a0_0 a0_1 a0_2 a0_3 t102 t103 t104 t105) = some r := H
   have A13 := Aside0.mk A130; clear A130
   have H' := Aside0.mk H
   clear H
   try go_wp2
   have n0_ : Aside0 (((((w7.setCell ⟨gb106, 0, none⟩ (.int .i64 t102)).setCell ⟨gb106, 1, none⟩ (.int .i64 t103)).setCell ⟨gb106, 2, none⟩ (.int .i64 t104)).setCell ⟨gb106, 3, none⟩ (.int .i64 t105)).heap[gb101]? = some (.cells #[.int .i64 a0_0, .int .i64 a0_1, .int .i64 a0_2, .int .i64 a0_3] 25 (0, 0))) := ⟨by refine pf_ ?_ NB101_106.out; refine blk_far ?_ NB101_106.out _; refine blk_far ?_ NB101_106.out _; refine blk_far ?_ NB101_106.out _; exact pkx BK101⟩; have n1_ : Aside0 (((((w7.setCell ⟨gb106, 0, none⟩ (.int .i64 t102)).setCell ⟨gb106, 1, none⟩ (.int .i64 t103)).setCell ⟨gb106, 2, none⟩ (.int .i64 t104)).setCell ⟨gb106, 3, none⟩ (.int .i64 t105)).heap[gb106]? = some (.cells #[.int .i64 t102, .int .i64 t103, .int .i64 t104, .int .i64 t105] 25 (0, 0))) := ⟨by refine pp_ (cs := #[.int .i64 t102, .int .i64 t103, .int .i64 t104, .int .i64 0]) 3 ?_ rfl; refine blk_put (cs := #[.int .i64 t102, .int .i64 t103, .int .i64 0, .int .i64 0]) ?_ 2 _ rfl; refine blk_put (cs := #[.int .i64 t102, .int .i64 0, .int .i64 0, .int .i64 0]) ?_ 1 _ rfl; refine blk_put (cs := #[.int .i64 0, .int .i64 0, .int .i64 0, .int .i64 0]) ?_ 0 _ rfl; exact pkx BK106⟩
   have n2_ : Aside0 (Below w.heap.size w ((((w7.setCell ⟨gb106, 0, none⟩ (.int .i64 t102)).setCell ⟨gb106, 1, none⟩ (.int .i64 t103)).setCell ⟨gb106, 2, none⟩ (.int .i64 t104)).setCell ⟨gb106, 3, none⟩ (.int .i64 t105))) := ⟨by repeat (first | (with_reducible first | exact HB.out | apply below_alloc | apply pw_below_drewN | apply below_drew1 | refine below_set ?_ GE101.out | refine below_set ?_ GE106.out) | exact HB.out)⟩; (try clear BK101); (try clear BK106); (try clear HB)
   generalize ((((w7.setCell ⟨gb106, 0, none⟩ (.int .i64 t102)).setCell ⟨gb106, 1, none⟩ (.int .i64 t103)).setCell ⟨gb106, 2, none⟩ (.int .i64 t104)).setCell ⟨gb106, 3, none⟩ (.int .i64 t105)) = w14 at n0_ n1_ n2_ ⊢; have BK101 := n0_; have BK106 := n1_; have HB := n2_; clear n0_ n1_ n2_; (try (rw [drewN_self w14]; generalize hq_ : World.drewN w14 _ = w14; have n0_ : Aside0 (w14.heap[gb101]? = some (.cells #[.int .i64 a0_0, .int .i64 a0_1, .int .i64 a0_2, .int .i64 a0_3] 25 (0, 0))) := ⟨by rw [← hq_]; exact (pkx BK101)⟩; have n1_ : Aside0 (w14.heap[gb106]? = some (.cells #[.int .i64 t102, .int .i64 t103, .int .i64 t104, .int .i64 t105] 25 (0, 0))) := ⟨by rw [← hq_]; exact (pkx BK106)⟩; have n2_ : Aside0 (Below w.heap.size w w14) := ⟨by rw [← hq_]; exact (pbx HB)⟩; clear BK101 BK106 HB hq_; have BK101 := n0_; have BK106 := n1_; have HB := n2_; clear n0_ n1_ n2_))
   replace BK101 := Aside0.mk (blk_drew BK101.out); replace BK106 := Aside0.mk (blk_drew BK106.out); replace HB := Aside0.mk (below_drew1 HB.out)
   refine start_ (n:=11) (S := fun w' => w'.cell? ⟨gb101, 0, none⟩ = some (.int .i64 a0_0) ∧ w'.cell? ⟨gb101, 1, none⟩ = some (.int .i64 a0_1) ∧ w'.cell? ⟨gb101, 2, none⟩ = some (.int .i64 a0_2) ∧ w'.cell? ⟨gb101, 3, none⟩ = some (.int .i64 a0_3)) (ds := []) #[F,F,F,F,F,F,F,F,F,F,F] (by kernel_rfl) rfl rfl ⟨bc_ BK101 0 rfl, bc_ BK101 1 rfl, bc_ BK101 2 rfl, bc_ BK101 3 rfl⟩ (fun hHeld => ?_); refine with_tabW oculusref04_Cells.tab3 oculusref04_Cells.bits3 (fun HT_ HW_ => ?_)
   generalize w14.drew = w15 at BK101 BK106 HB hHeld ⊢; refine take_ (i:=0) (N:=some 9) (v:=?_) (a':=?_) ⟨m_ 11 1⟩ rfl rfl (take_ofW HT_.out HW_.out (by kernel_rfl)) (fun _ _ _ h=>h) (Or.inl ⟨rfl, ?_⟩) hHeld ?_ ?_; rotate_left
   ·rintro w' ⟨s0, s1, s2, s3⟩; go_simp; with_reducible rfl
   rotate_left
   ·simp only [q_, i64_w, i32_w]; rfl
   refine one_ (i:=1) (N:=some 10) ⟨m_ 11 3⟩ rfl rfl (one_of HT_.out (by kernel_rfl)) (by decide) (fun K hK => ?_); refine goes_ Tryd.func13 (by kernel_rfl) rfl #[.agg #[.int .i64 a0_0, .int .i64 a0_1, .int .i64 a0_2, .int .i64 a0_3]] (by rfl) rfl rfl (by (try simp only [List.map_toArray, List.map_cons, List.map_nil]); first | done | rfl | (simp only [List.length_drop, List.length_take]; rfl)) ?_; with_reducible refine (oculusref04_May.calls a0_0 a0_1 a0_2 a0_3 true _ A10.out).mono ?_; rintro e w16 ⟨rfl, hb⟩; refine ⟨_, rfl, ?_⟩
   replace BK101 := bb_ BK101 hb; replace BK106 := bb_ BK106 hb; replace HB := bs_ HB hb; (try clear hb); (try clear hb2); (try clear hk); (try clear hi); refine hK.out _ _ ⟨bc_ BK101 0 rfl, bc_ BK101 1 rfl, bc_ BK101 2 rfl, bc_ BK101 3 rfl⟩ (fun hHeld => ?_); clear hK K; refine norm_ (a':=?_) ?_ ?_; rotate_left
   ·show Act.put _ (some 10) _ = _; simp only [q_, i64_w, i32_w]; rfl
   refine pure_ (i:=2) (N:=some 11) (v:=?_) (a':=?_) ⟨m_ 11 7⟩ rfl rfl (any_of HT_.out (by kernel_rfl)) (fun _ _ _ h=>h) (Or.inl ⟨rfl, ?_⟩) ?_ ?_; rotate_left
   ·intro w'; go_simp; with_reducible rfl
   rotate_left
   ·simp only [q_, i64_w, i32_w]; rfl
   refine pure_ (i:=3) (N:=some 12) (v:=?_) (a':=?_) ⟨m_ 11 15⟩ rfl rfl (any_of HT_.out (by kernel_rfl)) (fun _ _ _ h=>h) (Or.inl ⟨rfl, ?_⟩) ?_ ?_; rotate_left
   ·intro w'; go_simp; with_reducible rfl
   rotate_left
   ·simp only [q_, i64_w, i32_w]; rfl
   refine take_ (i:=4) (N:=some 13) (v:=?_) (a':=?_) ⟨m_ 11 31⟩ rfl rfl (take_ofW HT_.out HW_.out (by kernel_rfl)) (fun _ _ _ h=>h) (Or.inl ⟨rfl, ?_⟩) hHeld ?_ ?_; rotate_left
   ·rintro w' ⟨s0, s1, s2, s3⟩; go_simp; with_reducible rfl
   rotate_left
   ·simp only [q_, i64_w, i32_w]; rfl
   refine take_ (i:=6) (N:=some 15) (v:=?_) (a':=?_) ⟨m_ 11 95⟩ rfl rfl (take_ofW HT_.out HW_.out (by kernel_rfl)) (fun _ _ _ h=>h) (Or.inl ⟨rfl, ?_⟩) hHeld ?_ ?_; rotate_left
   ·rintro w' ⟨s0, s1, s2, s3⟩; go_simp; with_reducible rfl
   rotate_left
   ·simp only [q_, i64_w, i32_w]; rfl
   refine one_ (i:=5) (N:=some 14) ⟨m_ 11 127⟩ rfl rfl (one_of HT_.out (by kernel_rfl)) (by decide) (fun K hK => ?_); refine goes_ Tryd.func14 (by kernel_rfl) rfl #[.agg #[.int .i64 a0_0, .int .i64 a0_1, .int .i64 a0_2, .int .i64 a0_3]] (by rfl) rfl rfl (by (try simp only [List.map_toArray, List.map_cons, List.map_nil]); first | done | rfl | (simp only [List.length_drop, List.length_take]; rfl)) ?_; with_reducible refine (oculusref04_Rows.calls a0_0 a0_1 a0_2 a0_3 t108 _ A12.out).mono ?_; rintro e w17 ⟨rfl, hb⟩; refine ⟨_, rfl, ?_⟩
   replace BK101 := bb_ BK101 hb; replace BK106 := bb_ BK106 hb; replace HB := bs_ HB hb; (try clear hb); (try clear hb2); (try clear hk); (try clear hi); refine hK.out _ _ ⟨bc_ BK101 0 rfl, bc_ BK101 1 rfl, bc_ BK101 2 rfl, bc_ BK101 3 rfl⟩ (fun hHeld => ?_); clear hK K; refine norm_ (a':=?_) ?_ ?_; rotate_left
   ·show Act.put _ (some 14) _ = _; simp only [q_, i64_w, i32_w]; rfl
   refine one_ (i:=7) (N:=some 16) ⟨m_ 11 255⟩ rfl rfl (one_of HT_.out (by kernel_rfl)) (by decide) (fun K hK => ?_); refine goes_ Tryd.func15 (by kernel_rfl) rfl #[.agg #[.int .i64 a0_0, .int .i64 a0_1, .int .i64 a0_2, .int .i64 a0_3]] (by rfl) rfl rfl (by (try simp only [List.map_toArray, List.map_cons, List.map_nil]); first | done | rfl | (simp only [List.length_drop, List.length_take]; rfl)) ?_; with_reducible refine (oculusref04_Cols.calls a0_0 a0_1 a0_2 a0_3 t109 _ A13.out).mono ?_; rintro e w18 ⟨rfl, hb⟩; refine ⟨_, rfl, ?_⟩
   replace BK101 := bb_ BK101 hb; replace BK106 := bb_ BK106 hb; replace HB := bs_ HB hb; (try clear hb); (try clear hb2); (try clear hk); (try clear hi); refine hK.out _ _ ⟨bc_ BK101 0 rfl, bc_ BK101 1 rfl, bc_ BK101 2 rfl, bc_ BK101 3 rfl⟩ (fun hHeld => ?_); clear hK K; refine norm_ (a':=?_) ?_ ?_; rotate_left
   ·show Act.put _ (some 16) _ = _; simp only [q_, i64_w, i32_w]; rfl
   refine pure_ (i:=8) (N:=some 17) (v:=?_) (a':=?_) ⟨m_ 11 511⟩ rfl rfl (any_of HT_.out (by kernel_rfl)) (fun _ _ _ h=>h) (Or.inl ⟨rfl, ?_⟩) ?_ ?_; rotate_left
   ·intro w'; go_simp; with_reducible rfl
   rotate_left
   ·simp only [q_, i64_w, i32_w]; rfl
   refine pure_ (i:=9) (N:=some 18) (v:=?_) (a':=?_) ⟨m_ 11 1023⟩ rfl rfl (any_of HT_.out (by kernel_rfl)) (fun _ _ _ h=>h) (Or.inl ⟨rfl, ?_⟩) ?_ ?_; rotate_left
   ·intro w'; go_simp; with_reducible rfl
   rotate_left
   ·simp only [q_, i64_w, i32_w]; rfl
   refine pure_ (i:=10) (N:=some 19) (v:=?_) (a':=?_) ⟨m_ 11 2047⟩ rfl rfl (any_of HT_.out (by kernel_rfl)) (fun _ _ _ h=>h) (Or.inl ⟨rfl, ?_⟩) ?_ ?_; rotate_left
   ·intro w'; go_simp; with_reducible rfl
   rotate_left
   ·simp only [q_, i64_w, i32_w]; rfl
   refine done_ (done_of HT_.out (by kernel_rfl)) ?_
   try go_wp2
   go_meet
   case rel => exact ⟨_, (decide ((wrap64 (t108 * t109)) > 1000)), (by first | rfl | (simp; done) | (simp [*]; done) | (cases t108 <;> simp; done) | (cases t109 <;> simp; done)), H', ⟨by first | omega | exact Nat.le_refl _⟩, ⟨by first | exact Kd.R_nil _ _ _ _ _ | exact Kd.N_nil _ _ _ _ _ | exact Kd.V_nil _ _ _ _ _ | exact Kd.Q_nil _ _ _ _ _ | exact Kd.S_nil _ _ _ _ _⟩, ⟨pkx BK101⟩, ⟨pkx BK106⟩, ⟨pbx HB⟩⟩
  ·replace c11 := Bool.eq_false_iff.mpr c11; subst c11
   have H1 : (oculusref04_Cells.j0 k ([] : List (S23)) true a0_0 a0_1 a0_2 a0_3 t102 t103 t104 t105) = some r := by rw [if_neg (show ¬ (false = true) by decide)] at H; exact H
   clear H; have H := H1; clear H1
   have H' := Aside0.mk H
   clear H
   try go_wp2
   have n0_ : Aside0 (((((w7.setCell ⟨gb106, 0, none⟩ (.int .i64 t102)).setCell ⟨gb106, 1, none⟩ (.int .i64 t103)).setCell ⟨gb106, 2, none⟩ (.int .i64 t104)).setCell ⟨gb106, 3, none⟩ (.int .i64 t105)).heap[gb101]? = some (.cells #[.int .i64 a0_0, .int .i64 a0_1, .int .i64 a0_2, .int .i64 a0_3] 25 (0, 0))) := ⟨by refine pf_ ?_ NB101_106.out; refine blk_far ?_ NB101_106.out _; refine blk_far ?_ NB101_106.out _; refine blk_far ?_ NB101_106.out _; exact pkx BK101⟩; have n1_ : Aside0 (((((w7.setCell ⟨gb106, 0, none⟩ (.int .i64 t102)).setCell ⟨gb106, 1, none⟩ (.int .i64 t103)).setCell ⟨gb106, 2, none⟩ (.int .i64 t104)).setCell ⟨gb106, 3, none⟩ (.int .i64 t105)).heap[gb106]? = some (.cells #[.int .i64 t102, .int .i64 t103, .int .i64 t104, .int .i64 t105] 25 (0, 0))) := ⟨by refine pp_ (cs := #[.int .i64 t102, .int .i64 t103, .int .i64 t104, .int .i64 0]) 3 ?_ rfl; refine blk_put (cs := #[.int .i64 t102, .int .i64 t103, .int .i64 0, .int .i64 0]) ?_ 2 _ rfl; refine blk_put (cs := #[.int .i64 t102, .int .i64 0, .int .i64 0, .int .i64 0]) ?_ 1 _ rfl; refine blk_put (cs := #[.int .i64 0, .int .i64 0, .int .i64 0, .int .i64 0]) ?_ 0 _ rfl; exact pkx BK106⟩
   have n2_ : Aside0 (Below w.heap.size w ((((w7.setCell ⟨gb106, 0, none⟩ (.int .i64 t102)).setCell ⟨gb106, 1, none⟩ (.int .i64 t103)).setCell ⟨gb106, 2, none⟩ (.int .i64 t104)).setCell ⟨gb106, 3, none⟩ (.int .i64 t105))) := ⟨by repeat (first | (with_reducible first | exact HB.out | apply below_alloc | apply pw_below_drewN | apply below_drew1 | refine below_set ?_ GE101.out | refine below_set ?_ GE106.out) | exact HB.out)⟩; (try clear BK101); (try clear BK106); (try clear HB)
   generalize ((((w7.setCell ⟨gb106, 0, none⟩ (.int .i64 t102)).setCell ⟨gb106, 1, none⟩ (.int .i64 t103)).setCell ⟨gb106, 2, none⟩ (.int .i64 t104)).setCell ⟨gb106, 3, none⟩ (.int .i64 t105)) = w19 at n0_ n1_ n2_ ⊢; have BK101 := n0_; have BK106 := n1_; have HB := n2_; clear n0_ n1_ n2_; (try (rw [drewN_self w19]; generalize hq_ : World.drewN w19 _ = w19; have n0_ : Aside0 (w19.heap[gb101]? = some (.cells #[.int .i64 a0_0, .int .i64 a0_1, .int .i64 a0_2, .int .i64 a0_3] 25 (0, 0))) := ⟨by rw [← hq_]; exact (pkx BK101)⟩; have n1_ : Aside0 (w19.heap[gb106]? = some (.cells #[.int .i64 t102, .int .i64 t103, .int .i64 t104, .int .i64 t105] 25 (0, 0))) := ⟨by rw [← hq_]; exact (pkx BK106)⟩; have n2_ : Aside0 (Below w.heap.size w w19) := ⟨by rw [← hq_]; exact (pbx HB)⟩; clear BK101 BK106 HB hq_; have BK101 := n0_; have BK106 := n1_; have HB := n2_; clear n0_ n1_ n2_))
   replace BK101 := Aside0.mk (blk_drew BK101.out); replace BK106 := Aside0.mk (blk_drew BK106.out); replace HB := Aside0.mk (below_drew1 HB.out)
   refine start_ (n:=11) (S := fun w' => w'.cell? ⟨gb101, 0, none⟩ = some (.int .i64 a0_0) ∧ w'.cell? ⟨gb101, 1, none⟩ = some (.int .i64 a0_1) ∧ w'.cell? ⟨gb101, 2, none⟩ = some (.int .i64 a0_2) ∧ w'.cell? ⟨gb101, 3, none⟩ = some (.int .i64 a0_3)) (ds := []) #[F,F,F,F,F,F,F,F,F,F,F] (by kernel_rfl) rfl rfl ⟨bc_ BK101 0 rfl, bc_ BK101 1 rfl, bc_ BK101 2 rfl, bc_ BK101 3 rfl⟩ (fun hHeld => ?_); refine with_tabW oculusref04_Cells.tab3 oculusref04_Cells.bits3 (fun HT_ HW_ => ?_)
   generalize w19.drew = w20 at BK101 BK106 HB hHeld ⊢; refine take_ (i:=0) (N:=some 9) (v:=?_) (a':=?_) ⟨m_ 11 1⟩ rfl rfl (take_ofW HT_.out HW_.out (by kernel_rfl)) (fun _ _ _ h=>h) (Or.inl ⟨rfl, ?_⟩) hHeld ?_ ?_; rotate_left
   ·rintro w' ⟨s0, s1, s2, s3⟩; go_simp; with_reducible rfl
   rotate_left
   ·simp only [q_, i64_w, i32_w]; rfl
   refine one_ (i:=1) (N:=some 10) ⟨m_ 11 3⟩ rfl rfl (one_of HT_.out (by kernel_rfl)) (by decide) (fun K hK => ?_); refine goes_ Tryd.func13 (by kernel_rfl) rfl #[.agg #[.int .i64 a0_0, .int .i64 a0_1, .int .i64 a0_2, .int .i64 a0_3]] (by rfl) rfl rfl (by (try simp only [List.map_toArray, List.map_cons, List.map_nil]); first | done | rfl | (simp only [List.length_drop, List.length_take]; rfl)) ?_; with_reducible refine (oculusref04_May.calls a0_0 a0_1 a0_2 a0_3 false _ A10.out).mono ?_; rintro e w21 ⟨rfl, hb⟩; refine ⟨_, rfl, ?_⟩
   replace BK101 := bb_ BK101 hb; replace BK106 := bb_ BK106 hb; replace HB := bs_ HB hb; (try clear hb); (try clear hb2); (try clear hk); (try clear hi); refine hK.out _ _ ⟨bc_ BK101 0 rfl, bc_ BK101 1 rfl, bc_ BK101 2 rfl, bc_ BK101 3 rfl⟩ (fun hHeld => ?_); clear hK K; refine norm_ (a':=?_) ?_ ?_; rotate_left
   ·show Act.put _ (some 10) _ = _; simp only [q_, i64_w, i32_w]; rfl
   refine pure_ (i:=2) (N:=some 11) (v:=?_) (a':=?_) ⟨m_ 11 7⟩ rfl rfl (any_of HT_.out (by kernel_rfl)) (fun _ _ _ h=>h) (Or.inl ⟨rfl, ?_⟩) ?_ ?_; rotate_left
   ·intro w'; go_simp; with_reducible rfl
   rotate_left
   ·simp only [q_, i64_w, i32_w]; rfl
   refine pure_ (i:=3) (N:=some 12) (v:=?_) (a':=?_) ⟨m_ 11 15⟩ rfl rfl (any_of HT_.out (by kernel_rfl)) (fun _ _ _ h=>h) (Or.inl ⟨rfl, ?_⟩) ?_ ?_; rotate_left
   ·intro w'; go_simp; with_reducible rfl
   rotate_left
   ·simp only [q_, i64_w, i32_w]; rfl
   refine pure_ (i:=4) (N:=some 13) (v:=undef) (a':=?_) ⟨m_ 11 31⟩ rfl rfl (any_of HT_.out (by kernel_rfl)) (fun _ _ _ h=>h) (Or.inr ⟨by rfl, rfl⟩) ?_ ?_; rotate_left
   ·simp only [q_, i64_w, i32_w]; rfl
   refine pure_ (i:=5) (N:=some 14) (v:=undef) (a':=?_) ⟨m_ 11 63⟩ rfl rfl (any_of HT_.out (by kernel_rfl)) (fun _ _ _ h=>h) (Or.inr ⟨by rfl, rfl⟩) ?_ ?_; rotate_left
   ·simp only [q_, i64_w, i32_w]; rfl
   refine pure_ (i:=6) (N:=some 15) (v:=undef) (a':=?_) ⟨m_ 11 127⟩ rfl rfl (any_of HT_.out (by kernel_rfl)) (fun _ _ _ h=>h) (Or.inr ⟨by rfl, rfl⟩) ?_ ?_; rotate_left
   ·simp only [q_, i64_w, i32_w]; rfl
   refine pure_ (i:=7) (N:=some 16) (v:=undef) (a':=?_) ⟨m_ 11 255⟩ rfl rfl (any_of HT_.out (by kernel_rfl)) (fun _ _ _ h=>h) (Or.inr ⟨by rfl, rfl⟩) ?_ ?_; rotate_left
   ·simp only [q_, i64_w, i32_w]; rfl
   refine pure_ (i:=8) (N:=some 17) (v:=undef) (a':=?_) ⟨m_ 11 511⟩ rfl rfl (any_of HT_.out (by kernel_rfl)) (fun _ _ _ h=>h) (Or.inr ⟨by rfl, rfl⟩) ?_ ?_; rotate_left
   ·simp only [q_, i64_w, i32_w]; rfl
   refine pure_ (i:=9) (N:=some 18) (v:=undef) (a':=?_) ⟨m_ 11 1023⟩ rfl rfl (any_of HT_.out (by kernel_rfl)) (fun _ _ _ h=>h) (Or.inr ⟨by rfl, rfl⟩) ?_ ?_; rotate_left
   ·simp only [q_, i64_w, i32_w]; rfl
   refine pure_ (i:=10) (N:=some 19) (v:=?_) (a':=?_) ⟨m_ 11 2047⟩ rfl rfl (any_of HT_.out (by kernel_rfl)) (fun _ _ _ h=>h) (Or.inl ⟨rfl, ?_⟩) ?_ ?_; rotate_left
   ·intro w'; go_simp; with_reducible rfl
   rotate_left
   ·simp only [q_, i64_w, i32_w]; rfl
   refine done_ (done_of HT_.out (by kernel_rfl)) ?_
   try go_wp2
   go_meet
   case rel => exact ⟨_, (true), (by first | rfl | (simp; done) | (simp [*]; done)), H', ⟨by first | omega | exact Nat.le_refl _⟩, ⟨by first | exact Kd.R_nil _ _ _ _ _ | exact Kd.N_nil _ _ _ _ _ | exact Kd.V_nil _ _ _ _ _ | exact Kd.Q_nil _ _ _ _ _ | exact Kd.S_nil _ _ _ _ _⟩, ⟨pkx BK101⟩, ⟨pkx BK106⟩, ⟨pbx HB⟩⟩
 case rest =>
  clear HC3; (try clear c1); (try clear p2); (try clear c6); (try clear p6); (try clear c8); (try clear c11); (try clear c12); (try clear c13); (try clear c14); (try clear c15); (try clear hcz5_0); (try clear hcz5_1); (try clear hcz5_2); (try clear hcz5_3); (try clear hcz9_0); (try clear hcz9_1); (try clear hcz9_2); (try clear hcz9_3); (try clear hfz5_0); (try clear hfz5_1); (try clear hfz5_2); (try clear hfz5_3); (try clear hfz9_0); (try clear hfz9_1); (try clear hfz9_2); (try clear hfz9_3); obtain ⟨kq, x19_2, rfl, HA, HJ2, HO_3, BK101, BK106, HB⟩ := hcut
  cases kq with
  | zero => exact absurd HA.out (by simp [oculusref04_Cells.j0])
  | succ kj2 =>
   have H := HA.out; clear HA
   simp only [oculusref04_Cells.j0] at H
   by_cases c22 : x19_2 = true
   ·subst c22
    have H1 : (some ([] : List (S23))) = some r := by rw [if_pos rfl] at H; exact H
    clear H; have H := H1; clear H1; obtain rfl := Option.some.inj H
    go_wp2
    go_ret
    exact ⟨_, by first | rfl | (simp [errW_none, errW_some] <;> rfl) | (simp [*, errW_none, errW_some] <;> rfl), by (with_reducible repeat (first | apply Kd.R_alloc | apply Kd.R_drewN | apply Kd.R_drew)); exact HO_3.out, pbx HB⟩
   ·replace c22 := Bool.eq_false_iff.mpr c22; subst c22
    have H1 : (oculusref04_Cells.l0 kj2 ([] : List (S23)) 0 a0_0 a0_1 a0_2 a0_3 t102 t103 t104 t105) = some r := by rw [if_neg (show ¬ (false = true) by decide)] at H; exact H
    clear H; have H := H1; clear H1
    have H' := Aside0.mk H
    clear H
    go_wp2
    go_loopg [3, 5] kj2 (fun kq v3 v5 w' => ∃ (x3_2 : List (S23)) (x5_2 : Int), v5 = .int .i64 x5_2 ∧ Aside0 (oculusref04_Cells.l0 kq x3_2 x5_2 a0_0 a0_1 a0_2 a0_3 t102 t103 t104 t105 = some r) ∧ Aside0 (kq ≤ kj2) ∧ Aside0 (Kd.R k23 23 w' w.heap.size (fun _ => True) v3 x3_2) ∧ Aside0 (w'.heap[gb101]? = some (.cells #[.int .i64 a0_0, .int .i64 a0_1, .int .i64 a0_2, .int .i64 a0_3] 25 (0, 0))) ∧ Aside0 (w'.heap[gb106]? = some (.cells #[.int .i64 t102, .int .i64 t103, .int .i64 t104, .int .i64 t105] 25 (0, 0))) ∧ Aside0 (Below w.heap.size w w'))
    case atStart => exact ⟨(([] : List (S23))), (0), (by first | rfl | (simp; done) | (simp [*]; done)), H', ⟨Nat.le_refl _⟩, ⟨by (with_reducible repeat (first | apply Kd.R_alloc | apply Kd.R_drewN | apply Kd.R_drew)); exact HO_3.out⟩, ⟨pkx BK101⟩, ⟨pkx BK106⟩, ⟨pbx HB⟩⟩
    case round =>
     clear H'; (try clear c1); (try clear c2); (try clear p2); (try clear c6); (try clear p6); (try clear c8); (try clear c11); (try clear c12); (try clear c13); (try clear c14); (try clear c15); (try clear c22); (try clear hcz5_0); (try clear hcz5_1); (try clear hcz5_2); (try clear hcz5_3); (try clear hcz9_0); (try clear hcz9_1); (try clear hcz9_2); (try clear hcz9_3); (try clear hfz5_0); (try clear hfz5_1); (try clear hfz5_2); (try clear hfz5_3); (try clear hfz9_0); (try clear hfz9_1); (try clear hfz9_2); (try clear hfz9_3); (try clear p2); (try clear p6); obtain ⟨x3_2, x5_2, rfl, HA, HK2, HO_3, BK101, BK106, HB⟩ := hrel
     cases gk with
     | zero => exact absurd HA.out (by simp [oculusref04_Cells.l0])
     | succ k2 =>
      have H := HA.out; clear HA
      simp only [oculusref04_Cells.l0] at H
      replace H := Option.bind_eq_some_iff.mp H; obtain ⟨t110, A230, H⟩ := H
      replace H : (if x5_2 < t110 then (oculusref04_Cells.l1 k2 x3_2 x5_2 0 a0_0 a0_1 a0_2 a0_3 t102 t103 t104 t105) else (some x3_2)) = some r := H
      have A23 := Aside0.mk A230; clear A230
      by_cases c24 : x5_2 < t110
      ·rw [if_pos c24] at H; have c24b0 : decide (x5_2 < t110) = true := decide_eq_true c24; clear c24
       have H' := Aside0.mk H
       clear H; have hnb25 := NB101_106.out; have hnc25 := NB106_101.out
       have hcz26_0 : wr.cell? ⟨gb101, 0, none⟩ = some (.int .i64 a0_0) := bc_ BK101 0 rfl
       have hcz26_1 : wr.cell? ⟨gb101, 1, none⟩ = some (.int .i64 a0_1) := bc_ BK101 1 rfl
       have hcz26_2 : wr.cell? ⟨gb101, 2, none⟩ = some (.int .i64 a0_2) := bc_ BK101 2 rfl
       have hcz26_3 : wr.cell? ⟨gb101, 3, none⟩ = some (.int .i64 a0_3) := bc_ BK101 3 rfl
       have hfz26_0 := blk_frozen BK101.out 0; have hfz26_1 := blk_frozen BK101.out 1; have hfz26_2 := blk_frozen BK101.out 2; have hfz26_3 := blk_frozen BK101.out 3
       go_wp2_with (first | ((with_reducible refine gate_callee (f:=14) rfl ?_); refine gL_ (some 23) rfl rfl Tryd.func14 rfl #[.agg #[.int .i64 a0_0, .int .i64 a0_1, .int .i64 a0_2, .int .i64 a0_3]] rfl ?_; (with_reducible refine (oculusref04_Rows.calls a0_0 a0_1 a0_2 a0_3 t110 _ A23.out).mono ?_); rintro e w27 ⟨rfl, hb⟩; refine ⟨_, rfl, ?_⟩; replace HO_3 := Aside0.mk (Kd.R_below (by (with_reducible repeat (first | apply Kd.R_alloc | apply Kd.R_drewN | apply Kd.R_drew)); exact HO_3.out) hb); replace BK101 := bb_ BK101 hb; replace BK106 := bb_ BK106 hb; replace HB := bs_ HB hb; (try clear hb); (try clear hb2); (try clear hk); (try clear hi)))
       go_loopg [3, 6] k2 (fun kq v3 v6 w' => ∃ (x3_3 : List (S23)) (x6_3 : Int), v6 = .int .i64 x6_3 ∧ Aside0 (oculusref04_Cells.l1 kq x3_3 x5_2 x6_3 a0_0 a0_1 a0_2 a0_3 t102 t103 t104 t105 = some r) ∧ Aside0 (kq ≤ k2) ∧ Aside0 (Kd.R k23 23 w' w.heap.size (fun _ => True) v3 x3_3) ∧ Aside0 (w'.heap[gb101]? = some (.cells #[.int .i64 a0_0, .int .i64 a0_1, .int .i64 a0_2, .int .i64 a0_3] 25 (0, 0))) ∧ Aside0 (w'.heap[gb106]? = some (.cells #[.int .i64 t102, .int .i64 t103, .int .i64 t104, .int .i64 t105] 25 (0, 0))) ∧ Aside0 (Below w.heap.size w w'))
       case atStart => exact ⟨(x3_2), (0), (by first | rfl | (simp; done) | (simp [*]; done)), H', ⟨Nat.le_refl _⟩, ⟨by (with_reducible repeat (first | apply Kd.R_alloc | apply Kd.R_drewN | apply Kd.R_drew)); exact HO_3.out⟩, ⟨pkx BK101⟩, ⟨pkx BK106⟩, ⟨pbx HB⟩⟩
       case round =>
        clear H'; (try clear c1); (try clear c2); (try clear p2); (try clear c6); (try clear p6); (try clear c8); (try clear c11); (try clear c12); (try clear c13); (try clear c14); (try clear c15); (try clear c22); (try clear c24); (try clear c24b0); (try clear c25); (try clear hcz26_0); (try clear hcz26_1); (try clear hcz26_2); (try clear hcz26_3); (try clear hcz5_0); (try clear hcz5_1); (try clear hcz5_2); (try clear hcz5_3); (try clear hcz9_0); (try clear hcz9_1); (try clear hcz9_2); (try clear hcz9_3); (try clear hfz26_0); (try clear hfz26_1); (try clear hfz26_2); (try clear hfz26_3); (try clear hfz5_0); (try clear hfz5_1); (try clear hfz5_2); (try clear hfz5_3); (try clear hfz9_0); (try clear hfz9_1); (try clear hfz9_2); (try clear hfz9_3); (try clear p2); (try clear p6); obtain ⟨x3_3, x6_3, rfl, HA, HK3, HO_3, BK101, BK106, HB⟩ := hrel
        cases gk with
        | zero => exact absurd HA.out (by simp [oculusref04_Cells.l1])
        | succ k3 =>
         have H := HA.out; clear HA
         simp only [oculusref04_Cells.l1] at H
         replace H := Option.bind_eq_some_iff.mp H; obtain ⟨t111, A280, H⟩ := H
         replace H : (if x6_3 < t111 then (if x3_3.length < 8796093022208 then (oculusref04_Cells.l1 k3 (x3_3 ++ [(⟨wrap64 (t102 + x5_2), wrap64 (t103 + x6_3)⟩ : S23)]) x5_2 (wrap64 (x6_3 + 1)) a0_0 a0_1 a0_2 a0_3 t102 t103 t104 t105) else (none)) else (oculusref04_Cells.l0 k3 x3_3 (wrap64 (x5_2 + 1)) a0_0 a0_1 a0_2 a0_3 t102 t103 t104 t105)) = some r := H
         have A28 := Aside0.mk A280; clear A280
         by_cases c29 : x6_3 < t111
         ·rw [if_pos c29] at H; have c29b0 : decide (x6_3 < t111) = true := decide_eq_true c29; clear c29
          by_cases c30 : x3_3.length < 8796093022208
          ·rw [if_pos c30] at H; have LMc30 := Aside0.mk c30; clear c30; obtain ⟨y112, hy112⟩ : ∃ y_ : List (S23), y_ = (x3_3 ++ [(⟨wrap64 (t102 + x5_2), wrap64 (t103 + x6_3)⟩ : S23)]) := ⟨_, rfl⟩
           replace H : (oculusref04_Cells.l1 k3 y112 x5_2 (wrap64 (x6_3 + 1)) a0_0 a0_1 a0_2 a0_3 t102 t103 t104 t105) = some r := by first | (rw [hy112]; with_reducible exact H) | (have H2_ := (Option.bind_some _ _).symm.trans H; rw [hy112]; with_reducible exact H2_) | (have H2_ := (Option.bind_some _ _).symm.trans H; with_reducible exact H2_) | with_reducible exact H | (rw [hy112]; exact H) | exact H
           have Ny112 := Aside0.mk hy112; clear hy112
           have H' := Aside0.mk H
           clear H; have hnb31 := NB101_106.out; have hnc31 := NB106_101.out
           have hcz32_0 : wr.cell? ⟨gb101, 0, none⟩ = some (.int .i64 a0_0) := bc_ BK101 0 rfl
           have hcz32_1 : wr.cell? ⟨gb101, 1, none⟩ = some (.int .i64 a0_1) := bc_ BK101 1 rfl
           have hcz32_2 : wr.cell? ⟨gb101, 2, none⟩ = some (.int .i64 a0_2) := bc_ BK101 2 rfl
           have hcz32_3 : wr.cell? ⟨gb101, 3, none⟩ = some (.int .i64 a0_3) := bc_ BK101 3 rfl
           have hfz32_0 := blk_frozen BK101.out 0; have hfz32_1 := blk_frozen BK101.out 1; have hfz32_2 := blk_frozen BK101.out 2; have hfz32_3 := blk_frozen BK101.out 3
           go_wp2_with (first | ((with_reducible refine gate_callee (f:=15) rfl ?_); refine gL_ (some 29) rfl rfl Tryd.func15 rfl #[.agg #[.int .i64 a0_0, .int .i64 a0_1, .int .i64 a0_2, .int .i64 a0_3]] rfl ?_; (with_reducible refine (oculusref04_Cols.calls a0_0 a0_1 a0_2 a0_3 t111 _ A28.out).mono ?_); rintro e w33 ⟨rfl, hb⟩; refine ⟨_, rfl, ?_⟩; replace HO_3 := Aside0.mk (Kd.R_below (by (with_reducible repeat (first | apply Kd.R_alloc | apply Kd.R_drewN | apply Kd.R_drew)); exact HO_3.out) hb); replace BK101 := bb_ BK101 hb; replace BK106 := bb_ BK106 hb; replace HB := bs_ HB hb; (try clear hb); (try clear hb2); (try clear hk); (try clear hi); have hcz34_0 : w33.cell? ⟨gb106, 0, none⟩ = some (.int .i64 t102) := bc_ BK106 0 rfl; have hcz34_1 : w33.cell? ⟨gb106, 1, none⟩ = some (.int .i64 t103) := bc_ BK106 1 rfl; have hcz34_2 : w33.cell? ⟨gb106, 2, none⟩ = some (.int .i64 t104) := bc_ BK106 2 rfl; have hcz34_3 : w33.cell? ⟨gb106, 3, none⟩ = some (.int .i64 t105) := bc_ BK106 3 rfl; have hfz34_0 := blk_frozen BK106.out 0; have hfz34_1 := blk_frozen BK106.out 1; have hfz34_2 := blk_frozen BK106.out 2; have hfz34_3 := blk_frozen BK106.out 3) | ((with_reducible refine gate_builtin (b := .append) (xs := #[.tmp 33, .tmp 45]) rfl ?_); at_builtin; refine Kd.R_append k23 (w0 := w) w.heap.size rfl (.tmp 33) (.tmp 45) 26 23 (.agg #[(.int .i64 0), (.int .i64 0)]) 16 rfl Tryd.underlying26 info23 rfl (by decide) (by omega) u3 x3_3 (⟨wrap64 (t102 + x5_2), wrap64 (t103 + x6_3)⟩ : S23) [.int .i64 (wrap64 (t102 + x5_2)), .int .i64 (wrap64 (t103 + x6_3))] (fun _ => True) (fun _ => False) rfl rfl ?aP (fun _ hk => hk.elim) ?aF ?aO ?aB ?aS ?aL ?_; (case aP => exact k23_mkM _ _ _ (⟨wrap64 (t102 + x5_2), wrap64 (t103 + x6_3)⟩ : S23)); (case aB => exact (pbx HB)); (case aF => exact (fun _ _ => trivial)); (case aO => exact (by (with_reducible repeat (first | apply Kd.R_alloc | apply Kd.R_drewN | apply Kd.R_drew)); exact HO_3.out)); (case aS => exact (below_size (pbx HB))); (case aL => have := LMc30.out; omega); intro v113 w35 ho hb hg hat; rw [← Ny112.out] at ho; have HO114 := Aside0.mk (ho); replace BK101 := Aside0.mk (blk_grown (pkx BK101) hg (Kd.R_ne HO_3.out BK101.out (by decide))); replace BK106 := Aside0.mk (blk_grown (pkx BK106) hg (Kd.R_ne HO_3.out BK106.out (by decide))); replace HB := Aside0.mk (hb); clear HO_3; clear ho hb hg hat))
           go_roundg k3
           case measure => have := HJ2.out; have := HK2.out; have := HK3.out; omega
           case rel => exact ⟨(y112), (wrap64 (x6_3 + 1)), (by first | rfl | (simp; done) | (simp [*]; done)), H', ⟨by have := HJ2.out; have := HK2.out; have := HK3.out; omega⟩, ⟨by (with_reducible repeat (first | apply Kd.R_alloc | apply Kd.R_drewN | apply Kd.R_drew)); exact HO114.out⟩, ⟨pkx BK101⟩, ⟨pkx BK106⟩, ⟨pbx HB⟩⟩
          ·rw [if_neg c30] at H
           exact absurd H (by simp)
         ·rw [if_neg c29] at H; have c29b0 : decide (x6_3 < t111) = false := decide_eq_false c29; clear c29
          have H' := Aside0.mk H
          clear H; have hnb36 := NB101_106.out; have hnc36 := NB106_101.out
          have hcz37_0 : wr.cell? ⟨gb101, 0, none⟩ = some (.int .i64 a0_0) := bc_ BK101 0 rfl
          have hcz37_1 : wr.cell? ⟨gb101, 1, none⟩ = some (.int .i64 a0_1) := bc_ BK101 1 rfl
          have hcz37_2 : wr.cell? ⟨gb101, 2, none⟩ = some (.int .i64 a0_2) := bc_ BK101 2 rfl
          have hcz37_3 : wr.cell? ⟨gb101, 3, none⟩ = some (.int .i64 a0_3) := bc_ BK101 3 rfl
          have hfz37_0 := blk_frozen BK101.out 0; have hfz37_1 := blk_frozen BK101.out 1; have hfz37_2 := blk_frozen BK101.out 2; have hfz37_3 := blk_frozen BK101.out 3
          go_wp2_with (first | ((with_reducible refine gate_callee (f:=15) rfl ?_); refine gL_ (some 29) rfl rfl Tryd.func15 rfl #[.agg #[.int .i64 a0_0, .int .i64 a0_1, .int .i64 a0_2, .int .i64 a0_3]] rfl ?_; (with_reducible refine (oculusref04_Cols.calls a0_0 a0_1 a0_2 a0_3 t111 _ A28.out).mono ?_); rintro e w38 ⟨rfl, hb⟩; refine ⟨_, rfl, ?_⟩; replace HO_3 := Aside0.mk (Kd.R_below (by (with_reducible repeat (first | apply Kd.R_alloc | apply Kd.R_drewN | apply Kd.R_drew)); exact HO_3.out) hb); replace BK101 := bb_ BK101 hb; replace BK106 := bb_ BK106 hb; replace HB := bs_ HB hb; (try clear hb); (try clear hb2); (try clear hk); (try clear hi)))
          go_roundg k3
          case measure => have := HJ2.out; have := HK2.out; have := HK3.out; omega
          case rel => exact ⟨(x3_3), (wrap64 (x5_2 + 1)), (by first | rfl | (simp; done) | (simp [*]; done)), H', ⟨by have := HJ2.out; have := HK2.out; have := HK3.out; omega⟩, ⟨by (with_reducible repeat (first | apply Kd.R_alloc | apply Kd.R_drewN | apply Kd.R_drew)); exact HO_3.out⟩, ⟨pkx BK101⟩, ⟨pkx BK106⟩, ⟨pbx HB⟩⟩
      ·rw [if_neg c24] at H; have c24b0 : decide (x5_2 < t110) = false := decide_eq_false c24; clear c24; obtain rfl := Option.some.inj H; have hnb39 := NB101_106.out; have hnc39 := NB106_101.out
       have hcz40_0 : wr.cell? ⟨gb101, 0, none⟩ = some (.int .i64 a0_0) := bc_ BK101 0 rfl
       have hcz40_1 : wr.cell? ⟨gb101, 1, none⟩ = some (.int .i64 a0_1) := bc_ BK101 1 rfl
       have hcz40_2 : wr.cell? ⟨gb101, 2, none⟩ = some (.int .i64 a0_2) := bc_ BK101 2 rfl
       have hcz40_3 : wr.cell? ⟨gb101, 3, none⟩ = some (.int .i64 a0_3) := bc_ BK101 3 rfl
       have hfz40_0 := blk_frozen BK101.out 0; have hfz40_1 := blk_frozen BK101.out 1; have hfz40_2 := blk_frozen BK101.out 2; have hfz40_3 := blk_frozen BK101.out 3
       go_wp2_with (first | ((with_reducible refine gate_callee (f:=14) rfl ?_); refine gL_ (some 23) rfl rfl Tryd.func14 rfl #[.agg #[.int .i64 a0_0, .int .i64 a0_1, .int .i64 a0_2, .int .i64 a0_3]] rfl ?_; (with_reducible refine (oculusref04_Rows.calls a0_0 a0_1 a0_2 a0_3 t110 _ A23.out).mono ?_); rintro e w41 ⟨rfl, hb⟩; refine ⟨_, rfl, ?_⟩; replace HO_3 := Aside0.mk (Kd.R_below (by (with_reducible repeat (first | apply Kd.R_alloc | apply Kd.R_drewN | apply Kd.R_drew)); exact HO_3.out) hb); replace BK101 := bb_ BK101 hb; replace BK106 := bb_ BK106 hb; replace HB := bs_ HB hb; (try clear hb); (try clear hb2); (try clear hk); (try clear hi)))
       go_ret
       exact ⟨_, by first | rfl | (simp [errW_none, errW_some] <;> rfl) | (simp [*, errW_none, errW_some] <;> rfl), by (with_reducible repeat (first | apply Kd.R_alloc | apply Kd.R_drewN | apply Kd.R_drew)); exact HO_3.out, pbx HB⟩

theorem eqA23 (d : Nat) (w : World) (x0 y0 : Int) (x1 y1 : Int) :
  (Op.equalIn (d + 2) 23 (.agg #[.int .i64 x0, .int .i64 x1]) (.agg #[.int .i64 y0, .int .i64 y1])).run Tryd.prog w = .ok (x0 == y0 && (x1 == y1)) w := by
 refine eqA_of Tryd.underlying23 (by kernel_rfl) ?_
 refine eqf_cons (by rfl) (by go_simp; rfl) (by go_simp; rfl) (by go_simp) ?_
 exact eqf_last (by rfl) (by go_simp; rfl) (by go_simp; rfl) (by go_simp)
end Go.Proofs.YtcbjihedobhjcaaDoor.X
namespace Go.Proofs.YtcbjihedobhjcaaDoor.X
open Go.RowKit Go.Proofs.YtcbjihedobhjcaaDoorW.PrintWords Go.Proofs.YtcbjihedobhjcaaDoorW.PrintLast Go.Proofs.YtcbjihedobhjcaaDoorW.PrintMore
attribute [local go_sem] max2_int min2_int max_two min_two max_three min_three max_four min_four
set_option linter.unusedVariables false
set_option linter.unusedSimpArgs false
attribute [local go_sem high] eqA23
def oculusref03_Same.l0 : Nat → List (S23) → List (S23) → Int → Option (Bool)
 | 0, _, _, _ => none
 | k + 1, x0, x1, x5 => if x5 < (x0.length : Int) then (if 0 ≤ x5 then (if x5 < (x1.length : Int) then (if (!(((rd_T23 x0 x5).f0) == ((rd_T23 x1 x5).f0)) || (!(((rd_T23 x0 x5).f1) == ((rd_T23 x1 x5).f1)))) = true then (some false) else (oculusref03_Same.l0 k x0 x1 (wrap64 (x5 + 1)))) else (none)) else (none)) else (some true)
def oculusref03_Same.f (k : Nat) (l0 : List (S23)) (l1 : List (S23)) : Option (Bool) := if (l0.length : Int) = (l1.length : Int) then (oculusref03_Same.l0 k l0 l1 0) else (some false)
set_option maxHeartbeats 8000000 in
set_option maxRecDepth 100000 in
theorem oculusref03_Same.calls (k : Nat) (A0 : Option Addr) (c0 : Nat) (l0 : List (S23)) (A1 : Option Addr) (c1 : Nat) (l1 : List (S23)) (r : Bool) (w : World) (hr0 : Kd.C k23 w A0 l0.length l0) (hc0 : l0.length ≤ c0) (hr1 : Kd.C k23 w A1 l1.length l1) (hc1 : l1.length ≤ c1) (h : oculusref03_Same.f k l0 l1 = some r) :
  Calls Tryd.prog 5 #[.slice A0 l0.length c0, .slice A1 l1.length c1] w fun e w' => e = .returned (.bool r) ∧ Drawn0 w w' := by
 have hu23 := Tryd.underlying23; have HR0 := Aside0.mk hr0; have HC0 := Aside0.mk hc0; clear hr0 hc0; have HR1 := Aside0.mk hr1; have HC1 := Aside0.mk hc1; clear hr1 hc1
 have H : (if (l0.length : Int) = (l1.length : Int) then (oculusref03_Same.l0 k l0 l1 0) else (some false)) = some r := h
 clear h
 by_cases c3 : (l0.length : Int) = (l1.length : Int)
 ·rw [if_pos c3] at H; have c3b0 : ((l0.length : Int) == (l1.length : Int)) = true := beq_iff_eq.mpr c3; have c3b1 : ((l0.length : Int) != (l1.length : Int)) = false := bne_eq_false_iff_eq.mpr c3
  have c3b2 : (l0.length == l1.length) = true := by first | simpa using c3 | (simp at c3 ⊢; omega)
  clear c3
  have H' := Aside0.mk H
  clear H
  go_enter Tryd.func5, Tryd.ntmps5
  go_wp2
  repeat (go_quiet (fail); try go_wp2)
  go_loopg [5] k (fun kq v5 w' => ∃ (x5_1 : Int), v5 = .int .i64 x5_1 ∧ Aside0 (oculusref03_Same.l0 kq l0 l1 x5_1 = some r) ∧ Aside0 (kq ≤ k) ∧ Drawn0 w w')
  case atStart => exact ⟨(0), (by first | rfl | (simp; done) | (simp [*]; done)), H', ⟨Nat.le_refl _⟩, by repeat (first | exact Drawn0.refl _ | apply Drawn0.step)⟩
  case round =>
   clear H'; (try clear c1); (try clear p2); (try clear c3); (try clear c3b0); (try clear c3b1); (try clear c3b2); obtain ⟨x5_1, rfl, HA, HK1, ⟨m1, rfl⟩⟩ := hrel
   cases gk with
   | zero => exact absurd HA.out (by simp [oculusref03_Same.l0])
   | succ k1 =>
    have H := HA.out; clear HA
    simp only [oculusref03_Same.l0] at H
    by_cases c4 : x5_1 < (l0.length : Int)
    ·rw [if_pos c4] at H; have c4b0 : decide (x5_1 < (l0.length : Int)) = true := decide_eq_true c4; clear c4
     by_cases c5 : 0 ≤ x5_1
     ·rw [if_pos c5] at H; have c5b0 : decide (0 ≤ x5_1) = true := decide_eq_true c5; clear c5
      by_cases c6 : x5_1 < (l1.length : Int)
      ·rw [if_pos c6] at H; have c6b0 : decide (x5_1 < (l1.length : Int)) = true := decide_eq_true c6; clear c6
       by_cases c7 : (!(((rd_T23 l0 x5_1).f0) == ((rd_T23 l1 x5_1).f0)) || (!(((rd_T23 l0 x5_1).f1) == ((rd_T23 l1 x5_1).f1)))) = true
       ·rw [if_pos c7] at H
        have c7b0 : (!(((rd_T23 l0 x5_1).f0) == ((rd_T23 l1 x5_1).f0)) || (!(((rd_T23 l0 x5_1).f1) == ((rd_T23 l1 x5_1).f1)))) = true := c7
        clear c7; obtain rfl := Option.some.inj H
        have p101 : 0 ≤ (x5_1 : Int) := of_decide_eq_true (by first | (with_reducible assumption) | assumption)
        have q101 : x5_1 < (l0.length : Int) := of_decide_eq_true (by first | (with_reducible assumption) | assumption)
        obtain ⟨ad101, e101, hx101_0, hx101_1⟩ := at_T23 HR0.out x5_1 p101 q101
        cases e101
        replace p101 := eq_true p101; replace q101 := eq_true q101
        have p102 : 0 ≤ (x5_1 : Int) := of_decide_eq_true (by first | (with_reducible assumption) | assumption)
        have q102 : x5_1 < (l1.length : Int) := of_decide_eq_true (by first | (with_reducible assumption) | assumption)
        obtain ⟨ad102, e102, hx102_0, hx102_1⟩ := at_T23 HR1.out x5_1 p102 q102
        cases e102
        replace p102 := eq_true p102; replace q102 := eq_true q102
        go_wp2
        repeat (go_quiet (fail); try go_wp2)
        go_ret
        exact ⟨by first | rfl | (simp; done) | (simp [*]; done), by repeat (first | exact Drawn0.refl _ | apply Drawn0.step)⟩
       ·rw [if_neg c7] at H
        have c7b0 : (!(((rd_T23 l0 x5_1).f0) == ((rd_T23 l1 x5_1).f0)) || (!(((rd_T23 l0 x5_1).f1) == ((rd_T23 l1 x5_1).f1)))) = false := by simpa using c7
        clear c7
        have H' := Aside0.mk H
        clear H
        have p101 : 0 ≤ (x5_1 : Int) := of_decide_eq_true (by first | (with_reducible assumption) | assumption)
        have q101 : x5_1 < (l0.length : Int) := of_decide_eq_true (by first | (with_reducible assumption) | assumption)
        obtain ⟨ad101, e101, hx101_0, hx101_1⟩ := at_T23 HR0.out x5_1 p101 q101
        cases e101
        replace p101 := eq_true p101; replace q101 := eq_true q101
        have p102 : 0 ≤ (x5_1 : Int) := of_decide_eq_true (by first | (with_reducible assumption) | assumption)
        have q102 : x5_1 < (l1.length : Int) := of_decide_eq_true (by first | (with_reducible assumption) | assumption)
        obtain ⟨ad102, e102, hx102_0, hx102_1⟩ := at_T23 HR1.out x5_1 p102 q102
        cases e102
        replace p102 := eq_true p102; replace q102 := eq_true q102
        go_wp2
        repeat (go_quiet (fail); try go_wp2)
        go_roundg k1
        case measure => have := HK1.out; omega
        case rel => exact ⟨(wrap64 (x5_1 + 1)), (by first | rfl | (simp; done) | (simp [*]; done)), H', ⟨by have := HK1.out; omega⟩, by repeat (first | exact Drawn0.refl _ | apply Drawn0.step)⟩
      ·rw [if_neg c6] at H
       exact absurd H (by simp)
     ·rw [if_neg c5] at H
      exact absurd H (by simp)
    ·rw [if_neg c4] at H; have c4b0 : decide (x5_1 < (l0.length : Int)) = false := decide_eq_false c4; clear c4; obtain rfl := Option.some.inj H
     go_wp2
     repeat (go_quiet (fail); try go_wp2)
     go_ret
     exact ⟨by first | rfl | (simp; done) | (simp [*]; done), by repeat (first | exact Drawn0.refl _ | apply Drawn0.step)⟩
 ·rw [if_neg c3] at H; have c3b0 : ((l0.length : Int) == (l1.length : Int)) = false := beq_eq_false_iff_ne.mpr c3; have c3b1 : ((l0.length : Int) != (l1.length : Int)) = true := bne_iff_ne.mpr c3
  have c3b2 : (l0.length == l1.length) = false := by first | simpa using c3 | (simp at c3 ⊢; omega)
  obtain rfl := Option.some.inj H
  go_enter Tryd.func5, Tryd.ntmps5
  go_wp2
  repeat (go_quiet (fail); try go_wp2)
  go_ret
  exact ⟨by first | rfl | (simp; done) | (simp [*]; done), by repeat (first | exact Drawn0.refl _ | apply Drawn0.step)⟩

end Go.Proofs.YtcbjihedobhjcaaDoor.X
namespace Go.Proofs.YtcbjihedobhjcaaDoor.X
open Go.RowKit Go.Proofs.YtcbjihedobhjcaaDoorW.PrintWords Go.Proofs.YtcbjihedobhjcaaDoorW.PrintLast Go.Proofs.YtcbjihedobhjcaaDoorW.PrintMore
attribute [local go_sem] max2_int min2_int max_two min_two max_three min_three max_four min_four
set_option linter.unusedVariables false
set_option linter.unusedSimpArgs false
def span_Has.j0 : Nat → Bool → Int → Int → Int → Int → Int → Int → Option (Bool)
 | 0, _, _, _, _, _, _, _ => none
 | k + 1, x7, x102000, x102001, x102002, x102003, x103000, x103001 => if x7 = true then (some false) else ((span_Straight.f x102000 x102001 x102002 x102003).bind fun bt104 => (if x103000 ≥ bt104.1 then (if x103000 ≤ bt104.2.2.1 then (if x103001 ≥ bt104.2.1 then (some (decide (x103001 ≤ bt104.2.2.2))) else (some false)) else (some false)) else (some false)))
def span_Has.f (k : Nat) (a0_0 : Int) (a0_1 : Int) (a0_2 : Int) (a0_3 : Int) (a1_0 : Int) (a1_1 : Int) : Option (Bool) := (span_May.f a0_0 a0_1 a0_2 a0_3).bind fun t103 => (span_Has.j0 k (!t103) a0_0 a0_1 a0_2 a0_3 a1_0 a1_1)
set_option maxHeartbeats 8000000 in
set_option maxRecDepth 100000 in
theorem span_Has.calls (k : Nat) (a0_0 : Int) (a0_1 : Int) (a0_2 : Int) (a0_3 : Int) (a1_0 : Int) (a1_1 : Int) (r : Bool) (w : World) (h : span_Has.f k a0_0 a0_1 a0_2 a0_3 a1_0 a1_1 = some r) :
  Calls Tryd.prog 7 #[.agg #[.int .i64 a0_0, .int .i64 a0_1, .int .i64 a0_2, .int .i64 a0_3], .agg #[.int .i64 a1_0, .int .i64 a1_1]] w fun e w' => e = .returned (.bool r) ∧ Below w.heap.size w w' := by
 have hu25 := Tryd.underlying25; have hu23 := Tryd.underlying23; have HB := Aside0.mk (Below.refl w.heap.size w)
 have H : ((span_May.f a0_0 a0_1 a0_2 a0_3).bind fun t103 => (span_Has.j0 k (!t103) a0_0 a0_1 a0_2 a0_3 a1_0 a1_1)) = some r := h
 clear h; have HC3 := Aside0.mk H; clear H
 go_enter Tryd.func7, Tryd.ntmps7
 go_upto_region 1 with (first | ((with_reducible refine gate_dst (N:=2) rfl ?_); refine be_ (N:=2) (cs := #[.int .i64 a0_0, .int .i64 a0_1, .int .i64 a0_2, .int .i64 a0_3]) (t:=25) ?_; intro gb101 hg w4 hbox hb; have BK101 := Aside0.mk (hbox); have GW101 := hs_ HB hg; have GE101 := hs_ HB hg; replace HB := bs_ HB hb; clear hb hbox hg) | ((with_reducible refine gate_dst (N:=3) rfl ?_); refine be_ (N:=3) (cs := #[.int .i64 a1_0, .int .i64 a1_1]) (t:=23) ?_; intro gb102 hg w5 hbox hb; have BK102 := Aside0.mk (hbox); have GW102 := hs_ HB hg; have GE102 := hs_ HB hg; have NB101_102 := hl_ BK101 hg; have NB102_101 := hr_ BK101 hg; replace BK101 := bb_ BK101 hb; replace HB := bs_ HB hb; clear hb hbox hg))
 (try simp only [q_])
 go_cut [7] (fun v7 wc => ∃ (kq : Nat) (x7_2 : Bool), v7 = .bool x7_2 ∧ Aside0 (span_Has.j0 kq x7_2 a0_0 a0_1 a0_2 a0_3 a1_0 a1_1 = some r) ∧ Aside0 (kq ≤ k) ∧ Aside0 (wc.heap[gb101]? = some (.cells #[.int .i64 a0_0, .int .i64 a0_1, .int .i64 a0_2, .int .i64 a0_3] 25 (0, 0))) ∧ Aside0 (wc.heap[gb102]? = some (.cells #[.int .i64 a1_0, .int .i64 a1_1] 23 (0, 0))) ∧ Aside0 (Below w.heap.size w wc))
 case first =>
  have H := HC3.out; clear HC3; replace H := Option.bind_eq_some_iff.mp H; obtain ⟨t103, A60, H⟩ := H
  replace H : (span_Has.j0 k (!t103) a0_0 a0_1 a0_2 a0_3 a1_0 a1_1) = some r := H
  have A6 := Aside0.mk A60; clear A60
  have H' := Aside0.mk H
  clear H; have hnb7 := NB101_102.out; have hnc7 := NB102_101.out
  have hcz8_0 : w5.cell? ⟨gb101, 0, none⟩ = some (.int .i64 a0_0) := bc_ BK101 0 rfl
  have hcz8_1 : w5.cell? ⟨gb101, 1, none⟩ = some (.int .i64 a0_1) := bc_ BK101 1 rfl
  have hcz8_2 : w5.cell? ⟨gb101, 2, none⟩ = some (.int .i64 a0_2) := bc_ BK101 2 rfl
  have hcz8_3 : w5.cell? ⟨gb101, 3, none⟩ = some (.int .i64 a0_3) := bc_ BK101 3 rfl
  have hfz8_0 := blk_frozen BK101.out 0; have hfz8_1 := blk_frozen BK101.out 1; have hfz8_2 := blk_frozen BK101.out 2; have hfz8_3 := blk_frozen BK101.out 3
  go_wp2_with (first | ((with_reducible refine gate_callee (f:=16) rfl ?_); refine gL_ (some 6) rfl rfl Tryd.func16 rfl #[.agg #[.int .i64 a0_0, .int .i64 a0_1, .int .i64 a0_2, .int .i64 a0_3]] rfl ?_; (with_reducible refine (span_May.calls a0_0 a0_1 a0_2 a0_3 t103 _ A6.out).mono ?_); rintro e w9 ⟨rfl, hb⟩; refine ⟨_, rfl, ?_⟩; replace BK101 := bb_ BK101 hb; replace BK102 := bb_ BK102 hb; replace HB := bs_ HB hb; (try clear hb); (try clear hb2); (try clear hk); (try clear hi)))
  go_meet
  case rel => exact ⟨_, (!t103), (by first | rfl | (simp; done) | (simp [*]; done) | (cases t103 <;> simp; done)), H', ⟨by first | omega | exact Nat.le_refl _⟩, ⟨pkx BK101⟩, ⟨pkx BK102⟩, ⟨pbx HB⟩⟩
 case rest =>
  clear HC3; (try clear c1); (try clear p2); (try clear c7); (try clear hcz8_0); (try clear hcz8_1); (try clear hcz8_2); (try clear hcz8_3); (try clear hfz8_0); (try clear hfz8_1); (try clear hfz8_2); (try clear hfz8_3); obtain ⟨kq, x7_2, rfl, HA, HJ2, BK101, BK102, HB⟩ := hcut
  cases kq with
  | zero => exact absurd HA.out (by simp [span_Has.j0])
  | succ kj2 =>
   have H := HA.out; clear HA
   simp only [span_Has.j0] at H
   by_cases c10 : x7_2 = true
   ·subst c10
    have H1 : (some false) = some r := by rw [if_pos rfl] at H; exact H
    clear H; have H := H1; clear H1; obtain rfl := Option.some.inj H
    go_wp2
    go_ret
    exact ⟨by first | rfl | (simp [errW_none, errW_some] <;> rfl) | (simp [*, errW_none, errW_some] <;> rfl), pbx HB⟩
   ·replace c10 := Bool.eq_false_iff.mpr c10; subst c10
    have H1 : ((span_Straight.f a0_0 a0_1 a0_2 a0_3).bind fun bt104 => (if a1_0 ≥ bt104.1 then (if a1_0 ≤ bt104.2.2.1 then (if a1_1 ≥ bt104.2.1 then (some (decide (a1_1 ≤ bt104.2.2.2))) else (some false)) else (some false)) else (some false))) = some r := by rw [if_neg (show ¬ (false = true) by decide)] at H; exact H
    clear H; have H := H1; clear H1; replace H := Option.bind_eq_some_iff.mp H; obtain ⟨⟨t104, t105, t106, t107⟩, A110, H⟩ := H
    replace H : (if a1_0 ≥ t104 then (if a1_0 ≤ t106 then (if a1_1 ≥ t105 then (some (decide (a1_1 ≤ t107))) else (some false)) else (some false)) else (some false)) = some r := H
    have A11 := Aside0.mk A110; clear A110
    by_cases c12 : a1_0 ≥ t104
    ·rw [if_pos c12] at H; have c12b0 : decide (t104 ≤ a1_0) = true := decide_eq_true c12; clear c12
     by_cases c13 : a1_0 ≤ t106
     ·rw [if_pos c13] at H; have c13b0 : decide (a1_0 ≤ t106) = true := decide_eq_true c13; clear c13
      by_cases c14 : a1_1 ≥ t105
      ·rw [if_pos c14] at H; have c14b0 : decide (t105 ≤ a1_1) = true := decide_eq_true c14; clear c14; obtain rfl := Option.some.inj H; have hnb15 := NB101_102.out; have hnc15 := NB102_101.out
       have hcz16_0 : wc.cell? ⟨gb101, 0, none⟩ = some (.int .i64 a0_0) := bc_ BK101 0 rfl
       have hcz16_1 : wc.cell? ⟨gb101, 1, none⟩ = some (.int .i64 a0_1) := bc_ BK101 1 rfl
       have hcz16_2 : wc.cell? ⟨gb101, 2, none⟩ = some (.int .i64 a0_2) := bc_ BK101 2 rfl
       have hcz16_3 : wc.cell? ⟨gb101, 3, none⟩ = some (.int .i64 a0_3) := bc_ BK101 3 rfl
       have hfz16_0 := blk_frozen BK101.out 0; have hfz16_1 := blk_frozen BK101.out 1; have hfz16_2 := blk_frozen BK101.out 2; have hfz16_3 := blk_frozen BK101.out 3
       go_wp2_with (first | ((with_reducible refine gate_callee (f:=17) rfl ?_); refine gL_ (some 9) rfl rfl Tryd.func17 rfl #[.agg #[.int .i64 a0_0, .int .i64 a0_1, .int .i64 a0_2, .int .i64 a0_3]] rfl ?_; (with_reducible refine (span_Straight.calls a0_0 a0_1 a0_2 a0_3 t104 t105 t106 t107 _ A11.out).mono ?_); rintro e w17 ⟨rfl, hb⟩; refine ⟨_, rfl, ?_⟩; replace BK101 := bb_ BK101 hb; replace BK102 := bb_ BK102 hb; replace HB := bs_ HB hb; (try clear hb); (try clear hb2); (try clear hk); (try clear hi); have hcz18_0 : w17.cell? ⟨gb101, 0, none⟩ = some (.int .i64 a0_0) := bc_ BK101 0 rfl; have hcz18_1 : w17.cell? ⟨gb101, 1, none⟩ = some (.int .i64 a0_1) := bc_ BK101 1 rfl; have hcz18_2 : w17.cell? ⟨gb101, 2, none⟩ = some (.int .i64 a0_2) := bc_ BK101 2 rfl; have hcz18_3 : w17.cell? ⟨gb101, 3, none⟩ = some (.int .i64 a0_3) := bc_ BK101 3 rfl; have hfz18_0 := blk_frozen BK101.out 0; have hfz18_1 := blk_frozen BK101.out 1; have hfz18_2 := blk_frozen BK101.out 2; have hfz18_3 := blk_frozen BK101.out 3; have hcz19_0 : w17.cell? ⟨gb102, 0, none⟩ = some (.int .i64 a1_0) := bc_ BK102 0 rfl; have hcz19_1 : w17.cell? ⟨gb102, 1, none⟩ = some (.int .i64 a1_1) := bc_ BK102 1 rfl; have hfz19_0 := blk_frozen BK102.out 0; have hfz19_1 := blk_frozen BK102.out 1))
       go_ret
       exact ⟨by first | rfl | (simp [errW_none, errW_some] <;> rfl) | (simp [*, errW_none, errW_some] <;> rfl), by repeat (first | (with_reducible first | exact HB.out | apply below_alloc | apply pw_below_drewN | apply below_drew1 | refine below_set ?_ GE101.out | refine below_set ?_ GE102.out) | exact HB.out)⟩
      ·rw [if_neg c14] at H; have c14b0 : decide (t105 ≤ a1_1) = false := decide_eq_false c14; clear c14; obtain rfl := Option.some.inj H; have hnb20 := NB101_102.out; have hnc20 := NB102_101.out
       have hcz21_0 : wc.cell? ⟨gb101, 0, none⟩ = some (.int .i64 a0_0) := bc_ BK101 0 rfl
       have hcz21_1 : wc.cell? ⟨gb101, 1, none⟩ = some (.int .i64 a0_1) := bc_ BK101 1 rfl
       have hcz21_2 : wc.cell? ⟨gb101, 2, none⟩ = some (.int .i64 a0_2) := bc_ BK101 2 rfl
       have hcz21_3 : wc.cell? ⟨gb101, 3, none⟩ = some (.int .i64 a0_3) := bc_ BK101 3 rfl
       have hfz21_0 := blk_frozen BK101.out 0; have hfz21_1 := blk_frozen BK101.out 1; have hfz21_2 := blk_frozen BK101.out 2; have hfz21_3 := blk_frozen BK101.out 3
       go_wp2_with (first | ((with_reducible refine gate_callee (f:=17) rfl ?_); refine gL_ (some 9) rfl rfl Tryd.func17 rfl #[.agg #[.int .i64 a0_0, .int .i64 a0_1, .int .i64 a0_2, .int .i64 a0_3]] rfl ?_; (with_reducible refine (span_Straight.calls a0_0 a0_1 a0_2 a0_3 t104 t105 t106 t107 _ A11.out).mono ?_); rintro e w22 ⟨rfl, hb⟩; refine ⟨_, rfl, ?_⟩; replace BK101 := bb_ BK101 hb; replace BK102 := bb_ BK102 hb; replace HB := bs_ HB hb; (try clear hb); (try clear hb2); (try clear hk); (try clear hi); have hcz23_0 : w22.cell? ⟨gb101, 0, none⟩ = some (.int .i64 a0_0) := bc_ BK101 0 rfl; have hcz23_1 : w22.cell? ⟨gb101, 1, none⟩ = some (.int .i64 a0_1) := bc_ BK101 1 rfl; have hcz23_2 : w22.cell? ⟨gb101, 2, none⟩ = some (.int .i64 a0_2) := bc_ BK101 2 rfl; have hcz23_3 : w22.cell? ⟨gb101, 3, none⟩ = some (.int .i64 a0_3) := bc_ BK101 3 rfl; have hfz23_0 := blk_frozen BK101.out 0; have hfz23_1 := blk_frozen BK101.out 1; have hfz23_2 := blk_frozen BK101.out 2; have hfz23_3 := blk_frozen BK101.out 3; have hcz24_0 : w22.cell? ⟨gb102, 0, none⟩ = some (.int .i64 a1_0) := bc_ BK102 0 rfl; have hcz24_1 : w22.cell? ⟨gb102, 1, none⟩ = some (.int .i64 a1_1) := bc_ BK102 1 rfl; have hfz24_0 := blk_frozen BK102.out 0; have hfz24_1 := blk_frozen BK102.out 1))
       go_ret
       exact ⟨by first | rfl | (simp [errW_none, errW_some] <;> rfl) | (simp [*, errW_none, errW_some] <;> rfl), by repeat (first | (with_reducible first | exact HB.out | apply below_alloc | apply pw_below_drewN | apply below_drew1 | refine below_set ?_ GE101.out | refine below_set ?_ GE102.out) | exact HB.out)⟩
     ·rw [if_neg c13] at H; have c13b0 : decide (a1_0 ≤ t106) = false := decide_eq_false c13; clear c13; obtain rfl := Option.some.inj H; have hnb25 := NB101_102.out; have hnc25 := NB102_101.out
      have hcz26_0 : wc.cell? ⟨gb101, 0, none⟩ = some (.int .i64 a0_0) := bc_ BK101 0 rfl
      have hcz26_1 : wc.cell? ⟨gb101, 1, none⟩ = some (.int .i64 a0_1) := bc_ BK101 1 rfl
      have hcz26_2 : wc.cell? ⟨gb101, 2, none⟩ = some (.int .i64 a0_2) := bc_ BK101 2 rfl
      have hcz26_3 : wc.cell? ⟨gb101, 3, none⟩ = some (.int .i64 a0_3) := bc_ BK101 3 rfl
      have hfz26_0 := blk_frozen BK101.out 0; have hfz26_1 := blk_frozen BK101.out 1; have hfz26_2 := blk_frozen BK101.out 2; have hfz26_3 := blk_frozen BK101.out 3
      go_wp2_with (first | ((with_reducible refine gate_callee (f:=17) rfl ?_); refine gL_ (some 9) rfl rfl Tryd.func17 rfl #[.agg #[.int .i64 a0_0, .int .i64 a0_1, .int .i64 a0_2, .int .i64 a0_3]] rfl ?_; (with_reducible refine (span_Straight.calls a0_0 a0_1 a0_2 a0_3 t104 t105 t106 t107 _ A11.out).mono ?_); rintro e w27 ⟨rfl, hb⟩; refine ⟨_, rfl, ?_⟩; replace BK101 := bb_ BK101 hb; replace BK102 := bb_ BK102 hb; replace HB := bs_ HB hb; (try clear hb); (try clear hb2); (try clear hk); (try clear hi); have hcz28_0 : w27.cell? ⟨gb101, 0, none⟩ = some (.int .i64 a0_0) := bc_ BK101 0 rfl; have hcz28_1 : w27.cell? ⟨gb101, 1, none⟩ = some (.int .i64 a0_1) := bc_ BK101 1 rfl; have hcz28_2 : w27.cell? ⟨gb101, 2, none⟩ = some (.int .i64 a0_2) := bc_ BK101 2 rfl; have hcz28_3 : w27.cell? ⟨gb101, 3, none⟩ = some (.int .i64 a0_3) := bc_ BK101 3 rfl; have hfz28_0 := blk_frozen BK101.out 0; have hfz28_1 := blk_frozen BK101.out 1; have hfz28_2 := blk_frozen BK101.out 2; have hfz28_3 := blk_frozen BK101.out 3; have hcz29_0 : w27.cell? ⟨gb102, 0, none⟩ = some (.int .i64 a1_0) := bc_ BK102 0 rfl; have hcz29_1 : w27.cell? ⟨gb102, 1, none⟩ = some (.int .i64 a1_1) := bc_ BK102 1 rfl; have hfz29_0 := blk_frozen BK102.out 0; have hfz29_1 := blk_frozen BK102.out 1))
      go_ret
      exact ⟨by first | rfl | (simp [errW_none, errW_some] <;> rfl) | (simp [*, errW_none, errW_some] <;> rfl), by repeat (first | (with_reducible first | exact HB.out | apply below_alloc | apply pw_below_drewN | apply below_drew1 | refine below_set ?_ GE101.out | refine below_set ?_ GE102.out) | exact HB.out)⟩
    ·rw [if_neg c12] at H; have c12b0 : decide (t104 ≤ a1_0) = false := decide_eq_false c12; clear c12; obtain rfl := Option.some.inj H; have hnb30 := NB101_102.out; have hnc30 := NB102_101.out
     have hcz31_0 : wc.cell? ⟨gb101, 0, none⟩ = some (.int .i64 a0_0) := bc_ BK101 0 rfl
     have hcz31_1 : wc.cell? ⟨gb101, 1, none⟩ = some (.int .i64 a0_1) := bc_ BK101 1 rfl
     have hcz31_2 : wc.cell? ⟨gb101, 2, none⟩ = some (.int .i64 a0_2) := bc_ BK101 2 rfl
     have hcz31_3 : wc.cell? ⟨gb101, 3, none⟩ = some (.int .i64 a0_3) := bc_ BK101 3 rfl
     have hfz31_0 := blk_frozen BK101.out 0; have hfz31_1 := blk_frozen BK101.out 1; have hfz31_2 := blk_frozen BK101.out 2; have hfz31_3 := blk_frozen BK101.out 3
     go_wp2_with (first | ((with_reducible refine gate_callee (f:=17) rfl ?_); refine gL_ (some 9) rfl rfl Tryd.func17 rfl #[.agg #[.int .i64 a0_0, .int .i64 a0_1, .int .i64 a0_2, .int .i64 a0_3]] rfl ?_; (with_reducible refine (span_Straight.calls a0_0 a0_1 a0_2 a0_3 t104 t105 t106 t107 _ A11.out).mono ?_); rintro e w32 ⟨rfl, hb⟩; refine ⟨_, rfl, ?_⟩; replace BK101 := bb_ BK101 hb; replace BK102 := bb_ BK102 hb; replace HB := bs_ HB hb; (try clear hb); (try clear hb2); (try clear hk); (try clear hi); have hcz33_0 : w32.cell? ⟨gb101, 0, none⟩ = some (.int .i64 a0_0) := bc_ BK101 0 rfl; have hcz33_1 : w32.cell? ⟨gb101, 1, none⟩ = some (.int .i64 a0_1) := bc_ BK101 1 rfl; have hcz33_2 : w32.cell? ⟨gb101, 2, none⟩ = some (.int .i64 a0_2) := bc_ BK101 2 rfl; have hcz33_3 : w32.cell? ⟨gb101, 3, none⟩ = some (.int .i64 a0_3) := bc_ BK101 3 rfl; have hfz33_0 := blk_frozen BK101.out 0; have hfz33_1 := blk_frozen BK101.out 1; have hfz33_2 := blk_frozen BK101.out 2; have hfz33_3 := blk_frozen BK101.out 3; have hcz34_0 : w32.cell? ⟨gb102, 0, none⟩ = some (.int .i64 a1_0) := bc_ BK102 0 rfl; have hcz34_1 : w32.cell? ⟨gb102, 1, none⟩ = some (.int .i64 a1_1) := bc_ BK102 1 rfl; have hfz34_0 := blk_frozen BK102.out 0; have hfz34_1 := blk_frozen BK102.out 1))
     go_ret
     exact ⟨by first | rfl | (simp [errW_none, errW_some] <;> rfl) | (simp [*, errW_none, errW_some] <;> rfl), by repeat (first | (with_reducible first | exact HB.out | apply below_alloc | apply pw_below_drewN | apply below_drew1 | refine below_set ?_ GE101.out | refine below_set ?_ GE102.out) | exact HB.out)⟩

def oculusref03_Less.f (a0_0 : Int) (a0_1 : Int) (a1_0 : Int) (a1_1 : Int) : Option (Bool) := if a0_0 = a1_0 then (some (decide (a0_1 < a1_1))) else (some (decide (a0_0 < a1_0)))
set_option maxHeartbeats 8000000 in
set_option maxRecDepth 100000 in
theorem oculusref03_Less.calls (a0_0 : Int) (a0_1 : Int) (a1_0 : Int) (a1_1 : Int) (r : Bool) (w : World) (h : oculusref03_Less.f a0_0 a0_1 a1_0 a1_1 = some r) :
  Calls Tryd.prog 8 #[.agg #[.int .i64 a0_0, .int .i64 a0_1], .agg #[.int .i64 a1_0, .int .i64 a1_1]] w fun e w' => e = .returned (.bool r) ∧ Below w.heap.size w w' := by
 have hu23 := Tryd.underlying23; have HB := Aside0.mk (Below.refl w.heap.size w)
 have H : (if a0_0 = a1_0 then (some (decide (a0_1 < a1_1))) else (some (decide (a0_0 < a1_0)))) = some r := h
 clear h
 by_cases c3 : a0_0 = a1_0
 ·rw [if_pos c3] at H; have c3b0 : (a0_0 == a1_0) = true := beq_iff_eq.mpr c3; have c3b1 : (a0_0 != a1_0) = false := bne_eq_false_iff_eq.mpr c3; clear c3; obtain rfl := Option.some.inj H
  go_enter Tryd.func8, Tryd.ntmps8
  go_wp2_with (first | ((with_reducible refine gate_dst (N:=2) rfl ?_); refine be_ (N:=2) (cs := #[.int .i64 a0_0, .int .i64 a0_1]) (t:=23) ?_; intro gb101 hg w4 hbox hb; have BK101 := Aside0.mk (hbox); replace HB := bs_ HB hb; clear hb hbox hg) | ((with_reducible refine gate_dst (N:=3) rfl ?_); refine be_ (N:=3) (cs := #[.int .i64 a1_0, .int .i64 a1_1]) (t:=23) ?_; intro gb102 hg w5 hbox hb; have BK102 := Aside0.mk (hbox); replace BK101 := bb_ BK101 hb; replace HB := bs_ HB hb; clear hb hbox hg; have hcz6_0 : w5.cell? ⟨gb101, 0, none⟩ = some (.int .i64 a0_0) := bc_ BK101 0 rfl; have hcz6_1 : w5.cell? ⟨gb101, 1, none⟩ = some (.int .i64 a0_1) := bc_ BK101 1 rfl; have hcz7_0 : w5.cell? ⟨gb102, 0, none⟩ = some (.int .i64 a1_0) := bc_ BK102 0 rfl; have hcz7_1 : w5.cell? ⟨gb102, 1, none⟩ = some (.int .i64 a1_1) := bc_ BK102 1 rfl))
  go_ret
  exact ⟨by first | rfl | (simp [errW_none, errW_some] <;> rfl) | (simp [*, errW_none, errW_some] <;> rfl), pbx HB⟩
 ·rw [if_neg c3] at H; have c3b0 : (a0_0 == a1_0) = false := beq_eq_false_iff_ne.mpr c3; have c3b1 : (a0_0 != a1_0) = true := bne_iff_ne.mpr c3; obtain rfl := Option.some.inj H
  go_enter Tryd.func8, Tryd.ntmps8
  go_wp2_with (first | ((with_reducible refine gate_dst (N:=2) rfl ?_); refine be_ (N:=2) (cs := #[.int .i64 a0_0, .int .i64 a0_1]) (t:=23) ?_; intro gb101 hg w8 hbox hb; have BK101 := Aside0.mk (hbox); replace HB := bs_ HB hb; clear hb hbox hg) | ((with_reducible refine gate_dst (N:=3) rfl ?_); refine be_ (N:=3) (cs := #[.int .i64 a1_0, .int .i64 a1_1]) (t:=23) ?_; intro gb102 hg w9 hbox hb; have BK102 := Aside0.mk (hbox); replace BK101 := bb_ BK101 hb; replace HB := bs_ HB hb; clear hb hbox hg; have hcz10_0 : w9.cell? ⟨gb101, 0, none⟩ = some (.int .i64 a0_0) := bc_ BK101 0 rfl; have hcz10_1 : w9.cell? ⟨gb101, 1, none⟩ = some (.int .i64 a0_1) := bc_ BK101 1 rfl; have hcz11_0 : w9.cell? ⟨gb102, 0, none⟩ = some (.int .i64 a1_0) := bc_ BK102 0 rfl; have hcz11_1 : w9.cell? ⟨gb102, 1, none⟩ = some (.int .i64 a1_1) := bc_ BK102 1 rfl))
  go_ret
  exact ⟨by first | rfl | (simp [errW_none, errW_some] <;> rfl) | (simp [*, errW_none, errW_some] <;> rfl), pbx HB⟩

end Go.Proofs.YtcbjihedobhjcaaDoor.X
/- The tables that the library reads: a world that holds them, and what follows it. -/
set_option linter.unusedVariables false
namespace Go.Proofs.YtcbjihedobhjcaaDoor.X
open Go.RowKit Go.Proofs.YtcbjihedobhjcaaDoorW.PrintWords Go.Proofs.YtcbjihedobhjcaaDoorW.PrintLast Go.Proofs.YtcbjihedobhjcaaDoorW.PrintMore
def bru64 : List Int := [0, 1, 56, 2, 57, 49, 28, 3, 61, 58, 42, 50, 38, 29, 17, 4, 62, 47, 59, 36, 45, 43, 51, 22, 53, 39, 33, 30, 24, 18, 12, 5, 63, 55, 48, 27, 60, 41, 37, 16, 46, 35, 44, 21, 52, 32, 23, 11, 54, 26, 40, 15, 34, 20, 31, 10, 25, 14, 19, 9, 13, 8, 7, 6]
structure Tab (w : World) : Prop where
  pow : Lib.TabIs Tryd.prog w "internal/strconv.uint64pow10" .u64 Lib.pow10Tab
  bru : Lib.TabIs Tryd.prog w "math/bits.deBruijn64tab" .u8 bru64
theorem tabIs_below {w w' : World} {n : String} {k : IntKind} {zs : List Int} (h : Lib.TabIs Tryd.prog w n k zs) (hb : Below w.heap.size w w') : Lib.TabIs Tryd.prog w' n k zs := by
  unfold Lib.TabIs World.var? at *
  obtain ⟨g, hg, h⟩ := Option.bind_eq_some_iff.1 h
  rw [hg, Option.bind_some]
  have hlt : g < w.heap.size := by
    rcases Nat.lt_or_ge g w.heap.size with hh | hh
    · exact hh
    · rw [Array.getElem?_eq_none hh] at h; simp at h
  rw [hb.block g hlt]
  exact h
theorem Tab.below {w w' : World} (h : Tab w) (hb : Below w.heap.size w w') : Tab w' := ⟨tabIs_below h.pow hb, tabIs_below h.bru hb⟩
theorem tb_ {w w' : World} (hb : Below w.heap.size w w') (h : Aside0 (Tab w)) : Aside0 (Tab w') := ⟨h.out.below hb⟩
end Go.Proofs.YtcbjihedobhjcaaDoor.X
