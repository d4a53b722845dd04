/- Contracts of the functions that the law ChaseApart reaches, and what they answer (a session's own texts, joined; part 1). -/
import Derived.Test.YtmpcphfgmpceiaaProg
import Derived.Below
import Derived.Deep.Draws
import Derived.Deep.AppendLies
import Derived.Maps.AppendAt
import Derived.OwnWalk
import Derived.Laws.BytesArg
import Derived.Laws.MakeOwn
import Derived.Laws.OwnMore
import Derived.Deep.OwnRows
import Derived.Tactics
import Derived.Lib.ConvBytes
import Derived.Laws.Slices
import Derived.WalkKit
import Derived.KernelRfl
import Derived.RowKit3
import Derived.Deep.LoopGhost
import Derived.Deep.QuietTactic
import Derived.BigQuiet
import Derived.WideLaws
import Derived.Deep.DeepCutAuto
import Derived.Deep.CutBlock
import Derived.Deep.RegionHeld3
import Derived.Laws.Rows
import Derived.Lib.AppendStr
import Derived.ArgAppend
import Derived.Laws.IdiomCopy
import Derived.OrdersHeld
import Derived.Laws.BitsLemmas
import Derived.RowKit
import Derived.RegionTactic
import Derived.Outline
import Derived.StillTailTactics
import Derived.Test.YtmpcphfgmpceiaaBChaseApart0
/- What holds of a block, or of all that is old, holds where nothing but new blocks and draws came since: found by instances, so that a walk's text need not say how. -/
set_option linter.unusedVariables false
namespace Go.Proofs.YtmpcphfgmpceiaaW.PrintWords
open Go.RowKit Go.Proofs.YtmpcphfgmpceiaaW.PrintLast Go.Proofs.YtmpcphfgmpceiaaW.PrintMore
class Peel (W0 W1 : World) : Prop where
  blk : ∀ (g : Nat) (o : Obj), W0.heap[g]? = some o → W1.heap[g]? = some o
  bel : ∀ w : World, Below w.heap.size w W0 → Below w.heap.size w W1
instance (priority := high) Peel.self (W : World) : Peel W W := ⟨fun _ _ h => h, fun _ h => h⟩
instance Peel.alloc (W0 W1 : World) (o' : Obj) [h : Peel W0 W1] : Peel W0 (W1.alloc o') := ⟨fun g o hk => blk_alloc (h.blk g o hk) o', fun w hb => below_alloc (h.bel w hb) o'⟩
instance Peel.drewN (W0 W1 : World) (n : Nat) [h : Peel W0 W1] : Peel W0 (W1.drewN n) := ⟨fun g o hk => blk_drewN (h.blk g o hk) n, fun w hb => pw_below_drewN (h.bel w hb) n⟩
instance Peel.drew (W0 W1 : World) [h : Peel W0 W1] : Peel W0 W1.drew := ⟨fun g o hk => blk_drew (h.blk g o hk), fun w hb => below_drew1 (h.bel w hb)⟩
theorem pkx {W0 W1 : World} [h : Peel W0 W1] {g : Nat} {o : Obj} (k : Aside0 (W0.heap[g]? = some o)) : W1.heap[g]? = some o := h.blk _ _ k.out
theorem pbx {W0 W1 w : World} [h : Peel W0 W1] (k : Aside0 (Below w.heap.size w W0)) : Below w.heap.size w W1 := h.bel _ k.out
end Go.Proofs.YtmpcphfgmpceiaaW.PrintWords
namespace Go.Proofs.Ytmpcphfgmpceiaa.X
open Go.RowKit Go.Proofs.YtmpcphfgmpceiaaW.PrintWords Go.Proofs.YtmpcphfgmpceiaaW.PrintLast Go.Proofs.YtmpcphfgmpceiaaW.PrintMore
attribute [local go_sem] max2_int min2_int max_two min_two max_three min_three max_four min_four   -- for this text's walks alone
set_option linter.unusedVariables false
set_option linter.unusedSimpArgs false
def errW : Option Int → Value
  | none => .nilIface
  | some c => .iface 0 (.int .i64 c)
theorem errW_none : errW none = .nilIface := rfl
theorem errW_some (c : Int) : errW (some c) = .iface 0 (.int .i64 c) := rfl

theorem info3 : (Try.prog.info? 3).map (fun i => (i.zero, i.size, i.bytes)) = some (some (.int .i64 0), 1, 8) := by kernel_rfl
theorem info4 : (Try.prog.info? 4).map (fun i => (i.zero, i.size, i.bytes)) = some (some (.bool false), 1, 1) := by kernel_rfl
theorem info36 : (Try.prog.info? 36).map (fun i => (i.zero, i.size, i.bytes)) = some (some (.agg #[(.int .i64 0), (.int .u64 0), (.int .i64 0)]), 3, 24) := by kernel_rfl
-- the values' own types
structure S26 where
  f0 : Int
  f1 : Int
def z26 : S26 := ⟨(0 : Int), (0 : Int)⟩
def k26 : Kd S26 := Kd.iso (Kd.pair (Kd.int .i64) (Kd.int .u64)) (fun x : S26 => (x.f0, x.f1))
theorem k26_open {w : World} {x : S26} {cs : List Value} (h : k26.K w x cs) : cs = [.int .i64 x.f0, .int .u64 x.f1] := by
  obtain ⟨_, _, rfl, rfl, rfl⟩ := h
  exact rfl
theorem k26_openM {w : World} {base : Nat} {ok : Nat → Prop} {x : S26} {cs : List Value} (h : k26.M w base ok x cs) : cs = [.int .i64 x.f0, .int .u64 x.f1] := by
  obtain ⟨_, _, rfl, rfl, rfl⟩ := h
  exact rfl
theorem k26_mkM (w : World) (base : Nat) (ok : Nat → Prop) (x : S26)  : k26.M w base ok x [.int .i64 x.f0, .int .u64 x.f1] := ⟨[.int .i64 x.f0], [.int .u64 x.f1], rfl, rfl, rfl⟩
def rd_T26 (xs : List S26) (i : Int) : S26 := xs.getD i.toNat z26
theorem at_T26 {w : World} {A : Option Addr} {n : Nat} {xs : List S26} (h : Kd.C k26 w A n xs) (i : Int) (h0 : 0 ≤ i) (h1 : i < n) : ∃ ad , A = some ad ∧ w.cell? (ad.add (i.toNat * 2)) = some (.int .i64 (rd_T26 xs i).f0) ∧ w.cell? ⟨(ad.add (i.toNat * 2)).block, (ad.add (i.toNat * 2)).off + 1, none⟩ = some (.int .u64 (rd_T26 xs i).f1) := by
  obtain ⟨ad, c, e, _, hK, hc0⟩ := Kd.C_get h z26 i h0 h1
  have hc : ∀ j u, c[j]? = some u → w.cell? (ad.add (i.toNat * 2 + j)) = some u := hc0
  obtain rfl := k26_open hK
  exact ⟨ad, e, hc 0 _ rfl, by rw [← add_field _ _ 1 (by omega)]; exact hc 1 _ rfl⟩

structure S38 where
  f0 : S26
  f1 : Int
def z38 : S38 := ⟨z26, (0 : Int)⟩
def k38 : Kd S38 := Kd.iso (Kd.pair k26 (Kd.int .i64)) (fun x : S38 => (x.f0, x.f1))
theorem k38_open {w : World} {x : S38} {cs : List Value} (h : k38.K w x cs) : cs = [.int .i64 x.f0.f0, .int .u64 x.f0.f1, .int .i64 x.f1] := by
  obtain ⟨_, _, rfl, s0, rfl⟩ := h
  obtain rfl := k26_open s0
  exact rfl
def rd_T38 (xs : List S38) (i : Int) : S38 := xs.getD i.toNat z38
theorem at_T38 {w : World} {A : Option Addr} {n : Nat} {xs : List S38} (h : Kd.C k38 w A n xs) (i : Int) (h0 : 0 ≤ i) (h1 : i < n) : ∃ ad , A = some ad ∧ w.cell? (ad.add (i.toNat * 3)) = some (.int .i64 (rd_T38 xs i).f0.f0) ∧ w.cell? ⟨(ad.add (i.toNat * 3)).block, (ad.add (i.toNat * 3)).off + 1, none⟩ = some (.int .u64 (rd_T38 xs i).f0.f1) ∧ w.cell? ⟨(ad.add (i.toNat * 3)).block, (ad.add (i.toNat * 3)).off + 2, none⟩ = some (.int .i64 (rd_T38 xs i).f1) := by
  obtain ⟨ad, c, e, _, hK, hc0⟩ := Kd.C_get h z38 i h0 h1
  have hc : ∀ j u, c[j]? = some u → w.cell? (ad.add (i.toNat * 3 + j)) = some u := hc0
  obtain rfl := k38_open hK
  exact ⟨ad, e, hc 0 _ rfl, by rw [← add_field _ _ 1 (by omega)]; exact hc 1 _ rfl, by rw [← add_field _ _ 2 (by omega)]; exact hc 2 _ rfl⟩

structure S36 where
  f0 : S26
  f1 : Int
def z36 : S36 := ⟨z26, (0 : Int)⟩
def k36 : Kd S36 := Kd.iso (Kd.pair k26 (Kd.int .i64)) (fun x : S36 => (x.f0, x.f1))
theorem k36_open {w : World} {x : S36} {cs : List Value} (h : k36.K w x cs) : cs = [.int .i64 x.f0.f0, .int .u64 x.f0.f1, .int .i64 x.f1] := by
  obtain ⟨_, _, rfl, s0, rfl⟩ := h
  obtain rfl := k26_open s0
  exact rfl
theorem k36_openM {w : World} {base : Nat} {ok : Nat → Prop} {x : S36} {cs : List Value} (h : k36.M w base ok x cs) : cs = [.int .i64 x.f0.f0, .int .u64 x.f0.f1, .int .i64 x.f1] := by
  obtain ⟨_, _, rfl, s0, rfl⟩ := h
  obtain rfl := k26_openM s0
  exact rfl
theorem k36_mkM (w : World) (base : Nat) (ok : Nat → Prop) (x : S36)  : k36.M w base ok x [.int .i64 x.f0.f0, .int .u64 x.f0.f1, .int .i64 x.f1] := ⟨[.int .i64 x.f0.f0, .int .u64 x.f0.f1], [.int .i64 x.f1], rfl, (k26_mkM w base ok x.f0 ), rfl⟩
def rd_T36 (xs : List S36) (i : Int) : S36 := xs.getD i.toNat z36
theorem at_T36 {w : World} {A : Option Addr} {n : Nat} {xs : List S36} (h : Kd.C k36 w A n xs) (i : Int) (h0 : 0 ≤ i) (h1 : i < n) : ∃ ad , A = some ad ∧ w.cell? (ad.add (i.toNat * 3)) = some (.int .i64 (rd_T36 xs i).f0.f0) ∧ w.cell? ⟨(ad.add (i.toNat * 3)).block, (ad.add (i.toNat * 3)).off + 1, none⟩ = some (.int .u64 (rd_T36 xs i).f0.f1) ∧ w.cell? ⟨(ad.add (i.toNat * 3)).block, (ad.add (i.toNat * 3)).off + 2, none⟩ = some (.int .i64 (rd_T36 xs i).f1) := by
  obtain ⟨ad, c, e, _, hK, hc0⟩ := Kd.C_get h z36 i h0 h1
  have hc : ∀ j u, c[j]? = some u → w.cell? (ad.add (i.toNat * 3 + j)) = some u := hc0
  obtain rfl := k36_open hK
  exact ⟨ad, e, hc 0 _ rfl, by rw [← add_field _ _ 1 (by omega)]; exact hc 1 _ rfl, by rw [← add_field _ _ 2 (by omega)]; exact hc 2 _ rfl⟩

structure S23 where
  f0 : Int
  f1 : Int
def k23 : Kd S23 := Kd.iso (Kd.pair (Kd.int .i64) (Kd.int .i64)) (fun x : S23 => (x.f0, x.f1))
theorem k23_open {w : World} {x : S23} {cs : List Value} (h : k23.K w x cs) : cs = [.int .i64 x.f0, .int .i64 x.f1] := by
  obtain ⟨_, _, rfl, rfl, rfl⟩ := h
  exact rfl
end Go.Proofs.Ytmpcphfgmpceiaa.X
namespace Go.Proofs.Ytmpcphfgmpceiaa.X
open Go.RowKit Go.Proofs.YtmpcphfgmpceiaaW.PrintWords
abbrev T_ : Bool := true
abbrev F_ : Bool := false
theorem hl_ {W0 W1 : World} [Peel W0 W1] {g gb : Nat} {o : Obj} (k : Aside0 (W0.heap[g]? = some o)) (hg : gb = W1.heap.size) : Aside0 (g ≠ gb) := ⟨by rw [hg]; exact Nat.ne_of_lt (blk_lt (pkx k))⟩
theorem hr_ {W0 W1 : World} [Peel W0 W1] {g gb : Nat} {o : Obj} (k : Aside0 (W0.heap[g]? = some o)) (hg : gb = W1.heap.size) : Aside0 (gb ≠ g) := ⟨by rw [hg]; exact Nat.ne_of_gt (blk_lt (pkx k))⟩
theorem hs_ {W0 W1 w : World} [Peel W0 W1] {gb : Nat} (k : Aside0 (Below w.heap.size w W0)) (hg : gb = W1.heap.size) : Aside0 (w.heap.size ≤ gb) := ⟨by rw [hg]; exact below_size (pbx k)⟩
abbrev T : Bool := true
abbrev F : Bool := false
def m_ : Nat → Nat → List Bool
  | 0, _ => []
  | n + 1, x => (x % 2 == 1) :: m_ n (x / 2)
theorem bb_ {W0 W1 W2 : World} [h : Peel W0 W1] {g : Nat} {o : Obj} (k : Aside0 (W0.heap[g]? = some o)) (hb : Below W1.heap.size W1 W2) : Aside0 (W2.heap[g]? = some o) := Aside0.mk (blk_below (pkx k) hb)
theorem bs_ {W0 W1 W2 w : World} [h : Peel W0 W1] (k : Aside0 (Below w.heap.size w W0)) (hb : Below W1.heap.size W1 W2) : Aside0 (Below w.heap.size w W2) := Aside0.mk (below_step (pbx k) hb)
theorem bc_ {w : World} {g : Nat} {t : TypeId} {cs : Array Value} {v : Value} (h : Aside0 (w.heap[g]? = some (.cells cs t (0, 0)))) (i : Nat) (e : cs[i]? = some v) : w.cell? ⟨g, i, none⟩ = some v := (blk_cell h.out i).trans e
theorem q_ : (∀ (a : Act) (v : Value), a.put none v = a) ∧ (∀ (a : Act) (t : Tmp) (v : Value), a.put (some t) v = { a with tmps := a.tmps.setIfInBounds t v }) ∧ (∀ (l : List Value) (i : Nat) (v : Value), l.toArray.setIfInBounds i v = (l.set i v).toArray) ∧ (∀ (a b : Value) (l : List Value), (a :: l).set 0 b = b :: l) ∧ (∀ (a b : Value) (l : List Value) (n : Nat), (a :: l).set (n + 1) b = a :: l.set n b) := ⟨fun _ _ => rfl, fun _ _ _ => rfl, fun _ _ _ => List.setIfInBounds_toArray .., fun _ _ _ => rfl, fun _ _ _ _ => rfl⟩
end Go.Proofs.Ytmpcphfgmpceiaa.X
namespace Go.Proofs.Ytmpcphfgmpceiaa.X
open Go.RowKit Go.Proofs.YtmpcphfgmpceiaaW.PrintWords Go.Proofs.YtmpcphfgmpceiaaW.PrintLast Go.Proofs.YtmpcphfgmpceiaaW.PrintMore
class PO (W0 : outParam World) (W1 : World) : Prop where
  of : ∀ (g : Nat) (o : Obj), W0.heap[g]? = some o → W1.heap[g]? = some o
instance (priority := low) PO.self (W : World) : PO W W := ⟨fun _ _ h => h⟩
instance PO.alloc (W0 W1 : World) (o9 : Obj) [h : PO W0 W1] : PO W0 (W1.alloc o9) := ⟨fun g o k => blk_alloc (h.of g o k) o9⟩
instance PO.drewN (W0 W1 : World) (n : Nat) [h : PO W0 W1] : PO W0 (W1.drewN n) := ⟨fun g o k => blk_drewN (h.of g o k) n⟩
instance PO.drew (W0 W1 : World) [h : PO W0 W1] : PO W0 W1.drew := ⟨fun g o k => blk_drew (h.of g o k)⟩
theorem pf_ {W W1 : World} {g : Nat} {cs : Array Value} {t : TypeId} {p : Addr} {v : Value} [h : PO (W.setCell p v) W1] (k : W.heap[g]? = some (.cells cs t (0, 0))) (hne : g ≠ p.block) : W1.heap[g]? = some (.cells cs t (0, 0)) := h.of _ _ (blk_far k hne v)
theorem pp_ {W W1 : World} {g : Nat} {cs cs2 : Array Value} {t : TypeId} {v : Value} (i : Nat) [h : PO (W.setCell ⟨g, i, none⟩ v) W1] (k : W.heap[g]? = some (.cells cs t (0, 0))) (e : cs.setIfInBounds i v = cs2) : W1.heap[g]? = some (.cells cs2 t (0, 0)) := h.of _ _ (blk_put k i v e)
theorem gL_ {P : Program} {ops : Array Oper} {Q : Exit → Act → World → Prop} {rest : List Oper} {oi : Oper} {a : Act} {w : World} (N : Option Tmp) (hd : oi.dst = N) (hg : oi.guard = none) {f : FuncId} {fn : Func} {asx : Array Operand} {ts : Array TypeId} (hf : P.funcs[f]? = some fn) (hb : fn.body.isSome = true) (args : Array Value) (hop : oi.op = .call { callee := .value (.func f), args := asx, argTypes := ts })
    (h : Calls P f args w fun e w9 => ∃ v, e = .returned v ∧ wpList P ops Q rest (a.put N v) w9) (hname : (fn.name == "runtime.NumGoroutine") = false := by kernel_rfl) (hargs : asx.map a.eval = args := by (try simp only [List.map_toArray, List.map_cons, List.map_nil]); first | done | rfl | (simp only [List.length_drop, List.length_take]; rfl)) : wpList P ops Q (oi :: rest) a w := goesL_ N hd hg hf hname hb args hop hargs h
theorem be_ {P : Program} {ops : Array Oper} {Q : Exit → Act → World → Prop} {rest : List Oper} {o : Oper} {a : Act} {W : World} {N : Tmp} {cs : Array Value} {t : TypeId} (h : ∀ g, g = W.heap.size → ∀ w1, w1.heap[g]? = some (.cells cs t (0, 0)) → Below W.heap.size W w1 → wpList P ops Q rest (a.put o.dst (.pointer (some ⟨g, 0, none⟩))) w1) (hgd : o.guard = none := by rfl) (hd : o.dst = some N := by rfl) (hrun : (execOp a.eval o).run P W = .ok (.value (.pointer (some ⟨W.heap.size, 0, none⟩))) (W.alloc (.cells cs t (0, 0))) := by first | (go_simp; done) | (go_simp; rfl)) : wpList P ops Q (o :: rest) a W := box_event hgd hd hrun h
end Go.Proofs.Ytmpcphfgmpceiaa.X
namespace Go.Proofs.Ytmpcphfgmpceiaa.X
open Go.RowKit Go.Proofs.YtmpcphfgmpceiaaW.PrintWords Go.Proofs.YtmpcphfgmpceiaaW.PrintLast Go.Proofs.YtmpcphfgmpceiaaW.PrintMore
attribute [local go_sem] max2_int min2_int max_two min_two max_three min_three max_four min_four
set_option linter.unusedVariables false
set_option linter.unusedSimpArgs false
theorem eqA26 (d : Nat) (w : World) (x0 y0 : Int) (x1 y1 : Int) :
  (Op.equalIn (d + 2) 26 (.agg #[.int .i64 x0, .int .u64 x1]) (.agg #[.int .i64 y0, .int .u64 y1])).run Try.prog w = .ok (x0 == y0 && (x1 == y1)) w := by
 refine eqA_of Try.underlying26 (by kernel_rfl) ?_
 refine eqf_cons (by rfl) (by go_simp; rfl) (by go_simp; rfl) (by go_simp) ?_
 exact eqf_last (by rfl) (by go_simp; rfl) (by go_simp; rfl) (by go_simp)
def oculusref35_Has.l0 : Nat → List Int → Int → Int → Option (Bool)
 | 0, _, _, _ => none
 | k + 1, x0, x1, x5 => if x5 < (x0.length : Int) then (if 0 ≤ x5 then (if (rd x0 x5) = x1 then (some true) else (oculusref35_Has.l0 k x0 x1 (wrap64 (x5 + 1)))) else (none)) else (some false)
def oculusref35_Has.f (k : Nat) (l0 : List Int) (a1 : Int) : Option (Bool) := oculusref35_Has.l0 k l0 a1 0
set_option maxHeartbeats 8000000 in
set_option maxRecDepth 100000 in
theorem oculusref35_Has.calls (k : Nat) (A0 : Option Addr) (c0 : Nat) (l0 : List Int) (a1 : Int) (r : Bool) (w : World) (hr0 : Kd.C (Kd.int .i64) w A0 l0.length l0) (hc0 : l0.length ≤ c0) (h : oculusref35_Has.f k l0 a1 = some r) :
  Calls Try.prog 4 #[.slice A0 l0.length c0, .int .i64 a1] w fun e w' => e = .returned (.bool r) ∧ Drawn0 w w' := by
 have HR0 := Aside0.mk hr0; have HC0 := Aside0.mk hc0; clear hr0 hc0
 have H : (oculusref35_Has.l0 k l0 a1 0) = some r := h
 clear h
 have H' := Aside0.mk H
 clear H
 go_enter Try.func4, Try.ntmps4
 go_wp2
 go_loopg [5] k (fun kq v5 w' => ∃ (x5_1 : Int), v5 = .int .i64 x5_1 ∧ Aside0 (oculusref35_Has.l0 kq l0 a1 x5_1 = some r) ∧ Aside0 (kq ≤ k) ∧ Drawn0 w w')
 case atStart => exact ⟨(0), (by first | rfl | (simp; done) | (simp [*]; done)), H', ⟨Nat.le_refl _⟩, by repeat (first | exact Drawn0.refl _ | apply Drawn0.step)⟩
 case round =>
  clear H'; (try clear p2); obtain ⟨x5_1, rfl, HA, HK1, ⟨m1, rfl⟩⟩ := hrel
  cases gk with
  | zero => exact absurd HA.out (by simp [oculusref35_Has.l0])
  | succ k1 =>
   have H := HA.out; clear HA
   simp only [oculusref35_Has.l0] at H
   by_cases c3 : x5_1 < (l0.length : Int)
   ·rw [if_pos c3] at H; have c3b0 : decide (x5_1 < (l0.length : Int)) = true := decide_eq_true c3; clear c3
    by_cases c4 : 0 ≤ x5_1
    ·rw [if_pos c4] at H; have c4b0 : decide (0 ≤ x5_1) = true := decide_eq_true c4; clear c4
     by_cases c5 : (rd l0 x5_1) = a1
     ·rw [if_pos c5] at H; have c5b0 : ((rd l0 x5_1) == a1) = true := beq_iff_eq.mpr c5; have c5b1 : ((rd l0 x5_1) != a1) = false := bne_eq_false_iff_eq.mpr c5; clear c5; obtain rfl := Option.some.inj H
      have p101 : 0 ≤ (x5_1 : Int) := of_decide_eq_true (by first | (with_reducible assumption) | assumption)
      have q101 : x5_1 < (l0.length : Int) := of_decide_eq_true (by first | (with_reducible assumption) | assumption)
      obtain ⟨ad101, e101, hx101_0⟩ := Kd.at_int HR0.out x5_1 p101 q101
      cases e101
      replace p101 := eq_true p101; replace q101 := eq_true q101
      go_wp2
      go_ret
      exact ⟨by first | rfl | (simp; done) | (simp [*]; done), by repeat (first | exact Drawn0.refl _ | apply Drawn0.step)⟩
     ·rw [if_neg c5] at H; have c5b0 : ((rd l0 x5_1) == a1) = false := beq_eq_false_iff_ne.mpr c5; have c5b1 : ((rd l0 x5_1) != a1) = true := bne_iff_ne.mpr c5
      have H' := Aside0.mk H
      clear H
      have p101 : 0 ≤ (x5_1 : Int) := of_decide_eq_true (by first | (with_reducible assumption) | assumption)
      have q101 : x5_1 < (l0.length : Int) := of_decide_eq_true (by first | (with_reducible assumption) | assumption)
      obtain ⟨ad101, e101, hx101_0⟩ := Kd.at_int HR0.out x5_1 p101 q101
      cases e101
      replace p101 := eq_true p101; replace q101 := eq_true q101
      go_wp2
      go_roundg k1
      case measure => have := HK1.out; omega
      case rel => exact ⟨(wrap64 (x5_1 + 1)), (by first | rfl | (simp; done) | (simp [*]; done)), H', ⟨by have := HK1.out; omega⟩, by repeat (first | exact Drawn0.refl _ | apply Drawn0.step)⟩
    ·rw [if_neg c4] at H
     exact absurd H (by simp)
   ·rw [if_neg c3] at H; have c3b0 : decide (x5_1 < (l0.length : Int)) = false := decide_eq_false c3; clear c3; obtain rfl := Option.some.inj H
    go_wp2
    go_ret
    exact ⟨by first | rfl | (simp; done) | (simp [*]; done), by repeat (first | exact Drawn0.refl _ | apply Drawn0.step)⟩

def oculusref35_Chain.l0 : Nat → List (S38) → Int → List Int → Int → Option (List Int)
 | 0, _, _, _, _ => none
 | k + 1, x0, x1, x5, x6 => if x6 ≤ (x0.length : Int) then (if x1 < 0 then (some x5) else (if x1 ≥ (x0.length : Int) then (some x5) else ((oculusref35_Has.f k x5 x1).bind fun t101 => (if t101 = true then (some x5) else (if x5.length < 17592186044416 then (if 0 ≤ x1 then (if x1 < (x0.length : Int) then (oculusref35_Chain.l0 k x0 ((rd_T38 x0 x1).f1) (x5 ++ [x1]) (wrap64 (x6 + 1))) else (none)) else (none)) else (none)))))) else (some x5)
def oculusref35_Chain.f (k : Nat) (l0 : List (S38)) (a1 : Int) : Option (List Int) := oculusref35_Chain.l0 k l0 a1 ([] : List Int) 0
set_option maxHeartbeats 8000000 in
set_option maxRecDepth 100000 in
theorem oculusref35_Chain.calls (k : Nat) (A0 : Option Addr) (c0 : Nat) (l0 : List (S38)) (a1 : Int) (r : List Int) (w : World) (hr0 : Kd.C k38 w A0 l0.length l0) (hc0 : l0.length ≤ c0) (h : oculusref35_Chain.f k l0 a1 = some r) :
  Calls Try.prog 5 #[.slice A0 l0.length c0, .int .i64 a1] w fun e w' => ∃ v0_ : Value, e = .returned (v0_) ∧ Kd.R (Kd.int .i64) 3 w' w.heap.size (fun _ => True) v0_ r ∧ Below w.heap.size w w' := by
 have HR0 := Aside0.mk hr0; have HC0 := Aside0.mk hc0; clear hr0 hc0; have HB := Aside0.mk (Below.refl w.heap.size w)
 have H : (oculusref35_Chain.l0 k l0 a1 ([] : List Int) 0) = some r := h
 clear h
 have H' := Aside0.mk H
 clear H
 go_enter Try.func5, Try.ntmps5
 go_wp2
 go_loopg [1, 5, 6] k (fun kq v1 v5 v6 w' => ∃ (x1_1 : Int) (x5_1 : List Int) (x6_1 : Int), v1 = .int .i64 x1_1 ∧ v6 = .int .i64 x6_1 ∧ Aside0 (oculusref35_Chain.l0 kq l0 x1_1 x5_1 x6_1 = some r) ∧ Aside0 (kq ≤ k) ∧ Aside0 (Kd.R (Kd.int .i64) 3 w' w.heap.size (fun _ => True) v5 x5_1) ∧ Aside0 (Below w.heap.size w w'))
 case atStart => exact ⟨(a1), (([] : List Int)), (0), (by first | rfl | (simp; done) | (simp [*]; done)), (by first | rfl | (simp; done) | (simp [*]; done)), H', ⟨Nat.le_refl _⟩, ⟨by first | exact Kd.R_nil _ _ _ _ _ | exact Kd.N_nil _ _ _ _ _ | exact Kd.V_nil _ _ _ _ _ | exact Kd.Q_nil _ _ _ _ _ | exact Kd.S_nil _ _ _ _ _⟩, ⟨pbx HB⟩⟩
 case round =>
  clear H'; (try clear p2); obtain ⟨x1_1, x5_1, x6_1, rfl, rfl, HA, HK1, HO_5, HB⟩ := hrel
  cases gk with
  | zero => exact absurd HA.out (by simp [oculusref35_Chain.l0])
  | succ k1 =>
   have H := HA.out; clear HA
   simp only [oculusref35_Chain.l0] at H
   by_cases c3 : x6_1 ≤ (l0.length : Int)
   ·rw [if_pos c3] at H; have c3b0 : decide (x6_1 ≤ (l0.length : Int)) = true := decide_eq_true c3; clear c3
    by_cases c4 : x1_1 < 0
    ·rw [if_pos c4] at H; have c4b0 : decide (x1_1 < 0) = true := decide_eq_true c4; clear c4; obtain rfl := Option.some.inj H
     go_wp2
     go_ret
     exact ⟨_, by first | rfl | (simp [errW_none, errW_some] <;> rfl) | (simp [*, errW_none, errW_some] <;> rfl), by (with_reducible repeat (first | apply Kd.R_alloc | apply Kd.R_drewN | apply Kd.R_drew)); exact HO_5.out, pbx HB⟩
    ·rw [if_neg c4] at H; have c4b0 : decide (x1_1 < 0) = false := decide_eq_false c4; clear c4
     by_cases c5 : x1_1 ≥ (l0.length : Int)
     ·rw [if_pos c5] at H; have c5b0 : decide ((l0.length : Int) ≤ x1_1) = true := decide_eq_true c5; clear c5; obtain rfl := Option.some.inj H
      go_wp2
      go_ret
      exact ⟨_, by first | rfl | (simp [errW_none, errW_some] <;> rfl) | (simp [*, errW_none, errW_some] <;> rfl), by (with_reducible repeat (first | apply Kd.R_alloc | apply Kd.R_drewN | apply Kd.R_drew)); exact HO_5.out, pbx HB⟩
     ·rw [if_neg c5] at H; have c5b0 : decide ((l0.length : Int) ≤ x1_1) = false := decide_eq_false c5; clear c5; replace H := Option.bind_eq_some_iff.mp H; obtain ⟨t101, A60, H⟩ := H
      replace H : (if t101 = true then (some x5_1) else (if x5_1.length < 17592186044416 then (if 0 ≤ x1_1 then (if x1_1 < (l0.length : Int) then (oculusref35_Chain.l0 k1 l0 ((rd_T38 l0 x1_1).f1) (x5_1 ++ [x1_1]) (wrap64 (x6_1 + 1))) else (none)) else (none)) else (none))) = some r := H
      have A6 := Aside0.mk A60; clear A60
      by_cases c7 : t101 = true
      ·subst c7
       have H1 : (some x5_1) = some r := by rw [if_pos rfl] at H; exact H
       clear H; have H := H1; clear H1; obtain rfl := Option.some.inj H; obtain ⟨Ao8, co8, eo8⟩ := Kd.R_slice HO_5.out; subst eo8
       go_wp2_with (first | (go_at_call 4; (with_reducible refine (oculusref35_Has.calls k1 _ _ x5_1 x1_1 true _ ?side1 ?side2 A6.out).mono ?_); (case side1 => repeat (first | exact (Kd.R_reads' HO_5.out).2.2 | (with_reducible refine Kd.C_alloc ?_ _) | (with_reducible refine Kd.C_drewN ?_ _) | (with_reducible refine Kd.C_drew ?_))); (case side2 => exact (Kd.R_reads' HO_5.out).2.1); rintro e w' ⟨rfl, ⟨nd, rfl⟩⟩))
       go_ret
       exact ⟨_, by first | rfl | (simp [errW_none, errW_some] <;> rfl) | (simp [*, errW_none, errW_some] <;> rfl), by (with_reducible repeat (first | apply Kd.R_alloc | apply Kd.R_drewN | apply Kd.R_drew)); exact HO_5.out, pbx HB⟩
      ·replace c7 := Bool.eq_false_iff.mpr c7; subst c7
       have H1 : (if x5_1.length < 17592186044416 then (if 0 ≤ x1_1 then (if x1_1 < (l0.length : Int) then (oculusref35_Chain.l0 k1 l0 ((rd_T38 l0 x1_1).f1) (x5_1 ++ [x1_1]) (wrap64 (x6_1 + 1))) else (none)) else (none)) else (none)) = some r := by rw [if_neg (show ¬ (false = true) by decide)] at H; exact H
       clear H; have H := H1; clear H1
       by_cases c9 : x5_1.length < 17592186044416
       ·rw [if_pos c9] at H; have LMc9 := Aside0.mk c9; clear c9; obtain ⟨y102, hy102⟩ : ∃ y_ : List Int, y_ = (x5_1 ++ [x1_1]) := ⟨_, rfl⟩
        replace H : (if 0 ≤ x1_1 then (if x1_1 < (l0.length : Int) then (oculusref35_Chain.l0 k1 l0 ((rd_T38 l0 x1_1).f1) y102 (wrap64 (x6_1 + 1))) else (none)) else (none)) = some r := by first | (rw [hy102]; with_reducible exact H) | (have H2_ := (Option.bind_some _ _).symm.trans H; rw [hy102]; with_reducible exact H2_) | (have H2_ := (Option.bind_some _ _).symm.trans H; with_reducible exact H2_) | with_reducible exact H | (rw [hy102]; exact H) | exact H
        have Ny102 := Aside0.mk hy102; clear hy102
        by_cases c10 : 0 ≤ x1_1
        ·rw [if_pos c10] at H; have c10b0 : decide (0 ≤ x1_1) = true := decide_eq_true c10; clear c10
         by_cases c11 : x1_1 < (l0.length : Int)
         ·rw [if_pos c11] at H; have c11b0 : decide (x1_1 < (l0.length : Int)) = true := decide_eq_true c11; clear c11
          have H' := Aside0.mk H
          clear H; obtain ⟨Ao12, co12, eo12⟩ := Kd.R_slice HO_5.out; subst eo12
          go_wp2_with (first | (go_at_call 4; (with_reducible refine (oculusref35_Has.calls k1 _ _ x5_1 x1_1 false _ ?side1 ?side2 A6.out).mono ?_); (case side1 => repeat (first | exact (Kd.R_reads' HO_5.out).2.2 | (with_reducible refine Kd.C_alloc ?_ _) | (with_reducible refine Kd.C_drewN ?_ _) | (with_reducible refine Kd.C_drew ?_))); (case side2 => exact (Kd.R_reads' HO_5.out).2.1); rintro e w' ⟨rfl, ⟨nd, rfl⟩⟩) | ((with_reducible refine gate_builtin (b := .append) (xs := #[.tmp 27, .tmp 29]) rfl ?_); (try (refine gate_guard (by rfl) ?_; dsimp only)); at_builtin; refine Kd.R_append (Kd.int .i64) (w0 := w) w.heap.size rfl (.tmp 27) (.tmp 29) 28 3 (.int .i64 0) 8 rfl Try.underlying28 info3 rfl (by decide) (by omega) (.slice Ao12 x5_1.length co12) x5_1 x1_1 [.int .i64 x1_1] (fun _ => True) (fun _ => False) rfl rfl ?aP (fun _ hk => hk.elim) ?aF ?aO ?aB ?aS ?aL ?_; (case aP => exact rfl); (case aB => exact (pbx HB)); (case aF => exact (fun _ _ => trivial)); (case aO => exact (by (with_reducible repeat (first | apply Kd.R_alloc | apply Kd.R_drewN | apply Kd.R_drew)); exact HO_5.out)); (case aS => exact (below_size (pbx HB))); (case aL => have := LMc9.out; omega); intro v103 w13 ho hb hg hat; rw [← Ny102.out] at ho; have HO104 := Aside0.mk (ho); replace HB := Aside0.mk (hb); clear HO_5; clear ho hb hg hat; have p105 : 0 ≤ (x1_1 : Int) := of_decide_eq_true (by first | (with_reducible assumption) | assumption); have q105 : x1_1 < (l0.length : Int) := of_decide_eq_true (by first | (with_reducible assumption) | assumption); obtain ⟨ad105, e105, hx105_0, hx105_1, hx105_2⟩ := at_T38 HR0.out x1_1 p105 q105; cases e105; replace hx105_0 := (HB.out.cell (World.block_lt_of_cell? w _ hx105_0)).trans hx105_0; replace hx105_1 := (HB.out.cell (World.block_lt_of_cell? w _ hx105_1)).trans hx105_1; replace hx105_2 := (HB.out.cell (World.block_lt_of_cell? w _ hx105_2)).trans hx105_2; replace p105 := eq_true p105; replace q105 := eq_true q105))
          go_roundg k1
          case measure => have := HK1.out; omega
          case rel => exact ⟨((rd_T38 l0 x1_1).f1), (y102), (wrap64 (x6_1 + 1)), (by first | rfl | (simp; done) | (simp [*]; done)), (by first | rfl | (simp; done) | (simp [*]; done)), H', ⟨by have := HK1.out; omega⟩, ⟨by (with_reducible repeat (first | apply Kd.R_alloc | apply Kd.R_drewN | apply Kd.R_drew)); exact HO104.out⟩, ⟨pbx HB⟩⟩
         ·rw [if_neg c11] at H
          exact absurd H (by simp)
        ·rw [if_neg c10] at H
         exact absurd H (by simp)
       ·rw [if_neg c9] at H
        exact absurd H (by simp)
   ·rw [if_neg c3] at H; have c3b0 : decide (x6_1 ≤ (l0.length : Int)) = false := decide_eq_false c3; clear c3; obtain rfl := Option.some.inj H
    go_wp2
    go_ret
    exact ⟨_, by first | rfl | (simp [errW_none, errW_some] <;> rfl) | (simp [*, errW_none, errW_some] <;> rfl), by (with_reducible repeat (first | apply Kd.R_alloc | apply Kd.R_drewN | apply Kd.R_drew)); exact HO_5.out, pbx HB⟩

def chase_on.f (l0 : List (S36)) (a1 : Int) : Option (Int × Bool) := if 0 ≤ a1 then (if a1 < (l0.length : Int) then (if ((rd_T36 l0 a1).f1) ≥ 0 then (some ((rd_T36 l0 a1).f1, decide (((rd_T36 l0 a1).f1) < (l0.length : Int)))) else (some ((rd_T36 l0 a1).f1, false))) else (none)) else (none)
set_option maxHeartbeats 8000000 in
set_option maxRecDepth 100000 in
theorem chase_on.calls (A0 : Option Addr) (c0 : Nat) (l0 : List (S36)) (a1 : Int) (r1 : Int) (r2 : Bool) (w : World) (hr0 : Kd.C k36 w A0 l0.length l0) (hc0 : l0.length ≤ c0) (h : chase_on.f l0 a1 = some (r1, r2)) :
  Calls Try.prog 13 #[.slice A0 l0.length c0, .int .i64 a1] w fun e w' => e = .returned (.tuple #[.int .i64 r1, .bool r2]) ∧ Drawn0 w w' := by
 have HR0 := Aside0.mk hr0; have HC0 := Aside0.mk hc0; clear hr0 hc0
 have H : (if 0 ≤ a1 then (if a1 < (l0.length : Int) then (if ((rd_T36 l0 a1).f1) ≥ 0 then (some ((rd_T36 l0 a1).f1, decide (((rd_T36 l0 a1).f1) < (l0.length : Int)))) else (some ((rd_T36 l0 a1).f1, false))) else (none)) else (none)) = some (r1, r2) := h
 clear h
 by_cases c3 : 0 ≤ a1
 ·rw [if_pos c3] at H; have c3b0 : decide (0 ≤ a1) = true := decide_eq_true c3; clear c3
  by_cases c4 : a1 < (l0.length : Int)
  ·rw [if_pos c4] at H; have c4b0 : decide (a1 < (l0.length : Int)) = true := decide_eq_true c4; clear c4
   by_cases c5 : ((rd_T36 l0 a1).f1) ≥ 0
   ·rw [if_pos c5] at H; have c5b0 : decide (0 ≤ ((rd_T36 l0 a1).f1)) = true := decide_eq_true c5; clear c5
    simp only [Option.some.injEq, Prod.mk.injEq] at H
    obtain ⟨rfl, rfl⟩ := H
    have p101 : 0 ≤ (a1 : Int) := of_decide_eq_true (by first | (with_reducible assumption) | assumption)
    have q101 : a1 < (l0.length : Int) := of_decide_eq_true (by first | (with_reducible assumption) | assumption)
    obtain ⟨ad101, e101, hx101_0, hx101_1, hx101_2⟩ := at_T36 HR0.out a1 p101 q101
    cases e101
    replace p101 := eq_true p101; replace q101 := eq_true q101
    go_enter Try.func13, Try.ntmps13
    go_wp2
    go_ret2
    exact ⟨by first | rfl | (simp; done) | (simp [*]; done), by repeat (first | exact Drawn0.refl _ | apply Drawn0.step)⟩
   ·rw [if_neg c5] at H; have c5b0 : decide (0 ≤ ((rd_T36 l0 a1).f1)) = false := decide_eq_false c5; clear c5
    simp only [Option.some.injEq, Prod.mk.injEq] at H
    obtain ⟨rfl, rfl⟩ := H
    have p101 : 0 ≤ (a1 : Int) := of_decide_eq_true (by first | (with_reducible assumption) | assumption)
    have q101 : a1 < (l0.length : Int) := of_decide_eq_true (by first | (with_reducible assumption) | assumption)
    obtain ⟨ad101, e101, hx101_0, hx101_1, hx101_2⟩ := at_T36 HR0.out a1 p101 q101
    cases e101
    replace p101 := eq_true p101; replace q101 := eq_true q101
    go_enter Try.func13, Try.ntmps13
    go_wp2
    go_ret2
    exact ⟨by first | rfl | (simp; done) | (simp [*]; done), by repeat (first | exact Drawn0.refl _ | apply Drawn0.step)⟩
  ·rw [if_neg c4] at H
   exact absurd H (by simp)
 ·rw [if_neg c3] at H
  exact absurd H (by simp)

def IsS44 (w0 W : World) (g : Nat) (f0 : List (S36)) (f1 : List Int) (f2 : List (S26)) (f3 : List Bool) (f4 : Int) : Prop := ∃ A0 c0, ∃ A1 c1, ∃ A2 c2, ∃ A3 c3, W.heap[g]? = some (.cells #[.slice A0 f0.length c0, .slice A1 f1.length c1, .slice A2 f2.length c2, .slice A3 f3.length c3, .int .i64 f4] 44 (0, 0)) ∧ w0.heap.size ≤ g ∧ Kd.C k36 w0 A0 f0.length f0 ∧ Kd.C (Kd.int .i64) w0 A1 f1.length f1 ∧ Kd.C k26 w0 A2 f2.length f2 ∧ Kd.C Kd.bool w0 A3 f3.length f3
theorem IsS44.grown {w0 W : World} {g : Nat} {f0 : List (S36)} {f1 : List Int} {f2 : List (S26)} {f3 : List Bool} {f4 : Int} {W1 : World} {row : Option Nat} (h : IsS44 w0 W g f0 f1 f2 f3 f4) (hw : W.grownBy W1 row) (hne : some g ≠ row) : IsS44 w0 W1 g f0 f1 f2 f3 f4 := by
 obtain ⟨A0, c0, A1, c1, A2, c2, A3, c3, hb, hg, hr0, hr1, hr2, hr3⟩ := h
 exact ⟨A0, c0, A1, c1, A2, c2, A3, c3, blk_grown hb hw hne, hg, hr0, hr1, hr2, hr3⟩
theorem IsS44.kept {w0 W : World} {g : Nat} {f0 : List (S36)} {f1 : List Int} {f2 : List (S26)} {f3 : List Bool} {f4 : Int} {W1 : World} {S : Nat → Prop} (h : IsS44 w0 W g f0 f1 f2 f3 f4) (hk : Kept W W1 S) (hne : ¬ S g) : IsS44 w0 W1 g f0 f1 f2 f3 f4 := by
 obtain ⟨A0, c0, A1, c1, A2, c2, A3, c3, hb, hg, hr0, hr1, hr2, hr3⟩ := h
 exact ⟨A0, c0, A1, c1, A2, c2, A3, c3, blk_kept hb hk hne, hg, hr0, hr1, hr2, hr3⟩
theorem IsS44.below {w0 W : World} {g : Nat} {f0 : List (S36)} {f1 : List Int} {f2 : List (S26)} {f3 : List Bool} {f4 : Int} {W1 : World} (h : IsS44 w0 W g f0 f1 f2 f3 f4) (hw : Below W.heap.size W W1) : IsS44 w0 W1 g f0 f1 f2 f3 f4 := h.grown (grown_of_below hw none) (by simp)
theorem IsS44.alloc {w0 W : World} {g : Nat} {f0 : List (S36)} {f1 : List Int} {f2 : List (S26)} {f3 : List Bool} {f4 : Int} (h : IsS44 w0 W g f0 f1 f2 f3 f4) (o : Obj) : IsS44 w0 (W.alloc o) g f0 f1 f2 f3 f4 := h.below (below_alloc (Below.refl _ _) o)
theorem IsS44.drewN {w0 W : World} {g : Nat} {f0 : List (S36)} {f1 : List Int} {f2 : List (S26)} {f3 : List Bool} {f4 : Int} (h : IsS44 w0 W g f0 f1 f2 f3 f4) (m : Nat) : IsS44 w0 (W.drewN m) g f0 f1 f2 f3 f4 := h
theorem IsS44.drew {w0 W : World} {g : Nat} {f0 : List (S36)} {f1 : List Int} {f2 : List (S26)} {f3 : List Bool} {f4 : Int} (h : IsS44 w0 W g f0 f1 f2 f3 f4) : IsS44 w0 W.drew g f0 f1 f2 f3 f4 := h
theorem IsS44.at_ {w0 W : World} {g : Nat} {f0 : List (S36)} {f1 : List Int} {f2 : List (S26)} {f3 : List Bool} {f4 : Int} {w' : World} {m : Nat} (hq : W.drewN m = w') (h : IsS44 w0 W g f0 f1 f2 f3 f4) : IsS44 w0 w' g f0 f1 f2 f3 f4 := by subst hq; exact IsS44.drewN h m
theorem IsS44.apart {w0 W : World} {g : Nat} {f0 : List (S36)} {f1 : List Int} {f2 : List (S26)} {f3 : List Bool} {f4 : Int} {α : Type} {d : Kd α} {e : Nat} {base : Nat} {ok : Nat → Prop} {v : Value} {xs : List α} (h : IsS44 w0 W g f0 f1 f2 f3 f4) (ho : d.R e W base ok v xs) (ht : ∀ q, q ∈ e :: d.E → q ≠ 44) : d.R e W base (fun k => ok k ∧ k ≠ g) v xs := by
 obtain ⟨A0, c0, A1, c1, A2, c2, A3, c3, hb, hg, hr0, hr1, hr2, hr3⟩ := h
 exact Kd.R_types ho hb ht
theorem IsS44.own_ne {w0 W : World} {g : Nat} {f0 : List (S36)} {f1 : List Int} {f2 : List (S26)} {f3 : List Bool} {f4 : Int} {α : Type} {d : Kd α} {e : Nat} {base : Nat} {ok : Nat → Prop} {v : Value} {xs : List α} (h : IsS44 w0 W g f0 f1 f2 f3 f4) (ho : d.R e W base ok v xs) (ht : e ≠ 44) : some g ≠ v.ownBlock := by
 obtain ⟨A0, c0, A1, c1, A2, c2, A3, c3, hb, hg, hr0, hr1, hr2, hr3⟩ := h
 exact Kd.R_ne ho hb ht
theorem IsS44.far {w0 W : World} {g : Nat} {f0 : List (S36)} {f1 : List Int} {f2 : List (S26)} {f3 : List Bool} {f4 : Int} {p : Addr} (h : IsS44 w0 W g f0 f1 f2 f3 f4) (hne : g ≠ p.block) (u : Value) : IsS44 w0 (W.setCell p u) g f0 f1 f2 f3 f4 := by
 obtain ⟨A0, c0, A1, c1, A2, c2, A3, c3, hb, hg, hr0, hr1, hr2, hr3⟩ := h
 exact ⟨A0, c0, A1, c1, A2, c2, A3, c3, blk_far hb hne u, hg, hr0, hr1, hr2, hr3⟩
mutual
def chase_Chain.j0 : Nat → List (S36) → Int → Bool → Option (List Int)
 | 0, _, _, _ => none
 | k + 1, x0, x1, x17 => if x17 = true then (some ([] : List Int)) else (if 0 ≤ (x0.length : Int) then (if ((x0.length : Int) : Int).toNat ≤ 281474976710656 then (chase_Chain.l0 k x0 x1 (List.replicate ((x0.length : Int) : Int).toNat false) ([] : List Int) true) else (none)) else (none))
def chase_Chain.l0 : Nat → List (S36) → Int → List Bool → List Int → Bool → Option (List Int)
 | 0, _, _, _, _, _ => none
 | k + 1, x0, x1, x5, x6, x7 => if x7 = true then (if 0 ≤ x1 then (if x1 < (x5.length : Int) then (chase_Chain.j2 k x0 x1 x5 x6 (!(rdOf false x5 x1))) else (none)) else (none)) else (chase_Chain.j2 k x0 x1 x5 x6 false)
def chase_Chain.j2 : Nat → List (S36) → Int → List Bool → List Int → Bool → Option (List Int)
 | 0, _, _, _, _, _ => none
 | k + 1, x0, x1, x5, x6, x28 => if x28 = true then (if 0 ≤ x1 then (if x1 < (x5.length : Int) then (if x6.length < 17592186044416 then ((some (x6 ++ [x1] : List Int)).bind fun y106 => ((chase_on.f x0 x1).bind fun bt109 => (if bt109.2 = true then ((chase_on.f x0 x1).bind fun bt111 => (chase_Chain.l0 k x0 bt111.1 (x5.set (x1 : Int).toNat true) y106 bt111.2)) else (some y106)))) else (none)) else (none)) else (none)) else (some x6)
end
def chase_Chain.f (k : Nat) (l0 : List (S36)) (a1 : Int) : Option (List Int) := if a1 < 0 then (chase_Chain.j0 k l0 a1 true) else (chase_Chain.j0 k l0 a1 (decide (a1 ≥ (l0.length : Int))))
theorem chase_Chain.mono_l : ∀ k, (∀ y0 y1 y2, LeO (chase_Chain.j0 k y0 y1 y2) (chase_Chain.j0 (k + 1) y0 y1 y2)) ∧ (∀ y0 y1 y2 y3 y4, LeO (chase_Chain.l0 k y0 y1 y2 y3 y4) (chase_Chain.l0 (k + 1) y0 y1 y2 y3 y4)) ∧ (∀ y0 y1 y2 y3 y4, LeO (chase_Chain.j2 k y0 y1 y2 y3 y4) (chase_Chain.j2 (k + 1) y0 y1 y2 y3 y4))
 | 0 => ⟨fun _ _ _ r h => by simp [chase_Chain.j0] at h, fun _ _ _ _ _ r h => by simp [chase_Chain.l0] at h, fun _ _ _ _ _ r h => by simp [chase_Chain.j2] at h⟩
 | k + 1 => by
  obtain ⟨ih0, ih1, ih2⟩ := chase_Chain.mono_l k
  refine ⟨?_, ?_, ?_⟩
  ·intro y0 y1 y2
   unfold chase_Chain.j0
   repeat' first
   | (with_reducible exact ih0 _ _ _)
   | (with_reducible exact ih1 _ _ _ _ _)
   | (with_reducible exact ih2 _ _ _ _ _)
   | (with_reducible exact LeO.refl _)
   | (with_reducible exact LeO.none _)
   | (with_reducible refine LeO.ite ?_ ?_)
   | (with_reducible refine LeO.bind ?_ (fun _ => ?_))
  ·intro y0 y1 y2 y3 y4
   unfold chase_Chain.l0
   repeat' first
   | (with_reducible exact ih0 _ _ _)
   | (with_reducible exact ih1 _ _ _ _ _)
   | (with_reducible exact ih2 _ _ _ _ _)
   | (with_reducible exact LeO.refl _)
   | (with_reducible exact LeO.none _)
   | (with_reducible refine LeO.ite ?_ ?_)
   | (with_reducible refine LeO.bind ?_ (fun _ => ?_))
  ·intro y0 y1 y2 y3 y4
   unfold chase_Chain.j2
   repeat' first
   | (with_reducible exact ih0 _ _ _)
   | (with_reducible exact ih1 _ _ _ _ _)
   | (with_reducible exact ih2 _ _ _ _ _)
   | (with_reducible exact LeO.refl _)
   | (with_reducible exact LeO.none _)
   | (with_reducible refine LeO.ite ?_ ?_)
   | (with_reducible refine LeO.bind ?_ (fun _ => ?_))
theorem chase_Chain.mono : ∀ a0 a1 k, LeO (chase_Chain.f k a0 a1) (chase_Chain.f (k + 1) a0 a1) := by
 intro a0 a1 k; obtain ⟨ih0, ih1, ih2⟩ := chase_Chain.mono_l k
 unfold chase_Chain.f
 repeat' first
   | (with_reducible exact ih0 _ _ _)
   | (with_reducible exact ih1 _ _ _ _ _)
   | (with_reducible exact ih2 _ _ _ _ _)
   | (with_reducible exact LeO.refl _)
   | (with_reducible exact LeO.none _)
   | (with_reducible refine LeO.ite ?_ ?_)
   | (with_reducible refine LeO.bind ?_ (fun _ => ?_))
set_option maxHeartbeats 8000000 in
set_option maxRecDepth 100000 in
theorem chase_Chain.calls (k : Nat) (A0 : Option Addr) (c0 : Nat) (l0 : List (S36)) (a1 : Int) (r : List Int) (w : World) (hr0 : Kd.C k36 w A0 l0.length l0) (hc0 : l0.length ≤ c0) (h : chase_Chain.f k l0 a1 = some r) :
  Calls Try.prog 10 #[.slice A0 l0.length c0, .int .i64 a1] w fun e w' => ∃ v0_ : Value, e = .returned (v0_) ∧ Kd.R (Kd.int .i64) 3 w' w.heap.size (fun _ => True) v0_ r ∧ Below w.heap.size w w' := by
 have HR0 := Aside0.mk hr0; have HC0 := Aside0.mk hc0; clear hr0 hc0; have HB := Aside0.mk (Below.refl w.heap.size w)
 have H : (if a1 < 0 then (chase_Chain.j0 k l0 a1 true) else (chase_Chain.j0 k l0 a1 (decide (a1 ≥ (l0.length : Int))))) = some r := h
 clear h; have HC3 := Aside0.mk H; clear H
 go_enter Try.func10, Try.ntmps10
 go_upto_region 1 with (fail)
 go_cut [17] (fun v17 wc => ∃ (kq : Nat) (x17_2 : Bool), v17 = .bool x17_2 ∧ Aside0 (chase_Chain.j0 kq l0 a1 x17_2 = some r) ∧ Aside0 (kq ≤ k) ∧ Aside0 (Below w.heap.size w wc))
 case first =>
  have H := HC3.out; clear HC3
  by_cases c4 : a1 < 0
  ·rw [if_pos c4] at H; have c4b0 : decide (a1 < 0) = true := decide_eq_true c4; clear c4; (first | rw [c4b0] | (simp only [i64_w, i32_w]; rw [c4b0]) | skip)
   have H' := Aside0.mk H
   clear H
   go_wp2
   go_meet
   case rel => exact ⟨_, (true), (by first | rfl | (simp; done) | (simp [*]; done)), H', ⟨by first | omega | exact Nat.le_refl _⟩, ⟨pbx HB⟩⟩
  ·rw [if_neg c4] at H; have c4b0 : decide (a1 < 0) = false := decide_eq_false c4; clear c4; (first | rw [c4b0] | (simp only [i64_w, i32_w]; rw [c4b0]) | skip)
   have H' := Aside0.mk H
   clear H
   go_wp2
   go_meet
   case rel => exact ⟨_, (decide (a1 ≥ (l0.length : Int))), (by first | rfl | (simp; done) | (simp [*]; done)), H', ⟨by first | omega | exact Nat.le_refl _⟩, ⟨pbx HB⟩⟩
 case rest =>
  clear HC3; (try clear c1); (try clear p2); (try clear c4); (try clear c4b0); obtain ⟨kq, x17_2, rfl, HA, HJ2, HB⟩ := hcut
  cases kq with
  | zero => exact absurd HA.out (by simp [chase_Chain.j0])
  | succ kj2 =>
   have H := HA.out; clear HA
   simp only [chase_Chain.j0] at H
   by_cases c5 : x17_2 = true
   ·subst c5
    have H1 : (some ([] : List Int)) = some r := by rw [if_pos rfl] at H; exact H
    clear H; have H := H1; clear H1; obtain rfl := Option.some.inj H
    go_wp2
    go_ret
    exact ⟨_, by first | rfl | (simp [errW_none, errW_some] <;> rfl) | (simp [*, errW_none, errW_some] <;> rfl), by first | exact Kd.R_nil _ _ _ _ _ | exact Kd.N_nil _ _ _ _ _ | exact Kd.V_nil _ _ _ _ _ | exact Kd.Q_nil _ _ _ _ _ | exact Kd.S_nil _ _ _ _ _, pbx HB⟩
   ·replace c5 := Bool.eq_false_iff.mpr c5; subst c5
    have H1 : (if 0 ≤ (l0.length : Int) then (if ((l0.length : Int) : Int).toNat ≤ 281474976710656 then (chase_Chain.l0 kj2 l0 a1 (List.replicate ((l0.length : Int) : Int).toNat false) ([] : List Int) true) else (none)) else (none)) = some r := by rw [if_neg (show ¬ (false = true) by decide)] at H; exact H
    clear H; have H := H1; clear H1
    by_cases c6 : 0 ≤ (l0.length : Int)
    ·rw [if_pos c6] at H; have c6b0 := eq_true c6; have c6b1 : decide (0 ≤ (l0.length : Int)) = true := decide_eq_true c6; clear c6
     by_cases c7 : ((l0.length : Int) : Int).toNat ≤ 281474976710656
     ·rw [if_pos c7] at H; have c7b0 := eq_true c7; have c7b1 : decide (((l0.length : Int) : Int).toNat ≤ 281474976710656) = true := decide_eq_true c7; clear c7; obtain ⟨y101, hy101⟩ : ∃ y_ : List Bool, y_ = (List.replicate ((l0.length : Int) : Int).toNat false) := ⟨_, rfl⟩
      replace H : (chase_Chain.l0 kj2 l0 a1 y101 ([] : List Int) true) = some r := by first | (rw [hy101]; with_reducible exact H) | (have H2_ := (Option.bind_some _ _).symm.trans H; rw [hy101]; with_reducible exact H2_) | (have H2_ := (Option.bind_some _ _).symm.trans H; with_reducible exact H2_) | with_reducible exact H | (rw [hy101]; exact H) | exact H
      have Ny101 := Aside0.mk hy101; clear hy101
      have H' := Aside0.mk H
      clear H
      go_wp2_with (first | ((with_reducible refine gate_dst (N:=20) rfl ?_); (try (refine gate_guard (by rfl) ?_; dsimp only)); refine Kd.R_make Kd.bool _ 4 rfl (N:=20) rfl 39 _ _ rfl (l0.length : Int) rfl rfl Try.underlying39 (.bool false) 1 info4 rfl (by decide) (by omega) false (ok := fun _ => True) (okp := fun _ => True) rfl (fun _ hk => hk) trivial (of_decide_eq_true (by first | (with_reducible assumption) | assumption)) (Nat.le_trans (Nat.mul_le_mul_right _ (of_decide_eq_true (by first | (with_reducible assumption) | assumption) : (l0.length : Int).toNat ≤ 281474976710656)) (by omega)) (Below.refl _ _) (Nat.le_refl _) ?_; intro v102 w8 ho9 hb hg_ hnew_; clear hg_ hnew_; (first | rw [← Ny101.out] at ho9 | (simp only [Int.reduceToNat] at ho9; rw [← Ny101.out] at ho9)); have HO103 := Aside0.mk (Kd.R_lower ho9 (below_size (pbx HB))); replace HB := bs_ HB hb; clear hb ho9))
      go_loopg [1, 6, 7] kj2 (fun kq v1 v6 v7 w' => ∃ (x1_2 : Int) (x5_2 : List Bool) (x6_2 : List Int) (x7_2 : Bool), v1 = .int .i64 x1_2 ∧ v7 = .bool x7_2 ∧ Aside0 (chase_Chain.l0 kq l0 x1_2 x5_2 x6_2 x7_2 = some r) ∧ Aside0 (kq ≤ kj2) ∧ Aside0 (Kd.R Kd.bool 4 w' w.heap.size (fun _ => True) v102 x5_2) ∧ Aside0 (Kd.R (Kd.int .i64) 3 w' w.heap.size (fun _ => True) v6 x6_2) ∧ Aside0 (Below w.heap.size w w'))
      case atStart => exact ⟨(a1), (y101), (([] : List Int)), (true), (by first | rfl | (simp; done) | (simp [*]; done)), (by first | rfl | (simp; done) | (simp [*]; done)), H', ⟨Nat.le_refl _⟩, ⟨by (with_reducible repeat (first | apply Kd.R_alloc | apply Kd.R_drewN | apply Kd.R_drew)); exact HO103.out⟩, ⟨by first | exact Kd.R_nil _ _ _ _ _ | exact Kd.N_nil _ _ _ _ _ | exact Kd.V_nil _ _ _ _ _ | exact Kd.Q_nil _ _ _ _ _ | exact Kd.S_nil _ _ _ _ _⟩, ⟨pbx HB⟩⟩
      case round =>
       clear H'; (try clear c1); (try clear p2); (try clear c4); (try clear c4b0); (try clear c5); (try clear c6); (try clear c6b0); (try clear c6b1); (try clear c7); (try clear c7b0); (try clear c7b1); (try clear p2); obtain ⟨x1_2, x5_2, x6_2, x7_2, rfl, rfl, HA, HK2, HO_5, HO_6, HB⟩ := hrel
       cases gk with
       | zero => exact absurd HA.out (by simp [chase_Chain.l0])
       | succ k2 =>
        have H := HA.out; clear HA
        simp only [chase_Chain.l0] at H
        have HC10 := Aside0.mk H; clear H
        go_upto_region 6 with (fail)
        go_cut [28] (fun v28 wc => ∃ (kq : Nat) (x28_9 : Bool), v28 = .bool x28_9 ∧ Aside0 (chase_Chain.j2 kq l0 x1_2 x5_2 x6_2 x28_9 = some r) ∧ Aside0 (kq ≤ k2) ∧ Aside0 (Kd.R Kd.bool 4 wc w.heap.size (fun _ => True) v102 x5_2) ∧ Aside0 (Kd.R (Kd.int .i64) 3 wc w.heap.size (fun _ => True) u6 x6_2) ∧ Aside0 (Below w.heap.size w wc))
        case first =>
         have H := HC10.out; clear HC10
         by_cases c11 : x7_2 = true
         ·subst c11
          have H1 : (if 0 ≤ x1_2 then (if x1_2 < (x5_2.length : Int) then (chase_Chain.j2 k2 l0 x1_2 x5_2 x6_2 (!(rdOf false x5_2 x1_2))) else (none)) else (none)) = some r := by rw [if_pos rfl] at H; exact H
          clear H; have H := H1; clear H1
          by_cases c12 : 0 ≤ x1_2
          ·rw [if_pos c12] at H; have c12b0 : decide (0 ≤ x1_2) = true := decide_eq_true c12; clear c12; (first | rw [c12b0] | (simp only [i64_w, i32_w]; rw [c12b0]) | skip)
           by_cases c13 : x1_2 < (x5_2.length : Int)
           ·rw [if_pos c13] at H; have c13b0 : decide (x1_2 < (x5_2.length : Int)) = true := decide_eq_true c13; clear c13
            have H' := Aside0.mk H
            clear H; obtain ⟨Ao14, co14, eo14⟩ := Kd.R_slice HO_5.out; subst eo14
            have p104 : 0 ≤ (x1_2 : Int) := of_decide_eq_true (by first | (with_reducible assumption) | assumption)
            have q104 : x1_2 < (x5_2.length : Int) := of_decide_eq_true (by first | (with_reducible assumption) | assumption)
            obtain ⟨ad104, e104, hx104_0⟩ := Kd.at_bool (Kd.R_reads' HO_5.out).2.2 x1_2 p104 q104
            cases e104
            replace p104 := eq_true p104; replace q104 := eq_true q104
            go_wp2
            go_meet
            case rel => exact ⟨_, (!(rdOf false x5_2 x1_2)), (by first | rfl | (simp; done) | (simp [*]; done)), H', ⟨by have := HJ2.out; have := HK2.out; first | omega | exact Nat.le_refl _⟩, ⟨by (with_reducible repeat (first | apply Kd.R_alloc | apply Kd.R_drewN | apply Kd.R_drew)); exact HO_5.out⟩, ⟨by (with_reducible repeat (first | apply Kd.R_alloc | apply Kd.R_drewN | apply Kd.R_drew)); exact HO_6.out⟩, ⟨pbx HB⟩⟩
           ·rw [if_neg c13] at H
            exact absurd H (by simp)
          ·rw [if_neg c12] at H
           exact absurd H (by simp)
         ·replace c11 := Bool.eq_false_iff.mpr c11; subst c11
          have H1 : (chase_Chain.j2 k2 l0 x1_2 x5_2 x6_2 false) = some r := by rw [if_neg (show ¬ (false = true) by decide)] at H; exact H
          clear H; have H := H1; clear H1
          have H' := Aside0.mk H
          clear H
          go_wp2
          go_meet
          case rel => exact ⟨_, (false), (by first | rfl | (simp; done) | (simp [*]; done)), H', ⟨by have := HJ2.out; have := HK2.out; first | omega | exact Nat.le_refl _⟩, ⟨by (with_reducible repeat (first | apply Kd.R_alloc | apply Kd.R_drewN | apply Kd.R_drew)); exact HO_5.out⟩, ⟨by (with_reducible repeat (first | apply Kd.R_alloc | apply Kd.R_drewN | apply Kd.R_drew)); exact HO_6.out⟩, ⟨pbx HB⟩⟩
        case rest =>
         clear HC10; (try clear c1); (try clear p1); (try clear q1); (try clear hx1); (try clear p2); (try clear c4); (try clear c4b0); (try clear c5); (try clear c6); (try clear c6b0); (try clear c6b1); (try clear c7); (try clear c7b0); (try clear c7b1); (try clear c10); (try clear p10); (try clear q10); (try clear hx10); (try clear c11); (try clear c12); (try clear c12b0); (try clear c13); (try clear c13b0); (try clear hx104_0); (try clear p104); (try clear p2); (try clear q104); obtain ⟨kq, x28_9, rfl, HA, HJ9, HO_5, HO_6, HB⟩ := hcut
         cases kq with
         | zero => exact absurd HA.out (by simp [chase_Chain.j2])
         | succ kj9 =>
          have H := HA.out; clear HA
          simp only [chase_Chain.j2] at H
          by_cases c15 : x28_9 = true
          ·subst c15
           have H1 : (if 0 ≤ x1_2 then (if x1_2 < (x5_2.length : Int) then (if x6_2.length < 17592186044416 then ((some (x6_2 ++ [x1_2] : List Int)).bind fun y106 => ((chase_on.f l0 x1_2).bind fun bt109 => (if bt109.2 = true then ((chase_on.f l0 x1_2).bind fun bt111 => (chase_Chain.l0 kj9 l0 bt111.1 (x5_2.set (x1_2 : Int).toNat true) y106 bt111.2)) else (some y106)))) else (none)) else (none)) else (none)) = some r := by rw [if_pos rfl] at H; exact H
           clear H; have H := H1; clear H1
           by_cases c16 : 0 ≤ x1_2
           ·rw [if_pos c16] at H; have c16b0 : decide (0 ≤ x1_2) = true := decide_eq_true c16; clear c16
            by_cases c17 : x1_2 < (x5_2.length : Int)
            ·rw [if_pos c17] at H; have c17b0 : decide (x1_2 < (x5_2.length : Int)) = true := decide_eq_true c17; clear c17; obtain ⟨y105, hy105⟩ : ∃ y_ : List Bool, y_ = (x5_2.set (x1_2 : Int).toNat true) := ⟨_, rfl⟩
             replace H : (if x6_2.length < 17592186044416 then ((some (x6_2 ++ [x1_2] : List Int)).bind fun y106 => ((chase_on.f l0 x1_2).bind fun bt109 => (if bt109.2 = true then ((chase_on.f l0 x1_2).bind fun bt111 => (chase_Chain.l0 kj9 l0 bt111.1 y105 y106 bt111.2)) else (some y106)))) else (none)) = some r := by first | (rw [hy105]; with_reducible exact H) | (have H2_ := (Option.bind_some _ _).symm.trans H; rw [hy105]; with_reducible exact H2_) | (have H2_ := (Option.bind_some _ _).symm.trans H; with_reducible exact H2_) | with_reducible exact H | (rw [hy105]; exact H) | exact H
             have Ny105 := Aside0.mk hy105; clear hy105
             by_cases c19 : x6_2.length < 17592186044416
             ·rw [if_pos c19] at H; have LMc19 := Aside0.mk c19; clear c19; obtain ⟨y106, hy106⟩ : ∃ y_ : List Int, y_ = (x6_2 ++ [x1_2]) := ⟨_, rfl⟩
              replace H : ((chase_on.f l0 x1_2).bind fun bt109 => (if bt109.2 = true then ((chase_on.f l0 x1_2).bind fun bt111 => (chase_Chain.l0 kj9 l0 bt111.1 y105 y106 bt111.2)) else (some y106))) = some r := by first | (rw [hy106]; with_reducible exact H) | (have H2_ := (Option.bind_some _ _).symm.trans H; rw [hy106]; with_reducible exact H2_) | (have H2_ := (Option.bind_some _ _).symm.trans H; with_reducible exact H2_) | with_reducible exact H | (rw [hy106]; exact H) | exact H
              have Ny106 := Aside0.mk hy106; clear hy106; replace H := Option.bind_eq_some_iff.mp H; obtain ⟨⟨t109, t110⟩, A200, H⟩ := H
              replace H : (if t110 = true then ((chase_on.f l0 x1_2).bind fun bt111 => (chase_Chain.l0 kj9 l0 bt111.1 y105 y106 bt111.2)) else (some y106)) = some r := H
              have A20 := Aside0.mk A200; clear A200
              by_cases c21 : t110 = true
              ·subst c21
               have H1 : ((chase_on.f l0 x1_2).bind fun bt111 => (chase_Chain.l0 kj9 l0 bt111.1 y105 y106 bt111.2)) = some r := by rw [if_pos rfl] at H; exact H
               clear H; have H := H1; clear H1; replace H := Option.bind_eq_some_iff.mp H; obtain ⟨⟨t111, t112⟩, A220, H⟩ := H
               replace H : (chase_Chain.l0 kj9 l0 t111 y105 y106 t112) = some r := H
               have A22 := Aside0.mk A220; clear A220
               have H' := Aside0.mk H
               clear H
               have p18 : 0 ≤ (x1_2 : Int) := of_decide_eq_true (by first | (with_reducible assumption) | assumption)
               have q18 : (x1_2 : Int) < ((x5_2.length : Int) : Int) := of_decide_eq_true (by first | (with_reducible assumption) | assumption)
               obtain ⟨go18, co18, eo18, gb18, gl18, cl18, HG18⟩ := Kd.R_form HO_5.out (by omega); (first | cases eo18 | (injection eo18 with ea_ en_ ec_; (first | subst ea_ | (injection ea_ with ea_; subst ea_)); subst ec_; clear en_))
               have GB18 := Aside0.mk gb18; have GG18 := Aside0.mk HG18; clear gb18 gl18 HG18; obtain ⟨hx18_0, hf18_0⟩ := Kd.R_celln false HO_5.out (x1_2 : Int) p18 q18; replace p18 := eq_true p18; replace q18 := eq_true q18; have HP23 := Kd.R_putg HO_5.out (x1_2 : Int) true
               go_wp2_with (first | ((with_reducible refine gate_store (t:=4) (p:=37) rfl ?_); refine store_event (t:=4) (p:=37) (v:=?vo_w24) (w1 := (wc.setCell ⟨go18, (x1_2 : Int).toNat, none⟩ (.bool true))) ?hg ?ho ?hn ?hr ?_; (case ho => rfl); (case hg => rfl); (case hn => rfl); (case hr => first | (go_simp; done) | (go_simp; rfl)); intro w24 hw; have hg : wc.grownBy w24 (some go18) := (by rw [hw]; exact HP23.2); have hp_ : Kd.R Kd.bool 4 w24 w.heap.size (fun _ => True) (.slice (some ⟨go18, 0, none⟩) x5_2.length co18) y105 := (by rw [hw, Ny105.out]; exact HP23.1); clear HP23; have n0_ := Aside0.mk (hp_); have n1_ := Aside0.mk (Kd.R_over' (v := (.slice (some ⟨go18, 0, none⟩) x5_2.length co18)) (by (with_reducible repeat (first | apply Kd.R_alloc | apply Kd.R_drewN | apply Kd.R_drew)); exact HO_6.out) (Kd.R_typed HO_5.out) (by decide) hg); have n2_ := Aside0.mk ((by rw [hw]; exact below_set (HB.out) GB18.out : Below w.heap.size w w24)); clear HO_5; clear HO_6; clear HB; have HO_5 := n0_; have HO_6 := n1_; have HB := n2_; clear n0_ n1_ n2_; clear hg hw hp_) | ((with_reducible refine gate_builtin (b := .append) (xs := #[.tmp 38, .tmp 40]) rfl ?_); (try (refine gate_guard (by rfl) ?_; dsimp only)); at_builtin; refine Kd.R_append (Kd.int .i64) (w0 := w) w.heap.size rfl (.tmp 38) (.tmp 40) 28 3 (.int .i64 0) 8 rfl Try.underlying28 info3 rfl (by decide) (by omega) u6 x6_2 x1_2 [.int .i64 x1_2] (fun _ => True) (fun _ => False) rfl rfl ?aP (fun _ hk => hk.elim) ?aF ?aO ?aB ?aS ?aL ?_; (case aP => exact rfl); (case aB => exact (pbx HB)); (case aF => exact (fun _ _ => trivial)); (case aO => exact (by (with_reducible repeat (first | apply Kd.R_alloc | apply Kd.R_drewN | apply Kd.R_drew)); exact HO_6.out)); (case aS => exact (below_size (pbx HB))); (case aL => have := LMc19.out; omega); intro v107 w25 ho hb hg hat; rw [← Ny106.out] at ho; have HO108 := Aside0.mk (ho); replace HO_5 := Aside0.mk (Kd.R_over' (by (with_reducible repeat (first | apply Kd.R_alloc | apply Kd.R_drewN | apply Kd.R_drew)); exact HO_5.out) (Kd.R_typed (by (with_reducible repeat (first | apply Kd.R_alloc | apply Kd.R_drewN | apply Kd.R_drew)); exact HO_6.out)) (by decide) hg); replace HB := Aside0.mk (hb); clear HO_6; clear ho hb hg hat) | ((with_reducible refine gate_callee (f:=13) rfl ?_); refine gL_ (some 45) rfl rfl Try.func13 rfl #[.slice A0 l0.length c0, .int .i64 x1_2] rfl ?_; (with_reducible refine (chase_on.calls _ _ l0 x1_2 t109 true _ ?side1 ?side2 A20.out).mono ?_); (case side1 => repeat (first | exact (Kd.C_below HR0.out HB.out) | (with_reducible refine Kd.C_alloc ?_ _) | (with_reducible refine Kd.C_drewN ?_ _) | (with_reducible refine Kd.C_drew ?_))); (case side2 => exact HC0.out); rintro e w' ⟨rfl, ⟨nd, rfl⟩⟩; refine ⟨_, rfl, ?_⟩) | ((with_reducible refine gate_callee (f:=13) rfl ?_); refine gL_ (some 32) rfl rfl Try.func13 rfl #[.slice A0 l0.length c0, .int .i64 x1_2] rfl ?_; (with_reducible refine (chase_on.calls _ _ l0 x1_2 t111 t112 _ ?side1 ?side2 A22.out).mono ?_); (case side1 => repeat (first | exact (Kd.C_below HR0.out (pbx HB)) | (with_reducible refine Kd.C_alloc ?_ _) | (with_reducible refine Kd.C_drewN ?_ _) | (with_reducible refine Kd.C_drew ?_))); (case side2 => exact HC0.out); rintro e w' ⟨rfl, ⟨nd, rfl⟩⟩; refine ⟨_, rfl, ?_⟩))
               go_roundg kj9
               case measure => have := HJ2.out; have := HK2.out; have := HJ9.out; omega
               case rel => exact ⟨(t111), (y105), (y106), (t112), (by first | rfl | (simp; done) | (simp [*]; done) | (cases t111 <;> simp; done)), (by first | rfl | (simp; done) | (simp [*]; done) | (cases t112 <;> simp; done)), H', ⟨by have := HJ2.out; have := HK2.out; have := HJ9.out; omega⟩, ⟨by (with_reducible repeat (first | apply Kd.R_alloc | apply Kd.R_drewN | apply Kd.R_drew)); exact HO_5.out⟩, ⟨by (with_reducible repeat (first | apply Kd.R_alloc | apply Kd.R_drewN | apply Kd.R_drew)); exact HO108.out⟩, ⟨pbx HB⟩⟩
              ·replace c21 := Bool.eq_false_iff.mpr c21; subst c21
               have H1 : (some y106) = some r := by rw [if_neg (show ¬ (false = true) by decide)] at H; exact H
               clear H; have H := H1; clear H1; obtain rfl := Option.some.inj H
               have p18 : 0 ≤ (x1_2 : Int) := of_decide_eq_true (by first | (with_reducible assumption) | assumption)
               have q18 : (x1_2 : Int) < ((x5_2.length : Int) : Int) := of_decide_eq_true (by first | (with_reducible assumption) | assumption)
               obtain ⟨go18, co18, eo18, gb18, gl18, cl18, HG18⟩ := Kd.R_form HO_5.out (by omega); (first | cases eo18 | (injection eo18 with ea_ en_ ec_; (first | subst ea_ | (injection ea_ with ea_; subst ea_)); subst ec_; clear en_))
               have GB18 := Aside0.mk gb18; have GG18 := Aside0.mk HG18; clear gb18 gl18 HG18; obtain ⟨hx18_0, hf18_0⟩ := Kd.R_celln false HO_5.out (x1_2 : Int) p18 q18; replace p18 := eq_true p18; replace q18 := eq_true q18; have HP26 := Kd.R_putg HO_5.out (x1_2 : Int) true
               go_wp2_with (first | ((with_reducible refine gate_store (t:=4) (p:=37) rfl ?_); refine store_event (t:=4) (p:=37) (v:=?vo_w27) (w1 := (wc.setCell ⟨go18, (x1_2 : Int).toNat, none⟩ (.bool true))) ?hg ?ho ?hn ?hr ?_; (case ho => rfl); (case hg => rfl); (case hn => rfl); (case hr => first | (go_simp; done) | (go_simp; rfl)); intro w27 hw; have hg : wc.grownBy w27 (some go18) := (by rw [hw]; exact HP26.2); have hp_ : Kd.R Kd.bool 4 w27 w.heap.size (fun _ => True) (.slice (some ⟨go18, 0, none⟩) x5_2.length co18) y105 := (by rw [hw, Ny105.out]; exact HP26.1); clear HP26; have n0_ := Aside0.mk (hp_); have n1_ := Aside0.mk (Kd.R_over' (v := (.slice (some ⟨go18, 0, none⟩) x5_2.length co18)) (by (with_reducible repeat (first | apply Kd.R_alloc | apply Kd.R_drewN | apply Kd.R_drew)); exact HO_6.out) (Kd.R_typed HO_5.out) (by decide) hg); have n2_ := Aside0.mk ((by rw [hw]; exact below_set (HB.out) GB18.out : Below w.heap.size w w27)); clear HO_5; clear HO_6; clear HB; have HO_5 := n0_; have HO_6 := n1_; have HB := n2_; clear n0_ n1_ n2_; clear hg hw hp_) | ((with_reducible refine gate_builtin (b := .append) (xs := #[.tmp 38, .tmp 40]) rfl ?_); (try (refine gate_guard (by rfl) ?_; dsimp only)); at_builtin; refine Kd.R_append (Kd.int .i64) (w0 := w) w.heap.size rfl (.tmp 38) (.tmp 40) 28 3 (.int .i64 0) 8 rfl Try.underlying28 info3 rfl (by decide) (by omega) u6 x6_2 x1_2 [.int .i64 x1_2] (fun _ => True) (fun _ => False) rfl rfl ?aP (fun _ hk => hk.elim) ?aF ?aO ?aB ?aS ?aL ?_; (case aP => exact rfl); (case aB => exact (pbx HB)); (case aF => exact (fun _ _ => trivial)); (case aO => exact (by (with_reducible repeat (first | apply Kd.R_alloc | apply Kd.R_drewN | apply Kd.R_drew)); exact HO_6.out)); (case aS => exact (below_size (pbx HB))); (case aL => have := LMc19.out; omega); intro v107 w28 ho hb hg hat; rw [← Ny106.out] at ho; have HO108 := Aside0.mk (ho); replace HO_5 := Aside0.mk (Kd.R_over' (by (with_reducible repeat (first | apply Kd.R_alloc | apply Kd.R_drewN | apply Kd.R_drew)); exact HO_5.out) (Kd.R_typed (by (with_reducible repeat (first | apply Kd.R_alloc | apply Kd.R_drewN | apply Kd.R_drew)); exact HO_6.out)) (by decide) hg); replace HB := Aside0.mk (hb); clear HO_6; clear ho hb hg hat) | ((with_reducible refine gate_callee (f:=13) rfl ?_); refine gL_ (some 45) rfl rfl Try.func13 rfl #[.slice A0 l0.length c0, .int .i64 x1_2] rfl ?_; (with_reducible refine (chase_on.calls _ _ l0 x1_2 t109 false _ ?side1 ?side2 A20.out).mono ?_); (case side1 => repeat (first | exact (Kd.C_below HR0.out HB.out) | (with_reducible refine Kd.C_alloc ?_ _) | (with_reducible refine Kd.C_drewN ?_ _) | (with_reducible refine Kd.C_drew ?_))); (case side2 => exact HC0.out); rintro e w' ⟨rfl, ⟨nd, rfl⟩⟩; refine ⟨_, rfl, ?_⟩))
               go_ret
               exact ⟨_, by first | rfl | (simp [errW_none, errW_some] <;> rfl) | (simp [*, errW_none, errW_some] <;> rfl), by (with_reducible repeat (first | apply Kd.R_alloc | apply Kd.R_drewN | apply Kd.R_drew)); exact HO108.out, pbx HB⟩
             ·rw [if_neg c19] at H
              exact absurd H (by simp)
            ·rw [if_neg c17] at H
             exact absurd H (by simp)
           ·rw [if_neg c16] at H
            exact absurd H (by simp)
          ·replace c15 := Bool.eq_false_iff.mpr c15; subst c15
           have H1 : (some x6_2) = some r := by rw [if_neg (show ¬ (false = true) by decide)] at H; exact H
           clear H; have H := H1; clear H1; obtain rfl := Option.some.inj H
           go_wp2
           go_ret
           exact ⟨_, by first | rfl | (simp [errW_none, errW_some] <;> rfl) | (simp [*, errW_none, errW_some] <;> rfl), by (with_reducible repeat (first | apply Kd.R_alloc | apply Kd.R_drewN | apply Kd.R_drew)); exact HO_6.out, pbx HB⟩
     ·rw [if_neg c7] at H
      exact absurd H (by simp)
    ·rw [if_neg c6] at H
     exact absurd H (by simp)

def label_Bottom.f  : Option (Int × Int) := some (0, 0)
set_option maxHeartbeats 8000000 in
set_option maxRecDepth 100000 in
theorem label_Bottom.calls  (r1 : Int) (r2 : Int) (w : World) (h : label_Bottom.f  = some (r1, r2)) :
  Calls Try.prog 15 #[] w fun e w' => e = .returned (.agg #[.int .i64 r1, .int .u64 r2]) ∧ Below w.heap.size w w' := by
 have hu26 := Try.underlying26; have HB := Aside0.mk (Below.refl w.heap.size w)
 have H : (some (0, 0)) = some (r1, r2) := h
 clear h
 simp only [Option.some.injEq, Prod.mk.injEq] at H
 obtain ⟨rfl, rfl⟩ := H
 go_enter Try.func15, Try.ntmps15
 go_wp2_with (first | ((with_reducible refine gate_dst (N:=0) rfl ?_); refine be_ (N:=0) (cs := #[.int .i64 0, .int .u64 0]) (t:=26) ?_; intro gb101 hg w1 hbox hb; have BK101 := Aside0.mk (hbox); have GW101 := hs_ HB hg; have GE101 := hs_ HB hg; replace HB := bs_ HB hb; clear hb hbox hg; have hcz2_0 : w1.cell? ⟨gb101, 0, none⟩ = some (.int .i64 0) := bc_ BK101 0 rfl; have hcz2_1 : w1.cell? ⟨gb101, 1, none⟩ = some (.int .u64 0) := bc_ BK101 1 rfl; have hfz2_0 := blk_frozen BK101.out 0; have hfz2_1 := blk_frozen BK101.out 1))
 refine bodyPost_ret (results_cell_row rfl _ _ gb101 26 #[.int .i64 0, .int .u64 0] (0, 0) _ rfl (by refine pp_ (cs := #[.int .i64 0, .int .u64 0]) 1 ?_ rfl; refine blk_put (cs := #[.int .i64 0, .int .u64 0]) ?_ 0 _ rfl; exact pkx BK101) Try.underlying26 rfl (by kernel_rfl)) rfl ?_
 exact ⟨by first | rfl | (simp [errW_none, errW_some] <;> rfl) | (simp [*, errW_none, errW_some] <;> rfl), by repeat (first | (with_reducible first | exact HB.out | apply below_alloc | apply pw_below_drewN | apply below_drew1 | refine below_set ?_ GE101.out) | exact HB.out)⟩

def label_Join.f (a0_0 : Int) (a0_1 : Int) (a1_0 : Int) (a1_1 : Int) : Option (Int × Int) := some (mx a0_0 a1_0, Go.bits .or .u64 a0_1 a1_1)
set_option maxHeartbeats 8000000 in
set_option maxRecDepth 100000 in
theorem label_Join.calls (a0_0 : Int) (a0_1 : Int) (a1_0 : Int) (a1_1 : Int) (r1 : Int) (r2 : Int) (w : World) (h : label_Join.f a0_0 a0_1 a1_0 a1_1 = some (r1, r2)) :
  Calls Try.prog 16 #[.agg #[.int .i64 a0_0, .int .u64 a0_1], .agg #[.int .i64 a1_0, .int .u64 a1_1]] w fun e w' => e = .returned (.agg #[.int .i64 r1, .int .u64 r2]) ∧ Below w.heap.size w w' := by
 have hu26 := Try.underlying26; have HB := Aside0.mk (Below.refl w.heap.size w)
 have H : (some (mx a0_0 a1_0, Go.bits .or .u64 a0_1 a1_1)) = some (r1, r2) := h
 clear h; obtain ⟨ji3, hji3⟩ : ∃ j_ : Int, (mx a0_0 a1_0) = j_ := ⟨_, rfl⟩
 replace H : (some (ji3, Go.bits .or .u64 a0_1 a1_1)) = some (r1, r2) := by first | (rw [hji3] at H; exact H) | (simp only [hji3] at H ⊢; exact H)
 have hji3_ : (if a0_0 < a1_0 then a1_0 else a0_0) = ji3 := hji3
 simp only [Option.some.injEq, Prod.mk.injEq] at H
 obtain ⟨rfl, rfl⟩ := H
 go_enter Try.func16, Try.ntmps16
 go_wp2_with (first | ((with_reducible refine gate_dst (N:=2) rfl ?_); refine be_ (N:=2) (cs := #[.int .i64 a0_0, .int .u64 a0_1]) (t:=26) ?_; intro gb101 hg w4 hbox hb; have BK101 := Aside0.mk (hbox); have GW101 := hs_ HB hg; have GE101 := hs_ HB hg; replace HB := bs_ HB hb; clear hb hbox hg) | ((with_reducible refine gate_dst (N:=3) rfl ?_); refine be_ (N:=3) (cs := #[.int .i64 a1_0, .int .u64 a1_1]) (t:=26) ?_; intro gb102 hg w5 hbox hb; have BK102 := Aside0.mk (hbox); have GW102 := hs_ HB hg; have GE102 := hs_ HB hg; have NB101_102 := hl_ BK101 hg; have NB102_101 := hr_ BK101 hg; replace BK101 := bb_ BK101 hb; replace HB := bs_ HB hb; clear hb hbox hg) | ((with_reducible refine gate_dst (N:=4) rfl ?_); refine be_ (N:=4) (cs := #[.int .i64 0, .int .u64 0]) (t:=26) ?_; intro gb103 hg w6 hbox hb; have BK103 := Aside0.mk (hbox); have GW103 := hs_ HB hg; have GE103 := hs_ HB hg; have NB101_103 := hl_ BK101 hg; have NB103_101 := hr_ BK101 hg; have NB102_103 := hl_ BK102 hg; have NB103_102 := hr_ BK102 hg; replace BK101 := bb_ BK101 hb; replace BK102 := bb_ BK102 hb; replace HB := bs_ HB hb; clear hb hbox hg; have hnb7 := NB101_102.out; have hnc7 := NB102_101.out; have hnb8 := NB101_103.out; have hnc8 := NB103_101.out; have hcz9_0 : w6.cell? ⟨gb101, 0, none⟩ = some (.int .i64 a0_0) := bc_ BK101 0 rfl; have hcz9_1 : w6.cell? ⟨gb101, 1, none⟩ = some (.int .u64 a0_1) := bc_ BK101 1 rfl; have hfz9_0 := blk_frozen BK101.out 0; have hfz9_1 := blk_frozen BK101.out 1; have hnb10 := NB102_103.out; have hnc10 := NB103_102.out; have hcz11_0 : w6.cell? ⟨gb102, 0, none⟩ = some (.int .i64 a1_0) := bc_ BK102 0 rfl; have hcz11_1 : w6.cell? ⟨gb102, 1, none⟩ = some (.int .u64 a1_1) := bc_ BK102 1 rfl; have hfz11_0 := blk_frozen BK102.out 0; have hfz11_1 := blk_frozen BK102.out 1; have hcz12_0 : w6.cell? ⟨gb103, 0, none⟩ = some (.int .i64 0) := bc_ BK103 0 rfl; have hcz12_1 : w6.cell? ⟨gb103, 1, none⟩ = some (.int .u64 0) := bc_ BK103 1 rfl; have hfz12_0 := blk_frozen BK103.out 0; have hfz12_1 := blk_frozen BK103.out 1))
 refine bodyPost_ret (results_cell_row rfl _ _ gb103 26 #[.int .i64 ji3, .int .u64 (Go.bits .or .u64 a0_1 a1_1)] (0, 0) _ rfl (by refine pp_ (cs := #[.int .i64 ji3, .int .u64 0]) 1 ?_ rfl; refine blk_put (cs := #[.int .i64 0, .int .u64 0]) ?_ 0 _ rfl; exact pkx BK103) Try.underlying26 rfl (by kernel_rfl)) rfl ?_
 exact ⟨by first | rfl | (simp [errW_none, errW_some] <;> rfl) | (simp only [← hji3]; first | rfl | (simp [errW_none, errW_some] <;> rfl)) | (simp [*, errW_none, errW_some] <;> rfl), by repeat (first | (with_reducible first | exact HB.out | apply below_alloc | apply pw_below_drewN | apply below_drew1 | refine below_set ?_ GE101.out | refine below_set ?_ GE102.out | refine below_set ?_ GE103.out) | exact HB.out)⟩

end Go.Proofs.Ytmpcphfgmpceiaa.X
/- The contract of chase.run: one chain closed, by hand. -/
set_option linter.unusedVariables false
set_option linter.unusedSimpArgs false
namespace Go.Proofs.Ytmpcphfgmpceiaa.X
open Go.RowKit Go.Proofs.YtmpcphfgmpceiaaW.PrintWords Go.Proofs.YtmpcphfgmpceiaaW.PrintLast Go.Proofs.YtmpcphfgmpceiaaW.PrintMore
structure CS where
  st : List Int
  out : List S26
  lo : List Bool
  looks : Int
def labs (xs : List S26) : List Value := xs.flatMap fun x => [.int .i64 x.f0, .int .u64 x.f1]
structure IsC (W : World) (g gs go gl : Nat) (A : Option Addr) (n c : Nat) (s : CS) : Prop where
  hg : W.heap[g]? = some (.cells #[.slice A n c, .slice (some ⟨gs, 0, none⟩) n n, .slice (some ⟨go, 0, none⟩) n n, .slice (some ⟨gl, 0, none⟩) n n, .int .i64 s.looks] 44 (0, 0))
  hs : W.heap[gs]? = some (.cells (nums .i64 s.st).toArray 3 (0, 0))
  ho : W.heap[go]? = some (.cells (labs s.out).toArray 26 (0, 0))
  hl : W.heap[gl]? = some (.cells (bools s.lo).toArray 4 (0, 0))
  ls : s.st.length = n
  lo : s.out.length = n
  ll : s.lo.length = n
namespace IsC
variable {W W1 : World} {g gs go gl : Nat} {A : Option Addr} {n c : Nat} {s : CS}
theorem below (h : IsC W g gs go gl A n c s) (hb : Below W.heap.size W W1) : IsC W1 g gs go gl A n c s :=
  ⟨blk_below h.hg hb, blk_below h.hs hb, blk_below h.ho hb, blk_below h.hl hb, h.ls, h.lo, h.ll⟩
theorem grown (h : IsC W g gs go gl A n c s) {row : Option Nat} (hw : W.grownBy W1 row) (hr : ∀ k, row = some k → k ≠ g ∧ k ≠ gs ∧ k ≠ go ∧ k ≠ gl) : IsC W1 g gs go gl A n c s :=
  ⟨blk_grown h.hg hw (fun e => (hr g e.symm).1 rfl), blk_grown h.hs hw (fun e => (hr gs e.symm).2.1 rfl), blk_grown h.ho hw (fun e => (hr go e.symm).2.2.1 rfl), blk_grown h.hl hw (fun e => (hr gl e.symm).2.2.2 rfl), h.ls, h.lo, h.ll⟩
theorem far (h : IsC W g gs go gl A n c s) {p : Addr} (hp : p.block ≠ g ∧ p.block ≠ gs ∧ p.block ≠ go ∧ p.block ≠ gl) (u : Value) : IsC (W.setCell p u) g gs go gl A n c s :=
  ⟨blk_far h.hg (Ne.symm hp.1) u, blk_far h.hs (Ne.symm hp.2.1) u, blk_far h.ho (Ne.symm hp.2.2.1) u, blk_far h.hl (Ne.symm hp.2.2.2) u, h.ls, h.lo, h.ll⟩
theorem ne1 (h : IsC W g gs go gl A n c s) : g ≠ gs := blk_ne h.hg h.hs (by decide)
theorem ne2 (h : IsC W g gs go gl A n c s) : g ≠ go := blk_ne h.hg h.ho (by decide)
theorem ne3 (h : IsC W g gs go gl A n c s) : g ≠ gl := blk_ne h.hg h.hl (by decide)
theorem ne4 (h : IsC W g gs go gl A n c s) : gs ≠ go := blk_ne h.hs h.ho (by decide)
theorem ne5 (h : IsC W g gs go gl A n c s) : gs ≠ gl := blk_ne h.hs h.hl (by decide)
theorem ne6 (h : IsC W g gs go gl A n c s) : go ≠ gl := blk_ne h.ho h.hl (by decide)
theorem putS (h : IsC W g gs go gl A n c s) (i : Nat) (x : Int) : IsC (W.setCell ⟨gs, i, none⟩ (.int .i64 x)) g gs go gl A n c { s with st := s.st.set i x } :=
  ⟨blk_far h.hg h.ne1 _, by have := blk_set h.hs i (.int .i64 x); simpa [nums, List.map_set] using this, blk_far h.ho (Ne.symm h.ne4) _, blk_far h.hl (Ne.symm h.ne5) _, by simpa using h.ls, h.lo, h.ll⟩
theorem putL (h : IsC W g gs go gl A n c s) (i : Nat) (x : Bool) : IsC (W.setCell ⟨gl, i, none⟩ (.bool x)) g gs go gl A n c { s with lo := s.lo.set i x } :=
  ⟨blk_far h.hg h.ne3 _, blk_far h.hs h.ne5 _, blk_far h.ho h.ne6 _, by have := blk_set h.hl i (.bool x); simpa [bools, List.map_set] using this, h.ls, h.lo, by simpa using h.ll⟩
theorem putK (h : IsC W g gs go gl A n c s) (x : Int) : IsC (W.setCell ⟨g, 4, none⟩ (.int .i64 x)) g gs go gl A n c { s with looks := x } :=
  ⟨by have := blk_set h.hg 4 (.int .i64 x); simpa using this, blk_far h.hs (Ne.symm h.ne1) _, blk_far h.ho (Ne.symm h.ne2) _, blk_far h.hl (Ne.symm h.ne3) _, h.ls, h.lo, h.ll⟩
theorem labs_set : ∀ (xs : List S26) (i : Nat) (x : S26), i < xs.length → ((labs xs).set (i * 2) (.int .i64 x.f0)).set (i * 2 + 1) (.int .u64 x.f1) = labs (xs.set i x)
  | y :: ys, 0, x, _ => by simp [labs]
  | y :: ys, i + 1, x, h => by
    have := labs_set ys i x (by simpa using h)
    have e : (i + 1) * 2 = i * 2 + 1 + 1 := by omega
    simp only [labs, List.flatMap_cons, List.set_cons_succ, List.cons_append, List.nil_append, e] at this ⊢
    rw [this]
theorem putO (h : IsC W g gs go gl A n c s) (i : Nat) (hi : i < n) (x : S26) : IsC ((W.setCell ⟨go, i * 2, none⟩ (.int .i64 x.f0)).setCell ⟨go, i * 2 + 1, none⟩ (.int .u64 x.f1)) g gs go gl A n c { s with out := s.out.set i x } :=
  ⟨blk_far (blk_far h.hg h.ne2 _) h.ne2 _, blk_far (blk_far h.hs h.ne4 _) h.ne4 _, by
    have := blk_set (blk_set h.ho (i * 2) (.int .i64 x.f0)) (i * 2 + 1) (.int .u64 x.f1)
    simp only [List.setIfInBounds_toArray] at this
    rw [labs_set _ _ _ (by rw [h.lo]; exact hi)] at this
    exact this, blk_far (blk_far h.hl (Ne.symm h.ne6) _) (Ne.symm h.ne6) _, h.ls, by simpa using h.lo, h.ll⟩
theorem c0 (h : IsC W g gs go gl A n c s) : W.cell? ⟨g, 0, none⟩ = some (.slice A n c) := (blk_cell h.hg 0).trans rfl
theorem c1 (h : IsC W g gs go gl A n c s) : W.cell? ⟨g, 1, none⟩ = some (.slice (some ⟨gs, 0, none⟩) n n) := (blk_cell h.hg 1).trans rfl
theorem c2 (h : IsC W g gs go gl A n c s) : W.cell? ⟨g, 2, none⟩ = some (.slice (some ⟨go, 0, none⟩) n n) := (blk_cell h.hg 2).trans rfl
theorem c3 (h : IsC W g gs go gl A n c s) : W.cell? ⟨g, 3, none⟩ = some (.slice (some ⟨gl, 0, none⟩) n n) := (blk_cell h.hg 3).trans rfl
theorem c4 (h : IsC W g gs go gl A n c s) : W.cell? ⟨g, 4, none⟩ = some (.int .i64 s.looks) := (blk_cell h.hg 4).trans rfl
theorem f4 (h : IsC W g gs go gl A n c s) (i : Nat) : W.frozen? ⟨g, i, none⟩ = false := blk_frozen h.hg i
theorem fs (h : IsC W g gs go gl A n c s) (i : Nat) : W.frozen? ⟨gs, i, none⟩ = false := blk_frozen h.hs i
theorem fo (h : IsC W g gs go gl A n c s) (i : Nat) : W.frozen? ⟨go, i, none⟩ = false := blk_frozen h.ho i
theorem fl (h : IsC W g gs go gl A n c s) (i : Nat) : W.frozen? ⟨gl, i, none⟩ = false := blk_frozen h.hl i
theorem cs (h : IsC W g gs go gl A n c s) (i : Int) (h0 : 0 ≤ i) (hi : i < (n : Int)) : W.cell? ⟨gs, i.toNat, none⟩ = some (.int .i64 (rd s.st i)) := by
  rw [blk_cell h.hs]
  have := h.ls
  unfold rd
  simp [nums, List.getElem?_eq_getElem (show i.toNat < s.st.length by omega)]
theorem cl (h : IsC W g gs go gl A n c s) (i : Nat) (hi : i < n) : W.cell? ⟨gl, i, none⟩ = some (.bool (s.lo.getD i false)) := by
  rw [blk_cell h.hl i]
  have := h.ll
  simp [bools, List.getElem?_eq_getElem (show i < s.lo.length by omega)]
theorem labs_get : ∀ (xs : List S26) (i : Nat), i < xs.length → (labs xs)[i * 2]? = some (.int .i64 (xs.getD i z26).f0) ∧ (labs xs)[i * 2 + 1]? = some (.int .u64 (xs.getD i z26).f1)
  | y :: ys, 0, _ => by simp [labs]
  | y :: ys, i + 1, h => by
    have := labs_get ys i (by simpa using h)
    have e : (i + 1) * 2 = i * 2 + 1 + 1 := by omega
    have e2 : (i + 1) * 2 + 1 = i * 2 + 1 + 1 + 1 := by omega
    simp only [labs, List.flatMap_cons, List.cons_append, List.nil_append] at this ⊢
    rw [e]
    simpa using this
theorem co (h : IsC W g gs go gl A n c s) (i : Int) (h0 : 0 ≤ i) (hi : i < (n : Int)) : W.cell? ⟨go, i.toNat * 2, none⟩ = some (.int .i64 (rd_T26 s.out i).f0) ∧ W.cell? ⟨go, i.toNat * 2 + 1, none⟩ = some (.int .u64 (rd_T26 s.out i).f1) := by
  have := labs_get s.out i.toNat (by rw [h.lo]; omega)
  exact ⟨by rw [blk_cell h.ho, List.getElem?_toArray]; exact this.1, by rw [blk_cell h.ho, List.getElem?_toArray]; exact this.2⟩
end IsC
end Go.Proofs.Ytmpcphfgmpceiaa.X
/- The contract of chase.run: one chain closed, by hand. -/
set_option linter.unusedVariables false
set_option linter.unusedSimpArgs false
namespace Go.Proofs.Ytmpcphfgmpceiaa.X
open Go.RowKit Go.Proofs.YtmpcphfgmpceiaaW.PrintWords Go.Proofs.YtmpcphfgmpceiaaW.PrintLast Go.Proofs.YtmpcphfgmpceiaaW.PrintMore
structure AH where
  st : List Int
  path : List Int
  i : Int
  ok : Bool
  looks : Int
def ahead (l : List S36) : Nat → AH → Option AH
  | 0, _ => none
  | k + 1, a => if a.ok = true then
      (if 0 ≤ a.i then (if a.i < (l.length : Int) then (if rd a.st a.i = 0 then (if (a.path.length + 1) * 8 ≤ 140737488355328 then
        (chase_on.f l a.i).bind fun r => ahead l k ⟨a.st.set a.i.toNat 1, a.path ++ [a.i], r.1, r.2, wrap64 (a.looks + 1)⟩ else none) else some a) else none) else none) else some a
def back (l : List S36) (path : List Int) (i : Int) : Nat → S26 → Option (Nat × S26)
  | 0, o => some (0, o)
  | f + 1, o => if f + 1 = path.length ∨ rd path ((f + 1 : Nat) : Int) ≠ i then
      (if 0 ≤ rd path (f : Int) then (if rd path (f : Int) < (l.length : Int) then
        (label_Join.f o.f0 o.f1 (rd_T36 l (rd path (f : Int))).f0.f0 (rd_T36 l (rd path (f : Int))).f0.f1).bind fun t => back l path i f ⟨t.1, t.2⟩ else none) else none) else some (f + 1, o)
def down (l : List S36) (path : List Int) (fr : Nat) : Nat → S26 → CS → Option CS
  | 0, _, s => some s
  | k + 1, o, s => if 0 ≤ rd path (k : Int) then (if rd path (k : Int) < (l.length : Int) then
      (if k < fr then label_Join.f o.f0 o.f1 (rd_T36 l (rd path (k : Int))).f0.f0 (rd_T36 l (rd path (k : Int))).f0.f1 else some (o.f0, o.f1)).bind fun t =>
        down l path fr k ⟨t.1, t.2⟩ ⟨s.st.set (rd path (k : Int)).toNat 2, s.out.set (rd path (k : Int)).toNat ⟨t.1, t.2⟩, s.lo.set (rd path (k : Int)).toNat (decide (fr ≤ k)), wrap64 (s.looks + 1)⟩ else none) else none
def over1 (s : CS) (a : AH) : S26 := if a.ok = true ∧ rd a.st a.i = 2 then rd_T26 s.out a.i else ⟨0, 0⟩
def back1 (l : List S36) (s : CS) (a : AH) : Option (Nat × S26) := if a.ok = true ∧ rd a.st a.i = 1 then back l a.path a.i a.path.length (over1 s a) else some (a.path.length, over1 s a)
def runF (l : List S36) (k : Nat) (i : Int) (s : CS) : Option CS :=
  (ahead l k ⟨s.st, [], i, true, s.looks⟩).bind fun a => (back1 l s a).bind fun b => down l a.path b.1 a.path.length b.2 ⟨a.st, s.out, s.lo, a.looks⟩
def IsA (w0 wc : World) (B1 g gs go gl : Nat) (A : Option Addr) (n c : Nat) (out : List S26) (lo : List Bool) (a : AH) (v : Value) : Prop :=
  IsC wc g gs go gl A n c ⟨a.st, out, lo, a.looks⟩ ∧ wc.ownsRow B1 3 1 v a.path.length (nums .i64 a.path) ∧ Below w0.heap.size w0 wc ∧ B1 ≤ wc.heap.size
structure IsB (w0 wx : World) (B1 g gs go gl b6 : Nat) (A : Option Addr) (n c : Nat) (s : CS) (path : List Int) (v : Value) (o : S26) : Prop where
  hC : IsC wx g gs go gl A n c s
  hP : wx.ownsRow B1 3 1 v path.length (nums .i64 path)
  hB : Below w0.heap.size w0 wx
  hV : wx.heap[b6]? = some (.cells #[.int .i64 o.f0, .int .u64 o.f1] 26 (0, 0))
theorem IsB.below {w0 wx w1 : World} {B1 g gs go gl b6 : Nat} {A : Option Addr} {n c : Nat} {s : CS} {path : List Int} {v : Value} {o : S26} (h : IsB w0 wx B1 g gs go gl b6 A n c s path v o) (hb : Below wx.heap.size wx w1) : IsB w0 w1 B1 g gs go gl b6 A n c s path v o :=
  ⟨h.hC.below hb, pw_own_below h.hP hb, below_then h.hB h.hB.size hb, blk_below h.hV hb⟩
theorem IsB.over {w0 wx : World} {B1 g gs go gl b6 : Nat} {A : Option Addr} {n c : Nat} {s : CS} {path : List Int} {v : Value} {o : S26} (h : IsB w0 wx B1 g gs go gl b6 A n c s path v o) (hl : g < b6 ∧ gs < b6 ∧ go < b6 ∧ gl < b6) (h0 : w0.heap.size ≤ b6) (hn : some b6 ≠ v.ownBlock) (x : S26) :
    IsB w0 ((wx.setCell ⟨b6, 0, none⟩ (.int .i64 x.f0)).setCell ⟨b6, 1, none⟩ (.int .u64 x.f1)) B1 g gs go gl b6 A n c s path v x :=
  ⟨(h.hC.far (p := ⟨b6, 0, none⟩) ⟨by show b6 ≠ g; omega, by show b6 ≠ gs; omega, by show b6 ≠ go; omega, by show b6 ≠ gl; omega⟩ _).far (p := ⟨b6, 1, none⟩) ⟨by show b6 ≠ g; omega, by show b6 ≠ gs; omega, by show b6 ≠ go; omega, by show b6 ≠ gl; omega⟩ _,
   own_setCell (p := ⟨b6, 1, none⟩) (own_setCell (p := ⟨b6, 0, none⟩) h.hP hn _) hn _, below_set (below_set h.hB h0) h0, by
    have := blk_set (blk_set h.hV 0 (.int .i64 x.f0)) 1 (.int .u64 x.f1)
    simpa using this⟩
theorem IsB.told {w0 wx : World} {B1 g gs go gl b6 : Nat} {A : Option Addr} {n c : Nat} {s : CS} {path : List Int} {v : Value} {o : S26} (h : IsB w0 wx B1 g gs go gl b6 A n c s path v o) (hl : g < b6 ∧ gs < b6 ∧ go < b6 ∧ gl < b6) (h1 : g < B1 ∧ gs < B1 ∧ go < B1 ∧ gl < B1)
    (h0 : w0.heap.size ≤ g ∧ w0.heap.size ≤ gs ∧ w0.heap.size ≤ go ∧ w0.heap.size ≤ gl) (i : Nat) (hi : i < n) (x : S26) (bb : Bool) (y z : Int) :
    IsB w0 (((((wx.setCell ⟨go, i * 2, none⟩ (.int .i64 x.f0)).setCell ⟨go, i * 2 + 1, none⟩ (.int .u64 x.f1)).setCell ⟨gl, i, none⟩ (.bool bb)).setCell ⟨gs, i, none⟩ (.int .i64 y)).setCell ⟨g, 4, none⟩ (.int .i64 z)) B1 g gs go gl b6 A n c
      ⟨s.st.set i y, s.out.set i x, s.lo.set i bb, z⟩ path v o := by
  have ne : ∀ (W : World) (p : Addr) (u : Value), p.block < B1 → W.ownsRow B1 3 1 v path.length (nums .i64 path) → (W.setCell p u).ownsRow B1 3 1 v path.length (nums .i64 path) := by
    intro W p u hp ho
    refine own_setCell ho (fun e => ?_) u
    have := own_base ho p.block e.symm
    omega
  refine ⟨(((h.hC.putO i hi x).putL i bb).putS i y).putK z, ?_, ?_, ?_⟩
  · exact ne _ ⟨g, 4, none⟩ _ h1.1 (ne _ ⟨gs, i, none⟩ _ h1.2.1 (ne _ ⟨gl, i, none⟩ _ h1.2.2.2 (ne _ ⟨go, i * 2 + 1, none⟩ _ h1.2.2.1 (ne _ ⟨go, i * 2, none⟩ _ h1.2.2.1 h.hP))))
  · exact below_set (below_set (below_set (below_set (below_set h.hB h0.2.2.1) h0.2.2.1) h0.2.2.2) h0.2.1) h0.1
  · refine blk_far (p := ⟨g, 4, none⟩) (blk_far (p := ⟨gs, i, none⟩) (blk_far (p := ⟨gl, i, none⟩) (blk_far (p := ⟨go, i * 2 + 1, none⟩) (blk_far (p := ⟨go, i * 2, none⟩) h.hV ?_ _) ?_ _) ?_ _) ?_ _) ?_ _
    · show b6 ≠ go; omega
    · show b6 ≠ go; omega
    · show b6 ≠ gl; omega
    · show b6 ≠ gs; omega
    · show b6 ≠ g; omega
theorem IsB.path_at {w0 wx : World} {B1 g gs go gl b6 : Nat} {A pA : Option Addr} {n c pc : Nat} {s : CS} {path : List Int} {o : S26} (h : IsB w0 wx B1 g gs go gl b6 A n c s path (.slice pA path.length pc) o) (i : Int) (h0 : 0 ≤ i) (h1 : i < (path.length : Int)) :
    ∃ ad, pA = some ad ∧ wx.cell? (ad.add i.toNat) = some (.int .i64 (rd path i)) := by
  obtain ⟨A', c', e, hr⟩ := own_reads h.hP
  injection e with e1 e2 e3
  subst e1
  exact hr.at_ i h0 h1
set_option maxHeartbeats 8000000 in
set_option maxRecDepth 100000 in
theorem chase_run.calls (l : List S36) (A : Option Addr) (c : Nat) (i : Int) (s s' : CS) (g gs go gl : Nat) (k : Nat) (w0 w : World) (hr : Kd.C k36 w0 A l.length l) (hc : l.length ≤ c) (hC : IsC w g gs go gl A l.length c s) (hB : Below w0.heap.size w0 w)
    (hge : w0.heap.size ≤ g ∧ w0.heap.size ≤ gs ∧ w0.heap.size ≤ go ∧ w0.heap.size ≤ gl) (h : runF l k i s = some s') :
    Calls Try.prog 14 #[.pointer (some ⟨g, 0, none⟩), .int .i64 i] w fun e w' => (∃ v, e = .returned v) ∧ IsC w' g gs go gl A l.length c s' ∧ Below w0.heap.size w0 w' := by
  have HR := Aside0.mk hr
  have HC0 := Aside0.mk hc
  have HC := Aside0.mk hC
  have HB := Aside0.mk hB
  have HG := Aside0.mk hge
  have HLB : Aside0 (g < w.heap.size ∧ gs < w.heap.size ∧ go < w.heap.size ∧ gl < w.heap.size) := ⟨blk_lt hC.hg, blk_lt hC.hs, blk_lt hC.ho, blk_lt hC.hl⟩
  clear hr hc hC hB hge
  unfold runF at h
  obtain ⟨a, ha, h⟩ := Option.bind_eq_some_iff.1 h
  obtain ⟨⟨fr, o2⟩, hb, h⟩ := Option.bind_eq_some_iff.1 h
  have HA := Aside0.mk ha
  have HK := Aside0.mk hb
  have HD := Aside0.mk h
  clear ha hb h
  go_enter Try.func14, Try.ntmps14
  go_upto_block 0 with fail
  go_cut [1, 4, 5] (fun v1 v4 v5 wc => v1 = .int .i64 a.i ∧ v5 = .bool a.ok ∧ Aside0 (IsA w0 wc w.heap.size g gs go gl A l.length c s.out s.lo a v4) ∧ Aside0 (a.ok = true → 0 ≤ a.i ∧ a.i < (l.length : Int)))
  case first =>
    go_wp2_with fail
    go_loopg [1, 4, 5] k (fun kq v1 v4 v5 wr => ∃ q : AH, v1 = .int .i64 q.i ∧ v5 = .bool q.ok ∧ Aside0 (IsA w0 wr w.heap.size g gs go gl A l.length c s.out s.lo q v4) ∧ Aside0 (ahead l kq q = some a) ∧ Aside0 (kq ≤ k))
    case atStart => exact ⟨⟨s.st, [], i, true, s.looks⟩, rfl, rfl, ⟨HC.out, own_nil _ _ _ _, HB.out, Nat.le_refl _⟩, HA, ⟨Nat.le_refl _⟩⟩
    case round =>
      obtain ⟨⟨st, path, i1, ok, looks⟩, rfl, rfl, hq, hA, hk⟩ := hrel
      cases gk with
      | zero => exact absurd hA.out (by simp [ahead])
      | succ k1 =>
        have H := hA.out
        clear hA
        simp only [ahead] at H
        cases ok with
        | false =>
          rw [if_neg (by decide)] at H
          obtain rfl := Option.some.inj H
          clear H
          go_wp2
          go_meet
          exact ⟨rfl, rfl, hq, ⟨fun h => by cases h⟩⟩
        | true =>
          rw [if_pos rfl] at H
          by_cases h0 : 0 ≤ i1
          · rw [if_pos h0] at H
            by_cases h1 : i1 < (l.length : Int)
            · rw [if_pos h1] at H
              have hc1 := hq.out.1.c1
              have hcs := hq.out.1.cs i1 h0 h1
              have hfs := hq.out.1.fs i1.toNat
              by_cases h2 : rd st i1 = 0
              · rw [if_pos h2] at H
                by_cases h3 : (path.length + 1) * 8 ≤ 140737488355328
                · rw [if_pos h3] at H
                  obtain ⟨⟨r1, r2⟩, hon, H⟩ := Option.bind_eq_some_iff.1 H
                  obtain ⟨hq1, hq2, hq3, hq4⟩ := hq.out
                  have hd : ((rd st i1) == 0) = true := by simp [h2]
                  have ne1 := hq1.ne1
                  have ne2 := Ne.symm hq1.ne1
                  have hc4 := hq1.c4
                  have hf4 := hq1.f4 4
                  have HC2 := Aside0.mk ((hq1.putS i1.toNat 1).putK (wrap64 (looks + 1)))
                  have hlg := blk_lt HC.out.hg
                  have hls := blk_lt HC.out.hs
                  have hlo := blk_lt HC.out.ho
                  have hll := blk_lt HC.out.hl
                  have hO := own_setCell (p := ⟨gs, i1.toNat, none⟩) hq2 (fun e => by have := own_base hq2 gs e.symm; omega) (.int .i64 1)
                  have HO := Aside0.mk (own_setCell (p := ⟨g, 4, none⟩) hO (fun e => by have := own_base hO g e.symm; omega) (.int .i64 (wrap64 (looks + 1))))
                  have HBB := Aside0.mk (below_set (below_set hq3 HG.out.2.1 (j := i1.toNat) (v := .int .i64 1)) HG.out.1 (j := 4) (v := .int .i64 (wrap64 (looks + 1))))
                  have HL := Aside0.mk (⟨hlg, hls, hlo, hll⟩ : g < w.heap.size ∧ gs < w.heap.size ∧ go < w.heap.size ∧ gl < w.heap.size)
                  have HON := Aside0.mk hon
                  have HSZ : Aside0 (((wr.setCell ⟨gs, i1.toNat, none⟩ (.int .i64 1)).setCell ⟨g, 4, none⟩ (.int .i64 (wrap64 (looks + 1)))).heap.size = wr.heap.size) := ⟨by simp [World.setCell]⟩
                  have HH := Aside0.mk H
                  have HQ4 := Aside0.mk hq4
                  have H3 := Aside0.mk h3
                  clear hq1 hq2 hq3 hq4 hO hlg hls hlo hll hon H h2 h3 hq
                  go_wp2_with (first
                    | (at_builtin; refine print_append_num (w0 := (wr.setCell ⟨gs, i1.toNat, none⟩ (.int .i64 1)).setCell ⟨g, 4, none⟩ (.int .i64 (wrap64 (looks + 1)))) w.heap.size rfl (.tmp 34) (.tmp 36) 28 3 .i64 8 rfl Try.underlying28 info3 (by decide) u4 path i1 rfl (by rw [HSZ.out]; rfl) HO.out (Below.refl _ _) (by rw [HSZ.out]; exact HQ4.out) H3.out ?_; intro v1 w1 hown hb0 hgr hat; have HC3 := Aside0.mk (IsC.grown HC2.out hgr (fun k e => by have h9 := own_base HO.out k e; have h8 := HL.out; omega)); have HB3 := Aside0.mk (pw_below_grown HBB.out _ HBB.out.size hgr (fun k e => by have h9 := own_base HO.out k e; have h8 := HB.out.size; omega)); have HO3 := Aside0.mk hown; have HS3 := Aside0.mk hgr.size; clear hown hb0 hgr hat hc1 hcs hfs hc4 hf4 HC2 HBB HO; have hc0 := HC3.out.c0)
                    | (go_at_call 13; refine (chase_on.calls A c l i1 r1 r2 _ (Kd.C_below HR.out HB3.out) HC0.out HON.out).mono ?_; rintro e w2 ⟨rfl, hdr⟩; have HD2 := Aside0.mk hdr.below; clear hdr hc0))
                  go_roundg k1
                  case measure => omega
                  case rel => exact ⟨⟨st.set i1.toNat 1, path ++ [i1], r1, r2, wrap64 (looks + 1)⟩, rfl, rfl, ⟨HC3.out.below HD2.out, pw_own_below HO3.out HD2.out, below_then HB3.out HB3.out.size HD2.out, by have h1 := HQ4.out; have h2 := HS3.out; have h3 := HD2.out.size; simp [World.setCell] at h2; omega⟩, HH, ⟨by have := hk.out; omega⟩⟩
                · rw [if_neg h3] at H
                  cases H
              · rw [if_neg h2] at H
                obtain rfl := Option.some.inj H
                clear H
                have hd : ((rd st i1) == 0) = false := by simp [h2]
                clear h2
                go_wp2
                go_meet
                exact ⟨rfl, rfl, hq, ⟨fun _ => ⟨h0, h1⟩⟩⟩
            · rw [if_neg h1] at H
              cases H
          · rw [if_neg h0] at H
            cases H
  case rest =>
    obtain ⟨rfl, rfl, hq, hin⟩ := hcut
    have HQ1 := Aside0.mk hq.out.1
    have HQ2 := Aside0.mk hq.out.2.1
    have HQ3 := Aside0.mk hq.out.2.2.1
    have HQ4 := Aside0.mk hq.out.2.2.2
    clear hq HC HB HA h
    obtain ⟨ast, apath, ai, aok, alooks⟩ := a
    dsimp only at HQ1 HQ2 hin ⊢
    go_upto_region 8 with (first | (go_at_call 15; refine (label_Bottom.calls 0 0 _ rfl).mono ?_; rintro e w2 ⟨rfl, hb⟩; have HB2 := Aside0.mk hb; clear hb))
    have hB3 := below_alloc HB2.out (.cells #[.int .i64 0, .int .u64 0] 26)
    have HV := Aside0.mk (blk_new w2 (.cells #[.int .i64 0, .int .u64 0] 26))
    have HQ5 := Aside0.mk (HQ1.out.below hB3)
    have HQ6 := Aside0.mk (pw_own_below HQ2.out hB3)
    have HQ7 := Aside0.mk (below_then HQ3.out HQ3.out.size hB3)
    have HQ8 : Aside0 (w.heap.size ≤ w2.heap.size) := ⟨by have := HQ4.out; have := HB2.out.size; omega⟩
    have HQ9 : Aside0 (w0.heap.size ≤ w2.heap.size) := ⟨by have := HQ3.out.size; have := HB2.out.size; omega⟩
    have HL : Aside0 (g < w2.heap.size ∧ gs < w2.heap.size ∧ go < w2.heap.size ∧ gl < w2.heap.size) := ⟨by have h1 := blk_lt HQ1.out.hg; have h2 := blk_lt HQ1.out.hs; have h3 := blk_lt HQ1.out.ho; have h4 := blk_lt HQ1.out.hl; have := HB2.out.size; omega⟩
    have HNP : Aside0 (some w2.heap.size ≠ Value.ownBlock u4) := ⟨fun e => by have := own_lt HQ2.out _ e.symm; have := HB2.out.size; omega⟩
    clear hB3 HB2 HQ1 HQ2 HQ3 HQ4
    generalize w2.alloc (.cells #[.int .i64 0, .int .u64 0] 26) = w3 at HV HQ5 HQ6 HQ7 ⊢
    generalize w2.heap.size = b6 at HV HQ8 HQ9 HL HNP ⊢
    clear w2
    go_cut [58] (fun v wx => ∃ bb : Bool, v = .bool bb ∧ Aside0 (bb = decide (aok = true ∧ rd ast ai = 2)) ∧ wx = w3)
    case first =>
      cases aok with
      | false =>
        go_wp2
        go_meet
        exact ⟨_, rfl, ⟨by simp⟩, rfl⟩
      | true =>
        obtain ⟨h0, h1⟩ := hin.out rfl
        have hc1 := HQ5.out.c1
        have hcs := HQ5.out.cs ai h0 h1
        by_cases h2 : rd ast ai = 2
        · have hd : (rd ast ai == 2) = true := by simp [h2]
          have HH2 := Aside0.mk h2
          clear h2
          go_wp2
          go_meet
          exact ⟨_, rfl, ⟨by simp [HH2.out]⟩, rfl⟩
        · have hd : (rd ast ai == 2) = false := by simp [h2]
          have HH2 := Aside0.mk h2
          clear h2
          go_wp2
          go_meet
          exact ⟨_, rfl, ⟨by simp [HH2.out]⟩, rfl⟩
    case rest =>
      obtain ⟨bb, rfl, hbb, rfl⟩ := hcut
      have HI := Aside0.mk (IsB.mk (o := ⟨0, 0⟩) HQ5.out HQ6.out HQ7.out HV.out)
      clear HQ5 HQ6 HQ7 HV
      go_upto_if 58 with fail
      go_cut [] (fun wx => Aside0 (IsB w0 wx w.heap.size g gs go gl b6 A l.length c ⟨ast, s.out, s.lo, alooks⟩ apath u4 (over1 s ⟨ast, apath, ai, aok, alooks⟩)))
      case first =>
        cases bb with
        | false =>
          have hn := of_decide_eq_false hbb.out.symm
          have e1 : over1 s ⟨ast, apath, ai, aok, alooks⟩ = ⟨0, 0⟩ := if_neg hn
          have E1 := Aside0.mk e1
          clear hn e1
          go_wp2
          go_meet
          exact ⟨by rw [E1.out]; exact HI.out⟩
        | true =>
          have hn := of_decide_eq_true hbb.out.symm
          have e1 : over1 s ⟨ast, apath, ai, aok, alooks⟩ = rd_T26 s.out ai := if_pos hn
          have E1 := Aside0.mk e1
          obtain ⟨h0, h1⟩ := hin.out hn.1
          have hc2 := HI.out.hC.c2
          obtain ⟨hco0, hco1⟩ := HI.out.hC.co ai h0 h1
          have hv0 := (blk_cell HI.out.hV 0).trans rfl
          have hv1 := (blk_cell HI.out.hV 1).trans rfl
          have hf0 := blk_frozen HI.out.hV 0
          have hf1 := blk_frozen HI.out.hV 1
          have HO := Aside0.mk (HI.out.over HL.out HQ9.out HNP.out (rd_T26 s.out ai))
          clear hn e1
          go_wp2
          go_meet
          exact ⟨by rw [E1.out]; exact HO.out⟩
      case rest =>
        clear HI hbb
        have HI := hcut
        clear hcut
        obtain ⟨pA, pc, rfl, hpR⟩ := own_reads HI.out.hP
        have HPR := Aside0.mk hpR
        clear hpR
        go_upto_region 11 with fail
        go_cut [78] (fun v wx => ∃ cc : Bool, v = .bool cc ∧ Aside0 (cc = decide (aok = true ∧ rd ast ai = 1)) ∧ wx = wc)
        case first =>
          cases aok with
          | false =>
            go_wp2
            go_meet
            exact ⟨_, rfl, ⟨by simp⟩, rfl⟩
          | true =>
            obtain ⟨h0, h1⟩ := hin.out rfl
            have hc1 := HI.out.hC.c1
            have hcs := HI.out.hC.cs ai h0 h1
            by_cases h2 : rd ast ai = 1
            · have hd : (rd ast ai == 1) = true := by simp [h2]
              have HH2 := Aside0.mk h2
              clear h2
              go_wp2
              go_meet
              exact ⟨_, rfl, ⟨by simp [HH2.out]⟩, rfl⟩
            · have hd : (rd ast ai == 1) = false := by simp [h2]
              have HH2 := Aside0.mk h2
              clear h2
              go_wp2
              go_meet
              exact ⟨_, rfl, ⟨by simp [HH2.out]⟩, rfl⟩
        case rest =>
          obtain ⟨cc, rfl, hcc, rfl⟩ := hcut
          go_upto_if 78 with fail
          go_cut [7] (fun v7 wx => v7 = .int .i64 (fr : Int) ∧ Aside0 (IsB w0 wx w.heap.size g gs go gl b6 A l.length c ⟨ast, s.out, s.lo, alooks⟩ apath (.slice pA apath.length pc) o2))
          case first =>
            cases cc with
            | false =>
              have hn := of_decide_eq_false hcc.out.symm
              have hk := HK.out
              unfold back1 at hk
              rw [if_neg hn] at hk
              obtain ⟨e1, e2⟩ := Prod.mk.inj (Option.some.inj hk)
              have E1 := Aside0.mk e1
              have E2 := Aside0.mk e2
              clear hn hk e1 e2
              go_wp2
              go_meet
              exact ⟨by rw [← E1.out], ⟨by rw [← E2.out]; exact HI.out⟩⟩
            | true =>
              have hn := of_decide_eq_true hcc.out.symm
              have hk := HK.out
              unfold back1 at hk
              rw [if_pos hn] at hk
              have HBK := Aside0.mk hk
              clear hn hk
              have hlen : apath.length ≤ 9223372036854775807 := HPR.out.2.1
              have HLEN := Aside0.mk hlen
              clear hlen
              go_wp2
              go_loopg [7] apath.length (fun f v7 wr => ∃ o, v7 = .int .i64 (f : Int) ∧ Aside0 (IsB w0 wr w.heap.size g gs go gl b6 A l.length c ⟨ast, s.out, s.lo, alooks⟩ apath (.slice pA apath.length pc) o) ∧ Aside0 (back l apath ai f o = some (fr, o2)) ∧ Aside0 (f ≤ apath.length))
              case atStart => exact ⟨_, rfl, HI, HBK, ⟨Nat.le_refl _⟩⟩
              case round =>
                clear HI HBK HPR HK
                obtain ⟨o, rfl, HI, HBK, hf⟩ := hrel
                cases gk with
                | zero =>
                  have hk := HBK.out
                  simp only [back] at hk
                  obtain ⟨e1, e2⟩ := Prod.mk.inj (Option.some.inj hk)
                  have E1 := Aside0.mk e1
                  have E2 := Aside0.mk e2
                  clear hk e1 e2
                  go_wp2
                  go_meet
                  exact ⟨by rw [← E1.out], ⟨by rw [← E2.out]; exact HI.out⟩⟩
                | succ f =>
                  have hk := HBK.out
                  simp only [back] at hk
                  have hF : ∃ F : Int, ((f + 1 : Nat) : Int) = F := ⟨_, rfl⟩
                  obtain ⟨F, hF⟩ := hF
                  have hF1 : (f : Int) = F - 1 := by omega
                  rw [hF, hF1] at hk
                  have HK := Aside0.mk hk
                  clear hk
                  have hFl : F ≤ (apath.length : Int) := by have := hf.out; omega
                  have hF0 : 0 < F := by omega
                  have hq : f + 1 = apath.length ↔ F = (apath.length : Int) := by omega
                  have HQE := Aside0.mk hq
                  have HF2 := Aside0.mk (And.intro hF hF1)
                  rw [hF]
                  clear hF hF1 hq HBK
                  have hd0 : decide (F > 0) = true := decide_eq_true hF0
                  go_upto_region 12 with fail
                  go_cut [94] (fun v wx => ∃ dd : Bool, v = .bool dd ∧ Aside0 (dd = decide (f + 1 = apath.length ∨ rd apath F ≠ ai)) ∧ wx = wr)
                  case first =>
                    by_cases hE : F = (apath.length : Int)
                    · have hd : (F == (apath.length : Int)) = true := by simp [hE]
                      have HE := Aside0.mk (HQE.out.2 hE)
                      clear hE
                      go_wp2
                      go_meet
                      exact ⟨_, rfl, ⟨by simp [HE.out]⟩, rfl⟩
                    · have hd : (F == (apath.length : Int)) = false := by simp [hE]
                      have HE := Aside0.mk (fun e => hE (HQE.out.1 e))
                      obtain ⟨ad, rfl, hca⟩ := HI.out.path_at F (by omega) (by omega)
                      have hlt : F < (apath.length : Int) := by omega
                      clear hE
                      by_cases hN : rd apath F = ai
                      · have hd : (rd apath F != ai) = false := by simp [hN]
                        have HN := Aside0.mk hN
                        clear hN
                        go_wp2
                        go_meet
                        exact ⟨_, rfl, ⟨(decide_eq_false (fun h => h.elim HE.out (fun h => h HN.out))).symm⟩, rfl⟩
                      · have hd : (rd apath F != ai) = true := by simp [hN]
                        have HN := Aside0.mk hN
                        clear hN
                        go_wp2
                        go_meet
                        exact ⟨_, rfl, ⟨by simp [HE.out, HN.out]⟩, rfl⟩
                  case rest =>
                    obtain ⟨dd, rfl, hdd, rfl⟩ := hcut
                    have hk := HK.out
                    cases dd with
                    | false =>
                      rw [if_neg (of_decide_eq_false hdd.out.symm)] at hk
                      obtain ⟨e1, e2⟩ := Prod.mk.inj (Option.some.inj hk)
                      have E1 := Aside0.mk e1
                      have E2 := Aside0.mk e2
                      clear hk e1 e2
                      go_wp2
                      go_meet
                      exact ⟨by rw [← E1.out, HF2.out.1], ⟨by rw [← E2.out]; exact HI.out⟩⟩
                    | true =>
                      rw [if_pos (of_decide_eq_true hdd.out.symm)] at hk
                      by_cases h0 : 0 ≤ rd apath (F - 1)
                      · rw [if_pos h0] at hk
                        by_cases h1 : rd apath (F - 1) < (l.length : Int)
                        · rw [if_pos h1] at hk
                          obtain ⟨⟨t1, t2⟩, hJ, hk⟩ := Option.bind_eq_some_iff.1 hk
                          have HJ := Aside0.mk hJ
                          have HK2 := Aside0.mk hk
                          obtain ⟨ad, rfl, hca⟩ := HI.out.path_at (F - 1) (by omega) (by omega)
                          obtain ⟨ad2, rfl, hl0, hl1, hl2⟩ := at_T36 HR.out (rd apath (F - 1)) h0 h1
                          replace hl0 := (HI.out.hB.cell (World.block_lt_of_cell? _ _ hl0)).trans hl0
                          replace hl1 := (HI.out.hB.cell (World.block_lt_of_cell? _ _ hl1)).trans hl1
                          have hc0 := HI.out.hC.c0
                          have hv0 : wc.cell? ⟨b6, 0, none⟩ = some (.int .i64 o.f0) := (blk_cell HI.out.hV 0).trans rfl
                          have hv1 : wc.cell? ⟨b6, 1, none⟩ = some (.int .u64 o.f1) := (blk_cell HI.out.hV 1).trans rfl
                          have hle : F ≤ 9223372036854775807 := by have := HLEN.out; omega
                          have hi0 : 0 ≤ F - 1 := by omega
                          have hi1 : F - 1 < (apath.length : Int) := by omega
                          have HFF := HF2.out.2
                          clear hk hJ hl2 HK HF2 hdd
                          go_upto_region 14 with fail
                          generalize F - 1 = G at hca hl0 hl1 hi0 hi1 h0 h1 HJ HFF ⊢
                          have HFF2 := Aside0.mk HFF
                          clear HFF
                          go_still_tail 12, (by kernel_rfl)
                          change wpList _ _ _ _ _ wc.drew
                          have HI2 := Aside0.mk (HI.out.below (pw_below_drewN (Below.refl _ wc) 1))
                          clear HI hv0 hv1 hc0 hca hl0 hl1
                          go_wp2_with (go_at_call 16; refine (label_Join.calls o.f0 o.f1 (rd_T36 l (rd apath G)).f0.f0 (rd_T36 l (rd apath G)).f0.f1 t1 t2 _ HJ.out).mono ?_; rintro e w5 ⟨rfl, hb5⟩; have HI5 := Aside0.mk (HI2.out.below hb5); clear hb5; have hv0 : w5.cell? ⟨b6, 0, none⟩ = some (.int .i64 o.f0) := (blk_cell HI5.out.hV 0).trans rfl; have hv1 : w5.cell? ⟨b6, 1, none⟩ = some (.int .u64 o.f1) := (blk_cell HI5.out.hV 1).trans rfl; have hf0 := blk_frozen HI5.out.hV 0; have hf1 := blk_frozen HI5.out.hV 1)
                          go_roundg f
                          case measure => omega
                          case rel => exact ⟨⟨t1, t2⟩, by rw [HFF2.out], ⟨HI5.out.over HL.out HQ9.out HNP.out ⟨t1, t2⟩⟩, HK2, ⟨by have := hf.out; omega⟩⟩
                        · rw [if_neg h1] at hk
                          cases hk
                      · rw [if_neg h0] at hk
                        cases hk
          case rest =>
            clear HI HK hcc
            obtain ⟨rfl, HI⟩ := hcut
            have HLEN := Aside0.mk HPR.out.2.1
            clear HPR
            go_wp2
            go_loopg [8] apath.length (fun q v8 wr => ∃ (x : Int) (o : S26) (s9 : CS), v8 = .int .i64 x ∧ Aside0 (x + 1 = (q : Int)) ∧ Aside0 (IsB w0 wr w.heap.size g gs go gl b6 A l.length c s9 apath (.slice pA apath.length pc) o) ∧ Aside0 (down l apath fr q o s9 = some s') ∧ Aside0 (q ≤ apath.length))
            case atStart => exact ⟨_, o2, _, rfl, ⟨by have := HLEN.out; unfold wrap64; omega⟩, HI, HD, ⟨Nat.le_refl _⟩⟩
            case round =>
              clear HI HD
              obtain ⟨x, o, s9, rfl, HX, HI, HD, hq⟩ := hrel
              cases gk with
              | zero =>
                have hd : decide (x ≥ 0) = false := decide_eq_false (by have := HX.out; omega)
                have hk := HD.out
                simp only [down] at hk
                obtain rfl := Option.some.inj hk
                clear hk
                go_wp2
                go_end0
                exact ⟨⟨_, rfl⟩, HI.out.hC, HI.out.hB⟩
              | succ k1 =>
                have hd : decide (x ≥ 0) = true := decide_eq_true (by have := HX.out; omega)
                have hx0 : 0 ≤ x := by have := HX.out; omega
                have hx1 : x < (apath.length : Int) := by have := HX.out; have := hq.out; omega
                have hx2 : x ≤ 9223372036854775807 := by have := HLEN.out; omega
                have hk := HD.out
                simp only [down] at hk
                rw [show ((k1 : Nat) : Int) = x by have := HX.out; omega] at hk
                by_cases h0 : 0 ≤ rd apath x
                · rw [if_pos h0] at hk
                  by_cases h1 : rd apath x < (l.length : Int)
                  · rw [if_pos h1] at hk
                    obtain ⟨⟨t1, t2⟩, hJ, hk⟩ := Option.bind_eq_some_iff.1 hk
                    have HJ := Aside0.mk hJ
                    have HK2 := Aside0.mk hk
                    obtain ⟨ad, rfl, hca⟩ := HI.out.path_at x hx0 hx1
                    clear hk hJ HD
                    go_upto_region 19 with fail
                    go_cut [123] (fun v wx => ∃ dd : Bool, v = .bool dd ∧ Aside0 (dd = decide (k1 < fr)) ∧ wx = wr)
                    case first =>
                      by_cases hf : x < (fr : Int)
                      · have hdf : decide (x < (fr : Int)) = true := decide_eq_true hf
                        have HF := Aside0.mk hf
                        clear hf
                        go_wp2
                        go_meet
                        exact ⟨_, rfl, ⟨(decide_eq_true (by have := HF.out; have := HX.out; omega)).symm⟩, rfl⟩
                      · have hdf : decide (x < (fr : Int)) = false := decide_eq_false hf
                        have HF := Aside0.mk hf
                        clear hf
                        go_wp2
                        go_meet
                        exact ⟨_, rfl, ⟨(decide_eq_false (by have := HF.out; have := HX.out; omega)).symm⟩, rfl⟩
                    case rest =>
                      obtain ⟨dd, rfl, hdd, rfl⟩ := hcut
                      go_upto_if 123 with fail
                      go_cut [] (fun wx => Aside0 (IsB w0 wx w.heap.size g gs go gl b6 A l.length c s9 apath (.slice (some ad) apath.length pc) ⟨t1, t2⟩))
                      case first =>
                        clear hca
                        cases dd with
                        | false =>
                          have hj := HJ.out
                          rw [if_neg (of_decide_eq_false hdd.out.symm)] at hj
                          obtain ⟨e1, e2⟩ := Prod.mk.inj (Option.some.inj hj)
                          have E1 := Aside0.mk e1
                          have E2 := Aside0.mk e2
                          clear hj e1 e2
                          go_wp2
                          go_meet
                          exact ⟨by rw [← E1.out, ← E2.out]; exact HI.out⟩
                        | true =>
                          have hj := HJ.out
                          rw [if_pos (of_decide_eq_true hdd.out.symm)] at hj
                          have HJ2 := Aside0.mk hj
                          obtain ⟨ad2, rfl, hl0, hl1, hl2⟩ := at_T36 HR.out (rd apath x) h0 h1
                          replace hl0 := (HI.out.hB.cell (World.block_lt_of_cell? _ _ hl0)).trans hl0
                          replace hl1 := (HI.out.hB.cell (World.block_lt_of_cell? _ _ hl1)).trans hl1
                          have hc0 := HI.out.hC.c0
                          have hv0 : wc.cell? ⟨b6, 0, none⟩ = some (.int .i64 o.f0) := (blk_cell HI.out.hV 0).trans rfl
                          have hv1 : wc.cell? ⟨b6, 1, none⟩ = some (.int .u64 o.f1) := (blk_cell HI.out.hV 1).trans rfl
                          clear hj hl2 HJ hdd
                          go_upto_region 20 with fail
                          go_still_tail 9, (by kernel_rfl)
                          change wpList _ _ _ _ _ wc.drew
                          have HI2 := Aside0.mk (HI.out.below (pw_below_drewN (Below.refl _ wc) 1))
                          clear HI hv0 hv1 hc0 hl0 hl1
                          go_wp2_with (go_at_call 16; refine (label_Join.calls o.f0 o.f1 (rd_T36 l (rd apath x)).f0.f0 (rd_T36 l (rd apath x)).f0.f1 t1 t2 _ HJ2.out).mono ?_; rintro e w5 ⟨rfl, hb5⟩; have HI5 := Aside0.mk (HI2.out.below hb5); clear hb5; have hv0 : w5.cell? ⟨b6, 0, none⟩ = some (.int .i64 o.f0) := (blk_cell HI5.out.hV 0).trans rfl; have hv1 : w5.cell? ⟨b6, 1, none⟩ = some (.int .u64 o.f1) := (blk_cell HI5.out.hV 1).trans rfl; have hf0 := blk_frozen HI5.out.hV 0; have hf1 := blk_frozen HI5.out.hV 1)
                          go_meet
                          exact ⟨HI5.out.over HL.out HQ9.out HNP.out ⟨t1, t2⟩⟩
                      case rest =>
                        clear HI HJ hdd
                        have HI := hcut
                        clear hcut
                        have ne1 := HI.out.hC.ne1; have ne1' := Ne.symm ne1
                        have ne2 := HI.out.hC.ne2; have ne2' := Ne.symm ne2
                        have ne3 := HI.out.hC.ne3; have ne3' := Ne.symm ne3
                        have ne4 := HI.out.hC.ne4; have ne4' := Ne.symm ne4
                        have ne5 := HI.out.hC.ne5; have ne5' := Ne.symm ne5
                        have ne6 := HI.out.hC.ne6; have ne6' := Ne.symm ne6
                        have hc1 := HI.out.hC.c1
                        have hc2 := HI.out.hC.c2
                        have hc3 := HI.out.hC.c3
                        have hc4 := HI.out.hC.c4
                        have hv0 : wc.cell? ⟨b6, 0, none⟩ = some (.int .i64 t1) := (blk_cell HI.out.hV 0).trans rfl
                        have hv1 : wc.cell? ⟨b6, 1, none⟩ = some (.int .u64 t2) := (blk_cell HI.out.hV 1).trans rfl
                        obtain ⟨hco0, hco1⟩ := HI.out.hC.co (rd apath x) h0 h1
                        have hcs := HI.out.hC.cs (rd apath x) h0 h1
                        have hcl := HI.out.hC.cl (rd apath x).toNat (by omega)
                        have hf4 := HI.out.hC.f4 4
                        have hfs := HI.out.hC.fs (rd apath x).toNat
                        have hfo0 := HI.out.hC.fo ((rd apath x).toNat * 2)
                        have hfo1 := HI.out.hC.fo ((rd apath x).toNat * 2 + 1)
                        have hfl := HI.out.hC.fl (rd apath x).toNat
                        go_wp2
                        go_still_tail 7, (by kernel_rfl)
                        change wpList _ _ _ _ _ wc.drew
                        go_wp2
                        go_roundg k1
                        case measure => omega
                        case rel =>
                          have HI2 := (HI.out.told HL.out HLB.out HG.out (rd apath x).toNat (by omega) ⟨t1, t2⟩ (decide ((fr : Int) ≤ x)) 2 (wrap64 (s9.looks + 1))).below (pw_below_drewN (Below.refl _ _) 1)
                          refine ⟨_, _, _, rfl, ⟨by have := HX.out; omega⟩, ⟨?_⟩, HK2, ⟨by have := hq.out; omega⟩⟩
                          have eb : decide (fr ≤ k1) = decide ((fr : Int) ≤ x) := decide_eq_decide.2 (by have := HX.out; omega)
                          rw [eb]
                          exact HI2
                  · rw [if_neg h1] at hk
                    cases hk
                · rw [if_neg h0] at hk
                  cases hk
end Go.Proofs.Ytmpcphfgmpceiaa.X
/- The contracts of chase.closed, Close, Loops and Steps. -/
set_option linter.unusedVariables false
set_option linter.unusedSimpArgs false
namespace Go.Proofs.Ytmpcphfgmpceiaa.X
open Go.RowKit Go.Proofs.YtmpcphfgmpceiaaW.PrintWords Go.Proofs.YtmpcphfgmpceiaaW.PrintLast Go.Proofs.YtmpcphfgmpceiaaW.PrintMore
def oS (n : Nat) : Obj := .cells (nums .i64 (List.replicate n 0)).toArray 3
def oO (n : Nat) : Obj := .cells (labs (List.replicate n ⟨0, 0⟩)).toArray 26
def oL (n : Nat) : Obj := .cells (bools (List.replicate n false)).toArray 4
theorem made_S (n : Nat) : madeCells #[Value.int .i64 0] n = (nums .i64 (List.replicate n 0)).toArray := by
  apply Array.ext_getElem?
  intro i
  by_cases h : i < n <;> simp [madeCells, nums, h, Nat.mod_one]
theorem made_L (n : Nat) : madeCells #[Value.bool false] n = (bools (List.replicate n false)).toArray := by
  apply Array.ext_getElem?
  intro i
  by_cases h : i < n <;> simp [madeCells, bools, h, Nat.mod_one]
theorem labs_length (xs : List S26) : (labs xs).length = xs.length * 2 := by
  induction xs with
  | nil => rfl
  | cons x xs ih => simp only [labs, List.flatMap_cons, List.length_append, List.length_cons, List.length_nil] at ih ⊢; omega
theorem made_O (n : Nat) : madeCells #[Value.int .i64 0, Value.int .u64 0] (n * 2) = (labs (List.replicate n ⟨0, 0⟩)).toArray := by
  apply Array.ext_getElem?
  intro i
  by_cases h : i < n * 2
  · have h2 := IsC.labs_get (List.replicate n (⟨0, 0⟩ : S26)) (i / 2) (by simp; omega)
    have h3 : (List.replicate n (⟨0, 0⟩ : S26)).getD (i / 2) z26 = ⟨0, 0⟩ := by
      rw [List.getD_eq_getElem?_getD, List.getElem?_replicate, if_pos (by omega)]; rfl
    rw [h3] at h2
    rw [List.getElem?_toArray (xs := labs _)]
    rcases Nat.mod_two_eq_zero_or_one i with e | e
    · rw [show i / 2 * 2 = i by omega] at h2
      rw [h2.1]
      simp [madeCells, h, e]
    · rw [show i / 2 * 2 + 1 = i by omega] at h2
      rw [h2.2]
      simp [madeCells, h, e]
  · rw [Array.getElem?_eq_none (by rw [size_madeCells]; omega), Array.getElem?_eq_none (by simp [labs_length]; omega)]
def allF (l : List S36) : Nat → Int → CS → Option CS
  | 0, _, s => some s
  | k + 1, i, s => if rd s.st i = 0 then (runF l (l.length + 1) i s).bind fun t => allF l k (i + 1) t else allF l k (i + 1) s
def fresh0 (n : Nat) : CS := ⟨List.replicate n 0, List.replicate n ⟨0, 0⟩, List.replicate n false, 0⟩
def closedF (l : List S36) : Option CS := if l.length * 24 ≤ 140737488355328 then allF l l.length 0 (fresh0 l.length) else none
theorem new4_0 (w : World) (a b : Obj) : ((w.alloc a).alloc b).heap[w.heap.size + 1]? = some b := by have := blk_new (w.alloc a) b; rwa [World.size_alloc] at this
theorem new4_1 (w : World) (a b c d : Obj) : ((((w.alloc a).alloc b).alloc c).alloc d).drew.heap[w.heap.size]? = some a := blk_drew (blk_alloc (blk_alloc (blk_alloc (blk_new w a) b) c) d)
theorem new4_2 (w : World) (a b c d : Obj) : ((((w.alloc a).alloc b).alloc c).alloc d).drew.heap[w.heap.size + 1]? = some b := blk_drew (blk_alloc (blk_alloc (new4_0 w a b) c) d)
theorem new4_3 (w : World) (a b c d : Obj) : ((((w.alloc a).alloc b).alloc c).alloc d).drew.heap[w.heap.size + 1 + 1]? = some c := by have := new4_0 (w.alloc a) b c; rw [World.size_alloc] at this; exact blk_drew (blk_alloc this d)
theorem new4_4 (w : World) (a b c d : Obj) : ((((w.alloc a).alloc b).alloc c).alloc d).drew.heap[w.heap.size + 1 + 1 + 1]? = some d := by have := new4_0 ((w.alloc a).alloc b) c d; rw [World.size_alloc, World.size_alloc] at this; exact blk_drew this
theorem fresh_is {W : World} {g gs go gl : Nat} {A : Option Addr} {n c : Nat} (hg : W.heap[g]? = some (.cells #[.slice A n c, .slice (some ⟨gs, 0, none⟩) n n, .slice (some ⟨go, 0, none⟩) n n, .slice (some ⟨gl, 0, none⟩) n n, .int .i64 0] 44 (0, 0)))
    (hs : W.heap[gs]? = some (oS n)) (ho : W.heap[go]? = some (oO n)) (hl : W.heap[gl]? = some (oL n)) : IsC W g gs go gl A n c (fresh0 n) := ⟨hg, hs, ho, hl, by simp [fresh0], by simp [fresh0], by simp [fresh0]⟩
theorem info26 : (Try.prog.info? 26).map (fun i => (i.zero, i.size, i.bytes)) = some (some (.agg #[.int .i64 0, .int .u64 0]), 2, 16) := by kernel_rfl
set_option maxHeartbeats 8000000 in
set_option maxRecDepth 100000 in
theorem chase_closed.calls (l : List S36) (A : Option Addr) (c : Nat) (s' : CS) (w : World) (hr : Kd.C k36 w A l.length l) (hc : l.length ≤ c) (h : closedF l = some s') :
    Calls Try.prog 12 #[.slice A l.length c] w fun e w' => ∃ g gs go gl, e = .returned (.pointer (some ⟨g, 0, none⟩)) ∧ IsC w' g gs go gl A l.length c s' ∧ Below w.heap.size w w' ∧ (w.heap.size ≤ g ∧ w.heap.size ≤ gs ∧ w.heap.size ≤ go ∧ w.heap.size ≤ gl) := by
  unfold closedF at h
  by_cases hl : l.length * 24 ≤ 140737488355328
  · rw [if_pos hl] at h
    have hmS : ∀ W : World, (Instr.makeSlice 28 (.int .i64 (l.length : Int)) (.int .i64 (l.length : Int))).run Try.prog W = .ok (.slice (some ⟨W.heap.size, 0, none⟩) l.length l.length) (W.alloc (oS l.length)) := fun W => by
      obtain ⟨i, hi, hz⟩ := Option.map_eq_some_iff.1 info3
      simp only [Prod.mk.injEq] at hz
      have := run_make (P := Try.prog) W 28 3 i _ Try.underlying28 hi hz.1 .i64 .i64 l.length l.length (by omega) (by omega) (by rw [hz.2.2]; omega) (by omega)
      rw [hz.2.1] at this
      simp only [Int.toNat_natCast, Nat.mul_one] at this
      rw [this]
      unfold oS
      rw [← made_S]
      rfl
    have hmO : ∀ W : World, (Instr.makeSlice 33 (.int .i64 (l.length : Int)) (.int .i64 (l.length : Int))).run Try.prog W = .ok (.slice (some ⟨W.heap.size, 0, none⟩) l.length l.length) (W.alloc (oO l.length)) := fun W => by
      obtain ⟨i, hi, hz⟩ := Option.map_eq_some_iff.1 info26
      simp only [Prod.mk.injEq] at hz
      have := run_make (P := Try.prog) W 33 26 i _ Try.underlying33 hi hz.1 .i64 .i64 l.length l.length (by omega) (by omega) (by rw [hz.2.2]; omega) (by omega)
      rw [hz.2.1] at this
      simp only [Int.toNat_natCast] at this
      rw [this]
      unfold oO
      rw [← made_O]
      rfl
    have hmL : ∀ W : World, (Instr.makeSlice 39 (.int .i64 (l.length : Int)) (.int .i64 (l.length : Int))).run Try.prog W = .ok (.slice (some ⟨W.heap.size, 0, none⟩) l.length l.length) (W.alloc (oL l.length)) := fun W => by
      obtain ⟨i, hi, hz⟩ := Option.map_eq_some_iff.1 info4
      simp only [Prod.mk.injEq] at hz
      have := run_make (P := Try.prog) W 39 4 i _ Try.underlying39 hi hz.1 .i64 .i64 l.length l.length (by omega) (by omega) (by rw [hz.2.2]; omega) (by omega)
      rw [hz.2.1] at this
      simp only [Int.toNat_natCast, Nat.mul_one] at this
      rw [this]
      unfold oL
      rw [← made_L]
      rfl
    have HR := Aside0.mk hr
    have HC0 := Aside0.mk hc
    have HH := Aside0.mk h
    have HL := Aside0.mk hl
    clear hr hc h hl
    go_enter Try.func12, Try.ntmps12
    go_upto_region 1 with fail
    go_cut [3] (fun v wx => ∃ g gs go gl, v = .pointer (some ⟨g, 0, none⟩) ∧ Aside0 (IsC wx g gs go gl A l.length c (fresh0 l.length) ∧ Below w.heap.size w wx ∧ (w.heap.size ≤ g ∧ w.heap.size ≤ gs ∧ w.heap.size ≤ go ∧ w.heap.size ≤ gl)))
    case first =>
      go_region_held3 (fun w' => True) (trivial) (fail)
      all_goals
        go_wp2_with fail
        go_meet
        refine ⟨_, _, _, _, rfl, ⟨fresh_is (new4_4 _ _ _ _ _) ?_ ?_ ?_, ?_, ?_⟩⟩
        · first | exact new4_1 _ _ _ _ _ | exact new4_2 _ _ _ _ _ | exact new4_3 _ _ _ _ _
        · first | exact new4_1 _ _ _ _ _ | exact new4_2 _ _ _ _ _ | exact new4_3 _ _ _ _ _
        · first | exact new4_1 _ _ _ _ _ | exact new4_2 _ _ _ _ _ | exact new4_3 _ _ _ _ _
        · exact below_drew (below_alloc (below_alloc (below_alloc (below_alloc (Below.refl _ _) _) _) _) _)
        · omega
    case rest =>
      obtain ⟨g, gs, go, gl, rfl, hq⟩ := hcut
      have HG := Aside0.mk hq.out.2.2
      clear hmS hmO hmL
      go_wp2
      go_loopg [19] l.length (fun q v wr => ∃ (x : Int) (s9 : CS), v = .int .i64 x ∧ Aside0 (0 ≤ x ∧ x + (q : Int) = (l.length : Int)) ∧ Aside0 (IsC wr g gs go gl A l.length c s9) ∧ Aside0 (Below w.heap.size w wr) ∧ Aside0 (allF l q x s9 = some s') ∧ Aside0 (q ≤ l.length))
      case atStart => exact ⟨0, _, rfl, ⟨by omega⟩, ⟨hq.out.1⟩, ⟨hq.out.2.1⟩, HH, ⟨Nat.le_refl _⟩⟩
      case round =>
        clear hq HH
        obtain ⟨x, s9, rfl, HX, HC, HB, HH, hq⟩ := hrel
        cases gk with
        | zero =>
          have hk := HH.out
          simp only [allF] at hk
          obtain rfl := Option.some.inj hk
          have hd : decide (x < (l.length : Int)) = false := decide_eq_false (by have := HX.out; omega)
          clear hk
          go_wp2
          go_ret
          exact ⟨g, gs, go, gl, rfl, HC.out, HB.out, HG.out⟩
        | succ q1 =>
          have hk := HH.out
          simp only [allF] at hk
          have hd : decide (x < (l.length : Int)) = true := decide_eq_true (by have := HX.out; omega)
          have h0 : 0 ≤ x := HX.out.1
          have h1 : x < (l.length : Int) := by have := HX.out; omega
          have h2 : x + 1 ≤ 9223372036854775807 := by have := HL.out; omega
          have hc1 := HC.out.c1
          have hcs := HC.out.cs x h0 h1
          by_cases hz : rd s9.st x = 0
          · rw [if_pos hz] at hk
            obtain ⟨t, hrun, hk⟩ := Option.bind_eq_some_iff.1 hk
            have HRUN := Aside0.mk hrun
            have HK := Aside0.mk hk
            have hdz : (rd s9.st x == 0) = true := by simp [hz]
            clear hz hk hrun HH
            go_wp2_with (go_at_call 14; refine (chase_run.calls l A c x s9 t g gs go gl (l.length + 1) w wr HR.out HC0.out HC.out HB.out HG.out HRUN.out).mono ?_; rintro e w2 ⟨⟨v2, rfl⟩, hC2, hB2⟩; have HC2 := Aside0.mk hC2; have HB2 := Aside0.mk hB2; clear hC2 hB2)
            go_roundg q1
            case measure => omega
            case rel => exact ⟨_, _, rfl, ⟨by have := HX.out; omega⟩, HC2, HB2, HK, ⟨by have := hq.out; omega⟩⟩
          · rw [if_neg hz] at hk
            have HK := Aside0.mk hk
            have hdz : (rd s9.st x == 0) = false := by simp [hz]
            clear hz hk HH
            go_wp2
            go_roundg q1
            case measure => omega
            case rel => exact ⟨_, _, rfl, ⟨by have := HX.out; omega⟩, HC, HB, HK, ⟨by have := hq.out; omega⟩⟩
  · rw [if_neg hl] at h
    cases h
end Go.Proofs.Ytmpcphfgmpceiaa.X
/- The contracts of chase.Close, Loops and Steps. -/
set_option linter.unusedVariables false
set_option linter.unusedSimpArgs false
namespace Go.Proofs.Ytmpcphfgmpceiaa.X
open Go.RowKit Go.Proofs.YtmpcphfgmpceiaaW.PrintWords Go.Proofs.YtmpcphfgmpceiaaW.PrintLast Go.Proofs.YtmpcphfgmpceiaaW.PrintMore
theorem labs_reps {R : S26 → List Value → Prop} (hR : ∀ c, R c [.int .i64 c.f0, .int .u64 c.f1]) : ∀ (l pre : List S26), Reps R 2 pre (labs pre) → Reps R 2 (pre ++ l) (labs (pre ++ l))
  | [], pre, h => by simpa using h
  | c :: l, pre, h => by
    have := labs_reps hR l (pre ++ [c]) (by rw [show labs (pre ++ [c]) = labs pre ++ [.int .i64 c.f0, .int .u64 c.f1] by simp [labs]]; exact Reps.snoc h (hR c) rfl)
    simpa using this
theorem own_of {W : World} {base g n : Nat} {e : TypeId} {size : Nat} {xs : List Value} (h : W.heap[g]? = some (.cells xs.toArray e (0, 0))) (hb : base ≤ g) (hn : n ≤ maxLen) (hs : xs.length = n * size) : W.ownsRow base e size (.slice (some ⟨g, 0, none⟩) n n) n xs :=
  ⟨hs, .inr ⟨g, n, xs.toArray, rfl, hb, h, Nat.le_refl _, hn, by simpa using hs, List.take_of_length_le (Nat.le_of_eq hs)⟩⟩
def chase_Close.f (l0 : List S36) : Option (List S26) := (closedF l0).bind fun s => some s.out
def chase_Loops.f (l0 : List S36) : Option (List Bool) := (closedF l0).bind fun s => some s.lo
def chase_Steps.f (l0 : List S36) : Option Int := (closedF l0).bind fun s => some s.looks
set_option maxHeartbeats 8000000 in
set_option maxRecDepth 100000 in
theorem chase_Close.calls (A0 : Option Addr) (c0 : Nat) (l0 : List S36) (r : List S26) (w : World) (hr0 : Kd.C k36 w A0 l0.length l0) (hc0 : l0.length ≤ c0) (h : chase_Close.f l0 = some r) :
    Calls Try.prog 8 #[.slice A0 l0.length c0] w fun e w' => ∃ v0_ : Value, e = .returned (v0_) ∧ Kd.R k26 26 w' w.heap.size (fun _ => True) v0_ r ∧ Below w.heap.size w w' := by
  obtain ⟨s, hs, hr⟩ := Option.bind_eq_some_iff.1 h
  obtain rfl := Option.some.inj hr
  have HR := Aside0.mk hr0
  have HC := Aside0.mk hc0
  have HS := Aside0.mk hs
  clear h hs hr hr0 hc0
  go_enter Try.func8, Try.ntmps8
  go_wp2_with (go_at_call 12; refine (chase_closed.calls l0 A0 c0 s _ HR.out HC.out HS.out).mono ?_; rintro e w2 ⟨g, gs, go, gl, rfl, hC, hB, hG⟩; have HC2 := Aside0.mk hC; have HB2 := Aside0.mk hB; have HG2 := Aside0.mk hG; clear hC hB hG; have hc2 := HC2.out.c2)
  go_ret
  have hn : l0.length ≤ 9223372036854775807 := HR.out.2.1
  refine ⟨_, rfl, ⟨fun _ _ => trivial, labs s.out, ?_, labs_reps (fun x => k26_mkM _ _ _ x) s.out [] (Reps.none _ _)⟩, HB2.out⟩
  rw [HC2.out.lo]
  exact own_of HC2.out.ho HG2.out.2.2.1 (by unfold maxLen; omega) (by rw [labs_length, HC2.out.lo]; rfl)
set_option maxHeartbeats 8000000 in
set_option maxRecDepth 100000 in
theorem chase_Loops.calls (A0 : Option Addr) (c0 : Nat) (l0 : List S36) (r : List Bool) (w : World) (hr0 : Kd.C k36 w A0 l0.length l0) (hc0 : l0.length ≤ c0) (h : chase_Loops.f l0 = some r) :
    Calls Try.prog 9 #[.slice A0 l0.length c0] w fun e w' => ∃ v0_ : Value, e = .returned (v0_) ∧ Kd.R Kd.bool 4 w' w.heap.size (fun _ => True) v0_ r ∧ Below w.heap.size w w' := by
  obtain ⟨s, hs, hr⟩ := Option.bind_eq_some_iff.1 h
  obtain rfl := Option.some.inj hr
  have HR := Aside0.mk hr0
  have HC := Aside0.mk hc0
  have HS := Aside0.mk hs
  clear h hs hr hr0 hc0
  go_enter Try.func9, Try.ntmps9
  go_wp2_with (go_at_call 12; refine (chase_closed.calls l0 A0 c0 s _ HR.out HC.out HS.out).mono ?_; rintro e w2 ⟨g, gs, go, gl, rfl, hC, hB, hG⟩; have HC2 := Aside0.mk hC; have HB2 := Aside0.mk hB; have HG2 := Aside0.mk hG; clear hC hB hG; have hc3 := HC2.out.c3)
  go_ret
  have hn : l0.length ≤ 9223372036854775807 := HR.out.2.1
  refine ⟨_, rfl, Kd.R_of_own (enc := Value.bool) ?_ (fun _ _ => trivial), HB2.out⟩
  rw [HC2.out.ll]
  exact own_of HC2.out.hl HG2.out.2.2.2 (by unfold maxLen; omega) (by simp [encs, HC2.out.ll])
set_option maxHeartbeats 8000000 in
set_option maxRecDepth 100000 in
theorem chase_Steps.calls (A0 : Option Addr) (c0 : Nat) (l0 : List S36) (r : Int) (w : World) (hr0 : Kd.C k36 w A0 l0.length l0) (hc0 : l0.length ≤ c0) (h : chase_Steps.f l0 = some r) :
    Calls Try.prog 11 #[.slice A0 l0.length c0] w fun e w' => e = .returned (.int .i64 r) ∧ Below w.heap.size w w' := by
  obtain ⟨s, hs, hr⟩ := Option.bind_eq_some_iff.1 h
  obtain rfl := Option.some.inj hr
  have HR := Aside0.mk hr0
  have HC := Aside0.mk hc0
  have HS := Aside0.mk hs
  clear h hs hr hr0 hc0
  go_enter Try.func11, Try.ntmps11
  go_wp2_with (go_at_call 12; refine (chase_closed.calls l0 A0 c0 s _ HR.out HC.out HS.out).mono ?_; rintro e w2 ⟨g, gs, go, gl, rfl, hC, hB, hG⟩; have HC2 := Aside0.mk hC; have HB2 := Aside0.mk hB; have HG2 := Aside0.mk hG; clear hC hB hG; have hc4 := HC2.out.c4)
  go_ret
  exact ⟨rfl, HB2.out⟩
end Go.Proofs.Ytmpcphfgmpceiaa.X
namespace Go.Proofs.Ytmpcphfgmpceiaa.X
open Go.RowKit Go.Proofs.YtmpcphfgmpceiaaW.PrintWords Go.Proofs.YtmpcphfgmpceiaaW.PrintLast Go.Proofs.YtmpcphfgmpceiaaW.PrintMore
attribute [local go_sem] max2_int min2_int max_two min_two max_three min_three max_four min_four
set_option linter.unusedVariables false
set_option linter.unusedSimpArgs false
attribute [local go_sem high] eqA26
def oculuslaw35_alive.f (k : Nat)  : Option (Bool) := (some (([(⟨(⟨1, 0⟩ : S26), 1⟩ : S36), (⟨(⟨0, 1⟩ : S26), 0⟩ : S36), (⟨(⟨0, 2⟩ : S26), 0⟩ : S36), (⟨(⟨7, 0⟩ : S26), (-1)⟩ : S36)] : List (S36)) : List (S36))).bind fun y101 => ((chase_Close.f y101).bind fun t104 => ((chase_Loops.f y101).bind fun t107 => (if (t104.length : Int) = 4 then (if 0 < (t104.length : Int) then (if (((rd_T26 t104 0).f0) == 1 && (((rd_T26 t104 0).f1) == 1)) = true then (if 1 < (t104.length : Int) then (if (((rd_T26 t104 1).f0) == ((rd_T26 t104 0).f0) && (((rd_T26 t104 1).f1) == ((rd_T26 t104 0).f1))) = true then (if 2 < (t104.length : Int) then (if (((rd_T26 t104 2).f0) == 1 && (((rd_T26 t104 2).f1) == 3)) = true then (if 3 < (t104.length : Int) then (if ((rd_T26 t104 3).f0) = 7 then (if 0 < (t107.length : Int) then (if rdOf false t107 0 = true then (if 2 < (t107.length : Int) then (if rdOf false t107 2 = true then (none) else (if 3 < (t107.length : Int) then (if rdOf false t107 3 = true then (none) else ((chase_Chain.f k y101 2).bind fun t118 => (if (t118.length : Int) = 3 then ((chase_Steps.f y101).bind fun t121 => (some (decide (t121 ≤ 8)))) else (none)))) else (none))) else (none)) else (none)) else (none)) else (none)) else (none)) else (none)) else (none)) else (none)) else (none)) else (none)) else (none)) else (none))))
theorem oculuslaw35_alive.mono : ∀ k, LeO (oculuslaw35_alive.f k ) (oculuslaw35_alive.f (k + 1) ) := by
 intro  k
 unfold oculuslaw35_alive.f
 repeat' first
   | (with_reducible exact chase_Chain.mono _ _ _)
   | (with_reducible exact LeO.refl _)
   | (with_reducible exact LeO.none _)
   | (with_reducible refine LeO.ite ?_ ?_)
   | (with_reducible refine LeO.bind ?_ (fun _ => ?_))
def oculuslaw35_alive.T4 : Bool × List (List Nat × List Nat) := (true, [([], []), ([0], [0]), ([1], [1]), ([2], [2]), ([3], [3]), ([4, 3], [3, 4]), ([5, 3], [3, 5]), ([3], [3]), ([6, 7, 3], [3, 6, 7]), ([3, 8], [3, 8]), ([9, 3], [9]), ([10], [10]), ([11, 10], [10, 11]), ([12, 10], [10, 12]), ([10], [10]), ([14, 10], [10, 14]), ([15, 10], [10, 15]), ([13, 16, 10], [10, 13, 16]), ([10, 17], [10, 17]), ([18, 10], [18]), ([19], [19]), ([20, 19], [19, 20]), ([21, 19], [19, 21]), ([19], [19]), ([22, 23, 19], [19, 22, 23]), ([19, 24], [19, 24]), ([25, 19], [25]), ([26], [26]), ([27, 26], [26, 27]), ([28, 26], [26, 28]), ([29, 26], [26, 29]), ([30, 26], [26, 30]), ([26, 31], [26, 31]), ([32, 26], [32]), ([33], [33]), ([34, 33], [33, 34]), ([35, 33], [33, 35]), ([33, 36], [33, 36]), ([37, 33], [37]), ([38], [38]), ([39, 38], [38, 39]), ([40, 38], [38, 40]), ([41, 38], [38, 41]), ([38, 42], [38, 42]), ([43, 38], [43]), ([44], [44]), ([45, 44], [44, 45]), ([46, 44], [44, 46]), ([47, 44], [44, 47]), ([44, 48], [44, 48]), ([49, 44], [49]), ([50], [50]), ([51, 50, 50], [50, 51]), ([52, 50], [50, 52]), ([53, 50], [50, 53]), ([50, 54], [50, 54]), ([55, 52], [55]), ([56], [56]), ([57, 56, 56], [56, 57]), ([58, 56], [56, 58]), ([56, 59], [56, 59]), ([60, 58, 0, 1, 2, 3, 4, 5, 6, 7, 8, 9, 10, 11, 12, 13, 14, 15, 16, 17, 18, 19, 20, 21, 22, 23, 24, 25, 26, 27, 28, 29, 30, 31, 32, 33, 34, 35, 36, 37, 38, 39, 40, 41, 42, 43, 44, 45, 46, 47, 48, 49, 50, 51, 52, 53, 54, 55, 56, 57, 58, 59, 60], [60])])
def oculuslaw35_alive.B4 : List Nat := [0, 1, 3, 7, 15, 31, 63, 15, 255, 511, 1023, 2047, 4095, 8191, 2047, 18431, 51199, 131071, 262143, 524287, 1048575, 2097151, 4194303, 1048575, 16777215, 33554431, 67108863, 134217727, 268435455, 536870911, 1073741823, 2147483647, 4294967295, 8589934591, 17179869183, 34359738367, 68719476735, 137438953471, 274877906943, 549755813887, 1099511627775, 2199023255551, 4398046511103, 8796093022207, 17592186044415, 35184372088831, 70368744177663, 140737488355327, 281474976710655, 562949953421311, 1125899906842623, 2251799813685247, 4503599627370495, 9007199254740991, 18014398509481983, 36028797018963967, 72057594037927935, 144115188075855871, 288230376151711743, 576460752303423487, 1152921504606846975, 2305843009213693951]
theorem oculuslaw35_alive.tab4 : rtab .any (opsOf Try.f6 4) = oculuslaw35_alive.T4 := by kernel_rfl
theorem oculuslaw35_alive.bits4 : waitsOk oculuslaw35_alive.T4.2 oculuslaw35_alive.B4 = true := by kernel_rfl
set_option maxHeartbeats 8000000 in
set_option maxRecDepth 100000 in
theorem oculuslaw35_alive.calls (k : Nat)  (r : Bool) (w : World) (h : oculuslaw35_alive.f k  = some r) :
  Calls Try.prog 6 #[] w fun e w' => e = .returned (.bool r) ∧ Below w.heap.size w w' := by
 have hu26 := Try.underlying26; have hu36 := Try.underlying36; have HB := Aside0.mk (Below.refl w.heap.size w)
 have H : ((some (([(⟨(⟨1, 0⟩ : S26), 1⟩ : S36), (⟨(⟨0, 1⟩ : S26), 0⟩ : S36), (⟨(⟨0, 2⟩ : S26), 0⟩ : S36), (⟨(⟨7, 0⟩ : S26), (-1)⟩ : S36)] : List (S36)) : List (S36))).bind fun y101 => ((chase_Close.f y101).bind fun t104 => ((chase_Loops.f y101).bind fun t107 => (if (t104.length : Int) = 4 then (if 0 < (t104.length : Int) then (if (((rd_T26 t104 0).f0) == 1 && (((rd_T26 t104 0).f1) == 1)) = true then (if 1 < (t104.length : Int) then (if (((rd_T26 t104 1).f0) == ((rd_T26 t104 0).f0) && (((rd_T26 t104 1).f1) == ((rd_T26 t104 0).f1))) = true then (if 2 < (t104.length : Int) then (if (((rd_T26 t104 2).f0) == 1 && (((rd_T26 t104 2).f1) == 3)) = true then (if 3 < (t104.length : Int) then (if ((rd_T26 t104 3).f0) = 7 then (if 0 < (t107.length : Int) then (if rdOf false t107 0 = true then (if 2 < (t107.length : Int) then (if rdOf false t107 2 = true then (none) else (if 3 < (t107.length : Int) then (if rdOf false t107 3 = true then (none) else ((chase_Chain.f k y101 2).bind fun t118 => (if (t118.length : Int) = 3 then ((chase_Steps.f y101).bind fun t121 => (some (decide (t121 ≤ 8)))) else (none)))) else (none))) else (none)) else (none)) else (none)) else (none)) else (none)) else (none)) else (none)) else (none)) else (none)) else (none)) else (none)) else (none))))) = some r := h
 clear h; obtain ⟨y101, hy101⟩ : ∃ y_ : List (S36), y_ = (([(⟨(⟨1, 0⟩ : S26), 1⟩ : S36), (⟨(⟨0, 1⟩ : S26), 0⟩ : S36), (⟨(⟨0, 2⟩ : S26), 0⟩ : S36), (⟨(⟨7, 0⟩ : S26), (-1)⟩ : S36)] : List (S36))) := ⟨_, rfl⟩
 replace H : ((chase_Close.f y101).bind fun t104 => ((chase_Loops.f y101).bind fun t107 => (if (t104.length : Int) = 4 then (if 0 < (t104.length : Int) then (if (((rd_T26 t104 0).f0) == 1 && (((rd_T26 t104 0).f1) == 1)) = true then (if 1 < (t104.length : Int) then (if (((rd_T26 t104 1).f0) == ((rd_T26 t104 0).f0) && (((rd_T26 t104 1).f1) == ((rd_T26 t104 0).f1))) = true then (if 2 < (t104.length : Int) then (if (((rd_T26 t104 2).f0) == 1 && (((rd_T26 t104 2).f1) == 3)) = true then (if 3 < (t104.length : Int) then (if ((rd_T26 t104 3).f0) = 7 then (if 0 < (t107.length : Int) then (if rdOf false t107 0 = true then (if 2 < (t107.length : Int) then (if rdOf false t107 2 = true then (none) else (if 3 < (t107.length : Int) then (if rdOf false t107 3 = true then (none) else ((chase_Chain.f k y101 2).bind fun t118 => (if (t118.length : Int) = 3 then ((chase_Steps.f y101).bind fun t121 => (some (decide (t121 ≤ 8)))) else (none)))) else (none))) else (none)) else (none)) else (none)) else (none)) else (none)) else (none)) else (none)) else (none)) else (none)) else (none)) else (none)) else (none)))) = some r := by first | (rw [hy101]; with_reducible exact H) | (have H2_ := (Option.bind_some _ _).symm.trans H; rw [hy101]; with_reducible exact H2_) | (have H2_ := (Option.bind_some _ _).symm.trans H; with_reducible exact H2_) | with_reducible exact H | (rw [hy101]; exact H) | exact H
 have Ny101 := Aside0.mk hy101; clear hy101; replace H := Option.bind_eq_some_iff.mp H; obtain ⟨t104, A10, H⟩ := H
 replace H : ((chase_Loops.f y101).bind fun t107 => (if (t104.length : Int) = 4 then (if 0 < (t104.length : Int) then (if (((rd_T26 t104 0).f0) == 1 && (((rd_T26 t104 0).f1) == 1)) = true then (if 1 < (t104.length : Int) then (if (((rd_T26 t104 1).f0) == ((rd_T26 t104 0).f0) && (((rd_T26 t104 1).f1) == ((rd_T26 t104 0).f1))) = true then (if 2 < (t104.length : Int) then (if (((rd_T26 t104 2).f0) == 1 && (((rd_T26 t104 2).f1) == 3)) = true then (if 3 < (t104.length : Int) then (if ((rd_T26 t104 3).f0) = 7 then (if 0 < (t107.length : Int) then (if rdOf false t107 0 = true then (if 2 < (t107.length : Int) then (if rdOf false t107 2 = true then (none) else (if 3 < (t107.length : Int) then (if rdOf false t107 3 = true then (none) else ((chase_Chain.f k y101 2).bind fun t118 => (if (t118.length : Int) = 3 then ((chase_Steps.f y101).bind fun t121 => (some (decide (t121 ≤ 8)))) else (none)))) else (none))) else (none)) else (none)) else (none)) else (none)) else (none)) else (none)) else (none)) else (none)) else (none)) else (none)) else (none)) else (none))) = some r := H
 have A1 := Aside0.mk A10; clear A10; replace H := Option.bind_eq_some_iff.mp H; obtain ⟨t107, A20, H⟩ := H
 replace H : (if (t104.length : Int) = 4 then (if 0 < (t104.length : Int) then (if (((rd_T26 t104 0).f0) == 1 && (((rd_T26 t104 0).f1) == 1)) = true then (if 1 < (t104.length : Int) then (if (((rd_T26 t104 1).f0) == ((rd_T26 t104 0).f0) && (((rd_T26 t104 1).f1) == ((rd_T26 t104 0).f1))) = true then (if 2 < (t104.length : Int) then (if (((rd_T26 t104 2).f0) == 1 && (((rd_T26 t104 2).f1) == 3)) = true then (if 3 < (t104.length : Int) then (if ((rd_T26 t104 3).f0) = 7 then (if 0 < (t107.length : Int) then (if rdOf false t107 0 = true then (if 2 < (t107.length : Int) then (if rdOf false t107 2 = true then (none) else (if 3 < (t107.length : Int) then (if rdOf false t107 3 = true then (none) else ((chase_Chain.f k y101 2).bind fun t118 => (if (t118.length : Int) = 3 then ((chase_Steps.f y101).bind fun t121 => (some (decide (t121 ≤ 8)))) else (none)))) else (none))) else (none)) else (none)) else (none)) else (none)) else (none)) else (none)) else (none)) else (none)) else (none)) else (none)) else (none)) else (none)) = some r := H
 have A2 := Aside0.mk A20; clear A20
 by_cases c3 : (t104.length : Int) = 4
 ·rw [if_pos c3] at H; have c3b0 : ((t104.length : Int) == 4) = true := beq_iff_eq.mpr c3; have c3b1 : ((t104.length : Int) != 4) = false := bne_eq_false_iff_eq.mpr c3; clear c3
  by_cases c4 : 0 < (t104.length : Int)
  ·rw [if_pos c4] at H; have c4b0 : decide (0 < (t104.length : Int)) = true := decide_eq_true c4; have c4b1 : decide (0 < t104.length) = true := decide_eq_true (by omega); clear c4
   by_cases c5 : (((rd_T26 t104 0).f0) == 1 && (((rd_T26 t104 0).f1) == 1)) = true
   ·rw [if_pos c5] at H
    have c5b0 : (((rd_T26 t104 0).f0) == 1 && (((rd_T26 t104 0).f1) == 1)) = true := c5
    (try (have c5b1 : decide (((rd_T26 t104 0).f0) = 1 && (((rd_T26 t104 0).f1) == 1)) = true := by simpa using c5)); (try (have c5b2 : (((rd_T26 t104 0).f0) == 1 && (((rd_T26 t104 0).f1) == 1)) = true := by simpa using c5)); clear c5
    by_cases c6 : 1 < (t104.length : Int)
    ·rw [if_pos c6] at H; have c6b0 : decide (1 < (t104.length : Int)) = true := decide_eq_true c6; have c6b1 : decide (1 < t104.length) = true := decide_eq_true (by omega); clear c6
     by_cases c7 : (((rd_T26 t104 1).f0) == ((rd_T26 t104 0).f0) && (((rd_T26 t104 1).f1) == ((rd_T26 t104 0).f1))) = true
     ·rw [if_pos c7] at H
      have c7b0 : (((rd_T26 t104 1).f0) == ((rd_T26 t104 0).f0) && (((rd_T26 t104 1).f1) == ((rd_T26 t104 0).f1))) = true := c7
      (try (have c7b1 : decide (((rd_T26 t104 1).f0) = ((rd_T26 t104 0).f0) && (((rd_T26 t104 1).f1) == ((rd_T26 t104 0).f1))) = true := by simpa using c7)); (try (have c7b2 : (((rd_T26 t104 1).f0) == ((rd_T26 t104 0).f0) && (((rd_T26 t104 1).f1) == ((rd_T26 t104 0).f1))) = true := by simpa using c7)); clear c7
      by_cases c8 : 2 < (t104.length : Int)
      ·rw [if_pos c8] at H; have c8b0 : decide (2 < (t104.length : Int)) = true := decide_eq_true c8; have c8b1 : decide (2 < t104.length) = true := decide_eq_true (by omega); clear c8
       by_cases c9 : (((rd_T26 t104 2).f0) == 1 && (((rd_T26 t104 2).f1) == 3)) = true
       ·rw [if_pos c9] at H
        have c9b0 : (((rd_T26 t104 2).f0) == 1 && (((rd_T26 t104 2).f1) == 3)) = true := c9
        (try (have c9b1 : decide (((rd_T26 t104 2).f0) = 1 && (((rd_T26 t104 2).f1) == 3)) = true := by simpa using c9)); (try (have c9b2 : (((rd_T26 t104 2).f0) == 1 && (((rd_T26 t104 2).f1) == 3)) = true := by simpa using c9)); clear c9
        by_cases c10 : 3 < (t104.length : Int)
        ·rw [if_pos c10] at H; have c10b0 : decide (3 < (t104.length : Int)) = true := decide_eq_true c10; have c10b1 : decide (3 < t104.length) = true := decide_eq_true (by omega); clear c10
         by_cases c11 : ((rd_T26 t104 3).f0) = 7
         ·rw [if_pos c11] at H; have c11b0 : (((rd_T26 t104 3).f0) == 7) = true := beq_iff_eq.mpr c11; have c11b1 : (((rd_T26 t104 3).f0) != 7) = false := bne_eq_false_iff_eq.mpr c11; clear c11
          by_cases c12 : 0 < (t107.length : Int)
          ·rw [if_pos c12] at H; have c12b0 : decide (0 < (t107.length : Int)) = true := decide_eq_true c12; have c12b1 : decide (0 < t107.length) = true := decide_eq_true (by omega); clear c12; obtain ⟨bq13, hbq13⟩ : ∃ b_ : Bool, b_ = (rdOf false t107 0) := ⟨_, rfl⟩
           replace H : (if bq13 = true then (if 2 < (t107.length : Int) then (if rdOf false t107 2 = true then (none) else (if 3 < (t107.length : Int) then (if rdOf false t107 3 = true then (none) else ((chase_Chain.f k y101 2).bind fun t118 => (if (t118.length : Int) = 3 then ((chase_Steps.f y101).bind fun t121 => (some (decide (t121 ≤ 8)))) else (none)))) else (none))) else (none)) else (none)) = some r := by rw [← hbq13] at H; exact H
           have Nbq13 := Aside0.mk hbq13; clear hbq13
           by_cases c14 : bq13 = true
           ·subst c14
            have H1 : (if 2 < (t107.length : Int) then (if rdOf false t107 2 = true then (none) else (if 3 < (t107.length : Int) then (if rdOf false t107 3 = true then (none) else ((chase_Chain.f k y101 2).bind fun t118 => (if (t118.length : Int) = 3 then ((chase_Steps.f y101).bind fun t121 => (some (decide (t121 ≤ 8)))) else (none)))) else (none))) else (none)) = some r := by rw [if_pos rfl] at H; exact H
            clear H; have H := H1; clear H1
            by_cases c15 : 2 < (t107.length : Int)
            ·rw [if_pos c15] at H; have c15b0 : decide (2 < (t107.length : Int)) = true := decide_eq_true c15; have c15b1 : decide (2 < t107.length) = true := decide_eq_true (by omega); clear c15; obtain ⟨bq16, hbq16⟩ : ∃ b_ : Bool, b_ = (rdOf false t107 2) := ⟨_, rfl⟩
             replace H : (if bq16 = true then (none) else (if 3 < (t107.length : Int) then (if rdOf false t107 3 = true then (none) else ((chase_Chain.f k y101 2).bind fun t118 => (if (t118.length : Int) = 3 then ((chase_Steps.f y101).bind fun t121 => (some (decide (t121 ≤ 8)))) else (none)))) else (none))) = some r := by rw [← hbq16] at H; exact H
             have Nbq16 := Aside0.mk hbq16; clear hbq16
             by_cases c17 : bq16 = true
             ·subst c17
              have H1 : (none) = some r := by rw [if_pos rfl] at H; exact H
              clear H; have H := H1; clear H1
              exact absurd H (by simp)
             ·replace c17 := Bool.eq_false_iff.mpr c17; subst c17
              have H1 : (if 3 < (t107.length : Int) then (if rdOf false t107 3 = true then (none) else ((chase_Chain.f k y101 2).bind fun t118 => (if (t118.length : Int) = 3 then ((chase_Steps.f y101).bind fun t121 => (some (decide (t121 ≤ 8)))) else (none)))) else (none)) = some r := by rw [if_neg (show ¬ (false = true) by decide)] at H; exact H
              clear H; have H := H1; clear H1
              by_cases c18 : 3 < (t107.length : Int)
              ·rw [if_pos c18] at H; have c18b0 : decide (3 < (t107.length : Int)) = true := decide_eq_true c18; have c18b1 : decide (3 < t107.length) = true := decide_eq_true (by omega); clear c18; obtain ⟨bq19, hbq19⟩ : ∃ b_ : Bool, b_ = (rdOf false t107 3) := ⟨_, rfl⟩
               replace H : (if bq19 = true then (none) else ((chase_Chain.f k y101 2).bind fun t118 => (if (t118.length : Int) = 3 then ((chase_Steps.f y101).bind fun t121 => (some (decide (t121 ≤ 8)))) else (none)))) = some r := by rw [← hbq19] at H; exact H
               have Nbq19 := Aside0.mk hbq19; clear hbq19
               by_cases c20 : bq19 = true
               ·subst c20
                have H1 : (none) = some r := by rw [if_pos rfl] at H; exact H
                clear H; have H := H1; clear H1
                exact absurd H (by simp)
               ·replace c20 := Bool.eq_false_iff.mpr c20; subst c20
                have H1 : ((chase_Chain.f k y101 2).bind fun t118 => (if (t118.length : Int) = 3 then ((chase_Steps.f y101).bind fun t121 => (some (decide (t121 ≤ 8)))) else (none))) = some r := by rw [if_neg (show ¬ (false = true) by decide)] at H; exact H
                clear H; have H := H1; clear H1; replace H := Option.bind_eq_some_iff.mp H; obtain ⟨t118, A210, H⟩ := H
                replace H : (if (t118.length : Int) = 3 then ((chase_Steps.f y101).bind fun t121 => (some (decide (t121 ≤ 8)))) else (none)) = some r := H
                have A21 := Aside0.mk A210; clear A210
                by_cases c22 : (t118.length : Int) = 3
                ·rw [if_pos c22] at H; have c22b0 : ((t118.length : Int) == 3) = true := beq_iff_eq.mpr c22; have c22b1 : ((t118.length : Int) != 3) = false := bne_eq_false_iff_eq.mpr c22; clear c22; replace H := Option.bind_eq_some_iff.mp H; obtain ⟨t121, A230, H⟩ := H
                 replace H : (some (decide (t121 ≤ 8))) = some r := H
                 have A23 := Aside0.mk A230; clear A230; obtain rfl := Option.some.inj H
                 go_enter Try.func6, Try.ntmps6
                 try go_wp2_with (first | ((with_reducible refine gate_dst (N:=12) rfl ?_); (try (refine gate_guard (by rfl) ?_; dsimp only)); refine Kd.R_lit k36 _ 36 ?hg (N:=12) ?hd (xs := ([(⟨(⟨1, 0⟩ : S26), 1⟩ : S36), (⟨(⟨0, 1⟩ : S26), 0⟩ : S36), (⟨(⟨0, 2⟩ : S26), 0⟩ : S36), (⟨(⟨7, 0⟩ : S26), (-1)⟩ : S36)] : List (S36))) (inner := [.int .i64 1, .int .u64 0, .int .i64 1, .int .i64 0, .int .u64 1, .int .i64 0, .int .i64 0, .int .u64 2, .int .i64 0, .int .i64 7, .int .u64 0, .int .i64 (-1)]) (ok := fun _ => True) (okp := fun _ => True) ?hr ?hp (fun _ hk => hk) trivial (Below.refl _ _) (Nat.le_refl _) (by simp) ?_; (case hd => rfl); (case hg => rfl); (case hr => first | (go_simp; done) | (go_simp; rfl)); (case hp => exact (Reps.c3 (show Kd.M k36 _ _ _ (⟨(⟨1, 0⟩ : S26), 1⟩ : S36) [.int .i64 1, .int .u64 0, .int .i64 1] from (k36_mkM _ _ _ (⟨(⟨1, 0⟩ : S26), 1⟩ : S36) )) (Reps.c3 (show Kd.M k36 _ _ _ (⟨(⟨0, 1⟩ : S26), 0⟩ : S36) [.int .i64 0, .int .u64 1, .int .i64 0] from (k36_mkM _ _ _ (⟨(⟨0, 1⟩ : S26), 0⟩ : S36) )) (Reps.c3 (show Kd.M k36 _ _ _ (⟨(⟨0, 2⟩ : S26), 0⟩ : S36) [.int .i64 0, .int .u64 2, .int .i64 0] from (k36_mkM _ _ _ (⟨(⟨0, 2⟩ : S26), 0⟩ : S36) )) (Reps.c3 (show Kd.M k36 _ _ _ (⟨(⟨7, 0⟩ : S26), (-1)⟩ : S36) [.int .i64 7, .int .u64 0, .int .i64 (-1)] from (k36_mkM _ _ _ (⟨(⟨7, 0⟩ : S26), (-1)⟩ : S36) )) (Reps.none _ _)))))); intro v102 w24 ho25 hb hg_ hnew_; clear hg_ hnew_; (first | rw [← Ny101.out] at ho25 | (simp only [Int.reduceToNat] at ho25; rw [← Ny101.out] at ho25)); have HO103 := Aside0.mk (Kd.R_lower ho25 (below_size (pbx HB))); replace HB := bs_ HB hb; clear hb ho25; obtain ⟨Ao26, co26, eo26⟩ := Kd.R_slice HO103.out; subst eo26) | ((with_reducible refine gate_callee (f:=8) rfl ?_); refine gL_ (some 14) rfl rfl Try.func8 rfl #[.slice Ao26 y101.length co26] rfl ?_; (with_reducible refine (chase_Close.calls _ _ y101 t104 _ ?side1 ?side2 A1.out).mono ?_); (case side1 => repeat (first | exact (Kd.R_reads' HO103.out).2.2 | (with_reducible refine Kd.C_alloc ?_ _) | (with_reducible refine Kd.C_drewN ?_ _) | (with_reducible refine Kd.C_drew ?_))); (case side2 => exact (Kd.R_reads' HO103.out).2.1); rintro e w27 ⟨v105, rfl, ho0, hb⟩; refine ⟨_, rfl, ?_⟩; have HO106 := Aside0.mk (Kd.R_lower ho0 (below_size (pbx HB))); replace HO103 := Aside0.mk (Kd.R_below (by (with_reducible repeat (first | apply Kd.R_alloc | apply Kd.R_drewN | apply Kd.R_drew)); exact HO103.out) hb); replace HB := bs_ HB hb; (try clear hb); (try clear hb2); (try clear hk); (try clear hi); (try clear ho0)) | ((with_reducible refine gate_callee (f:=9) rfl ?_); refine gL_ (some 16) rfl rfl Try.func9 rfl #[.slice Ao26 y101.length co26] rfl ?_; (with_reducible refine (chase_Loops.calls _ _ y101 t107 _ ?side1 ?side2 A2.out).mono ?_); (case side1 => repeat (first | exact (Kd.R_reads' HO103.out).2.2 | (with_reducible refine Kd.C_alloc ?_ _) | (with_reducible refine Kd.C_drewN ?_ _) | (with_reducible refine Kd.C_drew ?_))); (case side2 => exact (Kd.R_reads' HO103.out).2.1); rintro e w28 ⟨v108, rfl, ho0, hb⟩; refine ⟨_, rfl, ?_⟩; have HO109 := Aside0.mk (Kd.R_lower ho0 (below_size (pbx HB))); replace HO103 := Aside0.mk (Kd.R_below (by (with_reducible repeat (first | apply Kd.R_alloc | apply Kd.R_drewN | apply Kd.R_drew)); exact HO103.out) hb); replace HO106 := Aside0.mk (Kd.R_below (by (with_reducible repeat (first | apply Kd.R_alloc | apply Kd.R_drewN | apply Kd.R_drew)); exact HO106.out) hb); replace HB := bs_ HB hb; (try clear hb); (try clear hb2); (try clear hk); (try clear hi); (try clear ho0)))
                 (try (rw [drewN_self w28]; generalize hq_ : World.drewN w28 _ = w28; have n0_ : Aside0 (Kd.R k36 36 w28 w.heap.size (fun _ => True) (.slice Ao26 y101.length co26) y101) := ⟨by rw [← hq_]; exact (by (with_reducible repeat (first | apply Kd.R_alloc | apply Kd.R_drewN | apply Kd.R_drew)); exact HO103.out)⟩; have n1_ : Aside0 (Kd.R k26 26 w28 w.heap.size (fun _ => True) v105 t104) := ⟨by rw [← hq_]; exact (by (with_reducible repeat (first | apply Kd.R_alloc | apply Kd.R_drewN | apply Kd.R_drew)); exact HO106.out)⟩; have n2_ : Aside0 (Kd.R Kd.bool 4 w28 w.heap.size (fun _ => True) v108 t107) := ⟨by rw [← hq_]; exact (by (with_reducible repeat (first | apply Kd.R_alloc | apply Kd.R_drewN | apply Kd.R_drew)); exact HO109.out)⟩; have n3_ : Aside0 (Below w.heap.size w w28) := ⟨by rw [← hq_]; exact (pbx HB)⟩; clear HO103 HO106 HO109 HB hq_; have HO103 := n0_; have HO106 := n1_; have HO109 := n2_; have HB := n3_; clear n0_ n1_ n2_ n3_))
                 replace HO103 := Aside0.mk (Kd.R_drew HO103.out); replace HO106 := Aside0.mk (Kd.R_drew HO106.out); replace HO109 := Aside0.mk (Kd.R_drew HO109.out); replace HB := Aside0.mk (below_drew1 HB.out); obtain ⟨Ao30, co30, eo30⟩ := Kd.R_slice HO106.out; (first | subst eo30 | (injection eo30 with f1_ f2_ f3_; have f4_ := f1_.symm; have f5_ := f3_.symm; clear f1_ f2_ f3_; subst f4_; subst f5_))
                 have p110 : 0 ≤ (0 : Int) := (by omega)
                 have q110 : 0 < (t104.length : Int) := of_decide_eq_true (by first | (with_reducible assumption) | assumption)
                 obtain ⟨ad110, e110, hx110_0, hx110_1⟩ := at_T26 (Kd.R_reads' HO106.out).2.2 0 p110 q110
                 cases e110
                 have qi110 : (0 < t104.length) = True := eq_true (by omega); (try rw [show ((0 : Int)).toNat = 0 from rfl] at hx110_0); (try rw [show 0 * 2 = 0 from rfl] at hx110_0); (try rw [Addr.add_zero'] at hx110_0); (try rw [show ((0 : Int)).toNat = 0 from rfl] at hx110_1); (try rw [show 0 * 2 = 0 from rfl] at hx110_1); (try rw [Addr.add_zero'] at hx110_1)
                 replace p110 := eq_true p110; replace q110 := eq_true q110
                 have p111 : 0 ≤ (1 : Int) := (by omega)
                 have q111 : 1 < (t104.length : Int) := of_decide_eq_true (by first | (with_reducible assumption) | assumption)
                 obtain ⟨ad111, e111, hx111_0, hx111_1⟩ := at_T26 (Kd.R_reads' HO106.out).2.2 1 p111 q111; obtain rfl : ad110 = ad111 := (by injection e111); (try simp only [show (1 : Int).toNat = 1 from rfl, Nat.reduceMul, Nat.reduceEqDiff, Go.Addr.add, ↓reduceIte] at hx111_0); (try simp only [show (1 : Int).toNat = 1 from rfl, Nat.reduceMul, Nat.reduceEqDiff, Go.Addr.add, ↓reduceIte] at hx111_1); have qi111 : (1 < t104.length) = True := eq_true (by omega); (try rw [show ((1 : Int)).toNat = 1 from rfl] at hx111_0); (try rw [show 1 * 2 = 2 from rfl] at hx111_0); (try rw [show ((1 : Int)).toNat = 1 from rfl] at hx111_1); (try rw [show 1 * 2 = 2 from rfl] at hx111_1)
                 replace p111 := eq_true p111; replace q111 := eq_true q111
                 have p112 : 0 ≤ (0 : Int) := (by omega)
                 have q112 : 0 < (t104.length : Int) := of_decide_eq_true (by first | (with_reducible assumption) | assumption)
                 obtain ⟨ad112, e112, hx112_0, hx112_1⟩ := at_T26 (Kd.R_reads' HO106.out).2.2 0 p112 q112; obtain rfl : ad110 = ad112 := (by injection e112); have qi112 : (0 < t104.length) = True := eq_true (by omega); (try rw [show ((0 : Int)).toNat = 0 from rfl] at hx112_0); (try rw [show 0 * 2 = 0 from rfl] at hx112_0); (try rw [Addr.add_zero'] at hx112_0); (try rw [show ((0 : Int)).toNat = 0 from rfl] at hx112_1); (try rw [show 0 * 2 = 0 from rfl] at hx112_1); (try rw [Addr.add_zero'] at hx112_1)
                 replace p112 := eq_true p112; replace q112 := eq_true q112
                 have p113 : 0 ≤ (2 : Int) := (by omega)
                 have q113 : 2 < (t104.length : Int) := of_decide_eq_true (by first | (with_reducible assumption) | assumption)
                 obtain ⟨ad113, e113, hx113_0, hx113_1⟩ := at_T26 (Kd.R_reads' HO106.out).2.2 2 p113 q113; obtain rfl : ad110 = ad113 := (by injection e113); (try simp only [show (2 : Int).toNat = 2 from rfl, Nat.reduceMul, Nat.reduceEqDiff, Go.Addr.add, ↓reduceIte] at hx113_0); (try simp only [show (2 : Int).toNat = 2 from rfl, Nat.reduceMul, Nat.reduceEqDiff, Go.Addr.add, ↓reduceIte] at hx113_1); have qi113 : (2 < t104.length) = True := eq_true (by omega); (try rw [show ((2 : Int)).toNat = 2 from rfl] at hx113_0); (try rw [show 2 * 2 = 4 from rfl] at hx113_0); (try rw [show ((2 : Int)).toNat = 2 from rfl] at hx113_1); (try rw [show 2 * 2 = 4 from rfl] at hx113_1)
                 replace p113 := eq_true p113; replace q113 := eq_true q113
                 have p114 : 0 ≤ (3 : Int) := (by omega)
                 have q114 : 3 < (t104.length : Int) := of_decide_eq_true (by first | (with_reducible assumption) | assumption)
                 obtain ⟨ad114, e114, hx114_0, hx114_1⟩ := at_T26 (Kd.R_reads' HO106.out).2.2 3 p114 q114; obtain rfl : ad110 = ad114 := (by injection e114); (try simp only [show (3 : Int).toNat = 3 from rfl, Nat.reduceMul, Nat.reduceEqDiff, Go.Addr.add, ↓reduceIte] at hx114_0); (try simp only [show (3 : Int).toNat = 3 from rfl, Nat.reduceMul, Nat.reduceEqDiff, Go.Addr.add, ↓reduceIte] at hx114_1); have qi114 : (3 < t104.length) = True := eq_true (by omega); (try rw [show ((3 : Int)).toNat = 3 from rfl] at hx114_0); (try rw [show 3 * 2 = 6 from rfl] at hx114_0); (try rw [show ((3 : Int)).toNat = 3 from rfl] at hx114_1); (try rw [show 3 * 2 = 6 from rfl] at hx114_1)
                 replace p114 := eq_true p114; replace q114 := eq_true q114; obtain ⟨Ao31, co31, eo31⟩ := Kd.R_slice HO109.out; (first | subst eo31 | (injection eo31 with f1_ f2_ f3_; have f4_ := f1_.symm; have f5_ := f3_.symm; clear f1_ f2_ f3_; subst f4_; subst f5_))
                 have p115 : 0 ≤ (0 : Int) := (by omega)
                 have q115 : 0 < (t107.length : Int) := of_decide_eq_true (by first | (with_reducible assumption) | assumption)
                 obtain ⟨ad115, e115, hx115_0⟩ := Kd.at_bool (Kd.R_reads' HO109.out).2.2 0 p115 q115; (try rw [← Nbq13.out] at hx115_0); (try rw [← Nbq16.out] at hx115_0); (try rw [← Nbq19.out] at hx115_0)
                 cases e115
                 have qi115 : (0 < t107.length) = True := eq_true (by omega); (try rw [show ((0 : Int)).toNat = 0 from rfl] at hx115_0); (try rw [Addr.add_zero'] at hx115_0)
                 replace p115 := eq_true p115; replace q115 := eq_true q115
                 have p116 : 0 ≤ (2 : Int) := (by omega)
                 have q116 : 2 < (t107.length : Int) := of_decide_eq_true (by first | (with_reducible assumption) | assumption)
                 obtain ⟨ad116, e116, hx116_0⟩ := Kd.at_bool (Kd.R_reads' HO109.out).2.2 2 p116 q116; (try rw [← Nbq13.out] at hx116_0); (try rw [← Nbq16.out] at hx116_0); (try rw [← Nbq19.out] at hx116_0); obtain rfl : ad115 = ad116 := (by injection e116); (try simp only [show (2 : Int).toNat = 2 from rfl, Nat.reduceMul, Nat.reduceEqDiff, Go.Addr.add, ↓reduceIte] at hx116_0); have qi116 : (2 < t107.length) = True := eq_true (by omega); (try rw [show ((2 : Int)).toNat = 2 from rfl] at hx116_0)
                 replace p116 := eq_true p116; replace q116 := eq_true q116
                 have p117 : 0 ≤ (3 : Int) := (by omega)
                 have q117 : 3 < (t107.length : Int) := of_decide_eq_true (by first | (with_reducible assumption) | assumption)
                 obtain ⟨ad117, e117, hx117_0⟩ := Kd.at_bool (Kd.R_reads' HO109.out).2.2 3 p117 q117; (try rw [← Nbq13.out] at hx117_0); (try rw [← Nbq16.out] at hx117_0); (try rw [← Nbq19.out] at hx117_0); obtain rfl : ad115 = ad117 := (by injection e117); (try simp only [show (3 : Int).toNat = 3 from rfl, Nat.reduceMul, Nat.reduceEqDiff, Go.Addr.add, ↓reduceIte] at hx117_0); have qi117 : (3 < t107.length) = True := eq_true (by omega); (try rw [show ((3 : Int)).toNat = 3 from rfl] at hx117_0)
                 replace p117 := eq_true p117; replace q117 := eq_true q117
                 refine start_ (n:=62) (S := fun w' => w'.cell? ad110 = some (.int .i64 ((rd_T26 t104 0).f0)) ∧ w'.cell? ⟨ad110.block, ad110.off + 1, none⟩ = some (.int .u64 ((rd_T26 t104 0).f1)) ∧ w'.cell? ⟨ad110.block, ad110.off + 2, none⟩ = some (.int .i64 ((rd_T26 t104 1).f0)) ∧ w'.cell? ⟨ad110.block, ad110.off + 2 + 1, none⟩ = some (.int .u64 ((rd_T26 t104 1).f1)) ∧ w'.cell? ad110 = some (.int .i64 ((rd_T26 t104 0).f0)) ∧ w'.cell? ⟨ad110.block, ad110.off + 1, none⟩ = some (.int .u64 ((rd_T26 t104 0).f1)) ∧ w'.cell? ⟨ad110.block, ad110.off + 4, none⟩ = some (.int .i64 ((rd_T26 t104 2).f0)) ∧ w'.cell? ⟨ad110.block, ad110.off + 4 + 1, none⟩ = some (.int .u64 ((rd_T26 t104 2).f1)) ∧ w'.cell? ⟨ad110.block, ad110.off + 6, none⟩ = some (.int .i64 ((rd_T26 t104 3).f0)) ∧ w'.cell? ⟨ad110.block, ad110.off + 6 + 1, none⟩ = some (.int .u64 ((rd_T26 t104 3).f1)) ∧ w'.cell? ad115 = some (.bool true) ∧ w'.cell? ⟨ad115.block, ad115.off + 2, none⟩ = some (.bool false) ∧ w'.cell? ⟨ad115.block, ad115.off + 3, none⟩ = some (.bool false)) (ds := []) #[F,F,F,F,F,F,F,F,F,F,F,F,F,F,F,F,F,F,F,F,F,F,F,F,F,F,F,F,F,F,F,F,F,F,F,F,F,F,F,F,F,F,F,F,F,F,F,F,F,F,F,F,F,F,F,F,F,F,F,F,F,F] (by kernel_rfl) rfl rfl ⟨hx110_0, hx110_1, hx111_0, hx111_1, hx112_0, hx112_1, hx113_0, hx113_1, hx114_0, hx114_1, hx115_0, hx116_0, hx117_0⟩ (fun hHeld => ?_); refine with_tabW oculuslaw35_alive.tab4 oculuslaw35_alive.bits4 (fun HT_ HW_ => ?_)
                 generalize w28.drew = w29 at HO103 HO106 HO109 HB hx110_0 hx110_1 hx111_0 hx111_1 hx112_0 hx112_1 hx113_0 hx113_1 hx114_0 hx114_1 hx115_0 hx116_0 hx117_0 hHeld ⊢; refine pure_ (i:=0) (N:=some 17) (v:=?_) (a':=?_) ⟨m_ 62 1⟩ rfl rfl (any_of HT_.out (by kernel_rfl)) (fun _ _ _ h=>h) (Or.inl ⟨rfl, ?_⟩) ?_ ?_; rotate_left
                 ·intro w'; go_simp; with_reducible rfl
                 rotate_left
                 ·simp only [q_, i64_w, i32_w]; rfl
                 refine pure_ (i:=1) (N:=some 18) (v:=?_) (a':=?_) ⟨m_ 62 3⟩ rfl rfl (any_of HT_.out (by kernel_rfl)) (fun _ _ _ h=>h) (Or.inl ⟨rfl, ?_⟩) ?_ ?_; rotate_left
                 ·intro w'; go_simp; with_reducible rfl
                 rotate_left
                 ·simp only [q_, i64_w, i32_w]; rfl
                 refine pure_ (i:=2) (N:=some 19) (v:=?_) (a':=?_) ⟨m_ 62 7⟩ rfl rfl (any_of HT_.out (by kernel_rfl)) (fun _ _ _ h=>h) (Or.inl ⟨rfl, ?_⟩) ?_ ?_; rotate_left
                 ·intro w'; go_simp; with_reducible rfl
                 rotate_left
                 ·simp only [q_, i64_w, i32_w]; rfl
                 refine pure_ (i:=3) (N:=some 20) (v:=?_) (a':=?_) ⟨m_ 62 15⟩ rfl rfl (any_of HT_.out (by kernel_rfl)) (fun _ _ _ h=>h) (Or.inl ⟨rfl, ?_⟩) ?_ ?_; rotate_left
                 ·intro w'; go_simp; with_reducible rfl
                 rotate_left
                 ·simp only [q_, i64_w, i32_w]; rfl
                 refine pure_ (i:=4) (N:=some 21) (v:=?_) (a':=?_) ⟨m_ 62 31⟩ rfl rfl (any_of HT_.out (by kernel_rfl)) (fun _ _ _ h=>h) (Or.inl ⟨rfl, ?_⟩) ?_ ?_; rotate_left
                 ·intro w'; go_simp; with_reducible rfl
                 rotate_left
                 ·simp only [q_, i64_w, i32_w]; rfl
                 refine pure_ (i:=5) (N:=some 22) (v:=?_) (a':=?_) ⟨m_ 62 63⟩ rfl rfl (any_of HT_.out (by kernel_rfl)) (fun _ _ _ h=>h) (Or.inl ⟨rfl, ?_⟩) ?_ ?_; rotate_left
                 ·intro w'; go_simp; with_reducible rfl
                 rotate_left
                 ·simp only [q_, i64_w, i32_w]; rfl
                 refine pure_ (i:=7) (N:=some 24) (v:=?_) (a':=?_) ⟨m_ 62 191⟩ rfl rfl (any_of HT_.out (by kernel_rfl)) (fun _ _ _ h=>h) (Or.inl ⟨rfl, ?_⟩) ?_ ?_; rotate_left
                 ·intro w'; go_simp; with_reducible rfl
                 rotate_left
                 ·simp only [q_, i64_w, i32_w]; rfl
                 refine take_ (i:=6) (N:=some 23) (v:=?_) (a':=?_) ⟨m_ 62 255⟩ rfl rfl (take_ofW HT_.out HW_.out (by kernel_rfl)) (fun _ _ _ h=>h) (Or.inl ⟨rfl, ?_⟩) hHeld ?_ ?_; rotate_left
                 ·rintro w' ⟨s0, s1, s2, s3, s4, s5, s6, s7, s8, s9, s10, s11, s12⟩; go_simp; with_reducible rfl
                 rotate_left
                 ·simp only [q_, i64_w, i32_w]; rfl
                 refine pure_ (i:=8) (N:=some 25) (v:=?_) (a':=?_) ⟨m_ 62 511⟩ rfl rfl (any_of HT_.out (by kernel_rfl)) (fun _ _ _ h=>h) (Or.inl ⟨rfl, ?_⟩) ?_ ?_; rotate_left
                 ·intro w'; go_simp; with_reducible rfl
                 rotate_left
                 ·simp only [q_, i64_w, i32_w]; rfl
                 refine pure_ (i:=9) (N:=some 26) (v:=?_) (a':=?_) ⟨m_ 62 1023⟩ rfl rfl (any_of HT_.out (by kernel_rfl)) (fun _ _ _ h=>h) (Or.inl ⟨rfl, ?_⟩) ?_ ?_; rotate_left
                 ·intro w'; go_simp; with_reducible rfl
                 rotate_left
                 ·simp only [q_, i64_w, i32_w]; rfl
                 refine pure_ (i:=10) (N:=some 27) (v:=?_) (a':=?_) ⟨m_ 62 2047⟩ rfl rfl (any_of HT_.out (by kernel_rfl)) (fun _ _ _ h=>h) (Or.inl ⟨rfl, ?_⟩) ?_ ?_; rotate_left
                 ·intro w'; go_simp; with_reducible rfl
                 rotate_left
                 ·simp only [q_, i64_w, i32_w]; rfl
                 refine pure_ (i:=11) (N:=some 28) (v:=?_) (a':=?_) ⟨m_ 62 4095⟩ rfl rfl (any_of HT_.out (by kernel_rfl)) (fun _ _ _ h=>h) (Or.inl ⟨rfl, ?_⟩) ?_ ?_; rotate_left
                 ·intro w'; go_simp; with_reducible rfl
                 rotate_left
                 ·simp only [q_, i64_w, i32_w]; rfl
                 refine pure_ (i:=12) (N:=some 29) (v:=?_) (a':=?_) ⟨m_ 62 8191⟩ rfl rfl (any_of HT_.out (by kernel_rfl)) (fun _ _ _ h=>h) (Or.inl ⟨rfl, ?_⟩) ?_ ?_; rotate_left
                 ·intro w'; go_simp; with_reducible rfl
                 rotate_left
                 ·simp only [q_, i64_w, i32_w]; rfl
                 refine pure_ (i:=14) (N:=some 31) (v:=?_) (a':=?_) ⟨m_ 62 24575⟩ rfl rfl (any_of HT_.out (by kernel_rfl)) (fun _ _ _ h=>h) (Or.inl ⟨rfl, ?_⟩) ?_ ?_; rotate_left
                 ·intro w'; go_simp; with_reducible rfl
                 rotate_left
                 ·simp only [q_, i64_w, i32_w]; rfl
                 refine pure_ (i:=15) (N:=some 32) (v:=?_) (a':=?_) ⟨m_ 62 57343⟩ rfl rfl (any_of HT_.out (by kernel_rfl)) (fun _ _ _ h=>h) (Or.inl ⟨rfl, ?_⟩) ?_ ?_; rotate_left
                 ·intro w'; go_simp; with_reducible rfl
                 rotate_left
                 ·simp only [q_, i64_w, i32_w]; rfl
                 refine take_ (i:=13) (N:=some 30) (v:=?_) (a':=?_) ⟨m_ 62 65535⟩ rfl rfl (take_ofW HT_.out HW_.out (by kernel_rfl)) (fun _ _ _ h=>h) (Or.inl ⟨rfl, ?_⟩) hHeld ?_ ?_; rotate_left
                 ·rintro w' ⟨s0, s1, s2, s3, s4, s5, s6, s7, s8, s9, s10, s11, s12⟩; go_simp; with_reducible rfl
                 rotate_left
                 ·simp only [q_, i64_w, i32_w]; rfl
                 refine take_ (i:=16) (N:=some 33) (v:=?_) (a':=?_) ⟨m_ 62 131071⟩ rfl rfl (take_ofW HT_.out HW_.out (by kernel_rfl)) (fun _ _ _ h=>h) (Or.inl ⟨rfl, ?_⟩) hHeld ?_ ?_; rotate_left
                 ·rintro w' ⟨s0, s1, s2, s3, s4, s5, s6, s7, s8, s9, s10, s11, s12⟩; go_simp; with_reducible rfl
                 rotate_left
                 ·simp only [q_, i64_w, i32_w]; rfl
                 refine pure_ (i:=17) (N:=some 34) (v:=?_) (a':=?_) ⟨m_ 62 262143⟩ rfl rfl (any_of HT_.out (by kernel_rfl)) (fun _ _ _ h=>h) (Or.inl ⟨rfl, ?_⟩) ?_ ?_; rotate_left
                 ·intro w'; go_simp; with_reducible rfl
                 rotate_left
                 ·simp only [q_, i64_w, i32_w]; rfl
                 refine pure_ (i:=18) (N:=some 35) (v:=?_) (a':=?_) ⟨m_ 62 524287⟩ rfl rfl (any_of HT_.out (by kernel_rfl)) (fun _ _ _ h=>h) (Or.inl ⟨rfl, ?_⟩) ?_ ?_; rotate_left
                 ·intro w'; go_simp; with_reducible rfl
                 rotate_left
                 ·simp only [q_, i64_w, i32_w]; rfl
                 refine pure_ (i:=19) (N:=some 36) (v:=?_) (a':=?_) ⟨m_ 62 1048575⟩ rfl rfl (any_of HT_.out (by kernel_rfl)) (fun _ _ _ h=>h) (Or.inl ⟨rfl, ?_⟩) ?_ ?_; rotate_left
                 ·intro w'; go_simp; with_reducible rfl
                 rotate_left
                 ·simp only [q_, i64_w, i32_w]; rfl
                 refine pure_ (i:=20) (N:=some 37) (v:=?_) (a':=?_) ⟨m_ 62 2097151⟩ rfl rfl (any_of HT_.out (by kernel_rfl)) (fun _ _ _ h=>h) (Or.inl ⟨rfl, ?_⟩) ?_ ?_; rotate_left
                 ·intro w'; go_simp; with_reducible rfl
                 rotate_left
                 ·simp only [q_, i64_w, i32_w]; rfl
                 refine pure_ (i:=21) (N:=some 38) (v:=?_) (a':=?_) ⟨m_ 62 4194303⟩ rfl rfl (any_of HT_.out (by kernel_rfl)) (fun _ _ _ h=>h) (Or.inl ⟨rfl, ?_⟩) ?_ ?_; rotate_left
                 ·intro w'; go_simp; with_reducible rfl
                 rotate_left
                 ·simp only [q_, i64_w, i32_w]; rfl
                 refine pure_ (i:=23) (N:=some 40) (v:=?_) (a':=?_) ⟨m_ 62 12582911⟩ rfl rfl (any_of HT_.out (by kernel_rfl)) (fun _ _ _ h=>h) (Or.inl ⟨rfl, ?_⟩) ?_ ?_; rotate_left
                 ·intro w'; go_simp; with_reducible rfl
                 rotate_left
                 ·simp only [q_, i64_w, i32_w]; rfl
                 refine take_ (i:=22) (N:=some 39) (v:=?_) (a':=?_) ⟨m_ 62 16777215⟩ rfl rfl (take_ofW HT_.out HW_.out (by kernel_rfl)) (fun _ _ _ h=>h) (Or.inl ⟨rfl, ?_⟩) hHeld ?_ ?_; rotate_left
                 ·rintro w' ⟨s0, s1, s2, s3, s4, s5, s6, s7, s8, s9, s10, s11, s12⟩; go_simp; with_reducible rfl
                 rotate_left
                 ·simp only [q_, i64_w, i32_w]; rfl
                 refine pure_ (i:=24) (N:=some 41) (v:=?_) (a':=?_) ⟨m_ 62 33554431⟩ rfl rfl (any_of HT_.out (by kernel_rfl)) (fun _ _ _ h=>h) (Or.inl ⟨rfl, ?_⟩) ?_ ?_; rotate_left
                 ·intro w'; go_simp; with_reducible rfl
                 rotate_left
                 ·simp only [q_, i64_w, i32_w]; rfl
                 refine pure_ (i:=25) (N:=some 42) (v:=?_) (a':=?_) ⟨m_ 62 67108863⟩ rfl rfl (any_of HT_.out (by kernel_rfl)) (fun _ _ _ h=>h) (Or.inl ⟨rfl, ?_⟩) ?_ ?_; rotate_left
                 ·intro w'; go_simp; with_reducible rfl
                 rotate_left
                 ·simp only [q_, i64_w, i32_w]; rfl
                 refine pure_ (i:=26) (N:=some 43) (v:=?_) (a':=?_) ⟨m_ 62 134217727⟩ rfl rfl (any_of HT_.out (by kernel_rfl)) (fun _ _ _ h=>h) (Or.inl ⟨rfl, ?_⟩) ?_ ?_; rotate_left
                 ·intro w'; go_simp; with_reducible rfl
                 rotate_left
                 ·simp only [q_, i64_w, i32_w]; rfl
                 refine pure_ (i:=27) (N:=some 44) (v:=?_) (a':=?_) ⟨m_ 62 268435455⟩ rfl rfl (any_of HT_.out (by kernel_rfl)) (fun _ _ _ h=>h) (Or.inl ⟨rfl, ?_⟩) ?_ ?_; rotate_left
                 ·intro w'; go_simp; with_reducible rfl
                 rotate_left
                 ·simp only [q_, i64_w, i32_w]; rfl
                 refine pure_ (i:=28) (N:=some 45) (v:=?_) (a':=?_) ⟨m_ 62 536870911⟩ rfl rfl (any_of HT_.out (by kernel_rfl)) (fun _ _ _ h=>h) (Or.inl ⟨rfl, ?_⟩) ?_ ?_; rotate_left
                 ·intro w'; go_simp; with_reducible rfl
                 rotate_left
                 ·simp only [q_, i64_w, i32_w]; rfl
                 refine pure_ (i:=29) (N:=some 46) (v:=?_) (a':=?_) ⟨m_ 62 1073741823⟩ rfl rfl (any_of HT_.out (by kernel_rfl)) (fun _ _ _ h=>h) (Or.inl ⟨rfl, ?_⟩) ?_ ?_; rotate_left
                 ·intro w'; go_simp; with_reducible rfl
                 rotate_left
                 ·simp only [q_, i64_w, i32_w]; rfl
                 refine take_ (i:=30) (N:=some 47) (v:=?_) (a':=?_) ⟨m_ 62 2147483647⟩ rfl rfl (take_ofW HT_.out HW_.out (by kernel_rfl)) (fun _ _ _ h=>h) (Or.inl ⟨rfl, ?_⟩) hHeld ?_ ?_; rotate_left
                 ·rintro w' ⟨s0, s1, s2, s3, s4, s5, s6, s7, s8, s9, s10, s11, s12⟩; go_simp; with_reducible rfl
                 rotate_left
                 ·simp only [q_, i64_w, i32_w]; rfl
                 refine pure_ (i:=31) (N:=some 48) (v:=?_) (a':=?_) ⟨m_ 62 4294967295⟩ rfl rfl (any_of HT_.out (by kernel_rfl)) (fun _ _ _ h=>h) (Or.inl ⟨rfl, ?_⟩) ?_ ?_; rotate_left
                 ·intro w'; go_simp; with_reducible rfl
                 rotate_left
                 ·simp only [q_, i64_w, i32_w]; rfl
                 refine pure_ (i:=32) (N:=some 49) (v:=?_) (a':=?_) ⟨m_ 62 8589934591⟩ rfl rfl (any_of HT_.out (by kernel_rfl)) (fun _ _ _ h=>h) (Or.inl ⟨rfl, ?_⟩) ?_ ?_; rotate_left
                 ·intro w'; go_simp; with_reducible rfl
                 rotate_left
                 ·simp only [q_, i64_w, i32_w]; rfl
                 refine pure_ (i:=33) (N:=some 50) (v:=?_) (a':=?_) ⟨m_ 62 17179869183⟩ rfl rfl (any_of HT_.out (by kernel_rfl)) (fun _ _ _ h=>h) (Or.inl ⟨rfl, ?_⟩) ?_ ?_; rotate_left
                 ·intro w'; go_simp; with_reducible rfl
                 rotate_left
                 ·simp only [q_, i64_w, i32_w]; rfl
                 refine pure_ (i:=34) (N:=some 51) (v:=?_) (a':=?_) ⟨m_ 62 34359738367⟩ rfl rfl (any_of HT_.out (by kernel_rfl)) (fun _ _ _ h=>h) (Or.inl ⟨rfl, ?_⟩) ?_ ?_; rotate_left
                 ·intro w'; go_simp; with_reducible rfl
                 rotate_left
                 ·simp only [q_, i64_w, i32_w]; rfl
                 refine pure_ (i:=35) (N:=some 52) (v:=?_) (a':=?_) ⟨m_ 62 68719476735⟩ rfl rfl (any_of HT_.out (by kernel_rfl)) (fun _ _ _ h=>h) (Or.inl ⟨rfl, ?_⟩) ?_ ?_; rotate_left
                 ·intro w'; go_simp; with_reducible rfl
                 rotate_left
                 ·simp only [q_, i64_w, i32_w]; rfl
                 refine take_ (i:=36) (N:=some 53) (v:=?_) (a':=?_) ⟨m_ 62 137438953471⟩ rfl rfl (take_ofW HT_.out HW_.out (by kernel_rfl)) (fun _ _ _ h=>h) (Or.inl ⟨rfl, ?_⟩) hHeld ?_ ?_; rotate_left
                 ·rintro w' ⟨s0, s1, s2, s3, s4, s5, s6, s7, s8, s9, s10, s11, s12⟩; go_simp; with_reducible rfl
                 rotate_left
                 ·simp only [q_, i64_w, i32_w]; rfl
                 refine pure_ (i:=37) (N:=some 54) (v:=?_) (a':=?_) ⟨m_ 62 274877906943⟩ rfl rfl (any_of HT_.out (by kernel_rfl)) (fun _ _ _ h=>h) (Or.inl ⟨rfl, ?_⟩) ?_ ?_; rotate_left
                 ·intro w'; go_simp; with_reducible rfl
                 rotate_left
                 ·simp only [q_, i64_w, i32_w]; rfl
                 refine pure_ (i:=38) (N:=some 55) (v:=?_) (a':=?_) ⟨m_ 62 549755813887⟩ rfl rfl (any_of HT_.out (by kernel_rfl)) (fun _ _ _ h=>h) (Or.inl ⟨rfl, ?_⟩) ?_ ?_; rotate_left
                 ·intro w'; go_simp; with_reducible rfl
                 rotate_left
                 ·simp only [q_, i64_w, i32_w]; rfl
                 refine pure_ (i:=39) (N:=some 56) (v:=?_) (a':=?_) ⟨m_ 62 1099511627775⟩ rfl rfl (any_of HT_.out (by kernel_rfl)) (fun _ _ _ h=>h) (Or.inl ⟨rfl, ?_⟩) ?_ ?_; rotate_left
                 ·intro w'; go_simp; with_reducible rfl
                 rotate_left
                 ·simp only [q_, i64_w, i32_w]; rfl
                 refine pure_ (i:=40) (N:=some 57) (v:=?_) (a':=?_) ⟨m_ 62 2199023255551⟩ rfl rfl (any_of HT_.out (by kernel_rfl)) (fun _ _ _ h=>h) (Or.inl ⟨rfl, ?_⟩) ?_ ?_; rotate_left
                 ·intro w'; go_simp; with_reducible rfl
                 rotate_left
                 ·simp only [q_, i64_w, i32_w]; rfl
                 refine take_ (i:=41) (N:=some 58) (v:=?_) (a':=?_) ⟨m_ 62 4398046511103⟩ rfl rfl (take_ofW HT_.out HW_.out (by kernel_rfl)) (fun _ _ _ h=>h) (Or.inl ⟨rfl, ?_⟩) hHeld ?_ ?_; rotate_left
                 ·rintro w' ⟨s0, s1, s2, s3, s4, s5, s6, s7, s8, s9, s10, s11, s12⟩; go_simp; with_reducible rfl
                 rotate_left
                 ·simp only [q_, i64_w, i32_w]; rfl
                 refine pure_ (i:=42) (N:=some 59) (v:=?_) (a':=?_) ⟨m_ 62 8796093022207⟩ rfl rfl (any_of HT_.out (by kernel_rfl)) (fun _ _ _ h=>h) (Or.inl ⟨rfl, ?_⟩) ?_ ?_; rotate_left
                 ·intro w'; go_simp; with_reducible rfl
                 rotate_left
                 ·simp only [q_, i64_w, i32_w]; rfl
                 refine pure_ (i:=43) (N:=some 60) (v:=?_) (a':=?_) ⟨m_ 62 17592186044415⟩ rfl rfl (any_of HT_.out (by kernel_rfl)) (fun _ _ _ h=>h) (Or.inl ⟨rfl, ?_⟩) ?_ ?_; rotate_left
                 ·intro w'; go_simp; with_reducible rfl
                 rotate_left
                 ·simp only [q_, i64_w, i32_w]; rfl
                 refine pure_ (i:=44) (N:=some 61) (v:=?_) (a':=?_) ⟨m_ 62 35184372088831⟩ rfl rfl (any_of HT_.out (by kernel_rfl)) (fun _ _ _ h=>h) (Or.inl ⟨rfl, ?_⟩) ?_ ?_; rotate_left
                 ·intro w'; go_simp; with_reducible rfl
                 rotate_left
                 ·simp only [q_, i64_w, i32_w]; rfl
                 refine pure_ (i:=45) (N:=some 62) (v:=?_) (a':=?_) ⟨m_ 62 70368744177663⟩ rfl rfl (any_of HT_.out (by kernel_rfl)) (fun _ _ _ h=>h) (Or.inl ⟨rfl, ?_⟩) ?_ ?_; rotate_left
                 ·intro w'; go_simp; with_reducible rfl
                 rotate_left
                 ·simp only [q_, i64_w, i32_w]; rfl
                 refine pure_ (i:=46) (N:=some 63) (v:=?_) (a':=?_) ⟨m_ 62 140737488355327⟩ rfl rfl (any_of HT_.out (by kernel_rfl)) (fun _ _ _ h=>h) (Or.inl ⟨rfl, ?_⟩) ?_ ?_; rotate_left
                 ·intro w'; go_simp; with_reducible rfl
                 rotate_left
                 ·simp only [q_, i64_w, i32_w]; rfl
                 refine take_ (i:=47) (N:=some 64) (v:=?_) (a':=?_) ⟨m_ 62 281474976710655⟩ rfl rfl (take_ofW HT_.out HW_.out (by kernel_rfl)) (fun _ _ _ h=>h) (Or.inl ⟨rfl, ?_⟩) hHeld ?_ ?_; rotate_left
                 ·rintro w' ⟨s0, s1, s2, s3, s4, s5, s6, s7, s8, s9, s10, s11, s12⟩; go_simp; with_reducible rfl
                 rotate_left
                 ·simp only [q_, i64_w, i32_w]; rfl
                 refine pure_ (i:=48) (N:=some 65) (v:=?_) (a':=?_) ⟨m_ 62 562949953421311⟩ rfl rfl (any_of HT_.out (by kernel_rfl)) (fun _ _ _ h=>h) (Or.inl ⟨rfl, ?_⟩) ?_ ?_; rotate_left
                 ·intro w'; go_simp; with_reducible rfl
                 rotate_left
                 ·simp only [q_, i64_w, i32_w]; rfl
                 refine pure_ (i:=49) (N:=some 66) (v:=?_) (a':=?_) ⟨m_ 62 1125899906842623⟩ rfl rfl (any_of HT_.out (by kernel_rfl)) (fun _ _ _ h=>h) (Or.inl ⟨rfl, ?_⟩) ?_ ?_; rotate_left
                 ·intro w'; go_simp; with_reducible rfl
                 rotate_left
                 ·simp only [q_, i64_w, i32_w]; rfl
                 refine pure_ (i:=50) (N:=some 67) (v:=?_) (a':=?_) ⟨m_ 62 2251799813685247⟩ rfl rfl (any_of HT_.out (by kernel_rfl)) (fun _ _ _ h=>h) (Or.inl ⟨rfl, ?_⟩) ?_ ?_; rotate_left
                 ·intro w'; go_simp; with_reducible rfl
                 rotate_left
                 ·simp only [q_, i64_w, i32_w]; rfl
                 refine pure_ (i:=51) (N:=some 68) (v:=?_) (a':=?_) ⟨m_ 62 4503599627370495⟩ rfl rfl (any_of HT_.out (by kernel_rfl)) (fun _ _ _ h=>h) (Or.inl ⟨rfl, ?_⟩) ?_ ?_; rotate_left
                 ·intro w'; go_simp; with_reducible rfl
                 rotate_left
                 ·simp only [q_, i64_w, i32_w]; rfl
                 refine one_ (i:=52) (N:=some 69) ⟨m_ 62 9007199254740991⟩ rfl rfl (one_of HT_.out (by kernel_rfl)) (by decide) (fun K hK => ?_); refine goes_ Try.func10 (by kernel_rfl) rfl #[.slice Ao26 y101.length co26, .int .i64 2] (by rfl) rfl rfl (by (try simp only [List.map_toArray, List.map_cons, List.map_nil]); first | done | rfl | (simp only [List.length_drop, List.length_take]; rfl)) ?_; with_reducible refine (chase_Chain.calls k _ _ y101 2 t118 _ ?side1 ?side2 A21.out).mono ?_; (case side1 => repeat (first | exact (Kd.R_reads' HO103.out).2.2 | (with_reducible refine Kd.C_alloc ?_ _) | (with_reducible refine Kd.C_drewN ?_ _) | (with_reducible refine Kd.C_drew ?_))); (case side2 => exact (Kd.R_reads' HO103.out).2.1); rintro e w32 ⟨v119, rfl, ho0, hb⟩
                 have HS0_ := (hb.cell (World.block_lt_of_cell? _ _ (hHeld.1))).trans (hHeld.1); have HS1_ := (hb.cell (World.block_lt_of_cell? _ _ (hHeld.2.1))).trans (hHeld.2.1); have HS2_ := (hb.cell (World.block_lt_of_cell? _ _ (hHeld.2.2.1))).trans (hHeld.2.2.1); have HS3_ := (hb.cell (World.block_lt_of_cell? _ _ (hHeld.2.2.2.1))).trans (hHeld.2.2.2.1); have HS4_ := (hb.cell (World.block_lt_of_cell? _ _ (hHeld.2.2.2.2.1))).trans (hHeld.2.2.2.2.1); have HS5_ := (hb.cell (World.block_lt_of_cell? _ _ (hHeld.2.2.2.2.2.1))).trans (hHeld.2.2.2.2.2.1); have HS6_ := (hb.cell (World.block_lt_of_cell? _ _ (hHeld.2.2.2.2.2.2.1))).trans (hHeld.2.2.2.2.2.2.1); have HS7_ := (hb.cell (World.block_lt_of_cell? _ _ (hHeld.2.2.2.2.2.2.2.1))).trans (hHeld.2.2.2.2.2.2.2.1); have HS8_ := (hb.cell (World.block_lt_of_cell? _ _ (hHeld.2.2.2.2.2.2.2.2.1))).trans (hHeld.2.2.2.2.2.2.2.2.1); have HS9_ := (hb.cell (World.block_lt_of_cell? _ _ (hHeld.2.2.2.2.2.2.2.2.2.1))).trans (hHeld.2.2.2.2.2.2.2.2.2.1)
                 have HS10_ := (hb.cell (World.block_lt_of_cell? _ _ (hHeld.2.2.2.2.2.2.2.2.2.2.1))).trans (hHeld.2.2.2.2.2.2.2.2.2.2.1); have HS11_ := (hb.cell (World.block_lt_of_cell? _ _ (hHeld.2.2.2.2.2.2.2.2.2.2.2.1))).trans (hHeld.2.2.2.2.2.2.2.2.2.2.2.1); have HS12_ := (hb.cell (World.block_lt_of_cell? _ _ (hHeld.2.2.2.2.2.2.2.2.2.2.2.2))).trans (hHeld.2.2.2.2.2.2.2.2.2.2.2.2); refine ⟨_, rfl, ?_⟩
                 have HO120 := Aside0.mk (Kd.R_lower ho0 (below_size (pbx HB))); replace HO103 := Aside0.mk (Kd.R_below (by (with_reducible repeat (first | apply Kd.R_alloc | apply Kd.R_drewN | apply Kd.R_drew)); exact HO103.out) hb); replace HO106 := Aside0.mk (Kd.R_below (by (with_reducible repeat (first | apply Kd.R_alloc | apply Kd.R_drewN | apply Kd.R_drew)); exact HO106.out) hb); replace HO109 := Aside0.mk (Kd.R_below (by (with_reducible repeat (first | apply Kd.R_alloc | apply Kd.R_drewN | apply Kd.R_drew)); exact HO109.out) hb); replace HB := bs_ HB hb
                 (try clear hb); (try clear hb2); (try clear hk); (try clear hi); (try clear ho0); obtain ⟨Ao33, co33, eo33⟩ := Kd.R_slice HO120.out; (first | subst eo33 | (injection eo33 with f1_ f2_ f3_; have f4_ := f1_.symm; have f5_ := f3_.symm; clear f1_ f2_ f3_; subst f4_; subst f5_)); refine hK.out _ _ ⟨HS0_, HS1_, HS2_, HS3_, HS4_, HS5_, HS6_, HS7_, HS8_, HS9_, HS10_, HS11_, HS12_⟩ (fun hHeld => ?_); clear hK K; refine norm_ (a':=?_) ?_ ?_; rotate_left
                 ·show Act.put _ (some 69) _ = _; simp only [q_, i64_w, i32_w]; rfl
                 refine pure_ (i:=53) (N:=some 70) (v:=?_) (a':=?_) ⟨m_ 62 18014398509481983⟩ rfl rfl (any_of HT_.out (by kernel_rfl)) (fun _ _ _ h=>h) (Or.inl ⟨rfl, ?_⟩) ?_ ?_; rotate_left
                 ·intro w'; go_simp; with_reducible rfl
                 rotate_left
                 ·simp only [q_, i64_w, i32_w]; rfl
                 refine pure_ (i:=54) (N:=some 71) (v:=?_) (a':=?_) ⟨m_ 62 36028797018963967⟩ rfl rfl (any_of HT_.out (by kernel_rfl)) (fun _ _ _ h=>h) (Or.inl ⟨rfl, ?_⟩) ?_ ?_; rotate_left
                 ·intro w'; go_simp; with_reducible rfl
                 rotate_left
                 ·simp only [q_, i64_w, i32_w]; rfl
                 refine pure_ (i:=55) (N:=some 72) (v:=?_) (a':=?_) ⟨m_ 62 72057594037927935⟩ rfl rfl (any_of HT_.out (by kernel_rfl)) (fun _ _ _ h=>h) (Or.inl ⟨rfl, ?_⟩) ?_ ?_; rotate_left
                 ·intro w'; go_simp; with_reducible rfl
                 rotate_left
                 ·simp only [q_, i64_w, i32_w]; rfl
                 refine pure_ (i:=56) (N:=some 73) (v:=?_) (a':=?_) ⟨m_ 62 144115188075855871⟩ rfl rfl (any_of HT_.out (by kernel_rfl)) (fun _ _ _ h=>h) (Or.inl ⟨rfl, ?_⟩) ?_ ?_; rotate_left
                 ·intro w'; go_simp; with_reducible rfl
                 rotate_left
                 ·simp only [q_, i64_w, i32_w]; rfl
                 refine pure_ (i:=57) (N:=some 74) (v:=?_) (a':=?_) ⟨m_ 62 288230376151711743⟩ rfl rfl (any_of HT_.out (by kernel_rfl)) (fun _ _ _ h=>h) (Or.inl ⟨rfl, ?_⟩) ?_ ?_; rotate_left
                 ·intro w'; go_simp; with_reducible rfl
                 rotate_left
                 ·simp only [q_, i64_w, i32_w]; rfl
                 refine one_ (i:=58) (N:=some 75) ⟨m_ 62 576460752303423487⟩ rfl rfl (one_of HT_.out (by kernel_rfl)) (by decide) (fun K hK => ?_); refine goes_ Try.func11 (by kernel_rfl) rfl #[.slice Ao26 y101.length co26] (by rfl) rfl rfl (by (try simp only [List.map_toArray, List.map_cons, List.map_nil]); first | done | rfl | (simp only [List.length_drop, List.length_take]; rfl)) ?_; with_reducible refine (chase_Steps.calls _ _ y101 t121 _ ?side1 ?side2 A23.out).mono ?_; (case side1 => repeat (first | exact (Kd.R_reads' HO103.out).2.2 | (with_reducible refine Kd.C_alloc ?_ _) | (with_reducible refine Kd.C_drewN ?_ _) | (with_reducible refine Kd.C_drew ?_))); (case side2 => exact (Kd.R_reads' HO103.out).2.1); rintro e w34 ⟨rfl, hb⟩
                 have HS0_ := (hb.cell (World.block_lt_of_cell? _ _ (hHeld.1))).trans (hHeld.1); have HS1_ := (hb.cell (World.block_lt_of_cell? _ _ (hHeld.2.1))).trans (hHeld.2.1); have HS2_ := (hb.cell (World.block_lt_of_cell? _ _ (hHeld.2.2.1))).trans (hHeld.2.2.1); have HS3_ := (hb.cell (World.block_lt_of_cell? _ _ (hHeld.2.2.2.1))).trans (hHeld.2.2.2.1); have HS4_ := (hb.cell (World.block_lt_of_cell? _ _ (hHeld.2.2.2.2.1))).trans (hHeld.2.2.2.2.1); have HS5_ := (hb.cell (World.block_lt_of_cell? _ _ (hHeld.2.2.2.2.2.1))).trans (hHeld.2.2.2.2.2.1); have HS6_ := (hb.cell (World.block_lt_of_cell? _ _ (hHeld.2.2.2.2.2.2.1))).trans (hHeld.2.2.2.2.2.2.1); have HS7_ := (hb.cell (World.block_lt_of_cell? _ _ (hHeld.2.2.2.2.2.2.2.1))).trans (hHeld.2.2.2.2.2.2.2.1); have HS8_ := (hb.cell (World.block_lt_of_cell? _ _ (hHeld.2.2.2.2.2.2.2.2.1))).trans (hHeld.2.2.2.2.2.2.2.2.1); have HS9_ := (hb.cell (World.block_lt_of_cell? _ _ (hHeld.2.2.2.2.2.2.2.2.2.1))).trans (hHeld.2.2.2.2.2.2.2.2.2.1)
                 have HS10_ := (hb.cell (World.block_lt_of_cell? _ _ (hHeld.2.2.2.2.2.2.2.2.2.2.1))).trans (hHeld.2.2.2.2.2.2.2.2.2.2.1); have HS11_ := (hb.cell (World.block_lt_of_cell? _ _ (hHeld.2.2.2.2.2.2.2.2.2.2.2.1))).trans (hHeld.2.2.2.2.2.2.2.2.2.2.2.1); have HS12_ := (hb.cell (World.block_lt_of_cell? _ _ (hHeld.2.2.2.2.2.2.2.2.2.2.2.2))).trans (hHeld.2.2.2.2.2.2.2.2.2.2.2.2); refine ⟨_, rfl, ?_⟩
                 replace HO103 := Aside0.mk (Kd.R_below (by (with_reducible repeat (first | apply Kd.R_alloc | apply Kd.R_drewN | apply Kd.R_drew)); exact HO103.out) hb); replace HO106 := Aside0.mk (Kd.R_below (by (with_reducible repeat (first | apply Kd.R_alloc | apply Kd.R_drewN | apply Kd.R_drew)); exact HO106.out) hb); replace HO109 := Aside0.mk (Kd.R_below (by (with_reducible repeat (first | apply Kd.R_alloc | apply Kd.R_drewN | apply Kd.R_drew)); exact HO109.out) hb); replace HO120 := Aside0.mk (Kd.R_below (by (with_reducible repeat (first | apply Kd.R_alloc | apply Kd.R_drewN | apply Kd.R_drew)); exact HO120.out) hb); replace HB := bs_ HB hb
                 (try clear hb); (try clear hb2); (try clear hk); (try clear hi); refine hK.out _ _ ⟨HS0_, HS1_, HS2_, HS3_, HS4_, HS5_, HS6_, HS7_, HS8_, HS9_, HS10_, HS11_, HS12_⟩ (fun hHeld => ?_); clear hK K; refine norm_ (a':=?_) ?_ ?_; rotate_left
                 ·show Act.put _ (some 75) _ = _; simp only [q_, i64_w, i32_w]; rfl
                 refine pure_ (i:=59) (N:=some 76) (v:=?_) (a':=?_) ⟨m_ 62 1152921504606846975⟩ rfl rfl (any_of HT_.out (by kernel_rfl)) (fun _ _ _ h=>h) (Or.inl ⟨rfl, ?_⟩) ?_ ?_; rotate_left
                 ·intro w'; go_simp; with_reducible rfl
                 rotate_left
                 ·simp only [q_, i64_w, i32_w]; rfl
                 refine pure_ (i:=60) (N:=some 77) (v:=?_) (a':=?_) ⟨m_ 62 2305843009213693951⟩ rfl rfl (any_of HT_.out (by kernel_rfl)) (fun _ _ _ h=>h) (Or.inl ⟨rfl, ?_⟩) ?_ ?_; rotate_left
                 ·intro w'; go_simp; with_reducible rfl
                 rotate_left
                 ·simp only [q_, i64_w, i32_w]; rfl
                 refine pure_ (i:=61) (N:=some 0) (v:=?_) (a':=?_) ⟨m_ 62 4611686018427387903⟩ rfl rfl (any_of HT_.out (by kernel_rfl)) (fun _ _ _ h=>h) (Or.inl ⟨rfl, ?_⟩) ?_ ?_; rotate_left
                 ·intro w'; go_simp; with_reducible rfl
                 rotate_left
                 ·simp only [q_, i64_w, i32_w]; rfl
                 refine done_ (done_of HT_.out (by kernel_rfl)) ?_
                 try go_wp2
                 go_ret
                 exact ⟨by first | rfl | (simp [errW_none, errW_some] <;> rfl) | (simp [*, errW_none, errW_some] <;> rfl), pbx HB⟩
                ·rw [if_neg c22] at H; have c22b0 : ((t118.length : Int) == 3) = false := beq_eq_false_iff_ne.mpr c22; have c22b1 : ((t118.length : Int) != 3) = true := bne_iff_ne.mpr c22
                 exact absurd H (by simp)
              ·rw [if_neg c18] at H
               exact absurd H (by simp)
            ·rw [if_neg c15] at H
             exact absurd H (by simp)
           ·replace c14 := Bool.eq_false_iff.mpr c14; subst c14
            have H1 : (none) = some r := by rw [if_neg (show ¬ (false = true) by decide)] at H; exact H
            clear H; have H := H1; clear H1
            exact absurd H (by simp)
          ·rw [if_neg c12] at H
           exact absurd H (by simp)
         ·rw [if_neg c11] at H; have c11b0 : (((rd_T26 t104 3).f0) == 7) = false := beq_eq_false_iff_ne.mpr c11; have c11b1 : (((rd_T26 t104 3).f0) != 7) = true := bne_iff_ne.mpr c11
          exact absurd H (by simp)
        ·rw [if_neg c10] at H
         exact absurd H (by simp)
       ·rw [if_neg c9] at H
        have c9b0 : (((rd_T26 t104 2).f0) == 1 && (((rd_T26 t104 2).f1) == 3)) = false := by simpa using c9
        (try (have c9b1 : decide (((rd_T26 t104 2).f0) = 1 && (((rd_T26 t104 2).f1) == 3)) = false := by simpa using c9)); (try (have c9b2 : (((rd_T26 t104 2).f0) == 1 && (((rd_T26 t104 2).f1) == 3)) = false := by simpa using c9)); (try (have c9b3 : ¬ (((rd_T26 t104 2).f0) = 1 && (((rd_T26 t104 2).f1) == 3)) := by simpa using c9)); clear c9
        exact absurd H (by simp)
      ·rw [if_neg c8] at H
       exact absurd H (by simp)
     ·rw [if_neg c7] at H
      have c7b0 : (((rd_T26 t104 1).f0) == ((rd_T26 t104 0).f0) && (((rd_T26 t104 1).f1) == ((rd_T26 t104 0).f1))) = false := by simpa using c7
      (try (have c7b1 : decide (((rd_T26 t104 1).f0) = ((rd_T26 t104 0).f0) && (((rd_T26 t104 1).f1) == ((rd_T26 t104 0).f1))) = false := by simpa using c7)); (try (have c7b2 : (((rd_T26 t104 1).f0) == ((rd_T26 t104 0).f0) && (((rd_T26 t104 1).f1) == ((rd_T26 t104 0).f1))) = false := by simpa using c7)); (try (have c7b3 : ¬ (((rd_T26 t104 1).f0) = ((rd_T26 t104 0).f0) && (((rd_T26 t104 1).f1) == ((rd_T26 t104 0).f1))) := by simpa using c7)); clear c7
      exact absurd H (by simp)
    ·rw [if_neg c6] at H
     exact absurd H (by simp)
   ·rw [if_neg c5] at H
    have c5b0 : (((rd_T26 t104 0).f0) == 1 && (((rd_T26 t104 0).f1) == 1)) = false := by simpa using c5
    (try (have c5b1 : decide (((rd_T26 t104 0).f0) = 1 && (((rd_T26 t104 0).f1) == 1)) = false := by simpa using c5)); (try (have c5b2 : (((rd_T26 t104 0).f0) == 1 && (((rd_T26 t104 0).f1) == 1)) = false := by simpa using c5)); (try (have c5b3 : ¬ (((rd_T26 t104 0).f0) = 1 && (((rd_T26 t104 0).f1) == 1)) := by simpa using c5)); clear c5
    exact absurd H (by simp)
  ·rw [if_neg c4] at H
   exact absurd H (by simp)
 ·rw [if_neg c3] at H; have c3b0 : ((t104.length : Int) == 4) = false := beq_eq_false_iff_ne.mpr c3; have c3b1 : ((t104.length : Int) != 4) = true := bne_iff_ne.mpr c3
  exact absurd H (by simp)

end Go.Proofs.Ytmpcphfgmpceiaa.X
namespace Go.Proofs.Ytmpcphfgmpceiaa.X
open Go.RowKit Go.Proofs.YtmpcphfgmpceiaaW.PrintWords Go.Proofs.YtmpcphfgmpceiaaW.PrintLast Go.Proofs.YtmpcphfgmpceiaaW.PrintMore
attribute [local go_sem] max2_int min2_int max_two min_two max_three min_three max_four min_four
set_option linter.unusedVariables false
set_option linter.unusedSimpArgs false
def oculuslaw35_mine.l0 : Nat → List (S36) → List (S38) → Int → Int → Option ((List (S36)))
 | 0, _, _, _, _ => none
 | k + 1, x3, x6, x7, x8 => if x8 < x7 then (if 0 ≤ x8 then (if x8 < (x6.length : Int) then (if x3.length < 5864062014805 then (oculuslaw35_mine.l0 k (x3 ++ [(⟨(⟨(rd_T38 x6 x8).f0.f0, (rd_T38 x6 x8).f0.f1⟩ : S26), (rd_T38 x6 x8).f1⟩ : S36)]) x6 x7 (wrap64 (x8 + 1))) else (none)) else (none)) else (none)) else (some x3)
def oculuslaw35_mine.f (k : Nat) (l0 : List (S38)) : Option ((List (S36))) := oculuslaw35_mine.l0 k ([] : List (S36)) l0 (l0.length : Int) 0
set_option maxHeartbeats 8000000 in
set_option maxRecDepth 100000 in
theorem oculuslaw35_mine.calls (k : Nat) (A0 : Option Addr) (c0 : Nat) (l0 : List (S38)) (r : List (S36)) (w : World) (hr0 : Kd.C k38 w A0 l0.length l0) (hc0 : l0.length ≤ c0) (h : oculuslaw35_mine.f k l0 = some r) :
  Calls Try.prog 7 #[.slice A0 l0.length c0] w fun e w' => ∃ v0_ : Value, e = .returned (v0_) ∧ Kd.R k36 36 w' w.heap.size (fun _ => True) v0_ r ∧ Below w.heap.size w w' := by
 have hu38 := Try.underlying38; have hu26 := Try.underlying26; have hu36 := Try.underlying36; have HR0 := Aside0.mk hr0; have HC0 := Aside0.mk hc0; clear hr0 hc0; have HB := Aside0.mk (Below.refl w.heap.size w)
 have H : (oculuslaw35_mine.l0 k ([] : List (S36)) l0 (l0.length : Int) 0) = some r := h
 clear h
 have H' := Aside0.mk H
 clear H
 go_enter Try.func7, Try.ntmps7
 go_wp2
 go_loopg [3, 8] k (fun kq v3 v8 w' => ∃ (x3_1 : List (S36)) (x8_1 : Int), v8 = .int .i64 x8_1 ∧ Aside0 (oculuslaw35_mine.l0 kq x3_1 l0 (l0.length : Int) x8_1 = some r) ∧ Aside0 (kq ≤ k) ∧ Aside0 (Kd.R k36 36 w' w.heap.size (fun _ => True) v3 x3_1) ∧ Aside0 (Below w.heap.size w w'))
 case atStart => exact ⟨(([] : List (S36))), (0), (by first | rfl | (simp; done) | (simp [*]; done)), H', ⟨Nat.le_refl _⟩, ⟨by first | exact Kd.R_nil _ _ _ _ _ | exact Kd.N_nil _ _ _ _ _ | exact Kd.V_nil _ _ _ _ _ | exact Kd.Q_nil _ _ _ _ _ | exact Kd.S_nil _ _ _ _ _⟩, ⟨pbx HB⟩⟩
 case round =>
  clear H'; obtain ⟨x3_1, x8_1, rfl, HA, HK1, HO_3, HB⟩ := hrel
  cases gk with
  | zero => exact absurd HA.out (by simp [oculuslaw35_mine.l0])
  | succ k1 =>
   have H := HA.out; clear HA
   simp only [oculuslaw35_mine.l0] at H
   by_cases c2 : x8_1 < (l0.length : Int)
   ·rw [if_pos c2] at H; have c2b0 : decide (x8_1 < (l0.length : Int)) = true := decide_eq_true c2; clear c2
    by_cases c3 : 0 ≤ x8_1
    ·rw [if_pos c3] at H; have c3b0 : decide (0 ≤ x8_1) = true := decide_eq_true c3; clear c3
     by_cases c4 : x8_1 < (l0.length : Int)
     ·rw [if_pos c4] at H; have c4b0 : decide (x8_1 < (l0.length : Int)) = true := decide_eq_true c4; clear c4
      by_cases c5 : x3_1.length < 5864062014805
      ·rw [if_pos c5] at H; have LMc5 := Aside0.mk c5; clear c5; obtain ⟨y103, hy103⟩ : ∃ y_ : List (S36), y_ = (x3_1 ++ [(⟨(⟨(rd_T38 l0 x8_1).f0.f0, (rd_T38 l0 x8_1).f0.f1⟩ : S26), (rd_T38 l0 x8_1).f1⟩ : S36)]) := ⟨_, rfl⟩
       replace H : (oculuslaw35_mine.l0 k1 y103 l0 (l0.length : Int) (wrap64 (x8_1 + 1))) = some r := by first | (rw [hy103]; with_reducible exact H) | (have H2_ := (Option.bind_some _ _).symm.trans H; rw [hy103]; with_reducible exact H2_) | (have H2_ := (Option.bind_some _ _).symm.trans H; with_reducible exact H2_) | with_reducible exact H | (rw [hy103]; exact H) | exact H
       have Ny103 := Aside0.mk hy103; clear hy103
       have H' := Aside0.mk H
       clear H
       have p101 : 0 ≤ (x8_1 : Int) := of_decide_eq_true (by first | (with_reducible assumption) | assumption)
       have q101 : x8_1 < (l0.length : Int) := of_decide_eq_true (by first | (with_reducible assumption) | assumption)
       obtain ⟨ad101, e101, hx101_0, hx101_1, hx101_2⟩ := at_T38 HR0.out x8_1 p101 q101
       cases e101
       replace hx101_0 := (HB.out.cell (World.block_lt_of_cell? w _ hx101_0)).trans hx101_0; replace hx101_1 := (HB.out.cell (World.block_lt_of_cell? w _ hx101_1)).trans hx101_1; replace hx101_2 := (HB.out.cell (World.block_lt_of_cell? w _ hx101_2)).trans hx101_2; replace p101 := eq_true p101; replace q101 := eq_true q101
       go_wp2_with (first | ((with_reducible refine gate_dst (N:=5) rfl ?_); refine be_ (N:=5) (cs := #[.int .i64 0, .int .u64 0, .int .i64 0]) (t:=38) ?_; intro gb102 hg w6 hbox hb; have BK102 := Aside0.mk (hbox); have GW102 := hs_ HB hg; have GE102 := hs_ HB hg; replace HO_3 := Aside0.mk (Kd.R_below (by (with_reducible repeat (first | apply Kd.R_alloc | apply Kd.R_drewN | apply Kd.R_drew)); exact HO_3.out) hb); replace HB := bs_ HB hb; clear hb hbox hg; have hcz7_0 : w6.cell? ⟨gb102, 0, none⟩ = some (.int .i64 0) := bc_ BK102 0 rfl; have hcz7_1 : w6.cell? ⟨gb102, 1, none⟩ = some (.int .u64 0) := bc_ BK102 1 rfl; have hcz7_2 : w6.cell? ⟨gb102, 2, none⟩ = some (.int .i64 0) := bc_ BK102 2 rfl; have hfz7_0 := blk_frozen BK102.out 0; have hfz7_1 := blk_frozen BK102.out 1; have hfz7_2 := blk_frozen BK102.out 2) | ((with_reducible refine gate_builtin (b := .append) (xs := #[.tmp 12, .tmp 18]) rfl ?_); at_builtin; refine Kd.R_append k36 (w0 := w) w.heap.size rfl (.tmp 12) (.tmp 18) 31 36 (.agg #[(.int .i64 0), (.int .u64 0), (.int .i64 0)]) 24 rfl Try.underlying31 info36 rfl (by decide) (by omega) u3 x3_1 (⟨(⟨(rd_T38 l0 x8_1).f0.f0, (rd_T38 l0 x8_1).f0.f1⟩ : S26), (rd_T38 l0 x8_1).f1⟩ : S36) [.int .i64 ((rd_T38 l0 x8_1).f0.f0), .int .u64 ((rd_T38 l0 x8_1).f0.f1), .int .i64 ((rd_T38 l0 x8_1).f1)] (fun _ => True) (fun _ => False) rfl (by first | (go_simp; done) | (go_simp; rfl)) ?aP (fun _ hk => hk.elim) ?aF ?aO ?aB ?aS ?aL ?_; (case aP => exact k36_mkM _ _ _ (⟨(⟨(rd_T38 l0 x8_1).f0.f0, (rd_T38 l0 x8_1).f0.f1⟩ : S26), (rd_T38 l0 x8_1).f1⟩ : S36)); (case aB => exact (by repeat (first | (with_reducible first | exact HB.out | apply below_alloc | apply pw_below_drewN | apply below_drew1 | refine below_set ?_ GE102.out) | exact HB.out))); (case aF => exact (fun _ _ => trivial)); (case aO => exact (by (with_reducible repeat (first | apply Kd.R_alloc | apply Kd.R_drewN | apply Kd.R_drew)); exact Kd.R_mono (Kd.R_far (p := ⟨gb102, 2, none⟩) (Kd.R_far (p := ⟨gb102, 1, none⟩) (Kd.R_far (p := ⟨gb102, 0, none⟩) (Kd.R_types HO_3.out BK102.out (by decide)) (fun _ hk => hk.2) (.int .i64 ((rd_T38 l0 x8_1).f0.f0))) (fun _ hk => hk.2) (.int .u64 ((rd_T38 l0 x8_1).f0.f1))) (fun _ hk => hk.2) (.int .i64 ((rd_T38 l0 x8_1).f1))) (fun _ hk => trivial))); (case aS => exact (below_size (by repeat (first | (with_reducible first | exact HB.out | apply below_alloc | apply pw_below_drewN | apply below_drew1 | refine below_set ?_ GE102.out) | exact HB.out)))); (case aL => have := LMc5.out; omega); intro v104 w8 ho hb hg hat; rw [← Ny103.out] at ho; have HO105 := Aside0.mk (ho); replace BK102 := Aside0.mk (blk_grown (g:=gb102) (o := .cells #[.int .i64 ((rd_T38 l0 x8_1).f0.f0), .int .u64 ((rd_T38 l0 x8_1).f0.f1), .int .i64 ((rd_T38 l0 x8_1).f1)] 38 (0, 0)) (by refine pp_ (cs := #[.int .i64 ((rd_T38 l0 x8_1).f0.f0), .int .u64 ((rd_T38 l0 x8_1).f0.f1), .int .i64 0]) 2 ?_ rfl; refine blk_put (cs := #[.int .i64 ((rd_T38 l0 x8_1).f0.f0), .int .u64 0, .int .i64 0]) ?_ 1 _ rfl; refine blk_put (cs := #[.int .i64 0, .int .u64 0, .int .i64 0]) ?_ 0 _ rfl; exact pkx BK102) hg (Kd.R_ne HO_3.out BK102.out (by decide))); replace HB := Aside0.mk (hb); clear HO_3; clear ho hb hg hat))
       go_roundg k1
       case measure => have := HK1.out; omega
       case rel => exact ⟨(y103), (wrap64 (x8_1 + 1)), (by first | rfl | (simp; done) | (simp [*]; done)), H', ⟨by have := HK1.out; omega⟩, ⟨by (with_reducible repeat (first | apply Kd.R_alloc | apply Kd.R_drewN | apply Kd.R_drew)); exact HO105.out⟩, ⟨pbx HB⟩⟩
      ·rw [if_neg c5] at H
       exact absurd H (by simp)
     ·rw [if_neg c4] at H
      exact absurd H (by simp)
    ·rw [if_neg c3] at H
     exact absurd H (by simp)
   ·rw [if_neg c2] at H; have c2b0 : decide (x8_1 < (l0.length : Int)) = false := decide_eq_false c2; clear c2; obtain rfl := Option.some.inj H
    go_wp2
    go_ret
    exact ⟨_, by first | rfl | (simp [errW_none, errW_some] <;> rfl) | (simp [*, errW_none, errW_some] <;> rfl), by (with_reducible repeat (first | apply Kd.R_alloc | apply Kd.R_drewN | apply Kd.R_drew)); exact HO_3.out, pbx HB⟩

end Go.Proofs.Ytmpcphfgmpceiaa.X
