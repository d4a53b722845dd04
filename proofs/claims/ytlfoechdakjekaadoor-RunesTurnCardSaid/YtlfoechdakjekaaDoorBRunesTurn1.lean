/- Contracts of the functions that the law RunesTurn reaches, and what they answer (a session's own texts, joined; part 1). -/
import Derived.Test.YtlfoechdakjekaaDoorProg
import Derived.Below
import Derived.Deep.Draws
import Derived.Deep.AppendLies
import Derived.Maps.AppendAt
import Derived.OwnWalk
import Derived.Laws.BytesArg
import Derived.Laws.MakeOwn
import Derived.Laws.OwnMore
import Derived.Deep.OwnRows
import Derived.Tactics
import Derived.Lib.ConvBytes
import Derived.Laws.Slices
import Derived.WalkKit
import Derived.KernelRfl
import Derived.RowKit3
import Derived.Deep.LoopGhost
import Derived.Deep.QuietTactic
import Derived.BigQuiet
import Derived.WideLaws
import Derived.Deep.DeepCutAuto
import Derived.Deep.CutBlock
import Derived.Deep.RegionHeld3
import Derived.Laws.Rows
import Derived.Lib.AppendStr
import Derived.ArgAppend
import Derived.Laws.IdiomCopy
import Derived.OrdersHeld
import Derived.Laws.BitsLemmas
import Derived.RowKit
import Derived.Shelf.Unicode.DecodeSlow
import Derived.Laws.RangeAny
import Derived.Lib.OthersKept
import Derived.Lib.Hide
import Derived.Shelf.Strings.Builder1
import Derived.Shelf.Small.Utf8
import Derived.Shelf.Strings.BuilderF
import Derived.Shelf.Strings.BuilderK
import Derived.Shelf.Strings.Prefix
import Derived.Shelf.Unicode.Decode
import Derived.Shelf.Unicode.DecodeAny
import Derived.Shelf.Strings.BuilderCap
import Derived.Laws.BitsAllLaws
import Derived.Lib.Strings
import Derived.Lib.IndexBytes
import Derived.Test.YtlfoechdakjekaaDoorBRunesTurn0
/- What holds of a block, or of all that is old, holds where nothing but new blocks and draws came since: found by instances, so that a walk's text need not say how. -/
set_option linter.unusedVariables false
namespace Go.Proofs.YtlfoechdakjekaaDoorW.PrintWords
open Go.RowKit
/-- W1 is W0 but for new blocks and draws. -/
class Peel (W0 W1 : World) : Prop where
  blk : ∀ (g : Nat) (o : Obj), W0.heap[g]? = some o → W1.heap[g]? = some o
  bel : ∀ w : World, Below w.heap.size w W0 → Below w.heap.size w W1
instance (priority := high) Peel.self (W : World) : Peel W W := ⟨fun _ _ h => h, fun _ h => h⟩
instance Peel.alloc (W0 W1 : World) (o' : Obj) [h : Peel W0 W1] : Peel W0 (W1.alloc o') := ⟨fun g o hk => blk_alloc (h.blk g o hk) o', fun w hb => below_alloc (h.bel w hb) o'⟩
instance Peel.drewN (W0 W1 : World) (n : Nat) [h : Peel W0 W1] : Peel W0 (W1.drewN n) := ⟨fun g o hk => blk_drewN (h.blk g o hk) n, fun w hb => pw_below_drewN (h.bel w hb) n⟩
instance Peel.drew (W0 W1 : World) [h : Peel W0 W1] : Peel W0 W1.drew := ⟨fun g o hk => blk_drew (h.blk g o hk), fun w hb => below_drew1 (h.bel w hb)⟩
theorem pkx {W0 W1 : World} [h : Peel W0 W1] {g : Nat} {o : Obj} (k : Aside0 (W0.heap[g]? = some o)) : W1.heap[g]? = some o := h.blk _ _ k.out
theorem pbx {W0 W1 w : World} [h : Peel W0 W1] (k : Aside0 (Below w.heap.size w W0)) : Below w.heap.size w W1 := h.bel _ k.out
end Go.Proofs.YtlfoechdakjekaaDoorW.PrintWords
namespace Go.Proofs.YtlfoechdakjekaaDoor.X
open Go.RowKit Go.Proofs.YtlfoechdakjekaaDoorW.PrintWords Go.Proofs.YtlfoechdakjekaaDoorW.PrintLast Go.Proofs.YtlfoechdakjekaaDoorW.PrintMore
attribute [local go_sem] max2_int min2_int max_two min_two max_three min_three max_four min_four   -- for this text's walks alone
set_option linter.unusedVariables false
set_option linter.unusedSimpArgs false



def errW : Option Int → Value
  | none => .nilIface
  | some c => .iface 0 (.int .i64 c)
theorem errW_none : errW none = .nilIface := rfl
theorem errW_some (c : Int) : errW (some c) = .iface 0 (.int .i64 c) := rfl

theorem info9 : (Tryd.prog.info? 9).map (fun i => (i.zero, i.size, i.bytes)) = some (some (.string ⟨#[]⟩), 1, 16) := by kernel_rfl
-- the values' own types

end Go.Proofs.YtlfoechdakjekaaDoor.X
/- The two tables of unicode/utf8 that the library reads: a world that holds them, and what follows it. -/
set_option linter.unusedVariables false
namespace Go.Proofs.YtlfoechdakjekaaDoor.X
open Go.RowKit Go.Proofs.YtlfoechdakjekaaDoorW.PrintWords Go.Proofs.YtlfoechdakjekaaDoorW.PrintLast Go.Proofs.YtlfoechdakjekaaDoorW.PrintMore
structure Tab (w : World) : Prop where
  u8 : Lib.Utf8Tabs 0 1 w
theorem lt_of_cell9 {w : World} {a : Addr} {v : Value} (h : w.cell? a = some v) : a.block < w.heap.size := by
  rcases Nat.lt_or_ge a.block w.heap.size with h' | h'
  · exact h'
  · unfold World.cell? at h
    rw [Array.getElem?_eq_none h'] at h
    cases h
theorem Tab.below {w w' : World} (h : Tab w) (hb : Below w.heap.size w w') : Tab w' :=
  ⟨⟨fun c hc => (hb.cell (lt_of_cell9 (h.u8.1 c hc))).trans (h.u8.1 c hc), fun i hi => ⟨(hb.cell (lt_of_cell9 (h.u8.2 i hi).1)).trans (h.u8.2 i hi).1, (hb.cell (lt_of_cell9 (h.u8.2 i hi).2)).trans (h.u8.2 i hi).2⟩⟩⟩
theorem tb_ {w w' : World} (hb : Below w.heap.size w w') (h : Aside0 (Tab w)) : Aside0 (Tab w') := ⟨h.out.below hb⟩
end Go.Proofs.YtlfoechdakjekaaDoor.X
namespace Go.Proofs.YtlfoechdakjekaaDoor.X
open Go.RowKit Go.Proofs.YtlfoechdakjekaaDoorW.PrintWords
abbrev T_ : Bool := true
abbrev F_ : Bool := false
theorem hl_ {W0 W1 : World} [Peel W0 W1] {g gb : Nat} {o : Obj} (k : Aside0 (W0.heap[g]? = some o)) (hg : gb = W1.heap.size) : Aside0 (g ≠ gb) := ⟨by rw [hg]; exact Nat.ne_of_lt (blk_lt (pkx k))⟩
theorem hr_ {W0 W1 : World} [Peel W0 W1] {g gb : Nat} {o : Obj} (k : Aside0 (W0.heap[g]? = some o)) (hg : gb = W1.heap.size) : Aside0 (gb ≠ g) := ⟨by rw [hg]; exact Nat.ne_of_gt (blk_lt (pkx k))⟩
theorem hs_ {W0 W1 w : World} [Peel W0 W1] {gb : Nat} (k : Aside0 (Below w.heap.size w W0)) (hg : gb = W1.heap.size) : Aside0 (w.heap.size ≤ gb) := ⟨by rw [hg]; exact below_size (pbx k)⟩
abbrev T : Bool := true
abbrev F : Bool := false
def m_ : Nat → Nat → List Bool
  | 0, _ => []
  | n + 1, x => (x % 2 == 1) :: m_ n (x / 2)
theorem bb_ {W0 W1 W2 : World} [h : Peel W0 W1] {g : Nat} {o : Obj} (k : Aside0 (W0.heap[g]? = some o)) (hb : Below W1.heap.size W1 W2) : Aside0 (W2.heap[g]? = some o) := Aside0.mk (blk_below (pkx k) hb)
theorem bs_ {W0 W1 W2 w : World} [h : Peel W0 W1] (k : Aside0 (Below w.heap.size w W0)) (hb : Below W1.heap.size W1 W2) : Aside0 (Below w.heap.size w W2) := Aside0.mk (below_step (pbx k) hb)
theorem bc_ {w : World} {g : Nat} {t : TypeId} {cs : Array Value} {v : Value} (h : Aside0 (w.heap[g]? = some (.cells cs t (0, 0)))) (i : Nat) (e : cs[i]? = some v) : w.cell? ⟨g, i, none⟩ = some v := (blk_cell h.out i).trans e
theorem q_ : (∀ (a : Act) (v : Value), a.put none v = a) ∧ (∀ (a : Act) (t : Tmp) (v : Value), a.put (some t) v = { a with tmps := a.tmps.setIfInBounds t v }) ∧ (∀ (l : List Value) (i : Nat) (v : Value), l.toArray.setIfInBounds i v = (l.set i v).toArray) ∧ (∀ (a b : Value) (l : List Value), (a :: l).set 0 b = b :: l) ∧ (∀ (a b : Value) (l : List Value) (n : Nat), (a :: l).set (n + 1) b = a :: l.set n b) := ⟨fun _ _ => rfl, fun _ _ _ => rfl, fun _ _ _ => List.setIfInBounds_toArray .., fun _ _ _ => rfl, fun _ _ _ _ => rfl⟩
end Go.Proofs.YtlfoechdakjekaaDoor.X
namespace Go.Proofs.YtlfoechdakjekaaDoor.X
open Go.RowKit Go.Proofs.YtlfoechdakjekaaDoorW.PrintWords Go.Proofs.YtlfoechdakjekaaDoorW.PrintLast Go.Proofs.YtlfoechdakjekaaDoorW.PrintMore
attribute [local go_sem] max2_int min2_int max_two min_two max_three min_three max_four min_four   -- for this text's walks alone
set_option linter.unusedVariables false
set_option linter.unusedSimpArgs false

/-! ### utf8_ValidRune: function 17 -/
def utf8_ValidRune.j0 : Nat → Int → Bool → Option (Bool)
 | 0, _, _ => none
 | k + 1, x0, x3 => if x3 = true then (some true) else (if 57343 < x0 then (if x0 ≤ 1114111 then (some true) else (some false)) else (some false))
def utf8_ValidRune.f (k : Nat) (a0 : Int) : Option (Bool) := if 0 ≤ a0 then (utf8_ValidRune.j0 k a0 (decide (a0 < 55296))) else (utf8_ValidRune.j0 k a0 false)
set_option maxHeartbeats 8000000 in
set_option maxRecDepth 100000 in
theorem utf8_ValidRune.calls (k : Nat) (a0 : Int) (r : Bool) (w : World) (h : utf8_ValidRune.f k a0 = some r) :
  Calls Tryd.prog 17 #[.int .i32 a0] w fun e w' => e = .returned (.bool r) ∧ Drawn0 w w' := by
 have H : (if 0 ≤ a0 then (utf8_ValidRune.j0 k a0 (decide (a0 < 55296))) else (utf8_ValidRune.j0 k a0 false)) = some r := h
 clear h; have HC2 := Aside0.mk H; clear H
 go_enter Tryd.func17, Tryd.ntmps17
 go_upto_region 1 with (fail)
 go_cut [3] (fun v3 wc => ∃ (kq : Nat) (x3_1 : Bool), v3 = .bool x3_1 ∧ Aside0 (utf8_ValidRune.j0 kq a0 x3_1 = some r) ∧ Aside0 (kq ≤ k) ∧ Drawn0 w wc)
 case first =>
  have H := HC2.out; clear HC2
  by_cases c3 : 0 ≤ a0
  ·rw [if_pos c3] at H; have c3b0 : decide (0 ≤ a0) = true := decide_eq_true c3; clear c3; (first | rw [c3b0] | (simp only [i64_w, i32_w]; rw [c3b0]) | skip)
   have H' := Aside0.mk H
   clear H
   go_wp2
   go_meet
   case rel => exact ⟨_, (decide (a0 < 55296)), (by first | rfl | (simp; done) | (simp [*]; done)), H', ⟨by first | omega | exact Nat.le_refl _⟩, by repeat (first | exact Drawn0.refl _ | apply Drawn0.step)⟩
  ·rw [if_neg c3] at H; have c3b0 : decide (0 ≤ a0) = false := decide_eq_false c3; clear c3; (first | rw [c3b0] | (simp only [i64_w, i32_w]; rw [c3b0]) | skip)
   have H' := Aside0.mk H
   clear H
   go_wp2
   go_meet
   case rel => exact ⟨_, (false), (by first | rfl | (simp; done) | (simp [*]; done)), H', ⟨by first | omega | exact Nat.le_refl _⟩, by repeat (first | exact Drawn0.refl _ | apply Drawn0.step)⟩
 case rest =>
  clear HC2; (try clear c1); (try clear p2); (try clear c3); (try clear c3b0); obtain ⟨kq, x3_1, rfl, HA, HJ1, ⟨mc1, rfl⟩⟩ := hcut
  cases kq with
  | zero => exact absurd HA.out (by simp [utf8_ValidRune.j0])
  | succ kj1 =>
   have H := HA.out; clear HA
   simp only [utf8_ValidRune.j0] at H
   by_cases c4 : x3_1 = true
   ·subst c4
    have H1 : (some true) = some r := by rw [if_pos rfl] at H; exact H
    clear H; have H := H1; clear H1; obtain rfl := Option.some.inj H
    go_wp2
    go_ret
    exact ⟨by first | rfl | (simp; done) | (simp [*]; done), by repeat (first | exact Drawn0.refl _ | apply Drawn0.step)⟩
   ·replace c4 := Bool.eq_false_iff.mpr c4; subst c4
    have H1 : (if 57343 < a0 then (if a0 ≤ 1114111 then (some true) else (some false)) else (some false)) = some r := by rw [if_neg (show ¬ (false = true) by decide)] at H; exact H
    clear H; have H := H1; clear H1
    by_cases c5 : 57343 < a0
    ·rw [if_pos c5] at H; have c5b0 : decide (57343 < a0) = true := decide_eq_true c5; clear c5
     by_cases c6 : a0 ≤ 1114111
     ·rw [if_pos c6] at H; have c6b0 : decide (a0 ≤ 1114111) = true := decide_eq_true c6; clear c6; obtain rfl := Option.some.inj H
      go_wp2
      go_ret
      exact ⟨by first | rfl | (simp; done) | (simp [*]; done), by repeat (first | exact Drawn0.refl _ | apply Drawn0.step)⟩
     ·rw [if_neg c6] at H; have c6b0 : decide (a0 ≤ 1114111) = false := decide_eq_false c6; clear c6; obtain rfl := Option.some.inj H
      go_wp2
      go_ret
      exact ⟨by first | rfl | (simp; done) | (simp [*]; done), by repeat (first | exact Drawn0.refl _ | apply Drawn0.step)⟩
    ·rw [if_neg c5] at H; have c5b0 : decide (57343 < a0) = false := decide_eq_false c5; clear c5; obtain rfl := Option.some.inj H
     go_wp2
     go_ret
     exact ⟨by first | rfl | (simp; done) | (simp [*]; done), by repeat (first | exact Drawn0.refl _ | apply Drawn0.step)⟩

end Go.Proofs.YtlfoechdakjekaaDoor.X
namespace Go.Proofs.YtlfoechdakjekaaDoor.X
open Go.RowKit Go.Proofs.YtlfoechdakjekaaDoorW.PrintWords Go.Proofs.YtlfoechdakjekaaDoorW.PrintLast Go.Proofs.YtlfoechdakjekaaDoorW.PrintMore
attribute [local go_sem] max2_int min2_int max_two min_two max_three min_three max_four min_four   -- for this text's walks alone
set_option linter.unusedVariables false
set_option linter.unusedSimpArgs false

/-! ### runes_Single: function 5 -/
def runes_Single.f (k : Nat) (a0 : Int) : Option (ByteArray × Bool) := if a0 < 1 then (some ((⟨#[]⟩ : ByteArray), false)) else (if a0 > 1114111 then (some ((⟨#[]⟩ : ByteArray), false)) else ((utf8_ValidRune.f k (wrap32 (a0))).bind fun t101 => (if t101 = true then (some (Utf8.encode (wrap32 (a0)), true)) else (some ((⟨#[]⟩ : ByteArray), false)))))
set_option maxHeartbeats 8000000 in
set_option maxRecDepth 100000 in
theorem runes_Single.calls (k : Nat) (a0 : Int) (r1 : ByteArray) (r2 : Bool) (w : World) (h : runes_Single.f k a0 = some (r1, r2)) :
  Calls Tryd.prog 5 #[.int .i64 a0] w fun e w' => e = .returned (.tuple #[.string r1, .bool r2]) ∧ Drawn0 w w' := by
 have H : (if a0 < 1 then (some ((⟨#[]⟩ : ByteArray), false)) else (if a0 > 1114111 then (some ((⟨#[]⟩ : ByteArray), false)) else ((utf8_ValidRune.f k (wrap32 (a0))).bind fun t101 => (if t101 = true then (some (Utf8.encode (wrap32 (a0)), true)) else (some ((⟨#[]⟩ : ByteArray), false)))))) = some (r1, r2) := h
 clear h
 by_cases c2 : a0 < 1
 ·rw [if_pos c2] at H; have c2b0 : decide (a0 < 1) = true := decide_eq_true c2; clear c2
  simp only [Option.some.injEq, Prod.mk.injEq] at H
  obtain ⟨rfl, rfl⟩ := H
  go_enter Tryd.func5, Tryd.ntmps5
  go_wp2
  go_ret2
  exact ⟨by first | rfl | (simp; done) | (simp [*]; done), by repeat (first | exact Drawn0.refl _ | apply Drawn0.step)⟩
 ·rw [if_neg c2] at H; have c2b0 : decide (a0 < 1) = false := decide_eq_false c2; clear c2
  by_cases c3 : a0 > 1114111
  ·rw [if_pos c3] at H; have c3b0 : decide (1114111 < a0) = true := decide_eq_true c3; clear c3
   simp only [Option.some.injEq, Prod.mk.injEq] at H
   obtain ⟨rfl, rfl⟩ := H
   go_enter Tryd.func5, Tryd.ntmps5
   go_wp2
   go_ret2
   exact ⟨by first | rfl | (simp; done) | (simp [*]; done), by repeat (first | exact Drawn0.refl _ | apply Drawn0.step)⟩
  ·rw [if_neg c3] at H; have c3b0 : decide (1114111 < a0) = false := decide_eq_false c3; clear c3; replace H := Option.bind_eq_some_iff.mp H; obtain ⟨t101, A40, H⟩ := H
   replace H : (if t101 = true then (some (Utf8.encode (wrap32 (a0)), true)) else (some ((⟨#[]⟩ : ByteArray), false))) = some (r1, r2) := H
   have A4 := Aside0.mk A40; clear A40
   by_cases c5 : t101 = true
   ·subst c5
    have H1 : (some (Utf8.encode (wrap32 (a0)), true)) = some (r1, r2) := by rw [if_pos rfl] at H; exact H
    clear H; have H := H1; clear H1
    simp only [Option.some.injEq, Prod.mk.injEq] at H
    obtain ⟨rfl, rfl⟩ := H
    go_enter Tryd.func5, Tryd.ntmps5
    go_wp2_with (first | (go_at_call 17; (with_reducible refine (utf8_ValidRune.calls k (wrap32 (a0)) true _ A4.out).mono ?_); rintro e w' ⟨rfl, ⟨nd, rfl⟩⟩))
    go_ret2
    exact ⟨by first | rfl | (simp; done) | (simp [*]; done), by repeat (first | exact Drawn0.refl _ | apply Drawn0.step)⟩
   ·replace c5 := Bool.eq_false_iff.mpr c5; subst c5
    have H1 : (some ((⟨#[]⟩ : ByteArray), false)) = some (r1, r2) := by rw [if_neg (show ¬ (false = true) by decide)] at H; exact H
    clear H; have H := H1; clear H1
    simp only [Option.some.injEq, Prod.mk.injEq] at H
    obtain ⟨rfl, rfl⟩ := H
    go_enter Tryd.func5, Tryd.ntmps5
    go_wp2_with (first | (go_at_call 17; (with_reducible refine (utf8_ValidRune.calls k (wrap32 (a0)) false _ A4.out).mono ?_); rintro e w' ⟨rfl, ⟨nd, rfl⟩⟩))
    go_ret2
    exact ⟨by first | rfl | (simp; done) | (simp [*]; done), by repeat (first | exact Drawn0.refl _ | apply Drawn0.step)⟩

end Go.Proofs.YtlfoechdakjekaaDoor.X
/- Contracts, by hand, of the functions of runes that range over a text: whatever the text. -/
set_option linter.unusedVariables false
set_option linter.unusedSimpArgs false
namespace Go.Proofs.YtlfoechdakjekaaDoor.X
open Go.RowKit Go.Proofs.YtlfoechdakjekaaDoorW.PrintWords Go.Proofs.YtlfoechdakjekaaDoorW.PrintLast Go.Proofs.YtlfoechdakjekaaDoorW.PrintMore
/-- The places at which runes begin, from one on. -/
def posF (s : ByteArray) : Nat → Nat → List Nat
  | 0, _ => []
  | f + 1, pos => if pos < s.size then pos :: posF s f (pos + (Utf8.decode s pos).2) else []
def runeP (s : ByteArray) : List Nat := posF s s.size 0
theorem wid_pos (s : ByteArray) (pos : Nat) (h : pos < s.size) : 1 ≤ (Utf8.decode s pos).2 := by
  by_cases ha : (s[pos]'h).toNat < 128
  · rw [decode_ascii s pos h ha]
    exact Nat.le_refl _
  · exact (decode_high s pos h (by omega)).2
theorem posF_end (s : ByteArray) (f pos : Nat) (h : ¬ pos < s.size) : posF s f pos = [] := by
  cases f with
  | zero => rfl
  | succ f => simp [posF, h]
theorem iter_below (w : World) (s : ByteArray) (p : Nat) : Below w.heap.size w (w.iter s p) := by
  have := (Below.refl w.heap.size w).alloc (Nat.le_refl _) (.stringIter s p)
  exact this

def runes_Count.f (a0 : ByteArray) : Option Int := if a0.size ≤ 4611686018427387904 then some ((runeP a0).length : Int) else none
set_option maxHeartbeats 1000000 in
theorem runes_Count.calls (a0 : ByteArray) (r : Int) (w : World) (h : runes_Count.f a0 = some r) :
    Calls Tryd.prog 13 #[.string a0] w fun e w' => e = .returned (.int .i64 r) ∧ Below w.heap.size w w' := by
  unfold runes_Count.f at h
  have hs : a0.size ≤ 4611686018427387904 := by
    by_cases hs : a0.size ≤ 4611686018427387904
    · exact hs
    · rw [if_neg hs] at h; cases h
  rw [if_pos hs] at h
  obtain rfl := Option.some.inj h
  clear h
  go_enter Tryd.func13, Tryd.ntmps13
  go_wp2
  go_loopw [3] (fun v wr => ∃ (pos fuel n : Nat), v = .int .i64 n ∧ wr.heap[w.heap.size]? = some (.stringIter a0 pos) ∧ Below w.heap.size w wr ∧ n + (posF a0 fuel pos).length = (runeP a0).length ∧ a0.size ≤ pos + fuel ∧ n ≤ pos) (fun _ wr => a0.size - wr.iterPos w.heap.size)
  case atStart =>
    exact ⟨0, a0.size, 0, rfl, World.iter_heap w a0 0, iter_below w a0 0, by simp [runeP], by omega, by omega⟩
  case round =>
    obtain ⟨pos, fuel, n, rfl, hit, hbw, hn, hfu, hnp⟩ := hrel
    have HN := Aside0.mk hn
    clear hn
    have hsz : w.heap.size < wr.heap.size := (Array.getElem?_eq_some_iff.1 hit).1
    by_cases hp : pos < a0.size
    · have hnx : ∀ ty, (Instr.next (.pointer (some ⟨w.heap.size, 0, none⟩)) true ty).run Tryd.prog wr = _ := fun ty => Lib.run_next_any_at wr w.heap.size a0 pos ty hit hp
      have hwd := wid_pos a0 pos hp
      have hd1 := decode_le a0 pos
      have hit2 := Lib.iterAt_heap wr w.heap.size a0 pos (pos + (Utf8.decode a0 pos).2) hit
      have hbw2 := Lib.below_iterAt hbw (k := w.heap.size) (by omega) a0 (pos + (Utf8.decode a0 pos).2)
      obtain ⟨f, rfl⟩ : ∃ f, fuel = f + 1 := ⟨fuel - 1, by omega⟩
      have HI := Aside0.mk hit
      have HI2 := Aside0.mk hit2
      have HB2 := Aside0.mk hbw2
      clear hit hit2 hbw2
      go_wp2
      go_roundw
      case rel =>
        refine ⟨pos + (Utf8.decode a0 pos).2, f, n + 1, by go_num, HI2.out, HB2.out, ?_, by omega, by omega⟩
        have := HN.out
        simp only [posF, if_pos hp, List.length_cons] at this
        omega
      case measure =>
        have e1 : wr.iterPos w.heap.size = pos := by simp only [World.iterPos, HI.out]
        have e2 : (wr.iterAt w.heap.size a0 (pos + (Utf8.decode a0 pos).2)).iterPos w.heap.size = pos + (Utf8.decode a0 pos).2 := by simp only [World.iterPos, HI2.out]
        rw [e1, e2]
        omega
    · have hnx : ∀ ty, (Instr.next (.pointer (some ⟨w.heap.size, 0, none⟩)) true ty).run Tryd.prog wr = _ := fun ty => Lib.run_next_end_at wr w.heap.size a0 pos ty hit hp
      go_wp2
      go_ret
      have e := HN.out
      rw [posF_end a0 fuel pos hp] at e
      simp only [List.length_nil, Nat.add_zero] at e
      subst e
      exact ⟨rfl, hbw⟩

def runes_at.f (a0 : ByteArray) (a1 : Int) : Option Int := if a0.size ≤ 4611686018427387904 ∧ a1 ≤ 9223372036854775807 then some (((runeP a0).getD a1.toNat a0.size : Nat) : Int) else none
set_option maxHeartbeats 1000000 in
theorem runes_at.calls (a0 : ByteArray) (a1 : Int) (r : Int) (w : World) (h : runes_at.f a0 a1 = some r) :
    Calls Tryd.prog 23 #[.string a0, .int .i64 a1] w fun e w' => e = .returned (.int .i64 r) ∧ Below w.heap.size w w' := by
  unfold runes_at.f at h
  have hs : a0.size ≤ 4611686018427387904 ∧ a1 ≤ 9223372036854775807 := by
    by_cases hs : a0.size ≤ 4611686018427387904 ∧ a1 ≤ 9223372036854775807
    · exact hs
    · rw [if_neg hs] at h; cases h
  rw [if_pos hs] at h
  obtain rfl := Option.some.inj h
  clear h
  obtain ⟨hs, ha1⟩ := hs
  go_enter Tryd.func23, Tryd.ntmps23
  go_wp2
  go_loopw [1] (fun v wr => ∃ (pos fuel : Nat) (n : Int), v = .int .i64 n ∧ wr.heap[w.heap.size]? = some (.stringIter a0 pos) ∧ Below w.heap.size w wr ∧ (posF a0 fuel pos).getD n.toNat a0.size = (runeP a0).getD a1.toNat a0.size ∧ a0.size ≤ pos + fuel ∧ n ≤ a1) (fun _ wr => a0.size - wr.iterPos w.heap.size)
  case atStart =>
    exact ⟨0, a0.size, a1, rfl, World.iter_heap w a0 0, iter_below w a0 0, rfl, by omega, Int.le_refl _⟩
  case round =>
    obtain ⟨pos, fuel, n, rfl, hit, hbw, hn, hfu, hna⟩ := hrel
    have HN := Aside0.mk hn
    clear hn
    have hsz : w.heap.size < wr.heap.size := (Array.getElem?_eq_some_iff.1 hit).1
    by_cases hp : pos < a0.size
    · have hnx : ∀ ty, (Instr.next (.pointer (some ⟨w.heap.size, 0, none⟩)) true ty).run Tryd.prog wr = _ := fun ty => Lib.run_next_any_at wr w.heap.size a0 pos ty hit hp
      have hwd := wid_pos a0 pos hp
      have hd1 := decode_le a0 pos
      have hit2 := Lib.iterAt_heap wr w.heap.size a0 pos (pos + (Utf8.decode a0 pos).2) hit
      have hbw2 := Lib.below_iterAt hbw (k := w.heap.size) (by omega) a0 (pos + (Utf8.decode a0 pos).2)
      obtain ⟨f, rfl⟩ : ∃ f, fuel = f + 1 := ⟨fuel - 1, by omega⟩
      have HI := Aside0.mk hit
      have HI2 := Aside0.mk hit2
      have HB2 := Aside0.mk hbw2
      clear hit hit2 hbw2
      have hpost := HN.out
      simp only [posF, if_pos hp] at hpost
      have HP := Aside0.mk hpost
      clear hpost
      by_cases hle : n ≤ 0
      · have hd : decide (n ≤ 0) = true := decide_eq_true hle
        go_wp2
        go_ret
        have e := HP.out
        rw [show n.toNat = 0 by omega] at e
        simp only [List.getD_cons_zero] at e
        exact ⟨by rw [← e]; rfl, HB2.out⟩
      · have hd : decide (n ≤ 0) = false := decide_eq_false hle
        go_wp2
        go_roundw
        case rel =>
          refine ⟨pos + (Utf8.decode a0 pos).2, f, n - 1, by first | rfl | go_num, HI2.out, HB2.out, ?_, by omega, by omega⟩
          have e := HP.out
          rw [show n.toNat = (n - 1).toNat + 1 by omega] at e
          simpa using e
        case measure =>
          have e1 : wr.iterPos w.heap.size = pos := by simp only [World.iterPos, HI.out]
          have e2 : (wr.iterAt w.heap.size a0 (pos + (Utf8.decode a0 pos).2)).iterPos w.heap.size = pos + (Utf8.decode a0 pos).2 := by simp only [World.iterPos, HI2.out]
          rw [e1, e2]
          omega
    · have hnx : ∀ ty, (Instr.next (.pointer (some ⟨w.heap.size, 0, none⟩)) true ty).run Tryd.prog wr = _ := fun ty => Lib.run_next_end_at wr w.heap.size a0 pos ty hit hp
      go_wp2
      go_ret
      have e := HN.out
      rw [posF_end a0 fuel pos hp] at e
      simp only [List.getD_nil] at e
      exact ⟨by rw [← e]; rfl, hbw⟩
end Go.Proofs.YtlfoechdakjekaaDoor.X
namespace Go.Proofs.YtlfoechdakjekaaDoor.X
open Go.RowKit Go.Proofs.YtlfoechdakjekaaDoorW.PrintWords Go.Proofs.YtlfoechdakjekaaDoorW.PrintLast Go.Proofs.YtlfoechdakjekaaDoorW.PrintMore
attribute [local go_sem] max2_int min2_int max_two min_two max_three min_three max_four min_four   -- for this text's walks alone
set_option linter.unusedVariables false
set_option linter.unusedSimpArgs false

/-! ### runes_Left: function 14 -/
def runes_Left.f (a0 : ByteArray) (a1 : Int) : Option (ByteArray) := (runes_at.f a0 a1).bind fun t101 => (if 0 ≤ t101 then (if t101 ≤ (a0.size : Int) then (some (a0.extract 0 (t101 : Int).toNat)) else (none)) else (none))
set_option maxHeartbeats 8000000 in
set_option maxRecDepth 100000 in
theorem runes_Left.calls (a0 : ByteArray) (a1 : Int) (r : ByteArray) (w : World) (h : runes_Left.f a0 a1 = some r) :
  Calls Tryd.prog 14 #[.string a0, .int .i64 a1] w fun e w' => e = .returned (.string r) ∧ Below w.heap.size w w' := by
 have HB := Aside0.mk (Below.refl w.heap.size w)
 have H : ((runes_at.f a0 a1).bind fun t101 => (if 0 ≤ t101 then (if t101 ≤ (a0.size : Int) then (some (a0.extract 0 (t101 : Int).toNat)) else (none)) else (none))) = some r := h
 clear h; replace H := Option.bind_eq_some_iff.mp H; obtain ⟨t101, A30, H⟩ := H
 replace H : (if 0 ≤ t101 then (if t101 ≤ (a0.size : Int) then (some (a0.extract 0 (t101 : Int).toNat)) else (none)) else (none)) = some r := H
 have A3 := Aside0.mk A30; clear A30
 by_cases c4 : 0 ≤ t101
 ·rw [if_pos c4] at H; have c4b0 := eq_true c4; have c4b1 : decide (0 ≤ t101) = true := decide_eq_true c4; clear c4
  by_cases c5 : t101 ≤ (a0.size : Int)
  ·rw [if_pos c5] at H; have c5b0 := eq_true c5; have c5b1 : decide (t101 ≤ (a0.size : Int)) = true := decide_eq_true c5; clear c5; obtain rfl := Option.some.inj H
   go_enter Tryd.func14, Tryd.ntmps14
   go_wp2_with (first | ((with_reducible refine gate_callee (f:=23) rfl ?_); refine goesL_ (some 8) rfl rfl Tryd.func23 (by kernel_rfl) rfl #[.string a0, .int .i64 a1] rfl (by (try simp only [List.map_toArray, List.map_cons, List.map_nil]); first | done | rfl | (simp only [List.length_drop, List.length_take]; rfl)) ?_; (with_reducible refine (runes_at.calls a0 a1 t101 _ A3.out).mono ?_); rintro e w6 ⟨rfl, hb⟩; refine ⟨_, rfl, ?_⟩; replace HB := bs_ HB hb; (try clear hb); (try clear hb2); (try clear hk); (try clear hi)))
   go_ret
   exact ⟨by first | rfl | (simp [errW_none, errW_some] <;> rfl) | (simp [*, errW_none, errW_some] <;> rfl), pbx HB⟩
  ·rw [if_neg c5] at H
   exact absurd H (by simp)
 ·rw [if_neg c4] at H
  exact absurd H (by simp)

end Go.Proofs.YtlfoechdakjekaaDoor.X
namespace Go.Proofs.YtlfoechdakjekaaDoor.X
open Go.RowKit Go.Proofs.YtlfoechdakjekaaDoorW.PrintWords Go.Proofs.YtlfoechdakjekaaDoorW.PrintLast Go.Proofs.YtlfoechdakjekaaDoorW.PrintMore
attribute [local go_sem] max2_int min2_int max_two min_two max_three min_three max_four min_four   -- for this text's walks alone
set_option linter.unusedVariables false
set_option linter.unusedSimpArgs false

/-! ### runes_Right: function 15 -/
def runes_Right.f (a0 : ByteArray) (a1 : Int) : Option (ByteArray) := if a1 < 1 then (some (⟨#[]⟩ : ByteArray)) else ((runes_Count.f a0).bind fun t101 => ((runes_at.f a0 (mx (wrap64 (t101 - a1)) 0)).bind fun t102 => (if 0 ≤ t102 then (if t102 ≤ (a0.size : Int) then (some (a0.extract (t102 : Int).toNat a0.size)) else (none)) else (none))))
set_option maxHeartbeats 8000000 in
set_option maxRecDepth 100000 in
theorem runes_Right.calls (a0 : ByteArray) (a1 : Int) (r : ByteArray) (w : World) (h : runes_Right.f a0 a1 = some r) :
  Calls Tryd.prog 15 #[.string a0, .int .i64 a1] w fun e w' => e = .returned (.string r) ∧ Below w.heap.size w w' := by
 have HB := Aside0.mk (Below.refl w.heap.size w)
 have H : (if a1 < 1 then (some (⟨#[]⟩ : ByteArray)) else ((runes_Count.f a0).bind fun t101 => ((runes_at.f a0 (mx (wrap64 (t101 - a1)) 0)).bind fun t102 => (if 0 ≤ t102 then (if t102 ≤ (a0.size : Int) then (some (a0.extract (t102 : Int).toNat a0.size)) else (none)) else (none))))) = some r := h
 clear h
 by_cases c3 : a1 < 1
 ·rw [if_pos c3] at H; have c3b0 : decide (a1 < 1) = true := decide_eq_true c3; clear c3; obtain rfl := Option.some.inj H
  go_enter Tryd.func15, Tryd.ntmps15
  go_wp2
  go_ret
  exact ⟨by first | rfl | (simp [errW_none, errW_some] <;> rfl) | (simp [*, errW_none, errW_some] <;> rfl), pbx HB⟩
 ·rw [if_neg c3] at H; have c3b0 : decide (a1 < 1) = false := decide_eq_false c3; clear c3; replace H := Option.bind_eq_some_iff.mp H; obtain ⟨t101, A40, H⟩ := H
  replace H : ((runes_at.f a0 (mx (wrap64 (t101 - a1)) 0)).bind fun t102 => (if 0 ≤ t102 then (if t102 ≤ (a0.size : Int) then (some (a0.extract (t102 : Int).toNat a0.size)) else (none)) else (none))) = some r := H
  have A4 := Aside0.mk A40; clear A40; obtain ⟨ji5, hji5⟩ : ∃ j_ : Int, (mx (wrap64 (t101 - a1)) 0) = j_ := ⟨_, rfl⟩
  replace H : ((runes_at.f a0 (ji5)).bind fun t102 => (if 0 ≤ t102 then (if t102 ≤ (a0.size : Int) then (some (a0.extract (t102 : Int).toNat a0.size)) else (none)) else (none))) = some r := by first | (rw [hji5] at H; exact H) | (simp only [hji5] at H ⊢; exact H)
  (try rw [hji5] at A4); (try (have hji5l : 0 ≤ ji5 := by (rw [← hji5]; unfold mx; (repeat' split) <;> omega))); (try (have hji5m : 0 ≤ ji5 := by omega))
  have hji5_ : (if (wrap64 (t101 - a1)) < 0 then 0 else (wrap64 (t101 - a1))) = ji5 := hji5
  replace H := Option.bind_eq_some_iff.mp H; obtain ⟨t102, A60, H⟩ := H
  replace H : (if 0 ≤ t102 then (if t102 ≤ (a0.size : Int) then (some (a0.extract (t102 : Int).toNat a0.size)) else (none)) else (none)) = some r := H
  have A6 := Aside0.mk A60; clear A60
  by_cases c7 : 0 ≤ t102
  ·rw [if_pos c7] at H; have c7b0 := eq_true c7; have c7b1 : decide (0 ≤ t102) = true := decide_eq_true c7; clear c7
   by_cases c8 : t102 ≤ (a0.size : Int)
   ·rw [if_pos c8] at H; have c8b0 := eq_true c8; have c8b1 : decide (t102 ≤ (a0.size : Int)) = true := decide_eq_true c8; clear c8; obtain rfl := Option.some.inj H
    go_enter Tryd.func15, Tryd.ntmps15
    go_wp2_with (first | ((with_reducible refine gate_callee (f:=13) rfl ?_); refine goesL_ (some 10) rfl rfl Tryd.func13 (by kernel_rfl) rfl #[.string a0] rfl (by (try simp only [List.map_toArray, List.map_cons, List.map_nil]); first | done | rfl | (simp only [List.length_drop, List.length_take]; rfl)) ?_; (with_reducible refine (runes_Count.calls a0 t101 _ A4.out).mono ?_); rintro e w9 ⟨rfl, hb⟩; refine ⟨_, rfl, ?_⟩; replace HB := bs_ HB hb; (try clear hb); (try clear hb2); (try clear hk); (try clear hi)) | ((with_reducible refine gate_callee (f:=23) rfl ?_); refine goesL_ (some 14) rfl rfl Tryd.func23 (by kernel_rfl) rfl #[.string a0, .int .i64 ji5] rfl (by (try simp only [List.map_toArray, List.map_cons, List.map_nil]); first | done | (simp only [hji5]; rfl) | rfl | (simp only [List.length_drop, List.length_take]; rfl)) ?_; (with_reducible refine (runes_at.calls a0 ji5 t102 _ A6.out).mono ?_); rintro e w10 ⟨rfl, hb⟩; refine ⟨_, rfl, ?_⟩; replace HB := bs_ HB hb; (try clear hb); (try clear hb2); (try clear hk); (try clear hi)))
    go_ret
    exact ⟨by first | rfl | (simp [errW_none, errW_some] <;> rfl) | (simp only [← hji5]; first | rfl | (simp [errW_none, errW_some] <;> rfl)) | (simp [*, errW_none, errW_some] <;> rfl), pbx HB⟩
   ·rw [if_neg c8] at H
    exact absurd H (by simp)
  ·rw [if_neg c7] at H
   exact absurd H (by simp)

end Go.Proofs.YtlfoechdakjekaaDoor.X
namespace Go.Proofs.YtlfoechdakjekaaDoor.X
open Go.RowKit Go.Proofs.YtlfoechdakjekaaDoorW.PrintWords Go.Proofs.YtlfoechdakjekaaDoorW.PrintLast Go.Proofs.YtlfoechdakjekaaDoorW.PrintMore
attribute [local go_sem] max2_int min2_int max_two min_two max_three min_three max_four min_four   -- for this text's walks alone
set_option linter.unusedVariables false
set_option linter.unusedSimpArgs false

/-! ### runes_Mid: function 16 -/
def runes_Mid.f (a0 : ByteArray) (a1 : Int) (a2 : Int) : Option (ByteArray) := if a1 < 0 then (some (⟨#[]⟩ : ByteArray)) else ((runes_at.f a0 a1).bind fun t101 => (if 0 ≤ t101 then (if t101 ≤ (a0.size : Int) then ((runes_Left.f (a0.extract (t101 : Int).toNat a0.size) a2).bind fun t102 => (some t102)) else (none)) else (none)))
set_option maxHeartbeats 8000000 in
set_option maxRecDepth 100000 in
theorem runes_Mid.calls (a0 : ByteArray) (a1 : Int) (a2 : Int) (r : ByteArray) (w : World) (h : runes_Mid.f a0 a1 a2 = some r) :
  Calls Tryd.prog 16 #[.string a0, .int .i64 a1, .int .i64 a2] w fun e w' => e = .returned (.string r) ∧ Below w.heap.size w w' := by
 have HB := Aside0.mk (Below.refl w.heap.size w)
 have H : (if a1 < 0 then (some (⟨#[]⟩ : ByteArray)) else ((runes_at.f a0 a1).bind fun t101 => (if 0 ≤ t101 then (if t101 ≤ (a0.size : Int) then ((runes_Left.f (a0.extract (t101 : Int).toNat a0.size) a2).bind fun t102 => (some t102)) else (none)) else (none)))) = some r := h
 clear h
 by_cases c4 : a1 < 0
 ·rw [if_pos c4] at H; have c4b0 : decide (a1 < 0) = true := decide_eq_true c4; clear c4; obtain rfl := Option.some.inj H
  go_enter Tryd.func16, Tryd.ntmps16
  go_wp2
  go_ret
  exact ⟨by first | rfl | (simp [errW_none, errW_some] <;> rfl) | (simp [*, errW_none, errW_some] <;> rfl), pbx HB⟩
 ·rw [if_neg c4] at H; have c4b0 : decide (a1 < 0) = false := decide_eq_false c4; clear c4; replace H := Option.bind_eq_some_iff.mp H; obtain ⟨t101, A50, H⟩ := H
  replace H : (if 0 ≤ t101 then (if t101 ≤ (a0.size : Int) then ((runes_Left.f (a0.extract (t101 : Int).toNat a0.size) a2).bind fun t102 => (some t102)) else (none)) else (none)) = some r := H
  have A5 := Aside0.mk A50; clear A50
  by_cases c6 : 0 ≤ t101
  ·rw [if_pos c6] at H; have c6b0 := eq_true c6; have c6b1 : decide (0 ≤ t101) = true := decide_eq_true c6; clear c6
   by_cases c7 : t101 ≤ (a0.size : Int)
   ·rw [if_pos c7] at H; have c7b0 := eq_true c7; have c7b1 : decide (t101 ≤ (a0.size : Int)) = true := decide_eq_true c7; clear c7; replace H := Option.bind_eq_some_iff.mp H; obtain ⟨t102, A80, H⟩ := H
    replace H : (some t102) = some r := H
    have A8 := Aside0.mk A80; clear A80; obtain rfl := Option.some.inj H
    go_enter Tryd.func16, Tryd.ntmps16
    go_wp2_with (first | ((with_reducible refine gate_callee (f:=23) rfl ?_); refine goesL_ (some 12) rfl rfl Tryd.func23 (by kernel_rfl) rfl #[.string a0, .int .i64 a1] rfl (by (try simp only [List.map_toArray, List.map_cons, List.map_nil]); first | done | rfl | (simp only [List.length_drop, List.length_take]; rfl)) ?_; (with_reducible refine (runes_at.calls a0 a1 t101 _ A5.out).mono ?_); rintro e w9 ⟨rfl, hb⟩; refine ⟨_, rfl, ?_⟩; replace HB := bs_ HB hb; (try clear hb); (try clear hb2); (try clear hk); (try clear hi)) | ((with_reducible refine gate_callee (f:=14) rfl ?_); refine goesL_ (some 15) rfl rfl Tryd.func14 (by kernel_rfl) rfl #[.string (a0.extract (t101 : Int).toNat a0.size), .int .i64 a2] rfl (by (try simp only [List.map_toArray, List.map_cons, List.map_nil]); first | done | rfl | (simp only [List.length_drop, List.length_take]; rfl)) ?_; (with_reducible refine (runes_Left.calls (a0.extract (t101 : Int).toNat a0.size) a2 t102 _ A8.out).mono ?_); rintro e w10 ⟨rfl, hb⟩; refine ⟨_, rfl, ?_⟩; replace HB := bs_ HB hb; (try clear hb); (try clear hb2); (try clear hk); (try clear hi)))
    go_ret
    exact ⟨by first | rfl | (simp [errW_none, errW_some] <;> rfl) | (simp [*, errW_none, errW_some] <;> rfl), pbx HB⟩
   ·rw [if_neg c7] at H
    exact absurd H (by simp)
  ·rw [if_neg c6] at H
   exact absurd H (by simp)

end Go.Proofs.YtlfoechdakjekaaDoor.X
namespace Go.Proofs.YtlfoechdakjekaaDoor.X
open Go.RowKit Go.Proofs.YtlfoechdakjekaaDoorW.PrintWords Go.Proofs.YtlfoechdakjekaaDoorW.PrintLast Go.Proofs.YtlfoechdakjekaaDoorW.PrintMore
attribute [local go_sem] max2_int min2_int max_two min_two max_three min_three max_four min_four   -- for this text's walks alone
set_option linter.unusedVariables false
set_option linter.unusedSimpArgs false

/-! ### stringslite_HasPrefix: function 26 -/
def stringslite_HasPrefix.f (a0 : ByteArray) (a1 : ByteArray) : Option (Bool) := if (a0.size : Int) ≥ (a1.size : Int) then (if 0 ≤ (a1.size : Int) then (if (a1.size : Int) ≤ (a0.size : Int) then (some ((a0.extract 0 a1.size).toList == a1.toList)) else (none)) else (none)) else (some false)
set_option maxHeartbeats 8000000 in
set_option maxRecDepth 100000 in
theorem stringslite_HasPrefix.calls (a0 : ByteArray) (a1 : ByteArray) (r : Bool) (w : World) (h : stringslite_HasPrefix.f a0 a1 = some r) :
  Calls Tryd.prog 26 #[.string a0, .string a1] w fun e w' => e = .returned (.bool r) ∧ Drawn0 w w' := by
 have H : (if (a0.size : Int) ≥ (a1.size : Int) then (if 0 ≤ (a1.size : Int) then (if (a1.size : Int) ≤ (a0.size : Int) then (some ((a0.extract 0 a1.size).toList == a1.toList)) else (none)) else (none)) else (some false)) = some r := h
 clear h
 by_cases c3 : (a0.size : Int) ≥ (a1.size : Int)
 ·rw [if_pos c3] at H; have c3b0 : decide ((a1.size : Int) ≤ (a0.size : Int)) = true := decide_eq_true c3; have c3b1 : decide (a1.size ≤ a0.size) = true := decide_eq_true (Int.ofNat_le.mp c3); clear c3
  by_cases c4 : 0 ≤ (a1.size : Int)
  ·rw [if_pos c4] at H; have c4b0 := eq_true c4; have c4b1 : decide (0 ≤ (a1.size : Int)) = true := decide_eq_true c4; clear c4
   by_cases c5 : (a1.size : Int) ≤ (a0.size : Int)
   ·rw [if_pos c5] at H; have c5b0 := eq_true c5; have c5b1 : decide ((a1.size : Int) ≤ (a0.size : Int)) = true := decide_eq_true c5; clear c5; obtain rfl := Option.some.inj H
    go_enter Tryd.func26, Tryd.ntmps26
    go_wp2
    go_ret
    exact ⟨by first | rfl | (simp; done) | (simp [*]; done), by repeat (first | exact Drawn0.refl _ | apply Drawn0.step)⟩
   ·rw [if_neg c5] at H
    exact absurd H (by simp)
  ·rw [if_neg c4] at H
   exact absurd H (by simp)
 ·rw [if_neg c3] at H; have c3b0 : decide ((a1.size : Int) ≤ (a0.size : Int)) = false := decide_eq_false c3; have c3b1 : decide (a1.size ≤ a0.size) = false := decide_eq_false (fun h => c3 (Int.ofNat_le.mpr h)); clear c3; obtain rfl := Option.some.inj H
  go_enter Tryd.func26, Tryd.ntmps26
  go_wp2
  go_ret
  exact ⟨by first | rfl | (simp; done) | (simp [*]; done), by repeat (first | exact Drawn0.refl _ | apply Drawn0.step)⟩

end Go.Proofs.YtlfoechdakjekaaDoor.X
namespace Go.Proofs.YtlfoechdakjekaaDoor.X
open Go.RowKit Go.Proofs.YtlfoechdakjekaaDoorW.PrintWords Go.Proofs.YtlfoechdakjekaaDoorW.PrintLast Go.Proofs.YtlfoechdakjekaaDoorW.PrintMore
attribute [local go_sem] max2_int min2_int max_two min_two max_three min_three max_four min_four   -- for this text's walks alone
set_option linter.unusedVariables false
set_option linter.unusedSimpArgs false

/-! ### strings_HasPrefix: function 22 -/
def strings_HasPrefix.f (a0 : ByteArray) (a1 : ByteArray) : Option (Bool) := (stringslite_HasPrefix.f a0 a1).bind fun t101 => (some t101)
set_option maxHeartbeats 8000000 in
set_option maxRecDepth 100000 in
theorem strings_HasPrefix.calls (a0 : ByteArray) (a1 : ByteArray) (r : Bool) (w : World) (h : strings_HasPrefix.f a0 a1 = some r) :
  Calls Tryd.prog 22 #[.string a0, .string a1] w fun e w' => e = .returned (.bool r) ∧ Drawn0 w w' := by
 have H : ((stringslite_HasPrefix.f a0 a1).bind fun t101 => (some t101)) = some r := h
 clear h; replace H := Option.bind_eq_some_iff.mp H; obtain ⟨t101, A30, H⟩ := H
 replace H : (some t101) = some r := H
 have A3 := Aside0.mk A30; clear A30; obtain rfl := Option.some.inj H
 go_enter Tryd.func22, Tryd.ntmps22
 go_wp2_with (first | ((with_reducible refine gate_callee (f:=26) rfl ?_); refine goesL_ (some 7) rfl rfl Tryd.func26 (by kernel_rfl) rfl #[.string a0, .string a1] rfl (by (try simp only [List.map_toArray, List.map_cons, List.map_nil]); first | done | rfl | (simp only [List.length_drop, List.length_take]; rfl)) ?_; (with_reducible refine (stringslite_HasPrefix.calls a0 a1 t101 _ A3.out).mono ?_); rintro e w' ⟨rfl, ⟨nd, rfl⟩⟩; refine ⟨_, rfl, ?_⟩))
 go_ret
 exact ⟨by first | rfl | (simp; done) | (simp [*]; done), by repeat (first | exact Drawn0.refl _ | apply Drawn0.step)⟩

end Go.Proofs.YtlfoechdakjekaaDoor.X
/- Contracts, by hand, of runes.Find, runes.First and runes.Single: whatever the text. -/
set_option linter.unusedVariables false
set_option linter.unusedSimpArgs false
namespace Go.Proofs.YtlfoechdakjekaaDoor.X
open Go.RowKit Go.Proofs.YtlfoechdakjekaaDoorW.PrintWords Go.Proofs.YtlfoechdakjekaaDoorW.PrintLast Go.Proofs.YtlfoechdakjekaaDoorW.PrintMore
def hp (s p : ByteArray) : Bool := decide (strings_HasPrefix.f s p = some true)
theorem hp_some (s p : ByteArray) : strings_HasPrefix.f s p = some (hp s p) := by
  have : ∃ b, strings_HasPrefix.f s p = some b := by
    unfold strings_HasPrefix.f stringslite_HasPrefix.f
    by_cases h : (s.size : Int) ≥ (p.size : Int)
    · rw [if_pos h, if_pos (by omega), if_pos (by omega)]; exact ⟨_, rfl⟩
    · rw [if_neg h]; exact ⟨_, rfl⟩
  obtain ⟨b, hb⟩ := this
  unfold hp
  rw [hb]
  cases b <;> simp
def fnd (d t : ByteArray) : Nat → List Nat → Int × Bool
  | _, [] => (0, false)
  | n, p :: ps => if hp (t.extract p t.size) d = true then ((n : Int), true) else fnd d t (n + 1) ps
def runes_Find.f (a0 : ByteArray) (a1 : ByteArray) : Option (Int × Bool) := if a1.size ≤ 4611686018427387904 then (if a0.toList = ([] : List UInt8) then some (0, true) else some (fnd a0 a1 0 (runeP a1))) else none
theorem drewN_at (w : World) (n k : Nat) : (w.drewN n).heap[k]? = w.heap[k]? := rfl
theorem below_drewN {n : Nat} {w w' : World} (h : Below n w w') (m : Nat) : Below n w (w'.drewN m) := by
  have := (Drawn0.refl w').step m
  exact h.trans ⟨rfl, rfl, rfl, Nat.le_refl _, fun _ _ => rfl⟩
set_option maxHeartbeats 2000000 in
theorem runes_Find.calls (a0 : ByteArray) (a1 : ByteArray) (r1 : Int) (r2 : Bool) (w : World) (h : runes_Find.f a0 a1 = some (r1, r2)) :
    Calls Tryd.prog 12 #[.string a0, .string a1] w fun e w' => e = .returned (.tuple #[.int .i64 r1, .bool r2]) ∧ Below w.heap.size w w' := by
  unfold runes_Find.f at h
  have hs : a1.size ≤ 4611686018427387904 := by
    by_cases hs : a1.size ≤ 4611686018427387904
    · exact hs
    · rw [if_neg hs] at h; cases h
  rw [if_pos hs] at h
  by_cases he : a0.toList = ([] : List UInt8)
  · rw [if_pos he] at h
    simp only [Option.some.injEq, Prod.mk.injEq] at h
    obtain ⟨rfl, rfl⟩ := h
    have c1 : (a0.toList == ([] : List UInt8)) = true := by rw [he]; rfl
    go_enter Tryd.func12, Tryd.ntmps12
    go_wp2
    go_ret2
    exact ⟨by first | rfl | (simp; done) | (simp [*]; done), Below.refl _ _⟩
  · rw [if_neg he] at h
    have h := Option.some.inj h
    have c1 : (a0.toList == ([] : List UInt8)) = false := beq_eq_false_iff_ne.2 he
    go_enter Tryd.func12, Tryd.ntmps12
    go_wp2
    go_loopw [6] (fun v wr => ∃ (pos fuel n : Nat), v = .int .i64 n ∧ wr.heap[w.heap.size]? = some (.stringIter a1 pos) ∧ Below w.heap.size w wr ∧ fnd a0 a1 n (posF a1 fuel pos) = (r1, r2) ∧ a1.size ≤ pos + fuel ∧ n ≤ pos) (fun _ wr => a1.size - wr.iterPos w.heap.size)
    case atStart =>
      exact ⟨0, a1.size, 0, rfl, World.iter_heap w a1 0, iter_below w a1 0, h, by omega, by omega⟩
    case round =>
      obtain ⟨pos, fuel, n, rfl, hit, hbw, hn, hfu, hnp⟩ := hrel
      have HN := Aside0.mk hn
      clear hn
      have hsz : w.heap.size < wr.heap.size := (Array.getElem?_eq_some_iff.1 hit).1
      by_cases hp_ : pos < a1.size
      · have hnx : ∀ ty, (Instr.next (.pointer (some ⟨w.heap.size, 0, none⟩)) true ty).run Tryd.prog wr = _ := fun ty => Lib.run_next_any_at wr w.heap.size a1 pos ty hit hp_
        have hwd := wid_pos a1 pos hp_
        have hd1 := decode_le a1 pos
        have hit2 := Lib.iterAt_heap wr w.heap.size a1 pos (pos + (Utf8.decode a1 pos).2) hit
        have hbw2 := Lib.below_iterAt hbw (k := w.heap.size) (by omega) a1 (pos + (Utf8.decode a1 pos).2)
        obtain ⟨f, rfl⟩ : ∃ f, fuel = f + 1 := ⟨fuel - 1, by omega⟩
        have HI := Aside0.mk hit
        have HI2 := Aside0.mk hit2
        have HB2 := Aside0.mk hbw2
        clear hit hit2 hbw2
        have hpost := HN.out
        simp only [posF, if_pos hp_, fnd] at hpost
        have A3 := Aside0.mk (hp_some (a1.extract pos a1.size) a0)
        cases hq : hp (a1.extract pos a1.size) a0 with
        | true =>
          rw [hq] at A3 hpost
          simp only [if_true, Prod.mk.injEq] at hpost
          obtain ⟨rfl, rfl⟩ := hpost
          go_wp2_with (first | (go_at_call 22; (with_reducible refine (strings_HasPrefix.calls (a1.extract pos a1.size) a0 true _ A3.out).mono ?_); rintro e w' ⟨rfl, ⟨nd, rfl⟩⟩; (try first | exact ⟨rfl, _, World.drewN_drewN _ _ _⟩ | exact ⟨rfl, _, Eq.trans (World.drewN_drewN _ _ _) (congrArg (World.drewN _) (Nat.add_assoc _ _ _))⟩)))
          go_ret2
          exact ⟨by first | rfl | (simp; done) | (simp [*]; done), by first | exact HB2.out | (repeat (first | exact HB2.out | apply below_drewN))⟩
        | false =>
          rw [hq] at A3 hpost
          simp only [Bool.false_eq_true, if_false] at hpost
          have HP := Aside0.mk hpost
          clear hpost
          go_wp2_with (first | (go_at_call 22; (with_reducible refine (strings_HasPrefix.calls (a1.extract pos a1.size) a0 false _ A3.out).mono ?_); rintro e w' ⟨rfl, ⟨nd, rfl⟩⟩; (try first | exact ⟨rfl, _, World.drewN_drewN _ _ _⟩ | exact ⟨rfl, _, Eq.trans (World.drewN_drewN _ _ _) (congrArg (World.drewN _) (Nat.add_assoc _ _ _))⟩)))
          go_roundw
          case rel =>
            refine ⟨pos + (Utf8.decode a1 pos).2, f, n + 1, by first | rfl | go_num, ?_, ?_, HP.out, by omega, by omega⟩
            · first | exact HI2.out | (simp only [drewN_at]; exact HI2.out)
            · first | exact HB2.out | (repeat (first | exact HB2.out | apply below_drewN))
          case measure =>
            have e1 : wr.iterPos w.heap.size = pos := by simp only [World.iterPos, HI.out]
            have e2 : (wr.iterAt w.heap.size a1 (pos + (Utf8.decode a1 pos).2)).iterPos w.heap.size = pos + (Utf8.decode a1 pos).2 := by simp only [World.iterPos, HI2.out]
            have e3 : ∀ m, ((wr.iterAt w.heap.size a1 (pos + (Utf8.decode a1 pos).2)).drewN m).iterPos w.heap.size = pos + (Utf8.decode a1 pos).2 := by intro m; simp only [World.iterPos, drewN_at, HI2.out]
            first | (rw [e1, e2]; omega) | (rw [e1, e3]; omega)
      · have hnx : ∀ ty, (Instr.next (.pointer (some ⟨w.heap.size, 0, none⟩)) true ty).run Tryd.prog wr = _ := fun ty => Lib.run_next_end_at wr w.heap.size a1 pos ty hit hp_
        have e := HN.out
        rw [posF_end a1 fuel pos hp_] at e
        simp only [fnd, Prod.mk.injEq] at e
        obtain ⟨rfl, rfl⟩ := e
        go_wp2
        go_ret2
        exact ⟨by first | rfl | (simp; done) | (simp [*]; done), hbw⟩

def runes_First.f (a0 : ByteArray) : Option (Int × Bool) := if 0 < a0.size then some (((Utf8.decode a0 0).1 : Int), true) else some (0, false)
set_option maxHeartbeats 2000000 in
theorem runes_First.calls (a0 : ByteArray) (r1 : Int) (r2 : Bool) (w : World) (h : runes_First.f a0 = some (r1, r2)) :
    Calls Tryd.prog 9 #[.string a0] w fun e w' => e = .returned (.tuple #[.int .i32 r1, .bool r2]) ∧ Below w.heap.size w w' := by
  unfold runes_First.f at h
  go_enter Tryd.func9, Tryd.ntmps9
  go_wp2
  go_loopw [] (fun wr => wr.heap[w.heap.size]? = some (.stringIter a0 0) ∧ Below w.heap.size w wr) (fun wr => 0)
  case atStart =>
    exact ⟨World.iter_heap w a0 0, iter_below w a0 0⟩
  case round =>
    obtain ⟨hit, hbw⟩ := hrel
    by_cases hp_ : 0 < a0.size
    · rw [if_pos hp_] at h
      simp only [Option.some.injEq, Prod.mk.injEq] at h
      obtain ⟨rfl, rfl⟩ := h
      have hnx : ∀ ty, (Instr.next (.pointer (some ⟨w.heap.size, 0, none⟩)) true ty).run Tryd.prog wr = _ := fun ty => Lib.run_next_any_at wr w.heap.size a0 0 ty hit hp_
      have hsz : w.heap.size < wr.heap.size := (Array.getElem?_eq_some_iff.1 hit).1
      have hd1 := decode_le a0 0
      have hbw2 := Lib.below_iterAt hbw (k := w.heap.size) (by omega) a0 (0 + (Utf8.decode a0 0).2)
      go_wp2
      go_ret2
      exact ⟨by first | rfl | (simp; done) | (simp [*]; done), by simpa using hbw2⟩
    · rw [if_neg hp_] at h
      simp only [Option.some.injEq, Prod.mk.injEq] at h
      obtain ⟨rfl, rfl⟩ := h
      have hnx : ∀ ty, (Instr.next (.pointer (some ⟨w.heap.size, 0, none⟩)) true ty).run Tryd.prog wr = _ := fun ty => Lib.run_next_end_at wr w.heap.size a0 0 ty hit hp_
      go_wp2
      go_ret2
      exact ⟨by first | rfl | (simp; done) | (simp [*]; done), hbw⟩
end Go.Proofs.YtlfoechdakjekaaDoor.X
namespace Go.Proofs.YtlfoechdakjekaaDoor.X
open Go.RowKit Go.Proofs.YtlfoechdakjekaaDoorW.PrintWords Go.Proofs.YtlfoechdakjekaaDoorW.PrintLast Go.Proofs.YtlfoechdakjekaaDoorW.PrintMore
attribute [local go_sem] max2_int min2_int max_two min_two max_three min_three max_four min_four   -- for this text's walks alone
set_option linter.unusedVariables false
set_option linter.unusedSimpArgs false

/-! ### oculuslaw13_alive: function 4 -/
def oculuslaw13_alive.f (k : Nat)  : Option (Bool) := (runes_Find.f (⟨#[255]⟩ : ByteArray) (⟨#[97, 195, 169, 255, 122]⟩ : ByteArray)).bind fun bt101 => ((runes_First.f (⟨#[226, 130, 172, 120]⟩ : ByteArray)).bind fun bt103 => ((runes_Single.f k 8364).bind fun bt105 => ((runes_Count.f (⟨#[97, 195, 169, 255, 122]⟩ : ByteArray)).bind fun t107 => (if t107 = 4 then ((runes_Left.f (⟨#[97, 195, 169, 255, 122]⟩ : ByteArray) 2).bind fun t108 => (if t108.toList = ([97, 195, 169] : List UInt8) then ((runes_Right.f (⟨#[97, 195, 169, 255, 122]⟩ : ByteArray) 1).bind fun t109 => (if t109.toList = ([122] : List UInt8) then ((runes_Mid.f (⟨#[97, 195, 169, 255, 122]⟩ : ByteArray) 1 2).bind fun t110 => (if t110.toList = ([195, 169, 255] : List UInt8) then (if bt101.2 = true then (if bt101.1 = 2 then (if bt103.2 = true then (if bt103.1 = 8364 then (if bt105.2 = true then (some (bt105.1.toList == ([226, 130, 172] : List UInt8))) else (none)) else (none)) else (none)) else (none)) else (none)) else (none))) else (none))) else (none))) else (none)))))
set_option maxHeartbeats 8000000 in
set_option maxRecDepth 100000 in
theorem oculuslaw13_alive.calls (k : Nat)  (r : Bool) (w : World) (h : oculuslaw13_alive.f k  = some r) :
  Calls Tryd.prog 4 #[] w fun e w' => e = .returned (.bool r) ∧ Below w.heap.size w w' := by
 have HB := Aside0.mk (Below.refl w.heap.size w)
 have H : ((runes_Find.f (⟨#[255]⟩ : ByteArray) (⟨#[97, 195, 169, 255, 122]⟩ : ByteArray)).bind fun bt101 => ((runes_First.f (⟨#[226, 130, 172, 120]⟩ : ByteArray)).bind fun bt103 => ((runes_Single.f k 8364).bind fun bt105 => ((runes_Count.f (⟨#[97, 195, 169, 255, 122]⟩ : ByteArray)).bind fun t107 => (if t107 = 4 then ((runes_Left.f (⟨#[97, 195, 169, 255, 122]⟩ : ByteArray) 2).bind fun t108 => (if t108.toList = ([97, 195, 169] : List UInt8) then ((runes_Right.f (⟨#[97, 195, 169, 255, 122]⟩ : ByteArray) 1).bind fun t109 => (if t109.toList = ([122] : List UInt8) then ((runes_Mid.f (⟨#[97, 195, 169, 255, 122]⟩ : ByteArray) 1 2).bind fun t110 => (if t110.toList = ([195, 169, 255] : List UInt8) then (if bt101.2 = true then (if bt101.1 = 2 then (if bt103.2 = true then (if bt103.1 = 8364 then (if bt105.2 = true then (some (bt105.1.toList == ([226, 130, 172] : List UInt8))) else (none)) else (none)) else (none)) else (none)) else (none)) else (none))) else (none))) else (none))) else (none)))))) = some r := h
 clear h; replace H := Option.bind_eq_some_iff.mp H; obtain ⟨⟨t101, t102⟩, A10, H⟩ := H
 replace H : ((runes_First.f (⟨#[226, 130, 172, 120]⟩ : ByteArray)).bind fun bt103 => ((runes_Single.f k 8364).bind fun bt105 => ((runes_Count.f (⟨#[97, 195, 169, 255, 122]⟩ : ByteArray)).bind fun t107 => (if t107 = 4 then ((runes_Left.f (⟨#[97, 195, 169, 255, 122]⟩ : ByteArray) 2).bind fun t108 => (if t108.toList = ([97, 195, 169] : List UInt8) then ((runes_Right.f (⟨#[97, 195, 169, 255, 122]⟩ : ByteArray) 1).bind fun t109 => (if t109.toList = ([122] : List UInt8) then ((runes_Mid.f (⟨#[97, 195, 169, 255, 122]⟩ : ByteArray) 1 2).bind fun t110 => (if t110.toList = ([195, 169, 255] : List UInt8) then (if t102 = true then (if t101 = 2 then (if bt103.2 = true then (if bt103.1 = 8364 then (if bt105.2 = true then (some (bt105.1.toList == ([226, 130, 172] : List UInt8))) else (none)) else (none)) else (none)) else (none)) else (none)) else (none))) else (none))) else (none))) else (none))))) = some r := H
 have A1 := Aside0.mk A10; clear A10; replace H := Option.bind_eq_some_iff.mp H; obtain ⟨⟨t103, t104⟩, A20, H⟩ := H
 replace H : ((runes_Single.f k 8364).bind fun bt105 => ((runes_Count.f (⟨#[97, 195, 169, 255, 122]⟩ : ByteArray)).bind fun t107 => (if t107 = 4 then ((runes_Left.f (⟨#[97, 195, 169, 255, 122]⟩ : ByteArray) 2).bind fun t108 => (if t108.toList = ([97, 195, 169] : List UInt8) then ((runes_Right.f (⟨#[97, 195, 169, 255, 122]⟩ : ByteArray) 1).bind fun t109 => (if t109.toList = ([122] : List UInt8) then ((runes_Mid.f (⟨#[97, 195, 169, 255, 122]⟩ : ByteArray) 1 2).bind fun t110 => (if t110.toList = ([195, 169, 255] : List UInt8) then (if t102 = true then (if t101 = 2 then (if t104 = true then (if t103 = 8364 then (if bt105.2 = true then (some (bt105.1.toList == ([226, 130, 172] : List UInt8))) else (none)) else (none)) else (none)) else (none)) else (none)) else (none))) else (none))) else (none))) else (none)))) = some r := H
 have A2 := Aside0.mk A20; clear A20; replace H := Option.bind_eq_some_iff.mp H; obtain ⟨⟨t105, t106⟩, A30, H⟩ := H
 replace H : ((runes_Count.f (⟨#[97, 195, 169, 255, 122]⟩ : ByteArray)).bind fun t107 => (if t107 = 4 then ((runes_Left.f (⟨#[97, 195, 169, 255, 122]⟩ : ByteArray) 2).bind fun t108 => (if t108.toList = ([97, 195, 169] : List UInt8) then ((runes_Right.f (⟨#[97, 195, 169, 255, 122]⟩ : ByteArray) 1).bind fun t109 => (if t109.toList = ([122] : List UInt8) then ((runes_Mid.f (⟨#[97, 195, 169, 255, 122]⟩ : ByteArray) 1 2).bind fun t110 => (if t110.toList = ([195, 169, 255] : List UInt8) then (if t102 = true then (if t101 = 2 then (if t104 = true then (if t103 = 8364 then (if t106 = true then (some (t105.toList == ([226, 130, 172] : List UInt8))) else (none)) else (none)) else (none)) else (none)) else (none)) else (none))) else (none))) else (none))) else (none))) = some r := H
 have A3 := Aside0.mk A30; clear A30; replace H := Option.bind_eq_some_iff.mp H; obtain ⟨t107, A40, H⟩ := H
 replace H : (if t107 = 4 then ((runes_Left.f (⟨#[97, 195, 169, 255, 122]⟩ : ByteArray) 2).bind fun t108 => (if t108.toList = ([97, 195, 169] : List UInt8) then ((runes_Right.f (⟨#[97, 195, 169, 255, 122]⟩ : ByteArray) 1).bind fun t109 => (if t109.toList = ([122] : List UInt8) then ((runes_Mid.f (⟨#[97, 195, 169, 255, 122]⟩ : ByteArray) 1 2).bind fun t110 => (if t110.toList = ([195, 169, 255] : List UInt8) then (if t102 = true then (if t101 = 2 then (if t104 = true then (if t103 = 8364 then (if t106 = true then (some (t105.toList == ([226, 130, 172] : List UInt8))) else (none)) else (none)) else (none)) else (none)) else (none)) else (none))) else (none))) else (none))) else (none)) = some r := H
 have A4 := Aside0.mk A40; clear A40
 by_cases c5 : t107 = 4
 ·rw [if_pos c5] at H; have c5b0 : (t107 == 4) = true := beq_iff_eq.mpr c5; have c5b1 : (t107 != 4) = false := bne_eq_false_iff_eq.mpr c5; clear c5; replace H := Option.bind_eq_some_iff.mp H; obtain ⟨t108, A60, H⟩ := H
  replace H : (if t108.toList = ([97, 195, 169] : List UInt8) then ((runes_Right.f (⟨#[97, 195, 169, 255, 122]⟩ : ByteArray) 1).bind fun t109 => (if t109.toList = ([122] : List UInt8) then ((runes_Mid.f (⟨#[97, 195, 169, 255, 122]⟩ : ByteArray) 1 2).bind fun t110 => (if t110.toList = ([195, 169, 255] : List UInt8) then (if t102 = true then (if t101 = 2 then (if t104 = true then (if t103 = 8364 then (if t106 = true then (some (t105.toList == ([226, 130, 172] : List UInt8))) else (none)) else (none)) else (none)) else (none)) else (none)) else (none))) else (none))) else (none)) = some r := H
  have A6 := Aside0.mk A60; clear A60
  by_cases c7 : t108.toList = ([97, 195, 169] : List UInt8)
  ·rw [if_pos c7] at H; have c7b0 : (t108.toList == ([97, 195, 169] : List UInt8)) = true := beq_iff_eq.mpr c7; have c7b1 : (t108.toList != ([97, 195, 169] : List UInt8)) = false := bne_eq_false_iff_eq.mpr c7; clear c7; replace H := Option.bind_eq_some_iff.mp H; obtain ⟨t109, A80, H⟩ := H
   replace H : (if t109.toList = ([122] : List UInt8) then ((runes_Mid.f (⟨#[97, 195, 169, 255, 122]⟩ : ByteArray) 1 2).bind fun t110 => (if t110.toList = ([195, 169, 255] : List UInt8) then (if t102 = true then (if t101 = 2 then (if t104 = true then (if t103 = 8364 then (if t106 = true then (some (t105.toList == ([226, 130, 172] : List UInt8))) else (none)) else (none)) else (none)) else (none)) else (none)) else (none))) else (none)) = some r := H
   have A8 := Aside0.mk A80; clear A80
   by_cases c9 : t109.toList = ([122] : List UInt8)
   ·rw [if_pos c9] at H; have c9b0 : (t109.toList == ([122] : List UInt8)) = true := beq_iff_eq.mpr c9; have c9b1 : (t109.toList != ([122] : List UInt8)) = false := bne_eq_false_iff_eq.mpr c9; clear c9; replace H := Option.bind_eq_some_iff.mp H; obtain ⟨t110, A100, H⟩ := H
    replace H : (if t110.toList = ([195, 169, 255] : List UInt8) then (if t102 = true then (if t101 = 2 then (if t104 = true then (if t103 = 8364 then (if t106 = true then (some (t105.toList == ([226, 130, 172] : List UInt8))) else (none)) else (none)) else (none)) else (none)) else (none)) else (none)) = some r := H
    have A10 := Aside0.mk A100; clear A100
    by_cases c11 : t110.toList = ([195, 169, 255] : List UInt8)
    ·rw [if_pos c11] at H; have c11b0 : (t110.toList == ([195, 169, 255] : List UInt8)) = true := beq_iff_eq.mpr c11; have c11b1 : (t110.toList != ([195, 169, 255] : List UInt8)) = false := bne_eq_false_iff_eq.mpr c11; clear c11
     by_cases c12 : t102 = true
     ·subst c12
      have H1 : (if t101 = 2 then (if t104 = true then (if t103 = 8364 then (if t106 = true then (some (t105.toList == ([226, 130, 172] : List UInt8))) else (none)) else (none)) else (none)) else (none)) = some r := by rw [if_pos rfl] at H; exact H
      clear H; have H := H1; clear H1
      by_cases c13 : t101 = 2
      ·rw [if_pos c13] at H; have c13b0 : (t101 == 2) = true := beq_iff_eq.mpr c13; have c13b1 : (t101 != 2) = false := bne_eq_false_iff_eq.mpr c13; clear c13
       by_cases c14 : t104 = true
       ·subst c14
        have H1 : (if t103 = 8364 then (if t106 = true then (some (t105.toList == ([226, 130, 172] : List UInt8))) else (none)) else (none)) = some r := by rw [if_pos rfl] at H; exact H
        clear H; have H := H1; clear H1
        by_cases c15 : t103 = 8364
        ·rw [if_pos c15] at H; have c15b0 : (t103 == 8364) = true := beq_iff_eq.mpr c15; have c15b1 : (t103 != 8364) = false := bne_eq_false_iff_eq.mpr c15; clear c15
         by_cases c16 : t106 = true
         ·subst c16
          have H1 : (some (t105.toList == ([226, 130, 172] : List UInt8))) = some r := by rw [if_pos rfl] at H; exact H
          clear H; have H := H1; clear H1; obtain rfl := Option.some.inj H
          go_enter Tryd.func4, Tryd.ntmps4
          go_wp2_with (first | ((with_reducible refine gate_callee (f:=12) rfl ?_); refine goesL_ (some 10) rfl rfl Tryd.func12 (by kernel_rfl) rfl #[.string (⟨#[255]⟩ : ByteArray), .string (⟨#[97, 195, 169, 255, 122]⟩ : ByteArray)] rfl (by (try simp only [List.map_toArray, List.map_cons, List.map_nil]); first | done | rfl | (simp only [List.length_drop, List.length_take]; rfl)) ?_; (with_reducible refine (runes_Find.calls (⟨#[255]⟩ : ByteArray) (⟨#[97, 195, 169, 255, 122]⟩ : ByteArray) t101 true _ A1.out).mono ?_); rintro e w17 ⟨rfl, hb⟩; refine ⟨_, rfl, ?_⟩; replace HB := bs_ HB hb; (try clear hb); (try clear hb2); (try clear hk); (try clear hi)) | ((with_reducible refine gate_callee (f:=9) rfl ?_); refine goesL_ (some 14) rfl rfl Tryd.func9 (by kernel_rfl) rfl #[.string (⟨#[226, 130, 172, 120]⟩ : ByteArray)] rfl (by (try simp only [List.map_toArray, List.map_cons, List.map_nil]); first | done | rfl | (simp only [List.length_drop, List.length_take]; rfl)) ?_; (with_reducible refine (runes_First.calls (⟨#[226, 130, 172, 120]⟩ : ByteArray) t103 true _ A2.out).mono ?_); rintro e w18 ⟨rfl, hb⟩; refine ⟨_, rfl, ?_⟩; replace HB := bs_ HB hb; (try clear hb); (try clear hb2); (try clear hk); (try clear hi)) | ((with_reducible refine gate_callee (f:=5) rfl ?_); refine goesL_ (some 18) rfl rfl Tryd.func5 (by kernel_rfl) rfl #[.int .i64 8364] rfl (by (try simp only [List.map_toArray, List.map_cons, List.map_nil]); first | done | rfl | (simp only [List.length_drop, List.length_take]; rfl)) ?_; (with_reducible refine (runes_Single.calls k 8364 t105 true _ A3.out).mono ?_); rintro e w' ⟨rfl, ⟨nd, rfl⟩⟩; refine ⟨_, rfl, ?_⟩) | ((with_reducible refine gate_callee (f:=13) rfl ?_); refine goesL_ (some 22) rfl rfl Tryd.func13 (by kernel_rfl) rfl #[.string (⟨#[97, 195, 169, 255, 122]⟩ : ByteArray)] rfl (by (try simp only [List.map_toArray, List.map_cons, List.map_nil]); first | done | rfl | (simp only [List.length_drop, List.length_take]; rfl)) ?_; (with_reducible refine (runes_Count.calls (⟨#[97, 195, 169, 255, 122]⟩ : ByteArray) t107 _ A4.out).mono ?_); rintro e w19 ⟨rfl, hb⟩; refine ⟨_, rfl, ?_⟩; replace HB := bs_ HB hb; (try clear hb); (try clear hb2); (try clear hk); (try clear hi)) | (go_at_call 14; (with_reducible refine (runes_Left.calls (⟨#[97, 195, 169, 255, 122]⟩ : ByteArray) 2 t108 _ A6.out).mono ?_); rintro e w20 ⟨rfl, hb⟩; replace HB := bs_ HB hb; (try clear hb); (try clear hb2); (try clear hk); (try clear hi)) | (go_at_call 15; (with_reducible refine (runes_Right.calls (⟨#[97, 195, 169, 255, 122]⟩ : ByteArray) 1 t109 _ A8.out).mono ?_); rintro e w21 ⟨rfl, hb⟩; replace HB := bs_ HB hb; (try clear hb); (try clear hb2); (try clear hk); (try clear hi)) | (go_at_call 16; (with_reducible refine (runes_Mid.calls (⟨#[97, 195, 169, 255, 122]⟩ : ByteArray) 1 2 t110 _ A10.out).mono ?_); rintro e w22 ⟨rfl, hb⟩; replace HB := bs_ HB hb; (try clear hb); (try clear hb2); (try clear hk); (try clear hi)))
          go_ret
          exact ⟨by first | rfl | (simp [errW_none, errW_some] <;> rfl) | (simp [*, errW_none, errW_some] <;> rfl), pbx HB⟩
         ·replace c16 := Bool.eq_false_iff.mpr c16; subst c16
          have H1 : (none) = some r := by rw [if_neg (show ¬ (false = true) by decide)] at H; exact H
          clear H; have H := H1; clear H1
          exact absurd H (by simp)
        ·rw [if_neg c15] at H
         exact absurd H (by simp)
       ·replace c14 := Bool.eq_false_iff.mpr c14; subst c14
        have H1 : (none) = some r := by rw [if_neg (show ¬ (false = true) by decide)] at H; exact H
        clear H; have H := H1; clear H1
        exact absurd H (by simp)
      ·rw [if_neg c13] at H
       exact absurd H (by simp)
     ·replace c12 := Bool.eq_false_iff.mpr c12; subst c12
      have H1 : (none) = some r := by rw [if_neg (show ¬ (false = true) by decide)] at H; exact H
      clear H; have H := H1; clear H1
      exact absurd H (by simp)
    ·rw [if_neg c11] at H
     exact absurd H (by simp)
   ·rw [if_neg c9] at H
    exact absurd H (by simp)
  ·rw [if_neg c7] at H
   exact absurd H (by simp)
 ·rw [if_neg c5] at H
  exact absurd H (by simp)

end Go.Proofs.YtlfoechdakjekaaDoor.X
namespace Go.Proofs.YtlfoechdakjekaaDoor.X
open Go.RowKit Go.Proofs.YtlfoechdakjekaaDoorW.PrintWords Go.Proofs.YtlfoechdakjekaaDoorW.PrintLast Go.Proofs.YtlfoechdakjekaaDoorW.PrintMore
attribute [local go_sem] max2_int min2_int max_two min_two max_three min_three max_four min_four   -- for this text's walks alone
set_option linter.unusedVariables false
set_option linter.unusedSimpArgs false

/-! ### oculusref13_Single: function 6 -/
def oculusref13_Single.j0 : Nat → Int → Bool → Option (ByteArray)
 | 0, _, _ => none
 | k + 1, x0, x16 => if x16 = true then (some (⟨#[]⟩ : ByteArray)) else (if x0 < 128 then (some (strOfNums (([(x0) % 256] : List Int)))) else (if x0 < 2048 then (some (strOfNums (([(wrap64 (192 + (wrap64 (Int.tdiv x0 64)))) % 256, (wrap64 (128 + (Int.tmod x0 64))) % 256] : List Int)))) else (if x0 < 65536 then (some (strOfNums (([(wrap64 (224 + (wrap64 (Int.tdiv x0 4096)))) % 256, (wrap64 (128 + (Int.tmod (wrap64 (Int.tdiv x0 64)) 64))) % 256, (wrap64 (128 + (Int.tmod x0 64))) % 256] : List Int)))) else (some (strOfNums (([(wrap64 (240 + (wrap64 (Int.tdiv x0 262144)))) % 256, (wrap64 (128 + (Int.tmod (wrap64 (Int.tdiv x0 4096)) 64))) % 256, (wrap64 (128 + (Int.tmod (wrap64 (Int.tdiv x0 64)) 64))) % 256, (wrap64 (128 + (Int.tmod x0 64))) % 256] : List Int)))))))
def oculusref13_Single.f (k : Nat) (a0 : Int) : Option (ByteArray) := if a0 < 1 then (oculusref13_Single.j0 k a0 true) else (if a0 > 1114111 then (oculusref13_Single.j0 k a0 true) else (if a0 ≥ 55296 then (oculusref13_Single.j0 k a0 (decide (a0 ≤ 57343))) else (oculusref13_Single.j0 k a0 false)))
set_option maxHeartbeats 8000000 in
set_option maxRecDepth 100000 in
theorem oculusref13_Single.calls (k : Nat) (a0 : Int) (r : ByteArray) (w : World) (h : oculusref13_Single.f k a0 = some r) :
  Calls Tryd.prog 6 #[.int .i64 a0] w fun e w' => e = .returned (.string r) ∧ Below w.heap.size w w' := by
 have HB := Aside0.mk (Below.refl w.heap.size w)
 have H : (if a0 < 1 then (oculusref13_Single.j0 k a0 true) else (if a0 > 1114111 then (oculusref13_Single.j0 k a0 true) else (if a0 ≥ 55296 then (oculusref13_Single.j0 k a0 (decide (a0 ≤ 57343))) else (oculusref13_Single.j0 k a0 false)))) = some r := h
 clear h; have HC2 := Aside0.mk H; clear H
 go_enter Tryd.func6, Tryd.ntmps6
 go_upto_region 1 with (fail)
 go_cut [16] (fun v16 wc => ∃ (kq : Nat) (x16_1 : Bool), v16 = .bool x16_1 ∧ Aside0 (oculusref13_Single.j0 kq a0 x16_1 = some r) ∧ Aside0 (kq ≤ k) ∧ Aside0 (Below w.heap.size w wc))
 case first =>
  have H := HC2.out; clear HC2
  by_cases c3 : a0 < 1
  ·rw [if_pos c3] at H; have c3b0 : decide (a0 < 1) = true := decide_eq_true c3; clear c3; (first | rw [c3b0] | (simp only [i64_w, i32_w]; rw [c3b0]) | skip)
   have H' := Aside0.mk H
   clear H
   go_wp2
   go_meet
   case rel => exact ⟨_, (true), (by first | rfl | (simp; done) | (simp [*]; done)), H', ⟨by first | omega | exact Nat.le_refl _⟩, ⟨pbx HB⟩⟩
  ·rw [if_neg c3] at H; have c3b0 : decide (a0 < 1) = false := decide_eq_false c3; clear c3; (first | rw [c3b0] | (simp only [i64_w, i32_w]; rw [c3b0]) | skip)
   by_cases c4 : a0 > 1114111
   ·rw [if_pos c4] at H; have c4b0 : decide (1114111 < a0) = true := decide_eq_true c4; clear c4
    have H' := Aside0.mk H
    clear H
    go_wp2
    go_meet
    case rel => exact ⟨_, (true), (by first | rfl | (simp; done) | (simp [*]; done)), H', ⟨by first | omega | exact Nat.le_refl _⟩, ⟨pbx HB⟩⟩
   ·rw [if_neg c4] at H; have c4b0 : decide (1114111 < a0) = false := decide_eq_false c4; clear c4
    by_cases c5 : a0 ≥ 55296
    ·rw [if_pos c5] at H; have c5b0 : decide (55296 ≤ a0) = true := decide_eq_true c5; clear c5
     have H' := Aside0.mk H
     clear H
     go_wp2
     go_meet
     case rel => exact ⟨_, (decide (a0 ≤ 57343)), (by first | rfl | (simp; done) | (simp [*]; done)), H', ⟨by first | omega | exact Nat.le_refl _⟩, ⟨pbx HB⟩⟩
    ·rw [if_neg c5] at H; have c5b0 : decide (55296 ≤ a0) = false := decide_eq_false c5; clear c5
     have H' := Aside0.mk H
     clear H
     go_wp2
     go_meet
     case rel => exact ⟨_, (false), (by first | rfl | (simp; done) | (simp [*]; done)), H', ⟨by first | omega | exact Nat.le_refl _⟩, ⟨pbx HB⟩⟩
 case rest =>
  clear HC2; (try clear p2); (try clear c3); (try clear c3b0); (try clear c4); (try clear c4b0); (try clear c5); (try clear c5b0); obtain ⟨kq, x16_1, rfl, HA, HJ1, HB⟩ := hcut
  cases kq with
  | zero => exact absurd HA.out (by simp [oculusref13_Single.j0])
  | succ kj1 =>
   have H := HA.out; clear HA
   simp only [oculusref13_Single.j0] at H
   by_cases c6 : x16_1 = true
   ·subst c6
    have H1 : (some (⟨#[]⟩ : ByteArray)) = some r := by rw [if_pos rfl] at H; exact H
    clear H; have H := H1; clear H1; obtain rfl := Option.some.inj H
    go_wp2
    go_ret
    exact ⟨by first | rfl | (simp [errW_none, errW_some] <;> rfl) | (simp [*, errW_none, errW_some] <;> rfl), pbx HB⟩
   ·replace c6 := Bool.eq_false_iff.mpr c6; subst c6
    have H1 : (if a0 < 128 then (some (strOfNums (([(a0) % 256] : List Int)))) else (if a0 < 2048 then (some (strOfNums (([(wrap64 (192 + (wrap64 (Int.tdiv a0 64)))) % 256, (wrap64 (128 + (Int.tmod a0 64))) % 256] : List Int)))) else (if a0 < 65536 then (some (strOfNums (([(wrap64 (224 + (wrap64 (Int.tdiv a0 4096)))) % 256, (wrap64 (128 + (Int.tmod (wrap64 (Int.tdiv a0 64)) 64))) % 256, (wrap64 (128 + (Int.tmod a0 64))) % 256] : List Int)))) else (some (strOfNums (([(wrap64 (240 + (wrap64 (Int.tdiv a0 262144)))) % 256, (wrap64 (128 + (Int.tmod (wrap64 (Int.tdiv a0 4096)) 64))) % 256, (wrap64 (128 + (Int.tmod (wrap64 (Int.tdiv a0 64)) 64))) % 256, (wrap64 (128 + (Int.tmod a0 64))) % 256] : List Int))))))) = some r := by rw [if_neg (show ¬ (false = true) by decide)] at H; exact H
    clear H; have H := H1; clear H1
    by_cases c7 : a0 < 128
    ·rw [if_pos c7] at H; have c7b0 : decide (a0 < 128) = true := decide_eq_true c7; clear c7; obtain ⟨y101, hy101⟩ : ∃ y_ : List Int, y_ = (([(a0) % 256] : List Int)) := ⟨_, rfl⟩
     replace H : (some (strOfNums y101)) = some r := by first | (rw [hy101]; with_reducible exact H) | (have H2_ := (Option.bind_some _ _).symm.trans H; rw [hy101]; with_reducible exact H2_) | (have H2_ := (Option.bind_some _ _).symm.trans H; with_reducible exact H2_) | with_reducible exact H | (rw [hy101]; exact H) | exact H
     have Ny101 := Aside0.mk hy101; clear hy101; obtain rfl := Option.some.inj H
     go_wp2_with (first | ((with_reducible refine gate_dst (N:=21) rfl ?_); refine Kd.R_lit (Kd.int .u8) _ 5 ?hg (N:=21) ?hd (xs := ([(a0) % 256] : List Int)) (inner := [.int .u8 ((a0) % 256)]) (ok := fun _ => True) (okp := fun _ => True) ?hr ?hp (fun _ hk => hk) trivial (Below.refl _ _) (Nat.le_refl _) (by simp) ?_; (case hd => rfl); (case hg => rfl); (case hr => first | (go_simp; done) | (go_simp; rfl)); (case hp => exact (Reps.one (show Kd.M (Kd.int .u8) _ _ _ ((a0) % 256) [.int .u8 ((a0) % 256)] from rfl) (Reps.none _ _))); intro v102 w8 ho9 hb hg_ hnew_; clear hg_ hnew_; (first | rw [← Ny101.out] at ho9 | (simp only [Int.reduceToNat] at ho9; rw [← Ny101.out] at ho9)); have HO103 := Aside0.mk (Kd.R_lower ho9 (below_size (pbx HB))); replace HB := bs_ HB hb; clear hb ho9; have hcv10 := own_string (P := Tryd.prog) Tryd.underlying38 Tryd.underlying5 Tryd.underlying9 (Kd.own_of_R HO103.out)))
     go_ret
     exact ⟨by first | rfl | (simp [errW_none, errW_some] <;> rfl) | (simp [*, errW_none, errW_some] <;> rfl), pbx HB⟩
    ·rw [if_neg c7] at H; have c7b0 : decide (a0 < 128) = false := decide_eq_false c7; clear c7
     by_cases c11 : a0 < 2048
     ·rw [if_pos c11] at H; have c11b0 : decide (a0 < 2048) = true := decide_eq_true c11; clear c11; obtain ⟨y104, hy104⟩ : ∃ y_ : List Int, y_ = (([(wrap64 (192 + (wrap64 (Int.tdiv a0 64)))) % 256, (wrap64 (128 + (Int.tmod a0 64))) % 256] : List Int)) := ⟨_, rfl⟩
      replace H : (some (strOfNums y104)) = some r := by first | (rw [hy104]; with_reducible exact H) | (have H2_ := (Option.bind_some _ _).symm.trans H; rw [hy104]; with_reducible exact H2_) | (have H2_ := (Option.bind_some _ _).symm.trans H; with_reducible exact H2_) | with_reducible exact H | (rw [hy104]; exact H) | exact H
      have Ny104 := Aside0.mk hy104; clear hy104; obtain rfl := Option.some.inj H
      go_wp2_with (first | ((with_reducible refine gate_dst (N:=33) rfl ?_); refine Kd.R_lit (Kd.int .u8) _ 5 ?hg (N:=33) ?hd (xs := ([(wrap64 (192 + (wrap64 (Int.tdiv a0 64)))) % 256, (wrap64 (128 + (Int.tmod a0 64))) % 256] : List Int)) (inner := [.int .u8 ((wrap64 (192 + (wrap64 (Int.tdiv a0 64)))) % 256), .int .u8 ((wrap64 (128 + (Int.tmod a0 64))) % 256)]) (ok := fun _ => True) (okp := fun _ => True) ?hr ?hp (fun _ hk => hk) trivial (Below.refl _ _) (Nat.le_refl _) (by simp) ?_; (case hd => rfl); (case hg => rfl); (case hr => first | (go_simp; done) | (go_simp; rfl)); (case hp => exact (Reps.one (show Kd.M (Kd.int .u8) _ _ _ ((wrap64 (192 + (wrap64 (Int.tdiv a0 64)))) % 256) [.int .u8 ((wrap64 (192 + (wrap64 (Int.tdiv a0 64)))) % 256)] from rfl) (Reps.one (show Kd.M (Kd.int .u8) _ _ _ ((wrap64 (128 + (Int.tmod a0 64))) % 256) [.int .u8 ((wrap64 (128 + (Int.tmod a0 64))) % 256)] from rfl) (Reps.none _ _)))); intro v105 w12 ho13 hb hg_ hnew_; clear hg_ hnew_; (first | rw [← Ny104.out] at ho13 | (simp only [Int.reduceToNat] at ho13; rw [← Ny104.out] at ho13)); have HO106 := Aside0.mk (Kd.R_lower ho13 (below_size (pbx HB))); replace HB := bs_ HB hb; clear hb ho13; have hcv14 := own_string (P := Tryd.prog) Tryd.underlying38 Tryd.underlying5 Tryd.underlying9 (Kd.own_of_R HO106.out)))
      go_ret
      exact ⟨by first | rfl | (simp [errW_none, errW_some] <;> rfl) | (simp [*, errW_none, errW_some] <;> rfl), pbx HB⟩
     ·rw [if_neg c11] at H; have c11b0 : decide (a0 < 2048) = false := decide_eq_false c11; clear c11
      by_cases c15 : a0 < 65536
      ·rw [if_pos c15] at H; have c15b0 : decide (a0 < 65536) = true := decide_eq_true c15; clear c15; obtain ⟨y107, hy107⟩ : ∃ y_ : List Int, y_ = (([(wrap64 (224 + (wrap64 (Int.tdiv a0 4096)))) % 256, (wrap64 (128 + (Int.tmod (wrap64 (Int.tdiv a0 64)) 64))) % 256, (wrap64 (128 + (Int.tmod a0 64))) % 256] : List Int)) := ⟨_, rfl⟩
       replace H : (some (strOfNums y107)) = some r := by first | (rw [hy107]; with_reducible exact H) | (have H2_ := (Option.bind_some _ _).symm.trans H; rw [hy107]; with_reducible exact H2_) | (have H2_ := (Option.bind_some _ _).symm.trans H; with_reducible exact H2_) | with_reducible exact H | (rw [hy107]; exact H) | exact H
       have Ny107 := Aside0.mk hy107; clear hy107; obtain rfl := Option.some.inj H
       go_wp2_with (first | ((with_reducible refine gate_dst (N:=50) rfl ?_); refine Kd.R_lit (Kd.int .u8) _ 5 ?hg (N:=50) ?hd (xs := ([(wrap64 (224 + (wrap64 (Int.tdiv a0 4096)))) % 256, (wrap64 (128 + (Int.tmod (wrap64 (Int.tdiv a0 64)) 64))) % 256, (wrap64 (128 + (Int.tmod a0 64))) % 256] : List Int)) (inner := [.int .u8 ((wrap64 (224 + (wrap64 (Int.tdiv a0 4096)))) % 256), .int .u8 ((wrap64 (128 + (Int.tmod (wrap64 (Int.tdiv a0 64)) 64))) % 256), .int .u8 ((wrap64 (128 + (Int.tmod a0 64))) % 256)]) (ok := fun _ => True) (okp := fun _ => True) ?hr ?hp (fun _ hk => hk) trivial (Below.refl _ _) (Nat.le_refl _) (by simp) ?_; (case hd => rfl); (case hg => rfl); (case hr => first | (go_simp; done) | (go_simp; rfl)); (case hp => exact (Reps.one (show Kd.M (Kd.int .u8) _ _ _ ((wrap64 (224 + (wrap64 (Int.tdiv a0 4096)))) % 256) [.int .u8 ((wrap64 (224 + (wrap64 (Int.tdiv a0 4096)))) % 256)] from rfl) (Reps.one (show Kd.M (Kd.int .u8) _ _ _ ((wrap64 (128 + (Int.tmod (wrap64 (Int.tdiv a0 64)) 64))) % 256) [.int .u8 ((wrap64 (128 + (Int.tmod (wrap64 (Int.tdiv a0 64)) 64))) % 256)] from rfl) (Reps.one (show Kd.M (Kd.int .u8) _ _ _ ((wrap64 (128 + (Int.tmod a0 64))) % 256) [.int .u8 ((wrap64 (128 + (Int.tmod a0 64))) % 256)] from rfl) (Reps.none _ _))))); intro v108 w16 ho17 hb hg_ hnew_; clear hg_ hnew_; (first | rw [← Ny107.out] at ho17 | (simp only [Int.reduceToNat] at ho17; rw [← Ny107.out] at ho17)); have HO109 := Aside0.mk (Kd.R_lower ho17 (below_size (pbx HB))); replace HB := bs_ HB hb; clear hb ho17; have hcv18 := own_string (P := Tryd.prog) Tryd.underlying38 Tryd.underlying5 Tryd.underlying9 (Kd.own_of_R HO109.out)))
       go_ret
       exact ⟨by first | rfl | (simp [errW_none, errW_some] <;> rfl) | (simp [*, errW_none, errW_some] <;> rfl), pbx HB⟩
      ·rw [if_neg c15] at H; have c15b0 : decide (a0 < 65536) = false := decide_eq_false c15; clear c15; obtain ⟨y110, hy110⟩ : ∃ y_ : List Int, y_ = (([(wrap64 (240 + (wrap64 (Int.tdiv a0 262144)))) % 256, (wrap64 (128 + (Int.tmod (wrap64 (Int.tdiv a0 4096)) 64))) % 256, (wrap64 (128 + (Int.tmod (wrap64 (Int.tdiv a0 64)) 64))) % 256, (wrap64 (128 + (Int.tmod a0 64))) % 256] : List Int)) := ⟨_, rfl⟩
       replace H : (some (strOfNums y110)) = some r := by first | (rw [hy110]; with_reducible exact H) | (have H2_ := (Option.bind_some _ _).symm.trans H; rw [hy110]; with_reducible exact H2_) | (have H2_ := (Option.bind_some _ _).symm.trans H; with_reducible exact H2_) | with_reducible exact H | (rw [hy110]; exact H) | exact H
       have Ny110 := Aside0.mk hy110; clear hy110; obtain rfl := Option.some.inj H
       go_wp2_with (first | ((with_reducible refine gate_dst (N:=70) rfl ?_); refine Kd.R_lit (Kd.int .u8) _ 5 ?hg (N:=70) ?hd (xs := ([(wrap64 (240 + (wrap64 (Int.tdiv a0 262144)))) % 256, (wrap64 (128 + (Int.tmod (wrap64 (Int.tdiv a0 4096)) 64))) % 256, (wrap64 (128 + (Int.tmod (wrap64 (Int.tdiv a0 64)) 64))) % 256, (wrap64 (128 + (Int.tmod a0 64))) % 256] : List Int)) (inner := [.int .u8 ((wrap64 (240 + (wrap64 (Int.tdiv a0 262144)))) % 256), .int .u8 ((wrap64 (128 + (Int.tmod (wrap64 (Int.tdiv a0 4096)) 64))) % 256), .int .u8 ((wrap64 (128 + (Int.tmod (wrap64 (Int.tdiv a0 64)) 64))) % 256), .int .u8 ((wrap64 (128 + (Int.tmod a0 64))) % 256)]) (ok := fun _ => True) (okp := fun _ => True) ?hr ?hp (fun _ hk => hk) trivial (Below.refl _ _) (Nat.le_refl _) (by simp) ?_; (case hd => rfl); (case hg => rfl); (case hr => first | (go_simp; done) | (go_simp; rfl)); (case hp => exact (Reps.one (show Kd.M (Kd.int .u8) _ _ _ ((wrap64 (240 + (wrap64 (Int.tdiv a0 262144)))) % 256) [.int .u8 ((wrap64 (240 + (wrap64 (Int.tdiv a0 262144)))) % 256)] from rfl) (Reps.one (show Kd.M (Kd.int .u8) _ _ _ ((wrap64 (128 + (Int.tmod (wrap64 (Int.tdiv a0 4096)) 64))) % 256) [.int .u8 ((wrap64 (128 + (Int.tmod (wrap64 (Int.tdiv a0 4096)) 64))) % 256)] from rfl) (Reps.one (show Kd.M (Kd.int .u8) _ _ _ ((wrap64 (128 + (Int.tmod (wrap64 (Int.tdiv a0 64)) 64))) % 256) [.int .u8 ((wrap64 (128 + (Int.tmod (wrap64 (Int.tdiv a0 64)) 64))) % 256)] from rfl) (Reps.one (show Kd.M (Kd.int .u8) _ _ _ ((wrap64 (128 + (Int.tmod a0 64))) % 256) [.int .u8 ((wrap64 (128 + (Int.tmod a0 64))) % 256)] from rfl) (Reps.none _ _)))))); intro v111 w19 ho20 hb hg_ hnew_; clear hg_ hnew_; (first | rw [← Ny110.out] at ho20 | (simp only [Int.reduceToNat] at ho20; rw [← Ny110.out] at ho20)); have HO112 := Aside0.mk (Kd.R_lower ho20 (below_size (pbx HB))); replace HB := bs_ HB hb; clear hb ho20; have hcv21 := own_string (P := Tryd.prog) Tryd.underlying38 Tryd.underlying5 Tryd.underlying9 (Kd.own_of_R HO112.out)))
       go_ret
       exact ⟨by first | rfl | (simp [errW_none, errW_some] <;> rfl) | (simp [*, errW_none, errW_some] <;> rfl), pbx HB⟩

end Go.Proofs.YtlfoechdakjekaaDoor.X
namespace Go.Proofs.YtlfoechdakjekaaDoor.X
open Go.RowKit Go.Proofs.YtlfoechdakjekaaDoorW.PrintWords Go.Proofs.YtlfoechdakjekaaDoorW.PrintLast Go.Proofs.YtlfoechdakjekaaDoorW.PrintMore
attribute [local go_sem] max2_int min2_int max_two min_two max_three min_three max_four min_four   -- for this text's walks alone
set_option linter.unusedVariables false
set_option linter.unusedSimpArgs false

/-! ### oculusref13_Size: function 21 -/
mutual
def oculusref13_Size.j2 : Nat → ByteArray → Int → Int → Int → Option (Int)
 | 0, _, _, _, _ => none
 | k + 1, x0, x3, x4, x5 => if 0 < (x0.size : Int) then (if (bt x0 0) = 224 then (oculusref13_Size.j3 k x0 x3 160 x5) else (if (bt x0 0) = 237 then (oculusref13_Size.j3 k x0 x3 x4 159) else (if (bt x0 0) = 240 then (oculusref13_Size.j3 k x0 x3 144 x5) else (if (bt x0 0) = 244 then (oculusref13_Size.j3 k x0 x3 x4 143) else (oculusref13_Size.j3 k x0 x3 x4 x5))))) else (none)
def oculusref13_Size.j3 : Nat → ByteArray → Int → Int → Int → Option (Int)
 | 0, _, _, _, _ => none
 | k + 1, x0, x3, x4, x5 => if (x0.size : Int) < x3 then (some 1) else (oculusref13_Size.l0 k x0 x3 x4 x5 1)
def oculusref13_Size.l0 : Nat → ByteArray → Int → Int → Int → Int → Option (Int)
 | 0, _, _, _, _, _ => none
 | k + 1, x0, x3, x4, x5, x6 => if x6 < x3 then (if 0 ≤ x6 then (if x6 < (x0.size : Int) then (if (bt x0 x6) < x4 then (some 1) else (if (bt x0 x6) > x5 then (some 1) else (oculusref13_Size.l0 k x0 x3 128 191 (wrap64 (x6 + 1))))) else (none)) else (none)) else (some x3)
def oculusref13_Size.j0 : Nat → ByteArray → Int → Int → Int → Bool → Option (Int)
 | 0, _, _, _, _, _ => none
 | k + 1, x0, x3, x4, x5, x10 => if x10 = true then (oculusref13_Size.j2 k x0 2 x4 x5) else (if 0 < (x0.size : Int) then (if (bt x0 0) ≥ 224 then (oculusref13_Size.j1 k x0 x3 x4 x5 (decide ((bt x0 0) ≤ 239))) else (oculusref13_Size.j1 k x0 x3 x4 x5 false)) else (none))
def oculusref13_Size.j1 : Nat → ByteArray → Int → Int → Int → Bool → Option (Int)
 | 0, _, _, _, _, _ => none
 | k + 1, x0, x3, x4, x5, x19 => if x19 = true then (oculusref13_Size.j2 k x0 3 x4 x5) else (if 0 < (x0.size : Int) then (if (bt x0 0) ≥ 240 then (if (bt x0 0) ≤ 244 then (oculusref13_Size.j2 k x0 4 x4 x5) else (oculusref13_Size.j2 k x0 x3 x4 x5)) else (oculusref13_Size.j2 k x0 x3 x4 x5)) else (none))
end
def oculusref13_Size.f (k : Nat) (a0 : ByteArray) : Option (Int) := if (a0.size : Int) = 0 then (some 0) else (if 0 < (a0.size : Int) then (if (bt a0 0) ≥ 194 then (oculusref13_Size.j0 k a0 1 128 191 (decide ((bt a0 0) ≤ 223))) else (oculusref13_Size.j0 k a0 1 128 191 false)) else (none))
set_option maxHeartbeats 8000000 in
set_option maxRecDepth 100000 in
theorem oculusref13_Size.calls (k : Nat) (a0 : ByteArray) (r : Int) (w : World) (h : oculusref13_Size.f k a0 = some r) :
  Calls Tryd.prog 21 #[.string a0] w fun e w' => e = .returned (.int .i64 r) ∧ Drawn0 w w' := by
 have H : (if (a0.size : Int) = 0 then (some 0) else (if 0 < (a0.size : Int) then (if (bt a0 0) ≥ 194 then (oculusref13_Size.j0 k a0 1 128 191 (decide ((bt a0 0) ≤ 223))) else (oculusref13_Size.j0 k a0 1 128 191 false)) else (none))) = some r := h
 clear h
 by_cases c2 : (a0.size : Int) = 0
 ·rw [if_pos c2] at H; have c2b0 : ((a0.size : Int) == 0) = true := beq_iff_eq.mpr c2; have c2b1 : ((a0.size : Int) != 0) = false := bne_eq_false_iff_eq.mpr c2; clear c2; obtain rfl := Option.some.inj H
  go_enter Tryd.func21, Tryd.ntmps21
  go_wp2
  go_ret
  exact ⟨by first | rfl | (simp; done) | (simp [*]; done), by repeat (first | exact Drawn0.refl _ | apply Drawn0.step)⟩
 ·rw [if_neg c2] at H; have c2b0 : ((a0.size : Int) == 0) = false := beq_eq_false_iff_ne.mpr c2; have c2b1 : ((a0.size : Int) != 0) = true := bne_iff_ne.mpr c2; have HC3 := Aside0.mk H; clear H
  go_enter Tryd.func21, Tryd.ntmps21
  go_upto_block 0 with (fail)
  go_cut [3] (fun v3 wc => ∃ (kq : Nat) (x3_2 : Int), v3 = .int .i64 x3_2 ∧ Aside0 (oculusref13_Size.j2 kq a0 x3_2 128 191 = some r) ∧ Aside0 (kq ≤ k) ∧ Drawn0 w wc)
  case first =>
   have H := HC3.out; clear HC3; have HC4 := Aside0.mk H; clear H
   go_upto_region 4 with (fail)
   go_cut [10] (fun v10 wc => ∃ (kq : Nat) (x10_3 : Bool), v10 = .bool x10_3 ∧ Aside0 (oculusref13_Size.j0 kq a0 1 128 191 x10_3 = some r) ∧ Aside0 (kq ≤ k) ∧ Drawn0 w wc)
   case first =>
    have H := HC4.out; clear HC4
    by_cases c5 : 0 < (a0.size : Int)
    ·rw [if_pos c5] at H; have c5b0 : decide (0 < (a0.size : Int)) = true := decide_eq_true c5; have c5b1 : decide (0 < a0.size) = true := decide_eq_true (by omega); clear c5; (first | rw [c5b0] | (simp only [i64_w, i32_w]; rw [c5b0]) | skip)
     by_cases c7 : (bt a0 0) ≥ 194
     ·rw [if_pos c7] at H; have c7b0 : decide (194 ≤ (bt a0 0)) = true := decide_eq_true c7; clear c7
      have H' := Aside0.mk H
      clear H
      have p6 : 0 ≤ (0 : Int) := (by omega)
      have q6 : 0 < a0.size := (by have : (0 : Int) < (a0.size : Int) := of_decide_eq_true (by first | (with_reducible assumption) | assumption); omega)
      have hx6 : ∀ h : 0 < a0.size, ((a0[0]'h).toNat : Int) = bt a0 0 := bt_at a0 0
      clear p6; have qi6 : (0 < (a0.size : Int)) = True := eq_true (of_decide_eq_true (by first | (with_reducible assumption) | assumption)); replace q6 := eq_true q6
      have p8 : 0 ≤ (0 : Int) := (by omega)
      have q8 : 0 < a0.size := (by have : (0 : Int) < (a0.size : Int) := of_decide_eq_true (by first | (with_reducible assumption) | assumption); omega)
      have hx8 : ∀ h : 0 < a0.size, ((a0[0]'h).toNat : Int) = bt a0 0 := bt_at a0 0
      clear p8; have qi8 : (0 < (a0.size : Int)) = True := eq_true (of_decide_eq_true (by first | (with_reducible assumption) | assumption)); replace q8 := eq_true q8
      go_wp2
      go_meet
      case rel => exact ⟨_, (decide ((bt a0 0) ≤ 223)), (by first | rfl | (simp; done) | (simp [*]; done)), H', ⟨by first | omega | exact Nat.le_refl _⟩, by repeat (first | exact Drawn0.refl _ | apply Drawn0.step)⟩
     ·rw [if_neg c7] at H; have c7b0 : decide (194 ≤ (bt a0 0)) = false := decide_eq_false c7; clear c7
      have H' := Aside0.mk H
      clear H
      have p6 : 0 ≤ (0 : Int) := (by omega)
      have q6 : 0 < a0.size := (by have : (0 : Int) < (a0.size : Int) := of_decide_eq_true (by first | (with_reducible assumption) | assumption); omega)
      have hx6 : ∀ h : 0 < a0.size, ((a0[0]'h).toNat : Int) = bt a0 0 := bt_at a0 0
      clear p6; have qi6 : (0 < (a0.size : Int)) = True := eq_true (of_decide_eq_true (by first | (with_reducible assumption) | assumption)); replace q6 := eq_true q6
      go_wp2
      go_meet
      case rel => exact ⟨_, (false), (by first | rfl | (simp; done) | (simp [*]; done)), H', ⟨by first | omega | exact Nat.le_refl _⟩, by repeat (first | exact Drawn0.refl _ | apply Drawn0.step)⟩
    ·rw [if_neg c5] at H
     exact absurd H (by simp)
   case rest =>
    clear HC4; (try clear c2); (try clear c2b0); (try clear c2b1); (try clear p2); (try clear c5); (try clear c5b0); (try clear c5b1); (try clear p6); (try clear q6); (try clear hx6); (try clear qi6); (try clear c7); (try clear c7b0); (try clear p8); (try clear q8); (try clear hx8); (try clear qi8); (try clear p6); (try clear p8); (try clear q6); (try clear q8); obtain ⟨kq, x10_3, rfl, HA, HJ3, ⟨mc3, rfl⟩⟩ := hcut
    cases kq with
    | zero => exact absurd HA.out (by simp [oculusref13_Size.j0])
    | succ kj3 =>
     have H := HA.out; clear HA
     simp only [oculusref13_Size.j0] at H
     by_cases c9 : x10_3 = true
     ·subst c9
      have H1 : (oculusref13_Size.j2 kj3 a0 2 128 191) = some r := by rw [if_pos rfl] at H; exact H
      clear H; have H := H1; clear H1
      have H' := Aside0.mk H
      clear H
      go_wp2
      go_meet
      case rel => exact ⟨_, (2), (by first | rfl | (simp; done) | (simp [*]; done)), H', ⟨by have := HJ3.out; first | omega | exact Nat.le_refl _⟩, by repeat (first | exact Drawn0.refl _ | apply Drawn0.step)⟩
     ·replace c9 := Bool.eq_false_iff.mpr c9; subst c9
      have H1 : (if 0 < (a0.size : Int) then (if (bt a0 0) ≥ 224 then (oculusref13_Size.j1 kj3 a0 1 128 191 (decide ((bt a0 0) ≤ 239))) else (oculusref13_Size.j1 kj3 a0 1 128 191 false)) else (none)) = some r := by rw [if_neg (show ¬ (false = true) by decide)] at H; exact H
      clear H; have H := H1; clear H1; have HC10 := Aside0.mk H; clear H
      go_upto_region 6 with (fail)
      go_cut [19] (fun v19 wc => ∃ (kq : Nat) (x19_9 : Bool), v19 = .bool x19_9 ∧ Aside0 (oculusref13_Size.j1 kq a0 1 128 191 x19_9 = some r) ∧ Aside0 (kq ≤ kj3) ∧ Drawn0 w wc)
      case first =>
       have H := HC10.out; clear HC10
       by_cases c11 : 0 < (a0.size : Int)
       ·rw [if_pos c11] at H; have c11b0 : decide (0 < (a0.size : Int)) = true := decide_eq_true c11; have c11b1 : decide (0 < a0.size) = true := decide_eq_true (by omega); clear c11; (first | rw [c11b0] | (simp only [i64_w, i32_w]; rw [c11b0]) | skip)
        by_cases c13 : (bt a0 0) ≥ 224
        ·rw [if_pos c13] at H; have c13b0 : decide (224 ≤ (bt a0 0)) = true := decide_eq_true c13; clear c13
         have H' := Aside0.mk H
         clear H
         have p12 : 0 ≤ (0 : Int) := (by omega)
         have q12 : 0 < a0.size := (by have : (0 : Int) < (a0.size : Int) := of_decide_eq_true (by first | (with_reducible assumption) | assumption); omega)
         have hx12 : ∀ h : 0 < a0.size, ((a0[0]'h).toNat : Int) = bt a0 0 := bt_at a0 0
         clear p12; have qi12 : (0 < (a0.size : Int)) = True := eq_true (of_decide_eq_true (by first | (with_reducible assumption) | assumption)); replace q12 := eq_true q12
         have p14 : 0 ≤ (0 : Int) := (by omega)
         have q14 : 0 < a0.size := (by have : (0 : Int) < (a0.size : Int) := of_decide_eq_true (by first | (with_reducible assumption) | assumption); omega)
         have hx14 : ∀ h : 0 < a0.size, ((a0[0]'h).toNat : Int) = bt a0 0 := bt_at a0 0
         clear p14; have qi14 : (0 < (a0.size : Int)) = True := eq_true (of_decide_eq_true (by first | (with_reducible assumption) | assumption)); replace q14 := eq_true q14
         go_wp2
         go_meet
         case rel => exact ⟨_, (decide ((bt a0 0) ≤ 239)), (by first | rfl | (simp; done) | (simp [*]; done)), H', ⟨by have := HJ3.out; first | omega | exact Nat.le_refl _⟩, by repeat (first | exact Drawn0.refl _ | apply Drawn0.step)⟩
        ·rw [if_neg c13] at H; have c13b0 : decide (224 ≤ (bt a0 0)) = false := decide_eq_false c13; clear c13
         have H' := Aside0.mk H
         clear H
         have p12 : 0 ≤ (0 : Int) := (by omega)
         have q12 : 0 < a0.size := (by have : (0 : Int) < (a0.size : Int) := of_decide_eq_true (by first | (with_reducible assumption) | assumption); omega)
         have hx12 : ∀ h : 0 < a0.size, ((a0[0]'h).toNat : Int) = bt a0 0 := bt_at a0 0
         clear p12; have qi12 : (0 < (a0.size : Int)) = True := eq_true (of_decide_eq_true (by first | (with_reducible assumption) | assumption)); replace q12 := eq_true q12
         go_wp2
         go_meet
         case rel => exact ⟨_, (false), (by first | rfl | (simp; done) | (simp [*]; done)), H', ⟨by have := HJ3.out; first | omega | exact Nat.le_refl _⟩, by repeat (first | exact Drawn0.refl _ | apply Drawn0.step)⟩
       ·rw [if_neg c11] at H
        exact absurd H (by simp)
      case rest =>
       clear HC10; (try clear c1); (try clear p1); (try clear q1); (try clear hx1); (try clear qi1); (try clear c2); (try clear c2b0); (try clear c2b1); (try clear p2); (try clear c3); (try clear c5); (try clear c5b0); (try clear c5b1); (try clear p6); (try clear q6); (try clear hx6); (try clear qi6); (try clear c7); (try clear c7b0); (try clear p8); (try clear q8); (try clear hx8); (try clear qi8); (try clear c9); (try clear c11); (try clear c11b0); (try clear c11b1); (try clear p12); (try clear q12); (try clear hx12); (try clear qi12); (try clear c13); (try clear c13b0); (try clear p14); (try clear q14); (try clear hx14); (try clear qi14); (try clear p12); (try clear p14); (try clear p2); (try clear p6); (try clear p8); (try clear q12); (try clear q14); (try clear q6); (try clear q8); obtain ⟨kq, x19_9, rfl, HA, HJ9, ⟨mc9, rfl⟩⟩ := hcut
       cases kq with
       | zero => exact absurd HA.out (by simp [oculusref13_Size.j1])
       | succ kj9 =>
        have H := HA.out; clear HA
        simp only [oculusref13_Size.j1] at H
        by_cases c15 : x19_9 = true
        ·subst c15
         have H1 : (oculusref13_Size.j2 kj9 a0 3 128 191) = some r := by rw [if_pos rfl] at H; exact H
         clear H; have H := H1; clear H1
         have H' := Aside0.mk H
         clear H
         go_wp2
         go_meet
         case rel => exact ⟨_, (3), (by first | rfl | (simp; done) | (simp [*]; done)), H', ⟨by have := HJ3.out; have := HJ9.out; first | omega | exact Nat.le_refl _⟩, by repeat (first | exact Drawn0.refl _ | apply Drawn0.step)⟩
        ·replace c15 := Bool.eq_false_iff.mpr c15; subst c15
         have H1 : (if 0 < (a0.size : Int) then (if (bt a0 0) ≥ 240 then (if (bt a0 0) ≤ 244 then (oculusref13_Size.j2 kj9 a0 4 128 191) else (oculusref13_Size.j2 kj9 a0 1 128 191)) else (oculusref13_Size.j2 kj9 a0 1 128 191)) else (none)) = some r := by rw [if_neg (show ¬ (false = true) by decide)] at H; exact H
         clear H; have H := H1; clear H1
         by_cases c16 : 0 < (a0.size : Int)
         ·rw [if_pos c16] at H; have c16b0 : decide (0 < (a0.size : Int)) = true := decide_eq_true c16; have c16b1 : decide (0 < a0.size) = true := decide_eq_true (by omega); clear c16
          by_cases c18 : (bt a0 0) ≥ 240
          ·rw [if_pos c18] at H; have c18b0 : decide (240 ≤ (bt a0 0)) = true := decide_eq_true c18; clear c18
           by_cases c20 : (bt a0 0) ≤ 244
           ·rw [if_pos c20] at H; have c20b0 : decide ((bt a0 0) ≤ 244) = true := decide_eq_true c20; clear c20
            have H' := Aside0.mk H
            clear H
            have p17 : 0 ≤ (0 : Int) := (by omega)
            have q17 : 0 < a0.size := (by have : (0 : Int) < (a0.size : Int) := of_decide_eq_true (by first | (with_reducible assumption) | assumption); omega)
            have hx17 : ∀ h : 0 < a0.size, ((a0[0]'h).toNat : Int) = bt a0 0 := bt_at a0 0
            clear p17; have qi17 : (0 < (a0.size : Int)) = True := eq_true (of_decide_eq_true (by first | (with_reducible assumption) | assumption)); replace q17 := eq_true q17
            have p19 : 0 ≤ (0 : Int) := (by omega)
            have q19 : 0 < a0.size := (by have : (0 : Int) < (a0.size : Int) := of_decide_eq_true (by first | (with_reducible assumption) | assumption); omega)
            have hx19 : ∀ h : 0 < a0.size, ((a0[0]'h).toNat : Int) = bt a0 0 := bt_at a0 0
            clear p19; have qi19 : (0 < (a0.size : Int)) = True := eq_true (of_decide_eq_true (by first | (with_reducible assumption) | assumption)); replace q19 := eq_true q19
            go_wp2
            go_meet
            case rel => exact ⟨_, (4), (by first | rfl | (simp; done) | (simp [*]; done)), H', ⟨by have := HJ3.out; have := HJ9.out; first | omega | exact Nat.le_refl _⟩, by repeat (first | exact Drawn0.refl _ | apply Drawn0.step)⟩
           ·rw [if_neg c20] at H; have c20b0 : decide ((bt a0 0) ≤ 244) = false := decide_eq_false c20; clear c20
            have H' := Aside0.mk H
            clear H
            have p17 : 0 ≤ (0 : Int) := (by omega)
            have q17 : 0 < a0.size := (by have : (0 : Int) < (a0.size : Int) := of_decide_eq_true (by first | (with_reducible assumption) | assumption); omega)
            have hx17 : ∀ h : 0 < a0.size, ((a0[0]'h).toNat : Int) = bt a0 0 := bt_at a0 0
            clear p17; have qi17 : (0 < (a0.size : Int)) = True := eq_true (of_decide_eq_true (by first | (with_reducible assumption) | assumption)); replace q17 := eq_true q17
            have p19 : 0 ≤ (0 : Int) := (by omega)
            have q19 : 0 < a0.size := (by have : (0 : Int) < (a0.size : Int) := of_decide_eq_true (by first | (with_reducible assumption) | assumption); omega)
            have hx19 : ∀ h : 0 < a0.size, ((a0[0]'h).toNat : Int) = bt a0 0 := bt_at a0 0
            clear p19; have qi19 : (0 < (a0.size : Int)) = True := eq_true (of_decide_eq_true (by first | (with_reducible assumption) | assumption)); replace q19 := eq_true q19
            go_wp2
            go_meet
            case rel => exact ⟨_, (1), (by first | rfl | (simp; done) | (simp [*]; done)), H', ⟨by have := HJ3.out; have := HJ9.out; first | omega | exact Nat.le_refl _⟩, by repeat (first | exact Drawn0.refl _ | apply Drawn0.step)⟩
          ·rw [if_neg c18] at H; have c18b0 : decide (240 ≤ (bt a0 0)) = false := decide_eq_false c18; clear c18
           have H' := Aside0.mk H
           clear H
           have p17 : 0 ≤ (0 : Int) := (by omega)
           have q17 : 0 < a0.size := (by have : (0 : Int) < (a0.size : Int) := of_decide_eq_true (by first | (with_reducible assumption) | assumption); omega)
           have hx17 : ∀ h : 0 < a0.size, ((a0[0]'h).toNat : Int) = bt a0 0 := bt_at a0 0
           clear p17; have qi17 : (0 < (a0.size : Int)) = True := eq_true (of_decide_eq_true (by first | (with_reducible assumption) | assumption)); replace q17 := eq_true q17
           go_wp2
           go_meet
           case rel => exact ⟨_, (1), (by first | rfl | (simp; done) | (simp [*]; done)), H', ⟨by have := HJ3.out; have := HJ9.out; first | omega | exact Nat.le_refl _⟩, by repeat (first | exact Drawn0.refl _ | apply Drawn0.step)⟩
         ·rw [if_neg c16] at H
          exact absurd H (by simp)
  case rest =>
   clear HC3; (try clear c1); (try clear p1); (try clear q1); (try clear hx1); (try clear qi1); (try clear c2); (try clear c2b0); (try clear c2b1); (try clear p2); (try clear c3); (try clear c5); (try clear c5b0); (try clear c5b1); (try clear p6); (try clear q6); (try clear hx6); (try clear qi6); (try clear c7); (try clear c7b0); (try clear p8); (try clear q8); (try clear hx8); (try clear qi8); (try clear c9); (try clear c11); (try clear c11b0); (try clear c11b1); (try clear p12); (try clear q12); (try clear hx12); (try clear qi12); (try clear c13); (try clear c13b0); (try clear p14); (try clear q14); (try clear hx14); (try clear qi14); (try clear c15); (try clear c16); (try clear c16b0); (try clear c16b1); (try clear p17); (try clear q17); (try clear hx17); (try clear qi17); (try clear c18); (try clear c18b0); (try clear p19); (try clear q19); (try clear hx19); (try clear qi19); (try clear c20)
   (try clear c20b0); (try clear p1); (try clear p12); (try clear p14); (try clear p17); (try clear p19); (try clear p2); (try clear p6); (try clear p8); (try clear q1); (try clear q12); (try clear q14); (try clear q17); (try clear q19); (try clear q6); (try clear q8); obtain ⟨kq, x3_2, rfl, HA, HJ2, ⟨mc2, rfl⟩⟩ := hcut
   cases kq with
   | zero => exact absurd HA.out (by simp [oculusref13_Size.j2])
   | succ kj2 =>
    have H := HA.out; clear HA
    simp only [oculusref13_Size.j2] at H
    by_cases c21 : 0 < (a0.size : Int)
    ·rw [if_pos c21] at H; have c21b0 : decide (0 < (a0.size : Int)) = true := decide_eq_true c21; have c21b1 : decide (0 < a0.size) = true := decide_eq_true (by omega); clear c21; have HC23 := Aside0.mk H; clear H
     have p22 : 0 ≤ (0 : Int) := (by omega)
     have q22 : 0 < a0.size := (by have : (0 : Int) < (a0.size : Int) := of_decide_eq_true (by first | (with_reducible assumption) | assumption); omega)
     have hx22 : ∀ h : 0 < a0.size, ((a0[0]'h).toNat : Int) = bt a0 0 := bt_at a0 0
     clear p22; have qi22 : (0 < (a0.size : Int)) = True := eq_true (of_decide_eq_true (by first | (with_reducible assumption) | assumption)); replace q22 := eq_true q22
     go_upto_block 1 with (fail)
     go_cut [4, 5] (fun v4 v5 wc => ∃ (kq : Nat) (x4_22 : Int) (x5_22 : Int), v4 = .int .u8 x4_22 ∧ v5 = .int .u8 x5_22 ∧ Aside0 (oculusref13_Size.j3 kq a0 x3_2 x4_22 x5_22 = some r) ∧ Aside0 (kq ≤ kj2) ∧ Drawn0 w wc)
     case first =>
      have H := HC23.out; clear HC23
      by_cases c24 : (bt a0 0) = 224
      ·rw [if_pos c24] at H; have c24b0 : ((bt a0 0) == 224) = true := beq_iff_eq.mpr c24; have c24b1 : ((bt a0 0) != 224) = false := bne_eq_false_iff_eq.mpr c24; clear c24; (first | rw [c24b0] | (simp only [i64_w, i32_w]; rw [c24b0]) | skip)
       have H' := Aside0.mk H
       clear H
       go_wp2
       go_meet
       case rel => exact ⟨_, (160), (191), (by first | rfl | (simp; done) | (simp [*]; done)), (by first | rfl | (simp; done) | (simp [*]; done)), H', ⟨by have := HJ2.out; first | omega | exact Nat.le_refl _⟩, by repeat (first | exact Drawn0.refl _ | apply Drawn0.step)⟩
      ·rw [if_neg c24] at H; have c24b0 : ((bt a0 0) == 224) = false := beq_eq_false_iff_ne.mpr c24; have c24b1 : ((bt a0 0) != 224) = true := bne_iff_ne.mpr c24; (first | rw [c24b0] | (simp only [i64_w, i32_w]; rw [c24b0]) | skip)
       by_cases c25 : (bt a0 0) = 237
       ·rw [if_pos c25] at H; have c25b0 : ((bt a0 0) == 237) = true := beq_iff_eq.mpr c25; have c25b1 : ((bt a0 0) != 237) = false := bne_eq_false_iff_eq.mpr c25; clear c25
        have H' := Aside0.mk H
        clear H
        go_wp2
        go_meet
        case rel => exact ⟨_, (128), (159), (by first | rfl | (simp; done) | (simp [*]; done)), (by first | rfl | (simp; done) | (simp [*]; done)), H', ⟨by have := HJ2.out; first | omega | exact Nat.le_refl _⟩, by repeat (first | exact Drawn0.refl _ | apply Drawn0.step)⟩
       ·rw [if_neg c25] at H; have c25b0 : ((bt a0 0) == 237) = false := beq_eq_false_iff_ne.mpr c25; have c25b1 : ((bt a0 0) != 237) = true := bne_iff_ne.mpr c25
        by_cases c26 : (bt a0 0) = 240
        ·rw [if_pos c26] at H; have c26b0 : ((bt a0 0) == 240) = true := beq_iff_eq.mpr c26; have c26b1 : ((bt a0 0) != 240) = false := bne_eq_false_iff_eq.mpr c26; clear c26
         have H' := Aside0.mk H
         clear H
         go_wp2
         go_meet
         case rel => exact ⟨_, (144), (191), (by first | rfl | (simp; done) | (simp [*]; done)), (by first | rfl | (simp; done) | (simp [*]; done)), H', ⟨by have := HJ2.out; first | omega | exact Nat.le_refl _⟩, by repeat (first | exact Drawn0.refl _ | apply Drawn0.step)⟩
        ·rw [if_neg c26] at H; have c26b0 : ((bt a0 0) == 240) = false := beq_eq_false_iff_ne.mpr c26; have c26b1 : ((bt a0 0) != 240) = true := bne_iff_ne.mpr c26
         by_cases c27 : (bt a0 0) = 244
         ·rw [if_pos c27] at H; have c27b0 : ((bt a0 0) == 244) = true := beq_iff_eq.mpr c27; have c27b1 : ((bt a0 0) != 244) = false := bne_eq_false_iff_eq.mpr c27; clear c27
          have H' := Aside0.mk H
          clear H
          go_wp2
          go_meet
          case rel => exact ⟨_, (128), (143), (by first | rfl | (simp; done) | (simp [*]; done)), (by first | rfl | (simp; done) | (simp [*]; done)), H', ⟨by have := HJ2.out; first | omega | exact Nat.le_refl _⟩, by repeat (first | exact Drawn0.refl _ | apply Drawn0.step)⟩
         ·rw [if_neg c27] at H; have c27b0 : ((bt a0 0) == 244) = false := beq_eq_false_iff_ne.mpr c27; have c27b1 : ((bt a0 0) != 244) = true := bne_iff_ne.mpr c27
          have H' := Aside0.mk H
          clear H
          go_wp2
          go_meet
          case rel => exact ⟨_, (128), (191), (by first | rfl | (simp; done) | (simp [*]; done)), (by first | rfl | (simp; done) | (simp [*]; done)), H', ⟨by have := HJ2.out; first | omega | exact Nat.le_refl _⟩, by repeat (first | exact Drawn0.refl _ | apply Drawn0.step)⟩
     case rest =>
      clear HC23; (try clear c1); (try clear p1); (try clear q1); (try clear hx1); (try clear qi1); (try clear c2); (try clear c2b0); (try clear c2b1); (try clear p2); (try clear q2); (try clear hx2); (try clear qi2); (try clear c3); (try clear c5); (try clear c5b0); (try clear c5b1); (try clear p6); (try clear q6); (try clear hx6); (try clear qi6); (try clear c7); (try clear c7b0); (try clear p8); (try clear q8); (try clear hx8); (try clear qi8); (try clear c9); (try clear c11); (try clear c11b0); (try clear c11b1); (try clear p12); (try clear q12); (try clear hx12); (try clear qi12); (try clear c13); (try clear c13b0); (try clear p14); (try clear q14); (try clear hx14); (try clear qi14); (try clear c15); (try clear c16); (try clear c16b0); (try clear c16b1); (try clear p17); (try clear q17); (try clear hx17); (try clear qi17); (try clear c18); (try clear c18b0); (try clear p19); (try clear q19)
      (try clear hx19); (try clear qi19); (try clear c20); (try clear c20b0); (try clear c21); (try clear c21b0); (try clear c21b1); (try clear p22); (try clear q22); (try clear hx22); (try clear qi22); (try clear c24); (try clear c24b0); (try clear c24b1); (try clear c25); (try clear c25b0); (try clear c25b1); (try clear c26); (try clear c26b0); (try clear c26b1); (try clear c27); (try clear c27b0); (try clear c27b1); (try clear p1); (try clear p12); (try clear p14); (try clear p17); (try clear p19); (try clear p2); (try clear p22); (try clear p6); (try clear p8); (try clear q1); (try clear q12); (try clear q14); (try clear q17); (try clear q19); (try clear q22); (try clear q6); (try clear q8); obtain ⟨kq, x4_22, x5_22, rfl, rfl, HA, HJ22, ⟨mc22, rfl⟩⟩ := hcut
      cases kq with
      | zero => exact absurd HA.out (by simp [oculusref13_Size.j3])
      | succ kj22 =>
       have H := HA.out; clear HA
       simp only [oculusref13_Size.j3] at H
       by_cases c28 : (a0.size : Int) < x3_2
       ·rw [if_pos c28] at H; have c28b0 : decide ((a0.size : Int) < x3_2) = true := decide_eq_true c28; clear c28; obtain rfl := Option.some.inj H
        go_wp2
        go_ret
        exact ⟨by first | rfl | (simp; done) | (simp [*]; done), by repeat (first | exact Drawn0.refl _ | apply Drawn0.step)⟩
       ·rw [if_neg c28] at H; have c28b0 : decide ((a0.size : Int) < x3_2) = false := decide_eq_false c28; clear c28
        have H' := Aside0.mk H
        clear H
        go_wp2
        go_loopg [4, 5, 6] kj22 (fun kq v4 v5 v6 w' => ∃ (x4_3 : Int) (x5_3 : Int) (x6_3 : Int), v4 = .int .u8 x4_3 ∧ v5 = .int .u8 x5_3 ∧ v6 = .int .i64 x6_3 ∧ Aside0 (oculusref13_Size.l0 kq a0 x3_2 x4_3 x5_3 x6_3 = some r) ∧ Aside0 (kq ≤ kj22) ∧ Drawn0 w w')
        case atStart => exact ⟨(x4_22), (x5_22), (1), (by first | rfl | (simp; done) | (simp [*]; done)), (by first | rfl | (simp; done) | (simp [*]; done)), (by first | rfl | (simp; done) | (simp [*]; done)), H', ⟨Nat.le_refl _⟩, by repeat (first | exact Drawn0.refl _ | apply Drawn0.step)⟩
        case round =>
         clear H'; (try clear c1); (try clear p1); (try clear q1); (try clear hx1); (try clear qi1); (try clear c2); (try clear c2b0); (try clear c2b1); (try clear p2); (try clear q2); (try clear hx2); (try clear qi2); (try clear c3); (try clear c5); (try clear c5b0); (try clear c5b1); (try clear p6); (try clear q6); (try clear hx6); (try clear qi6); (try clear c7); (try clear c7b0); (try clear p8); (try clear q8); (try clear hx8); (try clear qi8); (try clear c9); (try clear c11); (try clear c11b0); (try clear c11b1); (try clear p12); (try clear q12); (try clear hx12); (try clear qi12); (try clear c13); (try clear c13b0); (try clear p14); (try clear q14); (try clear hx14); (try clear qi14); (try clear c15); (try clear c16); (try clear c16b0); (try clear c16b1); (try clear p17); (try clear q17); (try clear hx17); (try clear qi17); (try clear c18); (try clear c18b0); (try clear p19); (try clear q19)
         (try clear hx19); (try clear qi19); (try clear c20); (try clear c20b0); (try clear c21); (try clear c21b0); (try clear c21b1); (try clear c22); (try clear p22); (try clear q22); (try clear hx22); (try clear qi22); (try clear c24); (try clear c24b0); (try clear c24b1); (try clear c25); (try clear c25b0); (try clear c25b1); (try clear c26); (try clear c26b0); (try clear c26b1); (try clear c27); (try clear c27b0); (try clear c27b1); (try clear c28); (try clear c28b0); (try clear p1); (try clear p12); (try clear p14); (try clear p17); (try clear p19); (try clear p2); (try clear p22); (try clear p6); (try clear p8); (try clear q1); (try clear q12); (try clear q14); (try clear q17); (try clear q19); (try clear q2); (try clear q22); (try clear q6); (try clear q8); obtain ⟨x4_3, x5_3, x6_3, rfl, rfl, rfl, HA, HK3, ⟨m3, rfl⟩⟩ := hrel
         cases gk with
         | zero => exact absurd HA.out (by simp [oculusref13_Size.l0])
         | succ k3 =>
          have H := HA.out; clear HA
          simp only [oculusref13_Size.l0] at H
          by_cases c29 : x6_3 < x3_2
          ·rw [if_pos c29] at H; have c29b0 : decide (x6_3 < x3_2) = true := decide_eq_true c29; clear c29
           by_cases c30 : 0 ≤ x6_3
           ·rw [if_pos c30] at H; have c30b0 : decide (0 ≤ x6_3) = true := decide_eq_true c30; clear c30
            by_cases c31 : x6_3 < (a0.size : Int)
            ·rw [if_pos c31] at H; have c31b0 : decide (x6_3 < (a0.size : Int)) = true := decide_eq_true c31; clear c31
             by_cases c33 : (bt a0 x6_3) < x4_3
             ·rw [if_pos c33] at H; have c33b0 : decide ((bt a0 x6_3) < x4_3) = true := decide_eq_true c33; clear c33; obtain rfl := Option.some.inj H
              have p32 : 0 ≤ (x6_3 : Int) := of_decide_eq_true (by first | (with_reducible assumption) | assumption)
              have q32 : x6_3 < (a0.size : Int) := of_decide_eq_true (by first | (with_reducible assumption) | assumption)
              have hx32 := bt_at a0 x6_3; replace p32 := eq_true p32; replace q32 := eq_true q32
              go_wp2
              go_ret
              exact ⟨by first | rfl | (simp; done) | (simp [*]; done), by repeat (first | exact Drawn0.refl _ | apply Drawn0.step)⟩
             ·rw [if_neg c33] at H; have c33b0 : decide ((bt a0 x6_3) < x4_3) = false := decide_eq_false c33; clear c33
              by_cases c35 : (bt a0 x6_3) > x5_3
              ·rw [if_pos c35] at H; have c35b0 : decide (x5_3 < (bt a0 x6_3)) = true := decide_eq_true c35; clear c35; obtain rfl := Option.some.inj H
               have p32 : 0 ≤ (x6_3 : Int) := of_decide_eq_true (by first | (with_reducible assumption) | assumption)
               have q32 : x6_3 < (a0.size : Int) := of_decide_eq_true (by first | (with_reducible assumption) | assumption)
               have hx32 := bt_at a0 x6_3; replace p32 := eq_true p32; replace q32 := eq_true q32
               have p34 : 0 ≤ (x6_3 : Int) := of_decide_eq_true (by first | (with_reducible assumption) | assumption)
               have q34 : x6_3 < (a0.size : Int) := of_decide_eq_true (by first | (with_reducible assumption) | assumption)
               have hx34 := bt_at a0 x6_3; replace p34 := eq_true p34; replace q34 := eq_true q34
               go_wp2
               go_ret
               exact ⟨by first | rfl | (simp; done) | (simp [*]; done), by repeat (first | exact Drawn0.refl _ | apply Drawn0.step)⟩
              ·rw [if_neg c35] at H; have c35b0 : decide (x5_3 < (bt a0 x6_3)) = false := decide_eq_false c35; clear c35
               have H' := Aside0.mk H
               clear H
               have p32 : 0 ≤ (x6_3 : Int) := of_decide_eq_true (by first | (with_reducible assumption) | assumption)
               have q32 : x6_3 < (a0.size : Int) := of_decide_eq_true (by first | (with_reducible assumption) | assumption)
               have hx32 := bt_at a0 x6_3; replace p32 := eq_true p32; replace q32 := eq_true q32
               have p34 : 0 ≤ (x6_3 : Int) := of_decide_eq_true (by first | (with_reducible assumption) | assumption)
               have q34 : x6_3 < (a0.size : Int) := of_decide_eq_true (by first | (with_reducible assumption) | assumption)
               have hx34 := bt_at a0 x6_3; replace p34 := eq_true p34; replace q34 := eq_true q34
               go_wp2
               go_roundg k3
               case measure => have := HJ2.out; have := HJ22.out; have := HK3.out; omega
               case rel => exact ⟨(128), (191), (wrap64 (x6_3 + 1)), (by first | rfl | (simp; done) | (simp [*]; done)), (by first | rfl | (simp; done) | (simp [*]; done)), (by first | rfl | (simp; done) | (simp [*]; done)), H', ⟨by have := HJ2.out; have := HJ22.out; have := HK3.out; omega⟩, by repeat (first | exact Drawn0.refl _ | apply Drawn0.step)⟩
            ·rw [if_neg c31] at H
             exact absurd H (by simp)
           ·rw [if_neg c30] at H
            exact absurd H (by simp)
          ·rw [if_neg c29] at H; have c29b0 : decide (x6_3 < x3_2) = false := decide_eq_false c29; clear c29; obtain rfl := Option.some.inj H
           go_wp2
           go_ret
           exact ⟨by first | rfl | (simp; done) | (simp [*]; done), by repeat (first | exact Drawn0.refl _ | apply Drawn0.step)⟩
    ·rw [if_neg c21] at H
     exact absurd H (by simp)

end Go.Proofs.YtlfoechdakjekaaDoor.X
namespace Go.Proofs.YtlfoechdakjekaaDoor.X
open Go.RowKit Go.Proofs.YtlfoechdakjekaaDoorW.PrintWords Go.Proofs.YtlfoechdakjekaaDoorW.PrintLast Go.Proofs.YtlfoechdakjekaaDoorW.PrintMore
attribute [local go_sem] max2_int min2_int max_two min_two max_three min_three max_four min_four   -- for this text's walks alone
set_option linter.unusedVariables false
set_option linter.unusedSimpArgs false

/-! ### oculusref13_Pieces: function 11 -/
def oculusref13_Pieces.l0 : Nat → ByteArray → List ByteArray → Option (List ByteArray)
 | 0, _, _ => none
 | k + 1, x0, x3 => if (x0.size : Int) > 0 then ((oculusref13_Size.f k x0).bind fun t101 => (if 0 ≤ t101 then (if t101 ≤ (x0.size : Int) then (if x3.length < 8796093022208 then (oculusref13_Pieces.l0 k (x0.extract (t101 : Int).toNat x0.size) (x3 ++ [x0.extract 0 (t101 : Int).toNat])) else (none)) else (none)) else (none))) else (some x3)
def oculusref13_Pieces.f (k : Nat) (a0 : ByteArray) : Option (List ByteArray) := oculusref13_Pieces.l0 k a0 ([] : List ByteArray)
set_option maxHeartbeats 8000000 in
set_option maxRecDepth 100000 in
theorem oculusref13_Pieces.calls (k : Nat) (a0 : ByteArray) (r : List ByteArray) (w : World) (h : oculusref13_Pieces.f k a0 = some r) :
  Calls Tryd.prog 11 #[.string a0] w fun e w' => ∃ v0_ : Value, e = .returned (v0_) ∧ Kd.R Kd.string 9 w' w.heap.size (fun _ => True) v0_ r ∧ Below w.heap.size w w' := by
 have HB := Aside0.mk (Below.refl w.heap.size w)
 have H : (oculusref13_Pieces.l0 k a0 ([] : List ByteArray)) = some r := h
 clear h
 have H' := Aside0.mk H
 clear H
 go_enter Tryd.func11, Tryd.ntmps11
 go_wp2
 go_loopg [0, 3] k (fun kq v0 v3 w' => ∃ (x0_1 : ByteArray) (x3_1 : List ByteArray), v0 = .string x0_1 ∧ Aside0 (oculusref13_Pieces.l0 kq x0_1 x3_1 = some r) ∧ Aside0 (kq ≤ k) ∧ Aside0 (Kd.R Kd.string 9 w' w.heap.size (fun _ => True) v3 x3_1) ∧ Aside0 (Below w.heap.size w w'))
 case atStart => exact ⟨(a0), (([] : List ByteArray)), (by first | rfl | (simp; done) | (simp [*]; done)), H', ⟨Nat.le_refl _⟩, ⟨by first | exact Kd.R_nil _ _ _ _ _ | exact Kd.N_nil _ _ _ _ _ | exact Kd.V_nil _ _ _ _ _ | exact Kd.Q_nil _ _ _ _ _ | exact Kd.S_nil _ _ _ _ _⟩, ⟨pbx HB⟩⟩
 case round =>
  clear H'; (try clear c1); obtain ⟨x0_1, x3_1, rfl, HA, HK1, HO_3, HB⟩ := hrel
  cases gk with
  | zero => exact absurd HA.out (by simp [oculusref13_Pieces.l0])
  | succ k1 =>
   have H := HA.out; clear HA
   simp only [oculusref13_Pieces.l0] at H
   by_cases c2 : (x0_1.size : Int) > 0
   ·rw [if_pos c2] at H; have c2b0 : decide (0 < (x0_1.size : Int)) = true := decide_eq_true c2; have c2b1 : decide (0 < x0_1.size) = true := decide_eq_true (by omega); clear c2; replace H := Option.bind_eq_some_iff.mp H; obtain ⟨t101, A30, H⟩ := H
    replace H : (if 0 ≤ t101 then (if t101 ≤ (x0_1.size : Int) then (if x3_1.length < 8796093022208 then (oculusref13_Pieces.l0 k1 (x0_1.extract (t101 : Int).toNat x0_1.size) (x3_1 ++ [x0_1.extract 0 (t101 : Int).toNat])) else (none)) else (none)) else (none)) = some r := H
    have A3 := Aside0.mk A30; clear A30
    by_cases c4 : 0 ≤ t101
    ·rw [if_pos c4] at H; have c4b0 := eq_true c4; have c4b1 : decide (0 ≤ t101) = true := decide_eq_true c4; clear c4
     by_cases c5 : t101 ≤ (x0_1.size : Int)
     ·rw [if_pos c5] at H; have c5b0 := eq_true c5; have c5b1 : decide (t101 ≤ (x0_1.size : Int)) = true := decide_eq_true c5; clear c5
      by_cases c6 : x3_1.length < 8796093022208
      ·rw [if_pos c6] at H; have LMc6 := Aside0.mk c6; clear c6; obtain ⟨y102, hy102⟩ : ∃ y_ : List ByteArray, y_ = (x3_1 ++ [x0_1.extract 0 (t101 : Int).toNat]) := ⟨_, rfl⟩
       replace H : (oculusref13_Pieces.l0 k1 (x0_1.extract (t101 : Int).toNat x0_1.size) y102) = some r := by first | (rw [hy102]; with_reducible exact H) | (have H2_ := (Option.bind_some _ _).symm.trans H; rw [hy102]; with_reducible exact H2_) | (have H2_ := (Option.bind_some _ _).symm.trans H; with_reducible exact H2_) | with_reducible exact H | (rw [hy102]; exact H) | exact H
       have Ny102 := Aside0.mk hy102; clear hy102; have c7b0 := eq_true (of_decide_eq_true (by first | (with_reducible assumption) | assumption) : 0 ≤ t101); have c8b0 := eq_true (of_decide_eq_true (by first | (with_reducible assumption) | assumption) : t101 ≤ (x0_1.size : Int))
       have H' := Aside0.mk H
       clear H
       go_wp2_with (first | ((with_reducible refine gate_callee (f:=21) rfl ?_); refine goesL_ (some 9) rfl rfl Tryd.func21 (by kernel_rfl) rfl #[.string x0_1] rfl (by (try simp only [List.map_toArray, List.map_cons, List.map_nil]); first | done | rfl | (simp only [List.length_drop, List.length_take]; rfl)) ?_; (with_reducible refine (oculusref13_Size.calls k1 x0_1 t101 _ A3.out).mono ?_); rintro e w' ⟨rfl, ⟨nd, rfl⟩⟩; refine ⟨_, rfl, ?_⟩) | ((with_reducible refine gate_builtin (b := .append) (xs := #[.tmp 10, .tmp 14]) rfl ?_); at_builtin; refine Kd.R_append Kd.string (w0 := w) w.heap.size rfl (.tmp 10) (.tmp 14) 30 9 (.string ⟨#[]⟩) 16 rfl Tryd.underlying30 info9 rfl (by decide) (by omega) u3 x3_1 (x0_1.extract 0 (t101 : Int).toNat) [.string (x0_1.extract 0 (t101 : Int).toNat)] (fun _ => True) (fun _ => False) rfl rfl ?aP (fun _ hk => hk.elim) ?aF ?aO ?aB ?aS ?aL ?_; (case aP => exact rfl); (case aB => exact (pbx HB)); (case aF => exact (fun _ _ => trivial)); (case aO => exact (by (with_reducible repeat (first | apply Kd.R_alloc | apply Kd.R_drewN | apply Kd.R_drew)); exact HO_3.out)); (case aS => exact (below_size (pbx HB))); (case aL => have := LMc6.out; omega); intro v103 w9 ho hb hg hat; rw [← Ny102.out] at ho; have HO104 := Aside0.mk (ho); replace HB := Aside0.mk (hb); clear HO_3; clear ho hb hg hat))
       go_roundg k1
       case measure => have := HK1.out; omega
       case rel => exact ⟨(x0_1.extract (t101 : Int).toNat x0_1.size), (y102), (by first | rfl | (simp; done) | (simp [*]; done) | (cases t101 <;> simp; done)), H', ⟨by have := HK1.out; omega⟩, ⟨by (with_reducible repeat (first | apply Kd.R_alloc | apply Kd.R_drewN | apply Kd.R_drew)); exact HO104.out⟩, ⟨pbx HB⟩⟩
      ·rw [if_neg c6] at H
       exact absurd H (by simp)
     ·rw [if_neg c5] at H
      exact absurd H (by simp)
    ·rw [if_neg c4] at H
     exact absurd H (by simp)
   ·rw [if_neg c2] at H; have c2b0 : decide (0 < (x0_1.size : Int)) = false := decide_eq_false c2; have c2b1 : decide (0 < x0_1.size) = false := decide_eq_false (by omega); clear c2; obtain rfl := Option.some.inj H
    go_wp2
    go_ret
    exact ⟨_, by first | rfl | (simp [errW_none, errW_some] <;> rfl) | (simp [*, errW_none, errW_some] <;> rfl), by (with_reducible repeat (first | apply Kd.R_alloc | apply Kd.R_drewN | apply Kd.R_drew)); exact HO_3.out, pbx HB⟩

end Go.Proofs.YtlfoechdakjekaaDoor.X
namespace Go.Proofs.YtlfoechdakjekaaDoor.X
open Go.RowKit Go.Proofs.YtlfoechdakjekaaDoorW.PrintWords Go.Proofs.YtlfoechdakjekaaDoorW.PrintLast Go.Proofs.YtlfoechdakjekaaDoorW.PrintMore
attribute [local go_sem] max2_int min2_int max_two min_two max_three min_three max_four min_four   -- for this text's walks alone
set_option linter.unusedVariables false
set_option linter.unusedSimpArgs false

/-! ### oculusref13_Reverse: function 8 -/
def oculusref13_Reverse.l0 : Nat → ByteArray → List ByteArray → Int → Option (ByteArray)
 | 0, _, _, _ => none
 | k + 1, x3, x4, x5 => if x5 < (x4.length : Int) then (if 0 ≤ x5 then (if (rdOf ByteArray.empty x4 x5).size + x3.size ≤ 9223372036854775807 then (oculusref13_Reverse.l0 k ((rdOf ByteArray.empty x4 x5) ++ x3) x4 (wrap64 (x5 + 1))) else (none)) else (none)) else (some x3)
def oculusref13_Reverse.f (k : Nat) (a0 : ByteArray) : Option (ByteArray) := (oculusref13_Pieces.f k a0).bind fun t101 => (oculusref13_Reverse.l0 k (⟨#[]⟩ : ByteArray) t101 0)
set_option maxHeartbeats 8000000 in
set_option maxRecDepth 100000 in
theorem oculusref13_Reverse.calls (k : Nat) (a0 : ByteArray) (r : ByteArray) (w : World) (h : oculusref13_Reverse.f k a0 = some r) :
  Calls Tryd.prog 8 #[.string a0] w fun e w' => e = .returned (.string r) ∧ Below w.heap.size w w' := by
 have HB := Aside0.mk (Below.refl w.heap.size w)
 have H : ((oculusref13_Pieces.f k a0).bind fun t101 => (oculusref13_Reverse.l0 k (⟨#[]⟩ : ByteArray) t101 0)) = some r := h
 clear h; replace H := Option.bind_eq_some_iff.mp H; obtain ⟨t101, A20, H⟩ := H
 replace H : (oculusref13_Reverse.l0 k (⟨#[]⟩ : ByteArray) t101 0) = some r := H
 have A2 := Aside0.mk A20; clear A20
 have H' := Aside0.mk H
 clear H
 go_enter Tryd.func8, Tryd.ntmps8
 go_wp2_with (first | ((with_reducible refine gate_callee (f:=11) rfl ?_); refine goesL_ (some 7) rfl rfl Tryd.func11 (by kernel_rfl) rfl #[.string a0] rfl (by (try simp only [List.map_toArray, List.map_cons, List.map_nil]); first | done | rfl | (simp only [List.length_drop, List.length_take]; rfl)) ?_; (with_reducible refine (oculusref13_Pieces.calls k a0 t101 _ A2.out).mono ?_); rintro e w3 ⟨v102, rfl, ho0, hb⟩; refine ⟨_, rfl, ?_⟩; have HO103 := Aside0.mk (Kd.R_lower ho0 (below_size (pbx HB))); replace HB := bs_ HB hb; (try clear hb); (try clear hb2); (try clear hk); (try clear hi); (try clear ho0)))
 go_loopg [3, 5] k (fun kq v3 v5 w' => ∃ (x3_1 : ByteArray) (x5_1 : Int), v3 = .string x3_1 ∧ v5 = .int .i64 x5_1 ∧ Aside0 (oculusref13_Reverse.l0 kq x3_1 t101 x5_1 = some r) ∧ Aside0 (kq ≤ k) ∧ Aside0 (Kd.R Kd.string 9 w' w.heap.size (fun _ => True) v102 t101) ∧ Aside0 (Below w.heap.size w w'))
 case atStart => exact ⟨((⟨#[]⟩ : ByteArray)), (0), (by first | rfl | (simp; done) | (simp [*]; done)), (by first | rfl | (simp; done) | (simp [*]; done)), H', ⟨Nat.le_refl _⟩, ⟨by (with_reducible repeat (first | apply Kd.R_alloc | apply Kd.R_drewN | apply Kd.R_drew)); exact HO103.out⟩, ⟨pbx HB⟩⟩
 case round =>
  clear H'; (try clear c1); (try clear p2); obtain ⟨x3_1, x5_1, rfl, rfl, HA, HK1, HO_4, HB⟩ := hrel
  cases gk with
  | zero => exact absurd HA.out (by simp [oculusref13_Reverse.l0])
  | succ k1 =>
   have H := HA.out; clear HA
   simp only [oculusref13_Reverse.l0] at H
   by_cases c4 : x5_1 < (t101.length : Int)
   ·rw [if_pos c4] at H; have c4b0 : decide (x5_1 < (t101.length : Int)) = true := decide_eq_true c4; clear c4
    by_cases c5 : 0 ≤ x5_1
    ·rw [if_pos c5] at H; have c5b0 : decide (0 ≤ x5_1) = true := decide_eq_true c5; clear c5
     by_cases c6 : (rdOf ByteArray.empty t101 x5_1).size + x3_1.size ≤ 9223372036854775807
     ·rw [if_pos c6] at H; have c6b0 := eq_true c6; have c6b1 : decide ((rdOf ByteArray.empty t101 x5_1).size + x3_1.size ≤ 9223372036854775807) = true := decide_eq_true c6
      try have c6b2 : (9223372036854775807 < (rdOf ByteArray.empty t101 x5_1).size + x3_1.size) = False := eq_false (Nat.not_lt.2 c6)
      have H' := Aside0.mk H
      clear H; obtain ⟨Ao7, co7, eo7⟩ := Kd.R_slice HO_4.out; subst eo7
      have p104 : 0 ≤ (x5_1 : Int) := of_decide_eq_true (by first | (with_reducible assumption) | assumption)
      have q104 : x5_1 < (t101.length : Int) := of_decide_eq_true (by first | (with_reducible assumption) | assumption)
      obtain ⟨ad104, e104, hx104_0⟩ := Kd.at_string (Kd.R_reads' HO_4.out).2.2 x5_1 p104 q104
      cases e104
      replace p104 := eq_true p104; replace q104 := eq_true q104
      go_wp2
      go_roundg k1
      case measure => have := HK1.out; omega
      case rel => exact ⟨((rdOf ByteArray.empty t101 x5_1) ++ x3_1), (wrap64 (x5_1 + 1)), (by first | rfl | (simp; done) | (simp [*]; done) | (cases t101 <;> simp; done)), (by first | rfl | (simp; done) | (simp [*]; done)), H', ⟨by have := HK1.out; omega⟩, ⟨by (with_reducible repeat (first | apply Kd.R_alloc | apply Kd.R_drewN | apply Kd.R_drew)); exact HO_4.out⟩, ⟨pbx HB⟩⟩
     ·rw [if_neg c6] at H
      exact absurd H (by simp)
    ·rw [if_neg c5] at H
     exact absurd H (by simp)
   ·rw [if_neg c4] at H; have c4b0 : decide (x5_1 < (t101.length : Int)) = false := decide_eq_false c4; clear c4; obtain rfl := Option.some.inj H; obtain ⟨Ao8, co8, eo8⟩ := Kd.R_slice HO_4.out; subst eo8
    go_wp2
    go_ret
    exact ⟨by first | rfl | (simp [errW_none, errW_some] <;> rfl) | (simp [*, errW_none, errW_some] <;> rfl), pbx HB⟩

end Go.Proofs.YtlfoechdakjekaaDoor.X
namespace Go.Proofs.YtlfoechdakjekaaDoor.X
open Go.RowKit Go.Proofs.YtlfoechdakjekaaDoorW.PrintWords Go.Proofs.YtlfoechdakjekaaDoorW.PrintLast Go.Proofs.YtlfoechdakjekaaDoorW.PrintMore
attribute [local go_sem] max2_int min2_int max_two min_two max_three min_three max_four min_four   -- for this text's walks alone
set_option linter.unusedVariables false
set_option linter.unusedSimpArgs false

/-! ### oculusref13_First: function 10 -/
mutual
def oculusref13_First.j0 : Nat → ByteArray → Int → Int → Bool → Option (Int)
 | 0, _, _, _, _ => none
 | k + 1, x0, x3, x4, x17 => if x17 = true then (some x4) else (if x3 = 1 then (some 65533) else (if x3 = 3 then (oculusref13_First.j1 k x0 x3 x4 (Int.tmod x4 16)) else (oculusref13_First.j1 k x0 x3 x4 (Int.tmod x4 32))))
def oculusref13_First.j1 : Nat → ByteArray → Int → Int → Int → Option (Int)
 | 0, _, _, _, _ => none
 | k + 1, x0, x3, x4, x5 => if x3 = 4 then (oculusref13_First.j2 k x0 x3 (Int.tmod x4 8)) else (oculusref13_First.j2 k x0 x3 x5)
def oculusref13_First.j2 : Nat → ByteArray → Int → Int → Option (Int)
 | 0, _, _, _ => none
 | k + 1, x0, x3, x5 => oculusref13_First.l0 k x0 x3 x5 1
def oculusref13_First.l0 : Nat → ByteArray → Int → Int → Int → Option (Int)
 | 0, _, _, _, _ => none
 | k + 1, x0, x3, x5, x6 => if x6 < x3 then (if 0 ≤ x6 then (if x6 < (x0.size : Int) then (oculusref13_First.l0 k x0 x3 (wrap64 ((wrap64 (x5 * 64)) + (Int.tmod (wrap64 (bt x0 x6)) 64))) (wrap64 (x6 + 1))) else (none)) else (none)) else (some x5)
end
def oculusref13_First.f (k : Nat) (a0 : ByteArray) : Option (Int) := (oculusref13_Size.f k a0).bind fun t101 => (if 0 < (a0.size : Int) then (if t101 = 1 then (oculusref13_First.j0 k a0 t101 (wrap64 (bt a0 0)) (decide ((wrap64 (bt a0 0)) < 128))) else (oculusref13_First.j0 k a0 t101 (wrap64 (bt a0 0)) false)) else (none))
set_option maxHeartbeats 8000000 in
set_option maxRecDepth 100000 in
theorem oculusref13_First.calls (k : Nat) (a0 : ByteArray) (r : Int) (w : World) (h : oculusref13_First.f k a0 = some r) :
  Calls Tryd.prog 10 #[.string a0] w fun e w' => e = .returned (.int .i64 r) ∧ Drawn0 w w' := by
 have H : ((oculusref13_Size.f k a0).bind fun t101 => (if 0 < (a0.size : Int) then (if t101 = 1 then (oculusref13_First.j0 k a0 t101 (wrap64 (bt a0 0)) (decide ((wrap64 (bt a0 0)) < 128))) else (oculusref13_First.j0 k a0 t101 (wrap64 (bt a0 0)) false)) else (none))) = some r := h
 clear h; replace H := Option.bind_eq_some_iff.mp H; obtain ⟨t101, A20, H⟩ := H
 replace H : (if 0 < (a0.size : Int) then (if t101 = 1 then (oculusref13_First.j0 k a0 t101 (wrap64 (bt a0 0)) (decide ((wrap64 (bt a0 0)) < 128))) else (oculusref13_First.j0 k a0 t101 (wrap64 (bt a0 0)) false)) else (none)) = some r := H
 have A2 := Aside0.mk A20; clear A20
 by_cases c3 : 0 < (a0.size : Int)
 ·rw [if_pos c3] at H; have c3b0 : decide (0 < (a0.size : Int)) = true := decide_eq_true c3; have c3b1 : decide (0 < a0.size) = true := decide_eq_true (by omega); clear c3; have HC5 := Aside0.mk H; clear H
  go_enter Tryd.func10, Tryd.ntmps10
  go_upto_region 3 with (first | ((with_reducible refine gate_callee (f:=21) rfl ?_); refine goesL_ (some 8) rfl rfl Tryd.func21 (by kernel_rfl) rfl #[.string a0] rfl (by (try simp only [List.map_toArray, List.map_cons, List.map_nil]); first | done | rfl | (simp only [List.length_drop, List.length_take]; rfl)) ?_; (with_reducible refine (oculusref13_Size.calls k a0 t101 _ A2.out).mono ?_); rintro e w' ⟨rfl, ⟨nd, rfl⟩⟩; refine ⟨_, rfl, ?_⟩; have p4 : 0 ≤ (0 : Int) := (by omega); have q4 : 0 < a0.size := (by have : (0 : Int) < (a0.size : Int) := of_decide_eq_true (by first | (with_reducible assumption) | assumption); omega); have hx4 : ∀ h : 0 < a0.size, ((a0[0]'h).toNat : Int) = bt a0 0 := bt_at a0 0; clear p4; have qi4 : (0 < (a0.size : Int)) = True := eq_true (of_decide_eq_true (by first | (with_reducible assumption) | assumption)); replace q4 := eq_true q4))
  (try simp only [q_])
  go_cut [17] (fun v17 wc => ∃ (kq : Nat) (x17_4 : Bool), v17 = .bool x17_4 ∧ Aside0 (oculusref13_First.j0 kq a0 t101 (wrap64 (bt a0 0)) x17_4 = some r) ∧ Aside0 (kq ≤ k) ∧ Drawn0 w wc)
  case first =>
   have H := HC5.out; clear HC5
   by_cases c6 : t101 = 1
   ·rw [if_pos c6] at H; have c6b0 : (t101 == 1) = true := beq_iff_eq.mpr c6; have c6b1 : (t101 != 1) = false := bne_eq_false_iff_eq.mpr c6; clear c6; (first | rw [c6b0] | (simp only [i64_w, i32_w]; rw [c6b0]) | skip)
    have H' := Aside0.mk H
    clear H
    go_wp2
    go_meet
    case rel => exact ⟨_, (decide ((wrap64 (bt a0 0)) < 128)), (by first | rfl | (simp; done) | (simp [*]; done)), H', ⟨by first | omega | exact Nat.le_refl _⟩, by repeat (first | exact Drawn0.refl _ | apply Drawn0.step)⟩
   ·rw [if_neg c6] at H; have c6b0 : (t101 == 1) = false := beq_eq_false_iff_ne.mpr c6; have c6b1 : (t101 != 1) = true := bne_iff_ne.mpr c6; (first | rw [c6b0] | (simp only [i64_w, i32_w]; rw [c6b0]) | skip)
    have H' := Aside0.mk H
    clear H
    go_wp2
    go_meet
    case rel => exact ⟨_, (false), (by first | rfl | (simp; done) | (simp [*]; done)), H', ⟨by first | omega | exact Nat.le_refl _⟩, by repeat (first | exact Drawn0.refl _ | apply Drawn0.step)⟩
  case rest =>
   clear HC5; (try clear c1); (try clear c2); (try clear p2); (try clear c3); (try clear c3b0); (try clear c3b1); (try clear p4); (try clear q4); (try clear hx4); (try clear qi4); (try clear c6); (try clear c6b0); (try clear c6b1); (try clear p6); (try clear p4); (try clear q4); obtain ⟨kq, x17_4, rfl, HA, HJ4, ⟨mc4, rfl⟩⟩ := hcut
   cases kq with
   | zero => exact absurd HA.out (by simp [oculusref13_First.j0])
   | succ kj4 =>
    have H := HA.out; clear HA
    simp only [oculusref13_First.j0] at H
    by_cases c7 : x17_4 = true
    ·subst c7
     have H1 : (some (wrap64 (bt a0 0))) = some r := by rw [if_pos rfl] at H; exact H
     clear H; have H := H1; clear H1; obtain rfl := Option.some.inj H
     go_wp2
     go_ret
     exact ⟨by first | rfl | (simp; done) | (simp [*]; done), by repeat (first | exact Drawn0.refl _ | apply Drawn0.step)⟩
    ·replace c7 := Bool.eq_false_iff.mpr c7; subst c7
     have H1 : (if t101 = 1 then (some 65533) else (if t101 = 3 then (oculusref13_First.j1 kj4 a0 t101 (wrap64 (bt a0 0)) (Int.tmod (wrap64 (bt a0 0)) 16)) else (oculusref13_First.j1 kj4 a0 t101 (wrap64 (bt a0 0)) (Int.tmod (wrap64 (bt a0 0)) 32)))) = some r := by rw [if_neg (show ¬ (false = true) by decide)] at H; exact H
     clear H; have H := H1; clear H1
     by_cases c8 : t101 = 1
     ·rw [if_pos c8] at H; have c8b0 : (t101 == 1) = true := beq_iff_eq.mpr c8; have c8b1 : (t101 != 1) = false := bne_eq_false_iff_eq.mpr c8; clear c8; obtain rfl := Option.some.inj H
      go_wp2
      go_ret
      exact ⟨by first | rfl | (simp; done) | (simp [*]; done), by repeat (first | exact Drawn0.refl _ | apply Drawn0.step)⟩
     ·rw [if_neg c8] at H; have c8b0 : (t101 == 1) = false := beq_eq_false_iff_ne.mpr c8; have c8b1 : (t101 != 1) = true := bne_iff_ne.mpr c8; have HC9 := Aside0.mk H; clear H
      go_upto_if 24 with (fail)
      go_cut [5] (fun v5 wc => ∃ (kq : Nat) (x5_8 : Int), v5 = .int .i64 x5_8 ∧ Aside0 (oculusref13_First.j1 kq a0 t101 (wrap64 (bt a0 0)) x5_8 = some r) ∧ Aside0 (kq ≤ kj4) ∧ Drawn0 w wc)
      case first =>
       have H := HC9.out; clear HC9
       by_cases c10 : t101 = 3
       ·rw [if_pos c10] at H; have c10b0 : (t101 == 3) = true := beq_iff_eq.mpr c10; have c10b1 : (t101 != 3) = false := bne_eq_false_iff_eq.mpr c10; clear c10; (first | rw [c10b0] | (simp only [i64_w, i32_w]; rw [c10b0]) | skip)
        have H' := Aside0.mk H
        clear H
        go_wp2
        go_meet
        case rel => exact ⟨_, (Int.tmod (wrap64 (bt a0 0)) 16), (by first | rfl | (simp; done) | (simp [*]; done)), H', ⟨by have := HJ4.out; first | omega | exact Nat.le_refl _⟩, by repeat (first | exact Drawn0.refl _ | apply Drawn0.step)⟩
       ·rw [if_neg c10] at H; have c10b0 : (t101 == 3) = false := beq_eq_false_iff_ne.mpr c10; have c10b1 : (t101 != 3) = true := bne_iff_ne.mpr c10; (first | rw [c10b0] | (simp only [i64_w, i32_w]; rw [c10b0]) | skip)
        have H' := Aside0.mk H
        clear H
        go_wp2
        go_meet
        case rel => exact ⟨_, (Int.tmod (wrap64 (bt a0 0)) 32), (by first | rfl | (simp; done) | (simp [*]; done)), H', ⟨by have := HJ4.out; first | omega | exact Nat.le_refl _⟩, by repeat (first | exact Drawn0.refl _ | apply Drawn0.step)⟩
      case rest =>
       clear HC9; (try clear c1); (try clear c2); (try clear p2); (try clear c3); (try clear c3b0); (try clear c3b1); (try clear c4); (try clear p4); (try clear q4); (try clear hx4); (try clear qi4); (try clear c6); (try clear c6b0); (try clear c6b1); (try clear p6); (try clear c7); (try clear c8); (try clear c8b0); (try clear c8b1); (try clear c10); (try clear c10b0); (try clear c10b1); (try clear p2); (try clear p4); (try clear p6); (try clear q4); obtain ⟨kq, x5_8, rfl, HA, HJ8, ⟨mc8, rfl⟩⟩ := hcut
       cases kq with
       | zero => exact absurd HA.out (by simp [oculusref13_First.j1])
       | succ kj8 =>
        have H := HA.out; clear HA
        simp only [oculusref13_First.j1] at H
        have HC11 := Aside0.mk H; clear H
        go_upto_if 28 with (fail)
        go_cut [5] (fun v5 wc => ∃ (kq : Nat) (x5_10 : Int), v5 = .int .i64 x5_10 ∧ Aside0 (oculusref13_First.j2 kq a0 t101 x5_10 = some r) ∧ Aside0 (kq ≤ kj8) ∧ Drawn0 w wc)
        case first =>
         have H := HC11.out; clear HC11
         by_cases c12 : t101 = 4
         ·rw [if_pos c12] at H; have c12b0 : (t101 == 4) = true := beq_iff_eq.mpr c12; have c12b1 : (t101 != 4) = false := bne_eq_false_iff_eq.mpr c12; clear c12; (first | rw [c12b0] | (simp only [i64_w, i32_w]; rw [c12b0]) | skip)
          have H' := Aside0.mk H
          clear H
          go_wp2
          go_meet
          case rel => exact ⟨_, (Int.tmod (wrap64 (bt a0 0)) 8), (by first | rfl | (simp; done) | (simp [*]; done)), H', ⟨by have := HJ4.out; have := HJ8.out; first | omega | exact Nat.le_refl _⟩, by repeat (first | exact Drawn0.refl _ | apply Drawn0.step)⟩
         ·rw [if_neg c12] at H; have c12b0 : (t101 == 4) = false := beq_eq_false_iff_ne.mpr c12; have c12b1 : (t101 != 4) = true := bne_iff_ne.mpr c12; (first | rw [c12b0] | (simp only [i64_w, i32_w]; rw [c12b0]) | skip)
          have H' := Aside0.mk H
          clear H
          go_wp2
          go_meet
          case rel => exact ⟨_, (x5_8), (by first | rfl | (simp; done) | (simp [*]; done)), H', ⟨by have := HJ4.out; have := HJ8.out; first | omega | exact Nat.le_refl _⟩, by repeat (first | exact Drawn0.refl _ | apply Drawn0.step)⟩
        case rest =>
         clear HC11; (try clear c1); (try clear c2); (try clear p2); (try clear c3); (try clear c3b0); (try clear c3b1); (try clear c4); (try clear p4); (try clear q4); (try clear hx4); (try clear qi4); (try clear c6); (try clear c6b0); (try clear c6b1); (try clear p6); (try clear c7); (try clear c8); (try clear c8b0); (try clear c8b1); (try clear c10); (try clear c10b0); (try clear c10b1); (try clear c12); (try clear c12b0); (try clear c12b1); (try clear p2); (try clear p4); (try clear p6); (try clear q4); obtain ⟨kq, x5_10, rfl, HA, HJ10, ⟨mc10, rfl⟩⟩ := hcut
         cases kq with
         | zero => exact absurd HA.out (by simp [oculusref13_First.j2])
         | succ kj10 =>
          have H := HA.out; clear HA
          simp only [oculusref13_First.j2] at H
          have H' := Aside0.mk H
          clear H
          go_wp2
          go_loopg [5, 6] kj10 (fun kq v5 v6 w' => ∃ (x5_4 : Int) (x6_4 : Int), v5 = .int .i64 x5_4 ∧ v6 = .int .i64 x6_4 ∧ Aside0 (oculusref13_First.l0 kq a0 t101 x5_4 x6_4 = some r) ∧ Aside0 (kq ≤ kj10) ∧ Drawn0 w w')
          case atStart => exact ⟨(x5_10), (1), (by first | rfl | (simp; done) | (simp [*]; done)), (by first | rfl | (simp; done) | (simp [*]; done)), H', ⟨Nat.le_refl _⟩, by repeat (first | exact Drawn0.refl _ | apply Drawn0.step)⟩
          case round =>
           clear H'; (try clear c1); (try clear c2); (try clear p2); (try clear c3); (try clear c3b0); (try clear c3b1); (try clear c4); (try clear p4); (try clear q4); (try clear hx4); (try clear qi4); (try clear c6); (try clear c6b0); (try clear c6b1); (try clear p6); (try clear c7); (try clear c8); (try clear c8b0); (try clear c8b1); (try clear c10); (try clear c10b0); (try clear c10b1); (try clear c12); (try clear c12b0); (try clear c12b1); (try clear p2); (try clear p4); (try clear p6); (try clear q4); obtain ⟨x5_4, x6_4, rfl, rfl, HA, HK4, ⟨m4, rfl⟩⟩ := hrel
           cases gk with
           | zero => exact absurd HA.out (by simp [oculusref13_First.l0])
           | succ k4 =>
            have H := HA.out; clear HA
            simp only [oculusref13_First.l0] at H
            by_cases c13 : x6_4 < t101
            ·rw [if_pos c13] at H; have c13b0 : decide (x6_4 < t101) = true := decide_eq_true c13; clear c13
             by_cases c14 : 0 ≤ x6_4
             ·rw [if_pos c14] at H; have c14b0 : decide (0 ≤ x6_4) = true := decide_eq_true c14; clear c14
              by_cases c15 : x6_4 < (a0.size : Int)
              ·rw [if_pos c15] at H; have c15b0 : decide (x6_4 < (a0.size : Int)) = true := decide_eq_true c15; clear c15
               have H' := Aside0.mk H
               clear H
               have p16 : 0 ≤ (x6_4 : Int) := of_decide_eq_true (by first | (with_reducible assumption) | assumption)
               have q16 : x6_4 < (a0.size : Int) := of_decide_eq_true (by first | (with_reducible assumption) | assumption)
               have hx16 := bt_at a0 x6_4; replace p16 := eq_true p16; replace q16 := eq_true q16
               go_wp2
               go_roundg k4
               case measure => have := HJ4.out; have := HJ8.out; have := HJ10.out; have := HK4.out; omega
               case rel => exact ⟨(wrap64 ((wrap64 (x5_4 * 64)) + (Int.tmod (wrap64 (bt a0 x6_4)) 64))), (wrap64 (x6_4 + 1)), (by first | rfl | (simp; done) | (simp [*]; done)), (by first | rfl | (simp; done) | (simp [*]; done)), H', ⟨by have := HJ4.out; have := HJ8.out; have := HJ10.out; have := HK4.out; omega⟩, by repeat (first | exact Drawn0.refl _ | apply Drawn0.step)⟩
              ·rw [if_neg c15] at H
               exact absurd H (by simp)
             ·rw [if_neg c14] at H
              exact absurd H (by simp)
            ·rw [if_neg c13] at H; have c13b0 : decide (x6_4 < t101) = false := decide_eq_false c13; clear c13; obtain rfl := Option.some.inj H
             go_wp2
             go_ret
             exact ⟨by first | rfl | (simp; done) | (simp [*]; done), by repeat (first | exact Drawn0.refl _ | apply Drawn0.step)⟩
 ·rw [if_neg c3] at H
  exact absurd H (by simp)

end Go.Proofs.YtlfoechdakjekaaDoor.X
/-
  DERIVED: THE SHELF's CONTRACTS AT THIS DUMP, IN PLAIN WORDS (tools/lay-plain.mjs out of 'TrydShelf.lean', which tools/lay-shelf.mjs wrote): THE SAME DECLARATIONS UNDER THE SAME NAMES: 'import', 'namespace', 'open', 'def', 'theorem' AND NOTHING ELSE: no command of the shelf's: FOR A HAND-IN. Each laying: the table of numbers ('.._ren') and one theorem, a field a fact of the dump's own or the kernel's comparison; each contract: ONE APPLICATION.
-/
namespace Go.Proofs
open Go.Shelf
def Tryd.lays169_ren : Go.Shelf.Ren := ⟨fun | 169 => 20 | n => n, fun | 70 => 41 | 9 => 9 | 0 => 0 | 72 => 43 | 37 => 38 | 127 => 51 | 3 => 3 | 5 => 5 | n => n, fun | n => n⟩
theorem Tryd.lays169 : Go.Proofs.Lays.n169 Tryd.prog Tryd.lays169_ren := {
  mixed := by kernel_rfl
  f169 := Tryd.func20.trans (congrArg some (by kernel_rfl))
  t0 := Tryd.underlying0
  a0 := Tryd.isAgg0
  z0 := Tryd.sizeOf0
  v0 := Tryd.zeroValue0
  t3 := Tryd.underlying3
  a3 := Tryd.isAgg3
  z3 := Tryd.sizeOf3
  v3 := Tryd.zeroValue3
  t9 := Tryd.underlying9
  a9 := Tryd.isAgg9
  z9 := Tryd.sizeOf9
  v9 := Tryd.zeroValue9
  t37 := Tryd.underlying38
  a37 := Tryd.isAgg38
  z37 := Tryd.sizeOf38
  v37 := Tryd.zeroValue38
  t70 := Tryd.underlying41
  a70 := Tryd.isAgg41
  z70 := Tryd.sizeOf41
  v70 := Tryd.zeroValue41
  t72 := Tryd.underlying43
  a72 := Tryd.isAgg43
  z72 := Tryd.sizeOf43
  v72 := Tryd.zeroValue43
  t127 := Tryd.underlying51
  a127 := Tryd.isAgg51
  z127 := Tryd.sizeOf51
  v127 := Tryd.zeroValue51 }
theorem Tryd.Builder_Extra_169 : Builder.Extra Tryd.prog Tryd.lays169_ren := {
  sizeBuilder := by kernel_rfl
  liesBuilder := by kernel_rfl
  t5 := Tryd.underlying5
  a5 := Tryd.isAgg5
  z5 := Tryd.sizeOf5
  v5 := Tryd.zeroValue5
  infoByte := by kernel_rfl
  cellsByte := by kernel_rfl
  sizeByte := by kernel_rfl
  neB5 := by decide }
def Tryd.lays119_ren : Go.Shelf.Ren := ⟨fun | 119 => 17 | n => n, fun | 21 => 21 | 4 => 4 | n => n, fun | n => n⟩
theorem Tryd.lays119 : Go.Proofs.Lays.n119 Tryd.prog Tryd.lays119_ren := {
  mixed := by kernel_rfl
  f119 := Tryd.func17.trans (congrArg some (by kernel_rfl))
  t4 := Tryd.underlying4
  a4 := Tryd.isAgg4
  z4 := Tryd.sizeOf4
  v4 := Tryd.zeroValue4
  t21 := Tryd.underlying21
  a21 := Tryd.isAgg21
  z21 := Tryd.sizeOf21
  v21 := Tryd.zeroValue21 }
/-- utf8.ValidRune: "ValidRune reports whether r can be legally encoded as UTF-8. Code points that are out of range or a surrogate half are illegal.": IT RETURNS 'Lib.validRune r'; the world is as it was. (LAID: no walk: one application.) -/
theorem Tryd.utf8_ValidRune (r : Int) (w : World) :
    Calls Tryd.prog 17 #[.int .i32 r] w fun e w' => e = .returned (.bool (Lib.validRune r)) ∧ w' = w := Any.utf8_ValidRune Tryd.lays119 r w
open Go.RowKit in
/-- (*strings.Builder).String: "String returns the accumulated string.": WHATEVER THE BUILDER HOLDS; THE FORM '_k': OVER 'Lib.IsBuilderF' (a builder that 'String()' may have read), AND WITH THE FRAME THAT REACHES ABOVE THE BUILDER: 'Lib.OthersKept': every block that is not b and is no row of uint8's stands as it stood: the iterator of a range among them. (LAID: no walk: one application.) -/
theorem Tryd.Builder_String_any_k (B b : Nat) (l : List UInt8) (w : World) (h : Lib.IsBuilderF 43 5 B b (Lib.byteCells l) w) (hBw : B ≤ w.heap.size) :
    Calls Tryd.prog 20 #[.pointer (some ⟨b, 0, none⟩)] w fun e w' => e = .returned (.string ⟨l.toArray⟩) ∧ (Lib.IsBuilderF 43 5 B b (Lib.byteCells l) w' ∧ Below B w w' ∧ Lib.OthersKept 5 (some b) w w') := Any.Builder_String_any_k Tryd.lays169 Tryd.Builder_Extra_169 B b l w h hBw
def Tryd.lays206_ren : Go.Shelf.Ren := ⟨fun | 206 => 26 | n => n, fun | 9 => 9 | 4 => 4 | 3 => 3 | n => n, fun | n => n⟩
theorem Tryd.lays206 : Go.Proofs.Lays.n206 Tryd.prog Tryd.lays206_ren := {
  mixed := by kernel_rfl
  f206 := Tryd.func26.trans (congrArg some (by kernel_rfl))
  t3 := Tryd.underlying3
  a3 := Tryd.isAgg3
  z3 := Tryd.sizeOf3
  v3 := Tryd.zeroValue3
  t4 := Tryd.underlying4
  a4 := Tryd.isAgg4
  z4 := Tryd.sizeOf4
  v4 := Tryd.zeroValue4
  t9 := Tryd.underlying9
  a9 := Tryd.isAgg9
  z9 := Tryd.sizeOf9
  v9 := Tryd.zeroValue9 }
open Go.RowKit Go.Lib in
/-- internal/stringslite.HasPrefix (what strings.HasPrefix calls). (LAID: no walk: one application.) -/
theorem Tryd.stringslite_HasPrefix (s p : ByteArray) (w : World) :
    Calls Tryd.prog 26 #[.string s, .string p] w fun e w' => e = .returned (.bool (Lib.hasPrefix s.data.toList p.data.toList)) ∧ w' = w := Any.stringslite_HasPrefix Tryd.lays206 s p w
def Tryd.lays99_ren : Go.Shelf.Ren := ⟨fun | 99 => 22 | 206 => 26 | n => n, fun | 9 => 9 | 4 => 4 | 3 => 3 | n => n, fun | n => n⟩
theorem Tryd.lays99 : Go.Proofs.Lays.n99 Tryd.prog Tryd.lays99_ren := {
  mixed := by kernel_rfl
  f99 := Tryd.func22.trans (congrArg some (by kernel_rfl))
  f206 := Tryd.func26.trans (congrArg some (by kernel_rfl))
  t3 := Tryd.underlying3
  a3 := Tryd.isAgg3
  z3 := Tryd.sizeOf3
  v3 := Tryd.zeroValue3
  t4 := Tryd.underlying4
  a4 := Tryd.isAgg4
  z4 := Tryd.sizeOf4
  v4 := Tryd.zeroValue4
  t9 := Tryd.underlying9
  a9 := Tryd.isAgg9
  z9 := Tryd.sizeOf9
  v9 := Tryd.zeroValue9 }
open Go.RowKit Go.Lib in
/-- strings.HasPrefix: "HasPrefix reports whether the string s begins with prefix.": IT RETURNS 'Lib.hasPrefix s prefix'; the world is as it was. (LAID: no walk: one application.) -/
theorem Tryd.strings_HasPrefix (s p : ByteArray) (w : World) :
    Calls Tryd.prog 22 #[.string s, .string p] w fun e w' => e = .returned (.bool (Lib.hasPrefix s.data.toList p.data.toList)) ∧ w' = w := Any.strings_HasPrefix Tryd.lays99 s p w
def Tryd.lays197_ren : Go.Shelf.Ren := ⟨fun | 197 => 18 | 260 => 24 | n => n, fun | 9 => 9 | 21 => 21 | 3 => 3 | 4 => 4 | 5 => 5 | 105 => 39 | 119 => 52 | 0 => 0 | 46 => 53 | 139 => 56 | 138 => 55 | n => n, fun | 3 => 0 | 4 => 1 | n => n⟩
theorem Tryd.lays197 : Go.Proofs.Lays.n197 Tryd.prog Tryd.lays197_ren := {
  mixed := by kernel_rfl
  f197 := Tryd.func18.trans (congrArg some (by kernel_rfl))
  f260 := Tryd.func24.trans (congrArg some (by kernel_rfl))
  t0 := Tryd.underlying0
  a0 := Tryd.isAgg0
  z0 := Tryd.sizeOf0
  v0 := Tryd.zeroValue0
  t3 := Tryd.underlying3
  a3 := Tryd.isAgg3
  z3 := Tryd.sizeOf3
  v3 := Tryd.zeroValue3
  t4 := Tryd.underlying4
  a4 := Tryd.isAgg4
  z4 := Tryd.sizeOf4
  v4 := Tryd.zeroValue4
  t5 := Tryd.underlying5
  a5 := Tryd.isAgg5
  z5 := Tryd.sizeOf5
  v5 := Tryd.zeroValue5
  t9 := Tryd.underlying9
  a9 := Tryd.isAgg9
  z9 := Tryd.sizeOf9
  v9 := Tryd.zeroValue9
  t21 := Tryd.underlying21
  a21 := Tryd.isAgg21
  z21 := Tryd.sizeOf21
  v21 := Tryd.zeroValue21
  t46 := Tryd.underlying53
  a46 := Tryd.isAgg53
  z46 := Tryd.sizeOf53
  v46 := Tryd.zeroValue53
  t105 := Tryd.underlying39
  a105 := Tryd.isAgg39
  z105 := Tryd.sizeOf39
  v105 := Tryd.zeroValue39
  t119 := Tryd.underlying52
  a119 := Tryd.isAgg52
  z119 := Tryd.sizeOf52
  t138 := Tryd.underlying55
  a138 := Tryd.isAgg55
  z138 := Tryd.sizeOf55
  v138 := Tryd.zeroValue55
  t139 := Tryd.underlying56
  a139 := Tryd.isAgg56
  z139 := Tryd.sizeOf56
  v139 := Tryd.zeroValue56
  g3 := by kernel_rfl
  g4 := by kernel_rfl }
def Tryd.lays260_ren : Go.Shelf.Ren := ⟨fun | 260 => 24 | n => n, fun | 9 => 9 | 21 => 21 | 3 => 3 | 4 => 4 | 5 => 5 | 119 => 52 | 0 => 0 | 46 => 53 | 139 => 56 | 138 => 55 | n => n, fun | 3 => 0 | 4 => 1 | n => n⟩
theorem Tryd.lays260 : Go.Proofs.Lays.n260 Tryd.prog Tryd.lays260_ren := {
  mixed := by kernel_rfl
  f260 := Tryd.func24.trans (congrArg some (by kernel_rfl))
  t0 := Tryd.underlying0
  a0 := Tryd.isAgg0
  z0 := Tryd.sizeOf0
  v0 := Tryd.zeroValue0
  t3 := Tryd.underlying3
  a3 := Tryd.isAgg3
  z3 := Tryd.sizeOf3
  v3 := Tryd.zeroValue3
  t4 := Tryd.underlying4
  a4 := Tryd.isAgg4
  z4 := Tryd.sizeOf4
  v4 := Tryd.zeroValue4
  t5 := Tryd.underlying5
  a5 := Tryd.isAgg5
  z5 := Tryd.sizeOf5
  v5 := Tryd.zeroValue5
  t9 := Tryd.underlying9
  a9 := Tryd.isAgg9
  z9 := Tryd.sizeOf9
  v9 := Tryd.zeroValue9
  t21 := Tryd.underlying21
  a21 := Tryd.isAgg21
  z21 := Tryd.sizeOf21
  v21 := Tryd.zeroValue21
  t46 := Tryd.underlying53
  a46 := Tryd.isAgg53
  z46 := Tryd.sizeOf53
  v46 := Tryd.zeroValue53
  t119 := Tryd.underlying52
  a119 := Tryd.isAgg52
  z119 := Tryd.sizeOf52
  t138 := Tryd.underlying55
  a138 := Tryd.isAgg55
  z138 := Tryd.sizeOf55
  v138 := Tryd.zeroValue55
  t139 := Tryd.underlying56
  a139 := Tryd.isAgg56
  z139 := Tryd.sizeOf56
  v139 := Tryd.zeroValue56
  g3 := by kernel_rfl
  g4 := by kernel_rfl }
open Go.RowKit Go.Lib in
/-- **unicode/utf8.DecodeRuneInString AT EVERY STRING.** (LAID: no walk: one application.) -/
theorem Tryd.utf8_DecodeRuneInString (s : ByteArray) (w : World) (hT : Lib.Utf8Tabs 0 1 w) :
    Calls Tryd.prog 18 #[.string s] w fun e w' => e = .returned (.tuple #[.int .i32 (Lib.decodeGo s).1, .int .i64 (Lib.decodeGo s).2]) ∧ Below w.heap.size w w' := Any.utf8_DecodeRuneInString Tryd.lays197 s w hT
end Go.Proofs
/- The contracts of strings.Builder's WriteByte and WriteString, for a program in which copyCheck's last arm is refused: the shelf's proofs, walked at this program. -/
set_option linter.unusedVariables false
namespace Go.Proofs.YtlfoechdakjekaaDoor.X
open Go.RowKit Go.Shelf Go.Proofs.YtlfoechdakjekaaDoorW.PrintWords Go.Proofs.YtlfoechdakjekaaDoorW.PrintLast Go.Proofs.YtlfoechdakjekaaDoorW.PrintMore
theorem bldSize : (Tryd.prog.info? 43).map (·.size) = some 2 := by kernel_rfl
theorem bldLies : liesAt Tryd.prog Tryd.prog.depth 43 (2 / Tryd.prog.cellsOf 43) 0 43 1 = true := by kernel_rfl
theorem bldByte : (Tryd.prog.info? 5).map (fun i => (i.zero, i.size, i.bytes)) = some (some (.int .u8 0), 1, 1) := by kernel_rfl
set_option maxHeartbeats 1000000 in
set_option maxRecDepth 100000 in
theorem bld_check_used (b : Nat) (w : World) (h0 : w.cell? ⟨b, 0, none⟩ = some (.pointer (some ⟨b, 0, none⟩))) :
    Calls Tryd.prog 25 #[.pointer (some ⟨b, 0, none⟩)] w fun e w' => e = .returned (.tuple #[]) ∧ w' = w := by
  obtain ⟨j, hj, _⟩ := Option.map_eq_some_iff.1 bldSize
  go_enter Tryd.func25, Tryd.ntmps25
  go_wp2
  rw [Lib.run_neq_ptr_same w _ Tryd.underlying41 hj]
  go_wp2
  go_end0
  exact ⟨rfl, rfl⟩
set_option maxHeartbeats 1000000 in
set_option maxRecDepth 100000 in
theorem bld_check_fresh (b : Nat) (w : World) (h0 : w.cell? ⟨b, 0, none⟩ = some (.pointer none)) (hsh : w.shape? b = some (43, 2)) (hfz : w.frozen? ⟨b, 0, none⟩ = false) :
    Calls Tryd.prog 25 #[.pointer (some ⟨b, 0, none⟩)] w fun e w' => e = .returned (.tuple #[]) ∧ w' = w.setCell ⟨b, 0, none⟩ (.pointer (some ⟨b, 0, none⟩)) := by
  obtain ⟨j, hj, hjs⟩ := Option.map_eq_some_iff.1 bldSize
  go_enter Tryd.func25, Tryd.ntmps25
  go_wp2
  rw [Lib.run_to_unsafe w ⟨b, 0, none⟩ Tryd.underlying41 Tryd.underlying57 hj (by rw [hjs]; decide) hsh (Nat.zero_lt_succ 1)]
  simp only [Result.andThen]
  rw [Oper.upon_value]
  go_wp2
  rw [run_callFunc_extern Tryd.func27 (by kernel_rfl) (by kernel_rfl) (by kernel_rfl) (e := Extern.AbiNoEscape.same) (by kernel_rfl)]
  rw [Lib.run_noEscape]
  simp only [Result.andThen]
  rw [Oper.upon_value]
  go_wp2
  rw [Lib.run_from_unsafe w ⟨b, 0, none⟩ Tryd.underlying57 Tryd.underlying41 hj hsh bldLies]
  simp only [Result.andThen]
  rw [Oper.upon_value]
  go_wp2
  go_end0
  exact ⟨rfl, rfl⟩
theorem bld_check_k (B b : Nat) (bs : List Value) (w : World) (h : Lib.IsBuilderF 43 5 B b bs w) :
    Calls Tryd.prog 25 #[.pointer (some ⟨b, 0, none⟩)] w fun e w' => e = .returned (.tuple #[]) ∧ (Lib.BuilderAtF 43 5 B b (.pointer (some ⟨b, 0, none⟩)) bs w' ∧ Below B w w' ∧ Lib.OthersKept 5 (some b) w w') := by
  rcases h with h | h
  · refine (bld_check_fresh b w h.cell0 h.shape h.frozen0).mono ?_
    rintro e w' ⟨rfl, rfl⟩
    exact ⟨rfl, h.used _, (Below.refl B w).setCell (p := ⟨b, 0, none⟩) h.1 _, (Lib.OthersKept.refl _ _ w).setCell ⟨b, 0, none⟩ rfl _⟩
  · refine (bld_check_used b w h.cell0).mono ?_
    rintro e w' ⟨rfl, rfl⟩
    exact ⟨rfl, h, Below.refl B _, Lib.OthersKept.refl _ _ _⟩
set_option maxHeartbeats 2000000 in
set_option maxRecDepth 100000 in
theorem bld_string_k (B b : Nat) (bs : List Value) (s : ByteArray) (w : World) (h : Lib.IsBuilderF 43 5 B b bs w) (hlen : bs.length + s.size ≤ 140737488355328) (hBw : B ≤ w.heap.size) :
    Calls Tryd.prog 19 #[.pointer (some ⟨b, 0, none⟩), .string s] w fun e w' => e = .returned (.tuple #[.int .i64 s.size, .nilIface]) ∧ (Lib.BuilderAtF 43 5 B b (.pointer (some ⟨b, 0, none⟩)) (bs ++ Lib.strCells s) w' ∧ Below B w w' ∧ Lib.OthersKept 5 (some b) w w') := by
  obtain ⟨i0, hi, hz0, hz1, hz2⟩ := info_parts bldByte
  have e240 : ∀ args w, (callFunc 25 args).run Tryd.prog w = .ok (.enter 25 args) w := enters_of Tryd.func25 (by kernel_rfl) rfl
  go_enter Tryd.func19, Tryd.ntmps19
  go_wp2_with (go_at_call 25; refine (bld_check_k B b bs _ h).mono ?_)
  rintro e w1 ⟨rfl, h1, hb1, hk1⟩
  obtain ⟨hB, v, hbk, hown, hne⟩ := h1
  have c0 : w1.cell? ⟨b, 0, none⟩ = some (.pointer (some ⟨b, 0, none⟩)) := by rw [Lib.cell_of_heap hbk]; rfl
  have c1 : w1.cell? ⟨b, 1, none⟩ = some v := by rw [Lib.cell_of_heap hbk]; rfl
  go_wp2_with (at_builtin; refine Lib.wpList_append_own_stringF _ rfl _ _ 38 9 rfl B 5 i0 Tryd.underlying38 Tryd.underlying9 hi hz0 hz1 hz2 _ _ _ rfl hown s rfl ?c3 ?c4 ?c5 ?_)
  case c3 => unfold maxLen; omega
  case c4 => omega
  case c5 => have := hb1.size; omega
  intro v' w2 hown' hgrow _
  have hlt : b < w1.heap.size := by
    rcases Nat.lt_or_ge b w1.heap.size with h' | h'
    · exact h'
    · simp [Array.getElem?_eq_none h'] at hbk
  have hb2 : w2.heap[b]? = some (.cells #[.pointer (some ⟨b, 0, none⟩), v] 43 (0, 0)) := by
    rw [hgrow.block b hlt (fun e => hne e.symm)]
    exact hbk
  have d0 : w2.cell? ⟨b, 0, none⟩ = some (.pointer (some ⟨b, 0, none⟩)) := by rw [Lib.cell_of_heap hb2]; rfl
  have d1 : w2.cell? ⟨b, 1, none⟩ = some v := by rw [Lib.cell_of_heap hb2]; rfl
  have f1 : w2.frozen? ⟨b, 1, none⟩ = false := Lib.frozen_of_heap hb2 1
  obtain ⟨ao, n', cap, rfl⟩ : ∃ ao n' cap, v' = .slice ao n' cap := by
    rcases hown'.2 with ⟨hv, _⟩ | ⟨g, cap, cur, fz, hv, _⟩
    · exact ⟨_, _, _, hv⟩
    · exact ⟨_, _, _, hv⟩
  go_wp2
  go_ret2
  refine ⟨rfl, ?_, ?_, (hk1.grown hgrow (Lib.ownsRowF_kind hown)).setCell ⟨b, 1, none⟩ rfl _⟩
  · exact Lib.BuilderAtF.put (T := 43) (e := 5) hB hb2 (bs' := bs ++ Lib.strCells s) (by simpa [Lib.strCells_length] using hown') (by decide)
  · exact (hb1.grown hgrow (by have := hb1.size; omega) (fun k hk => (hown.lt k hk).1)).setCell (p := ⟨b, 1, none⟩) hB _
end Go.Proofs.YtlfoechdakjekaaDoor.X
/- Plain facts on whole numbers, bits and lists that the pure statements use. -/
set_option linter.unusedVariables false
set_option linter.unusedSimpArgs false
namespace Go.Proofs.YtlfoechdakjekaaDoor.X
open Go.RowKit Go.Proofs.YtlfoechdakjekaaDoorW.PrintWords Go.Proofs.YtlfoechdakjekaaDoorW.PrintLast Go.Proofs.YtlfoechdakjekaaDoorW.PrintMore

theorem w64 {x : Int} (h0 : -9223372036854775808 ≤ x) (h1 : x ≤ 9223372036854775807) : wrap64 x = x := by unfold wrap64; omega
theorem w64s {i n : Nat} (h : i < n) (hn : n ≤ 9223372036854775807) : wrap64 ((i : Int) + 1) = ((i + 1 : Nat) : Int) := by unfold wrap64; omega

/-! Ev: with enough rounds. -/
theorem ev_some {α : Type} {g : Nat → Option α} {r : α} (h : ∀ k, g k = some r) : Ev g r := ⟨0, fun k _ => h k⟩
theorem ev_ite {α : Type} {c : Prop} [Decidable c] {f g : Nat → Option α} {r : α} (h1 : c → Ev f r) (h2 : ¬ c → Ev g r) : Ev (fun k => if c then f k else g k) r := by
  by_cases h : c
  · simp only [if_pos h]; exact h1 h
  · simp only [if_neg h]; exact h2 h
theorem ev_pos {α : Type} {c : Prop} [Decidable c] {f g : Nat → Option α} {r : α} (h : c) (h1 : Ev f r) : Ev (fun k => if c then f k else g k) r := by simp only [if_pos h]; exact h1
theorem ev_neg {α : Type} {c : Prop} [Decidable c] {f g : Nat → Option α} {r : α} (h : ¬ c) (h1 : Ev g r) : Ev (fun k => if c then f k else g k) r := by simp only [if_neg h]; exact h1
theorem ev_bind {α β : Type} {g : Nat → Option α} {f : Nat → α → Option β} {a : α} {r : β} (h : Ev g a) (k : Ev (fun n => f n a) r) : Ev (fun n => (g n).bind (f n)) r := Ev.bind h k
/-! Bits. -/
end Go.Proofs.YtlfoechdakjekaaDoor.X
/- Plain facts on texts as lists of bytes. -/
set_option linter.unusedVariables false
set_option linter.unusedSimpArgs false
namespace Go.Proofs.YtlfoechdakjekaaDoor.X
open Go.RowKit Go.Proofs.YtlfoechdakjekaaDoorW.PrintWords Go.Proofs.YtlfoechdakjekaaDoorW.PrintLast Go.Proofs.YtlfoechdakjekaaDoorW.PrintMore
/-- A text's bytes; the text of bytes. -/
def by_ (s : ByteArray) : List UInt8 := s.data.toList
def tx (l : List UInt8) : ByteArray := ⟨l.toArray⟩
theorem by_tx (l : List UInt8) : by_ (tx l) = l := by simp [by_, tx]
theorem tx_by (s : ByteArray) : tx (by_ s) = s := by
  obtain ⟨⟨l⟩⟩ := s
  rfl
theorem by_inj {s t : ByteArray} (h : by_ s = by_ t) : s = t := by rw [← tx_by s, ← tx_by t, h]
theorem toList_by (s : ByteArray) : s.toList = by_ s := ByteArray.toList_eq s
theorem size_by (s : ByteArray) : s.size = (by_ s).length := by
  obtain ⟨⟨l⟩⟩ := s
  rfl
theorem size_tx (l : List UInt8) : (tx l).size = l.length := by rw [size_by, by_tx]
theorem by_extract (s : ByteArray) (a b : Nat) : by_ (s.extract a b) = ((by_ s).drop a).take (b - a) := Go.Lib.extract_data s a b
theorem by_head (s : ByteArray) (b : Nat) : by_ (s.extract 0 b) = (by_ s).take b := by rw [by_extract]; simp
theorem by_tail (s : ByteArray) (a : Nat) : by_ (s.extract a s.size) = (by_ s).drop a := by
  rw [by_extract, List.take_of_length_le]
  rw [List.length_drop, size_by]
  exact Nat.le_refl _
theorem ext_head (s : ByteArray) (b : Nat) : s.extract 0 b = tx ((by_ s).take b) := by_inj (by rw [by_head, by_tx])
theorem ext_tail (s : ByteArray) (a : Nat) : s.extract a s.size = tx ((by_ s).drop a) := by_inj (by rw [by_tail, by_tx])
theorem by_append (s t : ByteArray) : by_ (s ++ t) = by_ s ++ by_ t := by
  obtain ⟨⟨l⟩⟩ := s
  obtain ⟨⟨m⟩⟩ := t
  simp [by_, ByteArray.data_append]
theorem tx_append (l m : List UInt8) : tx l ++ tx m = tx (l ++ m) := by_inj (by rw [by_append, by_tx, by_tx, by_tx])
theorem bt_by (s : ByteArray) (i : Nat) (h : i < (by_ s).length) : bt s (i : Int) = ((by_ s)[i].toNat : Int) := by
  obtain ⟨⟨l⟩⟩ := s
  have h' : (i : Int).toNat < (⟨⟨l⟩⟩ : ByteArray).size := by rw [Int.toNat_natCast]; exact h
  unfold bt
  rw [dif_pos h']
  simp only [Int.toNat_natCast]
  rfl
theorem bt_tx (l : List UInt8) (i : Nat) (h : i < l.length) : bt (tx l) (i : Int) = (l[i].toNat : Int) := by
  rw [bt_by (tx l) i (by rw [by_tx]; exact h)]
  simp only [by_tx]
end Go.Proofs.YtlfoechdakjekaaDoor.X
/- Runes as pieces of a list of bytes: what the code's places and the reference's pieces are. -/
set_option linter.unusedVariables false
set_option linter.unusedSimpArgs false
namespace Go.Proofs.YtlfoechdakjekaaDoor.X
open Go.RowKit Go.Proofs.YtlfoechdakjekaaDoorW.PrintWords Go.Proofs.YtlfoechdakjekaaDoorW.PrintLast Go.Proofs.YtlfoechdakjekaaDoorW.PrintMore
def gb (l : List UInt8) (k : Nat) : Nat := (l.getD k 0).toNat
theorem gb_lt (l : List UInt8) (k : Nat) : gb l k < 256 := (l.getD k 0).toNat_lt
/-- How many bytes the first rune of a text has. -/
def wL (l : List UInt8) : Nat :=
  if gb l 0 < 128 then 1
  else if gb l 0 / 32 = 6 ∧ 1 < l.length ∧ gb l 1 / 64 = 2 then (if 128 ≤ (gb l 0 % 32) * 64 + gb l 1 % 64 then 2 else 1)
  else if gb l 0 / 16 = 14 ∧ (1 < l.length ∧ gb l 1 / 64 = 2) ∧ (2 < l.length ∧ gb l 2 / 64 = 2) then
    (if 2048 ≤ (gb l 0 % 16) * 4096 + (gb l 1 % 64) * 64 + gb l 2 % 64 ∧ ((gb l 0 % 16) * 4096 + (gb l 1 % 64) * 64 + gb l 2 % 64 < 55296 ∨ 57344 ≤ (gb l 0 % 16) * 4096 + (gb l 1 % 64) * 64 + gb l 2 % 64) then 3 else 1)
  else if gb l 0 / 8 = 30 ∧ (1 < l.length ∧ gb l 1 / 64 = 2) ∧ (2 < l.length ∧ gb l 2 / 64 = 2) ∧ (3 < l.length ∧ gb l 3 / 64 = 2) then
    (if 65536 ≤ (gb l 0 % 8) * 262144 + (gb l 1 % 64) * 4096 + (gb l 2 % 64) * 64 + gb l 3 % 64 ∧ (gb l 0 % 8) * 262144 + (gb l 1 % 64) * 4096 + (gb l 2 % 64) * 64 + gb l 3 % 64 ≤ 1114111 then 4 else 1)
  else 1
theorem get_gb (s : ByteArray) (pos k : Nat) : (s.get! (pos + k)).toNat = gb ((by_ s).drop pos) k := by
  obtain ⟨⟨l⟩⟩ := s
  unfold gb by_
  rw [List.getD_eq_getElem?_getD, List.getElem?_drop]
  show ((⟨l⟩ : Array UInt8)[pos + k]!).toNat = _
  rw [getElem!_def]
  simp only [List.getElem?_toArray]
  cases l[pos + k]? <;> rfl
theorem valid_iff (c : Nat) : Utf8.valid (c : Int) = true ↔ c < 55296 ∨ (57344 ≤ c ∧ c ≤ 1114111) := by
  unfold Utf8.valid
  rw [Bool.or_eq_true, Bool.and_eq_true, Bool.and_eq_true, decide_eq_true_eq, decide_eq_true_eq, decide_eq_true_eq, decide_eq_true_eq]
  omega
set_option maxHeartbeats 1000000 in
theorem decode_wL (s : ByteArray) (pos : Nat) : (Utf8.decode s pos).2 = wL ((by_ s).drop pos) := by
  have e : ∀ k, (s.get! (pos + k)).toNat = gb ((by_ s).drop pos) k := get_gb s pos
  have hl : ∀ k, (pos + k < s.size) ↔ k < ((by_ s).drop pos).length := by
    intro k
    rw [List.length_drop, size_by]
    omega
  have h0 := gb_lt ((by_ s).drop pos) 0
  have h1 := gb_lt ((by_ s).drop pos) 1
  have h2 := gb_lt ((by_ s).drop pos) 2
  have h3 := gb_lt ((by_ s).drop pos) 3
  simp only [Utf8.decode, e, hl]
  unfold wL
  generalize gb ((by_ s).drop pos) 0 = b0 at *
  generalize gb ((by_ s).drop pos) 1 = b1 at *
  generalize gb ((by_ s).drop pos) 2 = b2 at *
  generalize gb ((by_ s).drop pos) 3 = b3 at *
  generalize ((by_ s).drop pos).length = n at *
  by_cases c0 : b0 < 128
  · rw [if_pos c0, if_pos c0]
  rw [if_neg c0, if_neg c0]
  by_cases c1 : b0 / 32 = 6 ∧ 1 < n ∧ b1 / 64 = 2
  · rw [if_pos c1, if_pos (by simp [c1.1, c1.2.1, c1.2.2])]
    split <;> (try split) <;> first | rfl | omega
  rw [if_neg c1, if_neg (by simp only [Bool.and_eq_true, decide_eq_true_eq, beq_iff_eq]; exact c1)]
  by_cases c2 : b0 / 16 = 14 ∧ (1 < n ∧ b1 / 64 = 2) ∧ (2 < n ∧ b2 / 64 = 2)
  · rw [if_pos c2, if_pos (by simp [c2.1, c2.2.1.1, c2.2.1.2, c2.2.2.1, c2.2.2.2])]
    split <;> split
    · rfl
    · rename_i p q
      rw [Bool.and_eq_true, decide_eq_true_eq, valid_iff] at p
      omega
    · rename_i p q
      exact absurd (by rw [Bool.and_eq_true, decide_eq_true_eq, valid_iff]; omega) p
    · rfl
  rw [if_neg c2, if_neg (by simp only [Bool.and_eq_true, decide_eq_true_eq, beq_iff_eq]; exact fun h => c2 ⟨h.1.1, h.1.2, h.2⟩)]
  by_cases c3 : b0 / 8 = 30 ∧ (1 < n ∧ b1 / 64 = 2) ∧ (2 < n ∧ b2 / 64 = 2) ∧ (3 < n ∧ b3 / 64 = 2)
  · rw [if_pos c3, if_pos (by simp [c3.1, c3.2.1.1, c3.2.1.2, c3.2.2.1.1, c3.2.2.1.2, c3.2.2.2.1, c3.2.2.2.2])]
    split <;> split
    · rfl
    · rename_i p q
      rw [Bool.and_eq_true, decide_eq_true_eq, valid_iff] at p
      omega
    · rename_i p q
      exact absurd (by rw [Bool.and_eq_true, decide_eq_true_eq, valid_iff]; omega) p
    · rfl
  rw [if_neg c3, if_neg (by simp only [Bool.and_eq_true, decide_eq_true_eq, beq_iff_eq]; exact fun h => c3 ⟨h.1.1.1, h.1.1.2, h.1.2, h.2⟩)]
theorem wL_bounds (l : List UInt8) (h : l ≠ []) : 1 ≤ wL l ∧ wL l ≤ l.length ∧ wL l ≤ 4 := by
  have hl : 1 ≤ l.length := by cases l with | nil => exact absurd rfl h | cons a t => simp
  unfold wL
  repeat' split
  all_goals omega
/-- Behind the first rune nothing tells how long it is. -/
theorem gb_take (l : List UInt8) (m k : Nat) (h : k < m) : gb (l.take m) k = gb l k := by
  unfold gb
  rw [List.getD_eq_getElem?_getD, List.getD_eq_getElem?_getD, List.getElem?_take, if_pos h]
theorem wL_take (l : List UInt8) (m : Nat) (h : l ≠ []) (hm : wL l ≤ m) (hm2 : m ≤ l.length) : wL (l.take m) = wL l := by
  have hb := wL_bounds l h
  have hlen : (l.take m).length = m := by rw [List.length_take]; omega
  have e0 := gb_take l m 0 (by omega)
  by_cases m1 : 1 < m
  · have e1 := gb_take l m 1 m1
    by_cases m2 : 2 < m
    · have e2 := gb_take l m 2 m2
      by_cases m3 : 3 < m
      · have e3 := gb_take l m 3 m3
        unfold wL at *
        rw [hlen, e0, e1, e2, e3]
        generalize gb l 0 = b0 at *
        generalize gb l 1 = b1 at *
        generalize gb l 2 = b2 at *
        generalize gb l 3 = b3 at *
        generalize l.length = n at *
        have q1 : 1 < n := by omega
        have q2 : 2 < n := by omega
        have q3 : 3 < n := by omega
        simp only [m1, m2, m3, q1, q2, q3]
      · have hn3 : ¬ 3 < m := m3
        unfold wL at *
        rw [hlen, e0, e1, e2]
        generalize gb l 0 = b0 at *
        generalize gb l 1 = b1 at *
        generalize gb l 2 = b2 at *
        generalize gb l 3 = b3 at *
        generalize gb (l.take m) 3 = b3' at *
        generalize l.length = n at *
        repeat' split
        all_goals (first | rfl | omega | (repeat' split at hm) <;> omega)
    · unfold wL at *
      rw [hlen, e0, e1]
      generalize gb l 0 = b0 at *
      generalize gb l 1 = b1 at *
      generalize gb l 2 = b2 at *
      generalize gb l 3 = b3 at *
      generalize gb (l.take m) 3 = b3' at *
      generalize gb (l.take m) 2 = b2' at *
      generalize l.length = n at *
      repeat' split
      all_goals (first | rfl | omega | (repeat' split at hm) <;> omega)
  · unfold wL at *
    rw [hlen, e0]
    generalize gb l 0 = b0 at *
    generalize gb l 1 = b1 at *
    generalize gb l 2 = b2 at *
    generalize gb l 3 = b3 at *
    generalize gb (l.take m) 3 = b3' at *
    generalize gb (l.take m) 2 = b2' at *
    generalize gb (l.take m) 1 = b1' at *
    generalize l.length = n at *
    repeat' split
    all_goals (first | rfl | omega | (repeat' split at hm) <;> omega)
/-- A text's runes. -/
def pcs (l : List UInt8) : List (List UInt8) := if h : l = [] then [] else l.take (wL l) :: pcs (l.drop (wL l))
termination_by l.length
decreasing_by
  have := wL_bounds l h
  rw [List.length_drop]
  omega
theorem pcs_nil : pcs [] = [] := by rw [pcs]; simp
theorem pcs_cons (l : List UInt8) (h : l ≠ []) : pcs l = l.take (wL l) :: pcs (l.drop (wL l)) := by rw [pcs, dif_neg h]
theorem pcs_flatten : ∀ (n : Nat) (l : List UInt8), l.length ≤ n → (pcs l).flatten = l
  | 0, l, h => by
    have : l = [] := by cases l with | nil => rfl | cons a t => simp at h
    rw [this, pcs_nil]; rfl
  | n + 1, l, h => by
    by_cases hl : l = []
    · rw [hl, pcs_nil]; rfl
    · have hb := wL_bounds l hl
      rw [pcs_cons l hl, List.flatten_cons, pcs_flatten n _ (by rw [List.length_drop]; omega), List.take_append_drop]
theorem pcs_flat (l : List UInt8) : (pcs l).flatten = l := pcs_flatten l.length l (Nat.le_refl _)
theorem pcs_size : ∀ (n : Nat) (l : List UInt8), l.length ≤ n → (pcs l).length ≤ l.length
  | 0, l, h => by
    have : l = [] := by cases l with | nil => rfl | cons a t => simp at h
    rw [this, pcs_nil]; simp
  | n + 1, l, h => by
    by_cases hl : l = []
    · rw [hl, pcs_nil]; simp
    · have hb := wL_bounds l hl
      have := pcs_size n (l.drop (wL l)) (by rw [List.length_drop]; omega)
      rw [pcs_cons l hl, List.length_cons]
      rw [List.length_drop] at this
      omega
theorem pcs_le (l : List UInt8) : (pcs l).length ≤ l.length := pcs_size l.length l (Nat.le_refl _)
/-- What is behind some runes. -/
theorem pcs_drop : ∀ (n : Nat) (l : List UInt8), pcs ((pcs l).drop n).flatten = (pcs l).drop n
  | 0, l => by rw [List.drop_zero, pcs_flat]
  | n + 1, l => by
    by_cases hl : l = []
    · rw [hl, pcs_nil]; simp [pcs_nil]
    · rw [pcs_cons l hl, List.drop_succ_cons]
      exact pcs_drop n _
/-! The code's places. -/
def sts : Nat → List (List UInt8) → List Nat
  | _, [] => []
  | p, x :: xs => p :: sts (p + x.length) xs
theorem posF_sts (s : ByteArray) : ∀ f pos, s.size ≤ pos + f → posF s f pos = sts pos (pcs ((by_ s).drop pos))
  | 0, pos, h => by
    rw [List.drop_eq_nil_of_le (by rw [← size_by]; omega), pcs_nil]; rfl
  | f + 1, pos, h => by
    by_cases hp : pos < s.size
    · have hne : (by_ s).drop pos ≠ [] := by
        intro hh
        have := congrArg List.length hh
        rw [List.length_drop, ← size_by] at this
        simp at this
        omega
      have hb := wL_bounds _ hne
      rw [pcs_cons _ hne]
      simp only [posF, if_pos hp, sts]
      rw [decode_wL, posF_sts s f _ (by omega), List.length_take, List.drop_drop, Nat.min_eq_left hb.2.1]
    · simp only [posF, if_neg hp]
      rw [List.drop_eq_nil_of_le (by rw [← size_by]; omega), pcs_nil]; rfl
theorem runeP_sts (s : ByteArray) : runeP s = sts 0 (pcs (by_ s)) := by
  unfold runeP
  rw [posF_sts s s.size 0 (by omega), List.drop_zero]
theorem sts_length : ∀ xs p, (sts p xs).length = xs.length
  | [], _ => rfl
  | x :: xs, p => by simp [sts, sts_length xs]
theorem sts_getD : ∀ (xs : List (List UInt8)) (p n : Nat), (sts p xs).getD n (p + xs.flatten.length) = p + (xs.take n).flatten.length
  | [], p, n => by simp [sts]
  | x :: xs, p, 0 => by simp [sts]
  | x :: xs, p, n + 1 => by
    have := sts_getD xs (p + x.length) n
    simp only [sts, List.flatten_cons, List.length_append, List.take_succ_cons, List.getD_cons_succ]
    rw [← Nat.add_assoc, this, Nat.add_assoc]
theorem count_eq (s : ByteArray) (h : s.size ≤ 4611686018427387904) : runes_Count.f s = some ((pcs (by_ s)).length : Int) := by
  unfold runes_Count.f
  rw [if_pos h, runeP_sts, sts_length]
theorem at_eq (s : ByteArray) (n : Int) (h : s.size ≤ 4611686018427387904) (hn : n ≤ 9223372036854775807) : runes_at.f s n = some ((((pcs (by_ s)).take n.toNat).flatten.length : Nat) : Int) := by
  unfold runes_at.f
  rw [if_pos ⟨h, hn⟩, runeP_sts]
  have := sts_getD (pcs (by_ s)) 0 n.toNat
  rw [Nat.zero_add, Nat.zero_add, pcs_flat, ← size_by] at this
  rw [this]
theorem take_at (l : List UInt8) (n : Nat) : l.take ((pcs l).take n).flatten.length = ((pcs l).take n).flatten := by
  have h : ((pcs l).take n).flatten ++ ((pcs l).drop n).flatten = l := by rw [← List.flatten_append, List.take_append_drop, pcs_flat]
  generalize ((pcs l).take n).flatten = a at *
  rw [← h, List.take_left' rfl]
theorem drop_at (l : List UInt8) (n : Nat) : l.drop ((pcs l).take n).flatten.length = ((pcs l).drop n).flatten := by
  have h : ((pcs l).take n).flatten ++ ((pcs l).drop n).flatten = l := by rw [← List.flatten_append, List.take_append_drop, pcs_flat]
  generalize ((pcs l).take n).flatten = a at *
  generalize ((pcs l).drop n).flatten = b at *
  rw [← h, List.drop_left' rfl]
theorem at_le (l : List UInt8) (n : Nat) : ((pcs l).take n).flatten.length ≤ l.length := by
  have h : ((pcs l).take n).flatten ++ ((pcs l).drop n).flatten = l := by rw [← List.flatten_append, List.take_append_drop, pcs_flat]
  have := congrArg List.length h
  rw [List.length_append] at this
  omega
/-! The reference's size. -/
def lpS (l : List UInt8) : Nat → Nat → Int → Int → Int → Int
  | 0, _, _, _, n => n
  | d + 1, i, low, high, n => if (gb l i : Int) < low then 1 else if (gb l i : Int) > high then 1 else lpS l d (i + 1) 128 191 n
theorem bt_gb (l : List UInt8) (i : Nat) (h : i < l.length) : bt (tx l) (i : Int) = (gb l i : Int) := by
  rw [bt_tx l i h]
  unfold gb
  rw [List.getD_eq_getElem?_getD, List.getElem?_eq_getElem h]
  rfl
theorem size_l0 (l : List UInt8) (n : Nat) (hn : n ≤ l.length) (hn4 : n ≤ 4) : ∀ d i low high, i + d = n → Ev (fun k => oculusref13_Size.l0 k (tx l) (n : Int) low high (i : Int)) (lpS l d i low high (n : Int))
  | 0, i, low, high, h => by
    refine Ev.step (f := fun k => some (n : Int)) (fun k => ?_) (Ev.now _)
    simp only [oculusref13_Size.l0]
    rw [if_neg (by omega)]
  | d + 1, i, low, high, h => by
    have hz := size_tx l
    refine Ev.step (f := fun k => if (gb l i : Int) < low then some 1 else if (gb l i : Int) > high then some 1 else oculusref13_Size.l0 k (tx l) (n : Int) 128 191 ((i + 1 : Nat) : Int)) (fun k => ?_) ?_
    · simp only [oculusref13_Size.l0]
      rw [if_pos (by omega), if_pos (by omega), if_pos (by omega), bt_gb l i (by omega), w64s (n := 100) (by omega) (by omega)]
    · simp only [lpS]
      by_cases h1 : (gb l i : Int) < low
      · rw [if_pos h1]; exact ev_pos h1 (Ev.now _)
      · rw [if_neg h1]
        refine ev_neg h1 ?_
        by_cases h2 : (gb l i : Int) > high
        · rw [if_pos h2]; exact ev_pos h2 (Ev.now _)
        · rw [if_neg h2]; exact ev_neg h2 (size_l0 l n hn hn4 d (i + 1) 128 191 (by omega))
def vS (l : List UInt8) (n : Nat) (low high : Int) : Int := if l.length < n then 1 else lpS l (n - 1) 1 low high (n : Int)
theorem vS_1 (l : List UInt8) (low high : Int) : vS l 1 low high = if l.length < 1 then 1 else 1 := rfl
theorem vS_2 (l : List UInt8) (low high : Int) : vS l 2 low high = if l.length < 2 then 1 else if (gb l 1 : Int) < low then 1 else if (gb l 1 : Int) > high then 1 else 2 := rfl
theorem vS_3 (l : List UInt8) (low high : Int) : vS l 3 low high = if l.length < 3 then 1 else if (gb l 1 : Int) < low then 1 else if (gb l 1 : Int) > high then 1 else if (gb l 2 : Int) < 128 then 1 else if (gb l 2 : Int) > 191 then 1 else 3 := rfl
theorem vS_4 (l : List UInt8) (low high : Int) : vS l 4 low high = if l.length < 4 then 1 else if (gb l 1 : Int) < low then 1 else if (gb l 1 : Int) > high then 1 else if (gb l 2 : Int) < 128 then 1 else if (gb l 2 : Int) > 191 then 1 else if (gb l 3 : Int) < 128 then 1 else if (gb l 3 : Int) > 191 then 1 else 4 := rfl
theorem size_j3 (l : List UInt8) (n : Nat) (hn1 : 1 ≤ n) (hn4 : n ≤ 4) (low high : Int) : Ev (fun k => oculusref13_Size.j3 k (tx l) (n : Int) low high) (vS l n low high) := by
  have hz := size_tx l
  refine Ev.step (fun k => oculusref13_Size.j3.eq_2 _ _ _ _ _) ?_
  unfold vS
  by_cases h : l.length < n
  · rw [if_pos h]; exact ev_pos (by omega) (Ev.now _)
  · rw [if_neg h]; exact ev_neg (by omega) (size_l0 l n (by omega) hn4 (n - 1) 1 low high (by omega))
theorem size_j2 (l : List UInt8) (hl : l ≠ []) (n : Nat) (hn1 : 1 ≤ n) (hn4 : n ≤ 4) : Ev (fun k => oculusref13_Size.j2 k (tx l) (n : Int) 128 191)
    (if (gb l 0 : Int) = 224 then vS l n 160 191 else if (gb l 0 : Int) = 237 then vS l n 128 159 else if (gb l 0 : Int) = 240 then vS l n 144 191 else if (gb l 0 : Int) = 244 then vS l n 128 143 else vS l n 128 191) := by
  have hz := size_tx l
  have hp : 0 < l.length := by cases l with | nil => exact absurd rfl hl | cons a t => simp
  refine Ev.step (fun k => oculusref13_Size.j2.eq_2 _ _ _ _ _) ?_
  refine ev_pos (by omega) ?_
  have hb : bt (tx l) 0 = (gb l 0 : Int) := bt_gb l 0 hp
  simp only [hb]
  by_cases h1 : (gb l 0 : Int) = 224
  · rw [if_pos h1]; exact ev_pos h1 (size_j3 l n hn1 hn4 _ _)
  rw [if_neg h1]; refine ev_neg h1 ?_
  by_cases h2 : (gb l 0 : Int) = 237
  · rw [if_pos h2]; exact ev_pos h2 (size_j3 l n hn1 hn4 _ _)
  rw [if_neg h2]; refine ev_neg h2 ?_
  by_cases h3 : (gb l 0 : Int) = 240
  · rw [if_pos h3]; exact ev_pos h3 (size_j3 l n hn1 hn4 _ _)
  rw [if_neg h3]; refine ev_neg h3 ?_
  by_cases h4 : (gb l 0 : Int) = 244
  · rw [if_pos h4]; exact ev_pos h4 (size_j3 l n hn1 hn4 _ _)
  rw [if_neg h4]; exact ev_neg h4 (size_j3 l n hn1 hn4 _ _)
set_option maxHeartbeats 4000000 in
theorem vS_fin (l : List UInt8) (hl : l ≠ []) (n : Nat) (h1 : 1 ≤ n) (h4 : n ≤ 4) (e2 : n = 2 ↔ 194 ≤ gb l 0 ∧ gb l 0 ≤ 223) (e3 : n = 3 ↔ 224 ≤ gb l 0 ∧ gb l 0 ≤ 239) (e4 : n = 4 ↔ 240 ≤ gb l 0 ∧ gb l 0 ≤ 244) :
    (if (gb l 0 : Int) = 224 then vS l n 160 191 else if (gb l 0 : Int) = 237 then vS l n 128 159 else if (gb l 0 : Int) = 240 then vS l n 144 191 else if (gb l 0 : Int) = 244 then vS l n 128 143 else vS l n 128 191) = (wL l : Int) := by
  have g0 := gb_lt l 0
  have g1 := gb_lt l 1
  have g2 := gb_lt l 2
  have g3 := gb_lt l 3
  unfold wL
  rcases (by omega : n = 1 ∨ n = 2 ∨ n = 3 ∨ n = 4) with rfl | rfl | rfl | rfl
  · rw [vS_1, vS_1, vS_1, vS_1, vS_1]
    generalize gb l 0 = b0 at *
    generalize gb l 1 = b1 at *
    generalize gb l 2 = b2 at *
    generalize gb l 3 = b3 at *
    generalize l.length = m at *
    repeat' split
    all_goals omega
  · have p0 := e2.1 rfl
    rw [vS_2, vS_2, vS_2, vS_2, vS_2]
    generalize gb l 0 = b0 at *
    generalize gb l 1 = b1 at *
    generalize gb l 2 = b2 at *
    generalize gb l 3 = b3 at *
    generalize l.length = m at *
    rw [if_neg (by omega), if_neg (by omega), if_neg (by omega), if_neg (by omega), if_neg (by omega : ¬ b0 < 128)]
    repeat' split
    all_goals omega
  · have p0 := e3.1 rfl
    rw [vS_3, vS_3, vS_3, vS_3, vS_3]
    generalize gb l 0 = b0 at *
    generalize gb l 1 = b1 at *
    generalize gb l 2 = b2 at *
    generalize gb l 3 = b3 at *
    generalize l.length = m at *
    rw [if_neg (by omega : ¬ b0 < 128), if_neg (by omega : ¬ (b0 / 32 = 6 ∧ 1 < m ∧ b1 / 64 = 2))]
    by_cases q1 : (b0 : Int) = 224
    · rw [if_pos q1]
      repeat' split
      all_goals omega
    rw [if_neg q1]
    by_cases q2 : (b0 : Int) = 237
    · rw [if_pos q2]
      repeat' split
      all_goals omega
    rw [if_neg q2, if_neg (by omega), if_neg (by omega)]
    repeat' split
    all_goals omega
  · have p0 := e4.1 rfl
    rw [vS_4, vS_4, vS_4, vS_4, vS_4]
    generalize gb l 0 = b0 at *
    generalize gb l 1 = b1 at *
    generalize gb l 2 = b2 at *
    generalize gb l 3 = b3 at *
    generalize l.length = m at *
    rw [if_neg (by omega : ¬ b0 < 128), if_neg (by omega : ¬ (b0 / 32 = 6 ∧ 1 < m ∧ b1 / 64 = 2)), if_neg (by omega : ¬ (b0 / 16 = 14 ∧ (1 < m ∧ b1 / 64 = 2) ∧ (2 < m ∧ b2 / 64 = 2))), if_neg (by omega), if_neg (by omega)]
    by_cases q1 : (b0 : Int) = 240
    · rw [if_pos q1]
      repeat' split
      all_goals omega
    rw [if_neg q1]
    by_cases q2 : (b0 : Int) = 244
    · rw [if_pos q2]
      repeat' split
      all_goals omega
    rw [if_neg q2]
    repeat' split
    all_goals omega
theorem size13_ev (l : List UInt8) (hl : l ≠ []) : Ev (fun k => oculusref13_Size.f k (tx l)) (wL l : Int) := by
  have hz := size_tx l
  have hp : 0 < l.length := by cases l with | nil => exact absurd rfl hl | cons a t => simp
  have hb : bt (tx l) 0 = (gb l 0 : Int) := bt_gb l 0 hp
  have g0 := gb_lt l 0
  have g1 := gb_lt l 1
  have g2 := gb_lt l 2
  have g3 := gb_lt l 3
  unfold oculusref13_Size.f
  refine ev_neg (by omega) (ev_pos (by omega) ?_)
  simp only [hb]
  have fin : ∀ n : Nat, 1 ≤ n → n ≤ 4 → (n = 2 ↔ 194 ≤ gb l 0 ∧ gb l 0 ≤ 223) → (n = 3 ↔ 224 ≤ gb l 0 ∧ gb l 0 ≤ 239) → (n = 4 ↔ 240 ≤ gb l 0 ∧ gb l 0 ≤ 244) → Ev (fun k => oculusref13_Size.j2 k (tx l) (n : Int) 128 191) (wL l : Int) := by
    intro n h1 h4 e2 e3 e4
    have := size_j2 l hl n h1 h4
    refine (congrArg (Ev _) ?_).mp this
    exact vS_fin l hl n h1 h4 e2 e3 e4
  by_cases h1 : (gb l 0 : Int) ≥ 194
  · refine ev_pos h1 ?_
    by_cases h2 : (gb l 0 : Int) ≤ 223
    · rw [decide_eq_true h2]
      refine Ev.step (fun k => oculusref13_Size.j0.eq_2 _ _ _ _ _ _) ?_
      exact ev_pos rfl (fin 2 (by omega) (by omega) (by omega) (by omega) (by omega))
    · rw [decide_eq_false h2]
      refine Ev.step (fun k => oculusref13_Size.j0.eq_2 _ _ _ _ _ _) ?_
      refine ev_neg (by simp) (ev_pos (by omega) ?_)
      simp only [hb]
      refine ev_pos (by omega) ?_
      by_cases h3 : (gb l 0 : Int) ≤ 239
      · rw [decide_eq_true h3]
        refine Ev.step (fun k => oculusref13_Size.j1.eq_2 _ _ _ _ _ _) ?_
        exact ev_pos rfl (fin 3 (by omega) (by omega) (by omega) (by omega) (by omega))
      · rw [decide_eq_false h3]
        refine Ev.step (fun k => oculusref13_Size.j1.eq_2 _ _ _ _ _ _) ?_
        refine ev_neg (by simp) (ev_pos (by omega) ?_)
        simp only [hb]
        refine ev_pos (by omega) ?_
        by_cases h5 : (gb l 0 : Int) ≤ 244
        · exact ev_pos h5 (fin 4 (by omega) (by omega) (by omega) (by omega) (by omega))
        · exact ev_neg h5 (fin 1 (by omega) (by omega) (by omega) (by omega) (by omega))
  · refine ev_neg h1 ?_
    refine Ev.step (fun k => oculusref13_Size.j0.eq_2 _ _ _ _ _ _) ?_
    refine ev_neg (by simp) (ev_pos (by omega) ?_)
    simp only [hb]
    refine ev_neg (by omega) ?_
    refine Ev.step (fun k => oculusref13_Size.j1.eq_2 _ _ _ _ _ _) ?_
    refine ev_neg (by simp) (ev_pos (by omega) ?_)
    simp only [hb]
    exact ev_neg (by omega) (fin 1 (by omega) (by omega) (by omega) (by omega) (by omega))
theorem pieces_l0 : ∀ (n : Nat) (l : List UInt8) (acc : List ByteArray), l.length ≤ n → l.length + acc.length ≤ 1000000 → Ev (fun k => oculusref13_Pieces.l0 k (tx l) acc) (acc ++ (pcs l).map tx)
  | n, l, acc, h, hs => by
    have hz := size_tx l
    by_cases hl : l = []
    · subst hl
      rw [pcs_nil, List.map_nil, List.append_nil]
      refine Ev.step (fun k => oculusref13_Pieces.l0.eq_2 _ _ _) ?_
      exact ev_neg (by rw [hz]; simp) (Ev.now _)
    · have hb := wL_bounds l hl
      refine Ev.step (fun k => oculusref13_Pieces.l0.eq_2 _ _ _) ?_
      refine ev_pos (by omega) ?_
      refine ev_bind (size13_ev l hl) ?_
      refine ev_pos (by omega) (ev_pos (by omega) (ev_pos (by omega) ?_))
      obtain ⟨n', rfl⟩ : ∃ n', n = n' + 1 := ⟨n - 1, by omega⟩
      have := pieces_l0 n' (l.drop (wL l)) (acc ++ [tx (l.take (wL l))]) (by rw [List.length_drop]; omega) (by rw [List.length_drop, List.length_append, List.length_singleton]; omega)
      have e : acc ++ (pcs l).map tx = (acc ++ [tx (l.take (wL l))]) ++ (pcs (l.drop (wL l))).map tx := by rw [pcs_cons l hl]; simp
      rw [e, Int.toNat_natCast, ext_head, ext_tail, by_tx]
      exact this
theorem pieces_ev (s : ByteArray) (h : s.size ≤ 1000) : Ev (fun k => oculusref13_Pieces.f k s) ((pcs (by_ s)).map tx) := by
  unfold oculusref13_Pieces.f
  have := pieces_l0 (by_ s).length (by_ s) [] (Nat.le_refl _) (by rw [← size_by]; simp; omega)
  rw [tx_by] at this
  simpa using this
end Go.Proofs.YtlfoechdakjekaaDoor.X
/- Runes: the first one's number, the text of one, and texts turned about. Plain. -/
set_option linter.unusedVariables false
set_option linter.unusedSimpArgs false
namespace Go.Proofs.YtlfoechdakjekaaDoor.X
open Go.RowKit Go.Proofs.YtlfoechdakjekaaDoorW.PrintWords Go.Proofs.YtlfoechdakjekaaDoorW.PrintLast Go.Proofs.YtlfoechdakjekaaDoorW.PrintMore
/-- The first rune of a text. -/
def dV (l : List UInt8) : Nat :=
  if gb l 0 < 128 then gb l 0
  else if gb l 0 / 32 = 6 ∧ 1 < l.length ∧ gb l 1 / 64 = 2 then (if 128 ≤ (gb l 0 % 32) * 64 + gb l 1 % 64 then (gb l 0 % 32) * 64 + gb l 1 % 64 else 65533)
  else if gb l 0 / 16 = 14 ∧ (1 < l.length ∧ gb l 1 / 64 = 2) ∧ (2 < l.length ∧ gb l 2 / 64 = 2) then
    (if 2048 ≤ (gb l 0 % 16) * 4096 + (gb l 1 % 64) * 64 + gb l 2 % 64 ∧ ((gb l 0 % 16) * 4096 + (gb l 1 % 64) * 64 + gb l 2 % 64 < 55296 ∨ 57344 ≤ (gb l 0 % 16) * 4096 + (gb l 1 % 64) * 64 + gb l 2 % 64) then (gb l 0 % 16) * 4096 + (gb l 1 % 64) * 64 + gb l 2 % 64 else 65533)
  else if gb l 0 / 8 = 30 ∧ (1 < l.length ∧ gb l 1 / 64 = 2) ∧ (2 < l.length ∧ gb l 2 / 64 = 2) ∧ (3 < l.length ∧ gb l 3 / 64 = 2) then
    (if 65536 ≤ (gb l 0 % 8) * 262144 + (gb l 1 % 64) * 4096 + (gb l 2 % 64) * 64 + gb l 3 % 64 ∧ (gb l 0 % 8) * 262144 + (gb l 1 % 64) * 4096 + (gb l 2 % 64) * 64 + gb l 3 % 64 ≤ 1114111 then (gb l 0 % 8) * 262144 + (gb l 1 % 64) * 4096 + (gb l 2 % 64) * 64 + gb l 3 % 64 else 65533)
  else 65533
set_option maxHeartbeats 1000000 in
theorem decode_dV (s : ByteArray) (pos : Nat) : (Utf8.decode s pos).1 = dV ((by_ s).drop pos) := by
  have e : ∀ k, (s.get! (pos + k)).toNat = gb ((by_ s).drop pos) k := get_gb s pos
  have hl : ∀ k, (pos + k < s.size) ↔ k < ((by_ s).drop pos).length := by
    intro k
    rw [List.length_drop, size_by]
    omega
  have h0 := gb_lt ((by_ s).drop pos) 0
  have h1 := gb_lt ((by_ s).drop pos) 1
  have h2 := gb_lt ((by_ s).drop pos) 2
  have h3 := gb_lt ((by_ s).drop pos) 3
  simp only [Utf8.decode, e, hl]
  unfold dV
  generalize gb ((by_ s).drop pos) 0 = b0 at *
  generalize gb ((by_ s).drop pos) 1 = b1 at *
  generalize gb ((by_ s).drop pos) 2 = b2 at *
  generalize gb ((by_ s).drop pos) 3 = b3 at *
  generalize ((by_ s).drop pos).length = n at *
  by_cases c0 : b0 < 128
  · rw [if_pos c0, if_pos c0]
  rw [if_neg c0, if_neg c0]
  by_cases c1 : b0 / 32 = 6 ∧ 1 < n ∧ b1 / 64 = 2
  · rw [if_pos c1, if_pos (by simp [c1.1, c1.2.1, c1.2.2])]
    split <;> (try split) <;> first | rfl | omega
  rw [if_neg c1, if_neg (by simp only [Bool.and_eq_true, decide_eq_true_eq, beq_iff_eq]; exact c1)]
  by_cases c2 : b0 / 16 = 14 ∧ (1 < n ∧ b1 / 64 = 2) ∧ (2 < n ∧ b2 / 64 = 2)
  · rw [if_pos c2, if_pos (by simp [c2.1, c2.2.1.1, c2.2.1.2, c2.2.2.1, c2.2.2.2])]
    split <;> split
    · rfl
    · rename_i p q
      rw [Bool.and_eq_true, decide_eq_true_eq, valid_iff] at p
      omega
    · rename_i p q
      exact absurd (by rw [Bool.and_eq_true, decide_eq_true_eq, valid_iff]; omega) p
    · rfl
  rw [if_neg c2, if_neg (by simp only [Bool.and_eq_true, decide_eq_true_eq, beq_iff_eq]; exact fun h => c2 ⟨h.1.1, h.1.2, h.2⟩)]
  by_cases c3 : b0 / 8 = 30 ∧ (1 < n ∧ b1 / 64 = 2) ∧ (2 < n ∧ b2 / 64 = 2) ∧ (3 < n ∧ b3 / 64 = 2)
  · rw [if_pos c3, if_pos (by simp [c3.1, c3.2.1.1, c3.2.1.2, c3.2.2.1.1, c3.2.2.1.2, c3.2.2.2.1, c3.2.2.2.2])]
    split <;> split
    · rfl
    · rename_i p q
      rw [Bool.and_eq_true, decide_eq_true_eq, valid_iff] at p
      omega
    · rename_i p q
      exact absurd (by rw [Bool.and_eq_true, decide_eq_true_eq, valid_iff]; omega) p
    · rfl
  rw [if_neg c3, if_neg (by simp only [Bool.and_eq_true, decide_eq_true_eq, beq_iff_eq]; exact fun h => c3 ⟨h.1.1.1, h.1.1.2, h.1.2, h.2⟩)]
  rfl
/-- The bytes of a rune. -/
def eL (n : Nat) : List UInt8 :=
  if n < 128 then [UInt8.ofNat n]
  else if n < 2048 then [UInt8.ofNat (192 + n / 64), UInt8.ofNat (128 + n % 64)]
  else if n < 65536 then [UInt8.ofNat (224 + n / 4096), UInt8.ofNat (128 + n / 64 % 64), UInt8.ofNat (128 + n % 64)]
  else [UInt8.ofNat (240 + n / 262144), UInt8.ofNat (128 + n / 4096 % 64), UInt8.ofNat (128 + n / 64 % 64), UInt8.ofNat (128 + n % 64)]
theorem enc_eL (n : Nat) (h : n < 55296 ∨ (57344 ≤ n ∧ n ≤ 1114111)) : Utf8.encode (n : Int) = tx (eL n) := by
  have hv := (valid_iff n).2 h
  unfold Utf8.encode eL
  rw [if_pos hv, Int.toNat_natCast]
  dsimp only
  repeat' split
  all_goals rfl
theorem of_lt (x : Nat) (h : x < 256) : (UInt8.ofNat x).toNat = x := by rw [UInt8.toNat_ofNat']; omega
theorem gb0 (a : UInt8) (l : List UInt8) : gb (a :: l) 0 = a.toNat := rfl
theorem gb1 (a b : UInt8) (l : List UInt8) : gb (a :: b :: l) 1 = b.toNat := rfl
theorem gb2 (a b c : UInt8) (l : List UInt8) : gb (a :: b :: c :: l) 2 = c.toNat := rfl
theorem gb3 (a b c d : UInt8) (l : List UInt8) : gb (a :: b :: c :: d :: l) 3 = d.toNat := rfl
theorem dV_eL (n : Nat) (h : n < 55296 ∨ (57344 ≤ n ∧ n ≤ 1114111)) : dV (eL n) = n := by
  unfold eL
  by_cases c1 : n < 128
  · rw [if_pos c1]
    unfold dV
    rw [gb0, of_lt n (by omega), if_pos c1]
  rw [if_neg c1]
  by_cases c2 : n < 2048
  · rw [if_pos c2]
    unfold dV
    rw [gb0, gb1, of_lt _ (by omega), of_lt _ (by omega), if_neg (by omega), if_pos ⟨by omega, by simp, by omega⟩, if_pos (by omega)]
    omega
  rw [if_neg c2]
  by_cases c3 : n < 65536
  · rw [if_pos c3]
    unfold dV
    rw [gb0, gb1, gb2, of_lt _ (by omega), of_lt _ (by omega), of_lt _ (by omega), if_neg (by omega), if_neg (by omega), if_pos ⟨by omega, ⟨by simp, by omega⟩, ⟨by simp, by omega⟩⟩, if_pos (by omega)]
    omega
  rw [if_neg c3]
  unfold dV
  rw [gb0, gb1, gb2, gb3, of_lt _ (by omega), of_lt _ (by omega), of_lt _ (by omega), of_lt _ (by omega), if_neg (by omega), if_neg (by omega), if_neg (by omega), if_pos ⟨by omega, ⟨by simp, by omega⟩, ⟨by simp, by omega⟩, ⟨by simp, by omega⟩⟩, if_pos (by omega)]
  omega
/-! Turned about. -/
def okP (p : List UInt8) : Prop := wL p = p.length ∧ (1 < p.length ∨ gb p 0 < 128)
theorem gb_app (p q : List UInt8) (k : Nat) (h : k < p.length) : gb (p ++ q) k = gb p k := by
  unfold gb
  rw [List.getD_eq_getElem?_getD, List.getD_eq_getElem?_getD, List.getElem?_append_left h]
theorem wL_ext (p q : List UInt8) (hp : p ≠ []) (h : okP p) : wL (p ++ q) = p.length := by
  obtain ⟨hw, hv⟩ := h
  have hb := wL_bounds p hp
  have e0 := gb_app p q 0 (by omega)
  have hlen : (p ++ q).length = p.length + q.length := List.length_append
  rcases (by omega : p.length = 1 ∨ p.length = 2 ∨ p.length = 3 ∨ p.length = 4) with e | e | e | e
  · unfold wL
    rw [e0, if_pos (by omega), e]
  · have e1 := gb_app p q 1 (by omega)
    unfold wL at hw ⊢
    rw [hlen, e0, e1]
    generalize gb p 0 = b0 at *
    generalize gb p 1 = b1 at *
    generalize gb p 2 = b2 at *
    generalize gb p 3 = b3 at *
    generalize gb (p ++ q) 2 = b2' at *
    generalize gb (p ++ q) 3 = b3' at *
    rw [e] at hw ⊢
    repeat' split at hw
    all_goals (try omega)
    rw [if_neg (by omega), if_pos (by omega), if_pos (by omega)]
  · have e1 := gb_app p q 1 (by omega)
    have e2 := gb_app p q 2 (by omega)
    unfold wL at hw ⊢
    rw [hlen, e0, e1, e2]
    generalize gb p 0 = b0 at *
    generalize gb p 1 = b1 at *
    generalize gb p 2 = b2 at *
    generalize gb p 3 = b3 at *
    generalize gb (p ++ q) 3 = b3' at *
    rw [e] at hw ⊢
    repeat' split at hw
    all_goals (try omega)
    rw [if_neg (by omega), if_neg (by omega), if_pos (by omega), if_pos (by omega)]
  · have e1 := gb_app p q 1 (by omega)
    have e2 := gb_app p q 2 (by omega)
    have e3 := gb_app p q 3 (by omega)
    unfold wL at hw ⊢
    rw [hlen, e0, e1, e2, e3]
    generalize gb p 0 = b0 at *
    generalize gb p 1 = b1 at *
    generalize gb p 2 = b2 at *
    generalize gb p 3 = b3 at *
    rw [e] at hw ⊢
    repeat' split at hw
    all_goals (try omega)
    rw [if_neg (by omega), if_neg (by omega), if_neg (by omega), if_pos (by omega), if_pos (by omega)]
theorem pcs_of : ∀ ps : List (List UInt8), (∀ p ∈ ps, p ≠ [] ∧ okP p) → pcs ps.flatten = ps
  | [], _ => pcs_nil
  | p :: ps, h => by
    have hp := h p (List.mem_cons_self ..)
    have hne : p ++ ps.flatten ≠ [] := fun e => hp.1 (List.append_eq_nil_iff.1 e).1
    rw [List.flatten_cons, pcs_cons _ hne, wL_ext p _ hp.1 hp.2, List.take_left' rfl, List.drop_left' rfl, pcs_of ps (fun q hq => h q (List.mem_cons_of_mem _ hq))]
theorem pcs_mem : ∀ (n : Nat) (l : List UInt8), l.length ≤ n → ∀ p ∈ pcs l, p ≠ [] ∧ wL p = p.length
  | 0, l, h, p, hp => by
    have : l = [] := by cases l with | nil => rfl | cons a t => simp at h
    rw [this, pcs_nil] at hp
    cases hp
  | n + 1, l, h, p, hp => by
    by_cases hl : l = []
    · rw [hl, pcs_nil] at hp; cases hp
    · have hb := wL_bounds l hl
      rw [pcs_cons l hl, List.mem_cons] at hp
      rcases hp with rfl | hp
      · have e : (l.take (wL l)).length = wL l := by rw [List.length_take]; omega
        refine ⟨fun k => ?_, ?_⟩
        · rw [k] at e; simp at e; omega
        · rw [e]; exact wL_take l (wL l) hl (Nat.le_refl _) hb.2.1
      · exact pcs_mem n _ (by rw [List.length_drop]; omega) p hp
def revT (l : List UInt8) : List UInt8 := (pcs l).reverse.flatten
theorem rev_rev (l : List UInt8) (h : ∀ p ∈ pcs l, 1 < p.length ∨ gb p 0 < 128) : revT (revT l) = l := by
  unfold revT
  rw [pcs_of (pcs l).reverse (fun p hp => ?_), List.reverse_reverse, pcs_flat]
  have hm := List.mem_reverse.1 hp
  have := pcs_mem l.length l (Nat.le_refl _) p hm
  exact ⟨this.1, this.2, h p hm⟩
theorem revT_len (l : List UInt8) : (revT l).length = l.length := by
  unfold revT
  have : (pcs l).reverse.flatten.length = (pcs l).flatten.length := by
    rw [List.length_flatten, List.length_flatten, List.map_reverse, List.sum_reverse]
  rw [this, pcs_flat]
end Go.Proofs.YtlfoechdakjekaaDoor.X
