/- The law SpanMeets: for every input the call returns true, and each argument reads afterwards as it read before: the statement Rows.SpanMeetsSaid, whole, with no condition of ours. -/
import Derived.Test.YtjbdljolpkkhcaaDoorWWords
import Derived.Deep.Slices
import Derived.ChangeArms
import Derived.SizedLaws
import Derived.OpenShut
import Derived.Lib.Strings
import Derived.Lib.IndexBytes
import Derived.Test.YtjbdljolpkkhcaaDoorRows
import Derived.WalkKit
import Derived.ProofKit
import Derived.ShutString
import Derived.ChangeOld
import Derived.Below
import Derived.Carry
import Derived.Handed
import Derived.LaidLaws
import Derived.Lib.LaidTab
import Derived.Test.YtjbdljolpkkhcaaDoorCards
import Derived.Test.YtjbdljolpkkhcaaDoorTie
import Derived.SevenTiedAt
import Derived.Test.YtjbdljolpkkhcaaDoorBSpanMeets3
/- A general opening of a row's arguments: what a value of a type reads as, as a term of a kind 'Kd', with the bounds that the row's reach gives. -/
set_option linter.unusedVariables false
set_option linter.unusedSimpArgs false
namespace Go.Proofs.YtjbdljolpkkhcaaDoor.Opn
open Go.ChangeShapes Go.WideShapes Go.RowKit Go.Proofs.YtjbdljolpkkhcaaDoorW.PrintWords

/-- Whatever is read at type t is a cell row of some a of kind d that is good. -/
def Opens {α : Type} (P : Program) (t : TypeId) (d : Kd α) (good : α → Prop) : Prop :=
  ∀ {H : Type} {enc : TypeId × Value → H} {w : World} {base : Nat} {spare : Nat → Bool} {held : Bool} {fuel : Nat} {cs : List Value} {x : DataW H × List MemPlace},
    DataW.trod enc P w base spare held fuel t cs = some x → (∀ m ∈ x.1.weights P t, m ≤ reachBytes) → ∃ a, d.K w a cs ∧ good a

theorem opens_int {P : Program} {t : TypeId} {k : IntKind} (ht : P.underlying t = some (.int k)) : Opens P t (Kd.int k) (fun n => (Lit.int k n).wf = true) := by
  intro H enc w base spare held fuel cs x hx _
  obtain ⟨n, rfl, rfl, hn⟩ := DataW.trod_int ht hx
  exact ⟨n, rfl, hn⟩
/-- The fields from one place on. -/
def OpensTail {α : Type} (P : Program) (fs : List Field) (o len : Nat) (d : Kd α) (good : α → Prop) : Prop :=
  ∀ {H : Type} {enc : TypeId × Value → H} {w : World} {base : Nat} {spare : Nat → Bool} {held : Bool} {n : Nat} {cs : List Value} {xs : List (DataW H × List MemPlace)},
    cs.length = len → xs.length = fs.length →
    (∀ (i : Nat) (f : Field), fs[i]? = some f → DataW.trod enc P w base spare held n f.type ((cs.drop f.offset).take (P.cellsOf f.type)) = xs[i]?) →
    (∀ m ∈ DataW.weightsEach P (fs.map (·.type)) (xs.map (·.1)), m ≤ reachBytes) → ∃ a, d.K w a (cs.drop o) ∧ good a

theorem tail_one {α : Type} {P : Program} {f : Field} {o len : Nat} {d : Kd α} {good : α → Prop} (ho : f.offset = o) (hl : len ≤ o + P.cellsOf f.type) (h : Opens P f.type d good) : OpensTail P [f] o len d good := by
  intro H enc w base spare held n cs xs hcs hxs hall hw
  obtain ⟨x, rfl⟩ : ∃ x, xs = [x] := by
    match xs, hxs with
    | [x], _ => exact ⟨x, rfl⟩
  have h0 := hall 0 f rfl
  rw [ho, List.take_of_length_le (by rw [List.length_drop]; omega)] at h0
  exact h h0 (fun m hm => hw m (by simp only [List.map_cons, List.map_nil, DataW.weightsEach, List.mem_append]; exact Or.inl hm))
theorem tail_cons {α β : Type} {P : Program} {f : Field} {fs : List Field} {o o' len : Nat} {a : Kd α} {b : Kd β} {ga : α → Prop} {gb : β → Prop} (ho : f.offset = o) (ho' : o' = o + P.cellsOf f.type)
    (h : Opens P f.type a ga) (ht : OpensTail P fs o' len b gb) : OpensTail P (f :: fs) o len (Kd.pair a b) (fun x => ga x.1 ∧ gb x.2) := by
  intro H enc w base spare held n cs xs hcs hxs hall hw
  obtain ⟨x, xs, rfl⟩ : ∃ x r, xs = x :: r := by
    match xs, hxs with
    | x :: r, _ => exact ⟨x, r, rfl⟩
  have h0 := hall 0 f rfl
  rw [ho] at h0
  obtain ⟨y, hy, hgy⟩ := h h0 (fun m hm => hw m (by simp only [List.map_cons, DataW.weightsEach, List.mem_append]; exact Or.inl hm))
  obtain ⟨z, hz, hgz⟩ := ht (xs := xs) hcs (by simpa using hxs) (fun i g hg => by simpa using hall (i + 1) g (by simpa using hg))
    (fun m hm => hw m (by simp only [List.map_cons, DataW.weightsEach, List.mem_append]; exact Or.inr hm))
  refine ⟨(y, z), ⟨(cs.drop o).take (P.cellsOf f.type), cs.drop o', ?_, hy, hz⟩, hgy, hgz⟩
  rw [ho', ← List.drop_drop, List.take_append_drop]
/-- A struct: its fields one behind the other. -/
theorem opens_struct {α β : Type} {P : Program} {t : TypeId} {fs : Array Field} {len : Nat} {d : Kd α} {good : α → Prop} (ht : P.underlying t = some (.struct fs)) (hl : P.cellsOf t = len) (h : OpensTail P fs.toList 0 len d good) (f : β → α) (g : α → β) (hfg : ∀ a, f (g a) = a) :
    Opens P t (Kd.iso d f) (fun x => good (f x)) := by
  intro H enc w base spare held fuel cs x hx hw
  obtain ⟨xs, n, rfl, rfl, hcs, hxs, hall⟩ := DataW.trod_struct ht hx
  obtain ⟨a, ha, hga⟩ := h (xs := xs) (hcs.trans hl) (by simpa using hxs) (fun i f hf => hall i f (by simpa using hf)) (fun m hm => hw m (by simp only [DataW.weights, ht]; exact hm))
  refine ⟨g a, ?_, by show good (f (g a)); rw [hfg]; exact hga⟩
  show d.K w (f (g a)) cs
  rw [hfg]
  simpa using ha
/-- A struct of one field. -/
theorem Opens.iso {α β : Type} {P : Program} {t : TypeId} {d : Kd α} {good : α → Prop} (h : Opens P t d good) (f : β → α) (g : α → β) (hfg : ∀ a, f (g a) = a) : Opens P t (Kd.iso d f) (fun x => good (f x)) := by
  intro H enc w base spare held fuel cs x hx hw
  obtain ⟨a, ha, hga⟩ := h hx hw
  refine ⟨g a, ?_, by show good (f (g a)); rw [hfg]; exact hga⟩
  show d.K w (f (g a)) cs
  rw [hfg]
  exact ha
end Go.Proofs.YtjbdljolpkkhcaaDoor.Opn
/- The openings of the arguments of the law SpanMeets, and its pure statement. -/
set_option linter.unusedVariables false
namespace Go.Proofs.YtjbdljolpkkhcaaDoor.X
open Go.RowKit Go.Proofs.YtjbdljolpkkhcaaDoorW.PrintWords Go.Proofs.YtjbdljolpkkhcaaDoorW.PrintLast Go.Proofs.YtjbdljolpkkhcaaDoorW.PrintMore Go.Proofs.YtjbdljolpkkhcaaDoor.Opn
def good23 (x : S23) : Prop := ((Lit.int .i64 x.f0).wf = true) ∧ ((Lit.int .i64 x.f1).wf = true)
theorem opens23 : Opens Tryd.prog 23 k23 good23 := opens_struct Tryd.underlying23 (len := 2) (by kernel_rfl) (tail_cons rfl (by kernel_rfl) (opens_int Tryd.underlying3) (tail_one rfl (Nat.le_of_eq (by kernel_rfl)) (opens_int Tryd.underlying3))) (fun x : S23 => (x.f0, x.f1)) (fun a => ⟨a.1, a.2⟩) (fun _ => rfl)
def good42 (x : S42) : Prop := (good23 x.f0) ∧ (good23 x.f1)
theorem opens42 : Opens Tryd.prog 42 k42 good42 := opens_struct Tryd.underlying42 (len := 4) (by kernel_rfl) (tail_cons rfl (by kernel_rfl) opens23 (tail_one rfl (Nat.le_of_eq (by kernel_rfl)) opens23)) (fun x : S42 => (x.f0, x.f1)) (fun a => ⟨a.1, a.2⟩) (fun _ => rfl)
/-- What is left: a statement over numbers and lists alone. -/
def oculuslaw04_SpanMeets.PureX : Prop := ∀ (a0 : S42) (a1 : S42) (a2 : S23), (good42 a0) → (good42 a1) → (good23 a2) → ∃ k, oculuslaw04_SpanMeets.f k (a0.f0.f0) (a0.f0.f1) (a0.f1.f0) (a0.f1.f1) (a1.f0.f0) (a1.f0.f1) (a1.f1.f0) (a1.f1.f1) (a2.f0) (a2.f1) = some true
end Go.Proofs.YtjbdljolpkkhcaaDoor.X
/- What span and its reference answer: spans, their cells. -/
set_option linter.unusedVariables false
set_option linter.unusedSimpArgs false
namespace Go.Proofs.YtjbdljolpkkhcaaDoor.X
open Go.RowKit Go.Proofs.YtjbdljolpkkhcaaDoorW.PrintWords Go.Proofs.YtjbdljolpkkhcaaDoorW.PrintLast Go.Proofs.YtjbdljolpkkhcaaDoorW.PrintMore
abbrev Cl := S23
def mayZ (a b c d : Int) : Bool := decide ((0 ≤ a ∧ a < 999 ∧ 0 ≤ b ∧ b < 702) ∧ (0 ≤ c ∧ c < 999 ∧ 0 ≤ d ∧ d < 702))
theorem addr_may_eq (a b : Int) : addr_May.f a b = some (decide (0 ≤ a ∧ a < 999 ∧ 0 ≤ b ∧ b < 702)) := by
  unfold addr_May.f
  by_cases h1 : a ≥ 0
  · rw [if_pos h1]
    by_cases h2 : a < 999
    · rw [if_pos h2]
      by_cases h3 : b ≥ 0
      · rw [if_pos h3, Option.some.injEq, decide_eq_decide]; omega
      · rw [if_neg h3, decide_eq_false (by omega)]
    · rw [if_neg h2, decide_eq_false (by omega)]
  · rw [if_neg h1, decide_eq_false (by omega)]
theorem span_may_eq (a b c d : Int) : span_May.f a b c d = some (mayZ a b c d) := by
  unfold span_May.f mayZ
  rw [addr_may_eq, Option.bind_some]
  by_cases h : 0 ≤ a ∧ a < 999 ∧ 0 ≤ b ∧ b < 702
  · rw [decide_eq_true h, if_pos rfl, addr_may_eq, Option.bind_some, Option.some.injEq, decide_eq_decide]
    exact ⟨fun g => ⟨h, g⟩, fun g => g.2⟩
  · rw [decide_eq_false h, if_neg (by simp), decide_eq_false (fun g => h g.1)]
theorem rmayd_eq (a b : Int) : oculusref03_May.f a b = some (decide (0 ≤ a ∧ a < 999 ∧ 0 ≤ b ∧ b < 702)) := by
  unfold oculusref03_May.f
  by_cases h1 : a ≥ 0
  · rw [if_pos h1]
    by_cases h2 : a ≤ 998
    · rw [if_pos h2]
      by_cases h3 : b ≥ 0
      · rw [if_pos h3, Option.some.injEq, decide_eq_decide]; omega
      · rw [if_neg h3, decide_eq_false (by omega)]
    · rw [if_neg h2, decide_eq_false (by omega)]
  · rw [if_neg h1, decide_eq_false (by omega)]
theorem rspan_may_eq (a b c d : Int) : oculusref04_May.f a b c d = some (mayZ a b c d) := by
  unfold oculusref04_May.f mayZ
  rw [rmayd_eq, Option.bind_some]
  by_cases h : 0 ≤ a ∧ a < 999 ∧ 0 ≤ b ∧ b < 702
  · rw [decide_eq_true h, if_pos rfl, rmayd_eq, Option.bind_some, Option.some.injEq, decide_eq_decide]
    exact ⟨fun g => ⟨h, g⟩, fun g => g.2⟩
  · rw [decide_eq_false h, if_neg (by simp), decide_eq_false (fun g => h g.1)]
def hasZ (a b c d r q : Int) : Bool := mayZ a b c d && decide ((mn a c ≤ r ∧ r ≤ mx a c) ∧ (mn b d ≤ q ∧ q ≤ mx b d))
theorem span_str (a b c d : Int) (h : mayZ a b c d = true) : span_Straight.f a b c d = some (mn a c, mn b d, mx a c, mx b d) := straight_eq (by rw [span_may_eq, h])
theorem has_ev (a b c d r q : Int) : Ev (fun k => span_Has.f k a b c d r q) (hasZ a b c d r q) := by
  unfold span_Has.f hasZ
  rw [span_may_eq]
  refine ev_bsome ?_
  refine Ev.step (fun k => span_Has.j0.eq_2 _ _ _ _ _ _ _ _) ?_
  cases h : mayZ a b c d with
  | false => exact ev_pos rfl (Ev.now _)
  | true =>
    refine ev_neg (by simp) ?_
    rw [span_str a b c d h]
    refine ev_bsome ?_
    simp only [Bool.true_and]
    by_cases g : (mn a c ≤ r ∧ r ≤ mx a c) ∧ (mn b d ≤ q ∧ q ≤ mx b d)
    · rw [decide_eq_true g]
      exact ev_pos g.1.1 (ev_pos g.1.2 (ev_pos g.2.1 (ev_some fun _ => by rw [decide_eq_true g.2.2])))
    · rw [decide_eq_false g]
      exact ev_ite (fun h1 => ev_ite (fun h2 => ev_ite (fun h3 => ev_some fun _ => by rw [decide_eq_false (fun h4 => g ⟨⟨h1, h2⟩, h3, h4⟩)]) (fun _ => Ev.now _)) (fun _ => Ev.now _)) (fun _ => Ev.now _)
/-! The cells of a span. -/
def cellsOf (a b c d : Int) : List Cl := if mayZ a b c d = true ∧ ¬ ((mx a c - mn a c + 1) * (mx b d - mn b d + 1) > 1000) then cellsL (mn a c) (mn b d) (mx a c) (mx b d) else []
theorem mnmx (a c : Int) (h1 : 0 ≤ a ∧ a < 1000) (h2 : 0 ≤ c ∧ c < 1000) : 0 ≤ mn a c ∧ mn a c ≤ mx a c ∧ mx a c < 1000 := by
  unfold mn mx
  refine ⟨?_, ?_, ?_⟩ <;> (repeat' split) <;> omega
theorem may_b {a b c d : Int} (h : mayZ a b c d = true) : (0 ≤ a ∧ a < 1000) ∧ (0 ≤ b ∧ b < 1000) ∧ (0 ≤ c ∧ c < 1000) ∧ (0 ≤ d ∧ d < 1000) := by
  unfold mayZ at h
  have := of_decide_eq_true h
  omega
theorem span_size_eq (a b c d : Int) : span_Size.f a b c d = some (if mayZ a b c d = true then (mx a c - mn a c + 1) * (mx b d - mn b d + 1) else 0) := by
  unfold span_Size.f span_Rows.f span_Cols.f
  rw [span_may_eq, Option.bind_some]
  by_cases h : mayZ a b c d = true
  · have hb := may_b h
    have m1 := mnmx a c hb.1 hb.2.2.1
    have m2 := mnmx b d hb.2.1 hb.2.2.2
    rw [if_pos h, if_pos h, span_str a b c d h]
    simp only [Option.bind_some]
    rw [if_pos h]
    simp only [Option.bind_some]
    generalize mn a c = p0 at *
    generalize mn b d = p1 at *
    generalize mx a c = p2 at *
    generalize mx b d = p3 at *
    rw [w64 (x := p2 - p0) (by omega) (by omega), w64 (x := p2 - p0 + 1) (by omega) (by omega), w64 (x := p3 - p1) (by omega) (by omega), w64 (x := p3 - p1 + 1) (by omega) (by omega)]
    obtain ⟨x, hx⟩ : ∃ x : Nat, p2 - p0 + 1 = (x : Int) := ⟨(p2 - p0 + 1).toNat, by omega⟩
    obtain ⟨y, hy⟩ : ∃ y : Nat, p3 - p1 + 1 = (y : Int) := ⟨(p3 - p1 + 1).toNat, by omega⟩
    rw [hx, hy]
    have hxy : x * y ≤ 1000 * 1000 := Nat.mul_le_mul (by omega) (by omega)
    have hc : (x : Int) * (y : Int) = ((x * y : Nat) : Int) := by simp
    rw [hc, w64 (by omega) (by omega)]
  · rw [if_neg h, if_neg h, Option.bind_some, Option.bind_some, if_neg h, Option.bind_some]
    rw [w64 (by omega) (by omega)]; rfl
theorem span_cells_eq (a b c d : Int) : span_Cells.f a b c d = some (cellsOf a b c d) := by
  unfold span_Cells.f cellsOf allF
  rw [span_size_eq, Option.bind_some, span_may_eq, Option.bind_some]
  by_cases h : mayZ a b c d = true
  · simp only [if_pos h]
    by_cases g : (mx a c - mn a c + 1) * (mx b d - mn b d + 1) > 1000
    · rw [if_pos g, if_neg (fun k => k.2 g)]
    · rw [if_neg g, if_pos ⟨h, g⟩, span_str a b c d h]; rfl
  · simp only [if_neg h]
    rw [if_neg (by omega), if_neg (fun k => h k.1)]
theorem rstraight_ev (a b c d : Int) (h : mayZ a b c d = true) : Ev (fun k => oculusref04_Straight.f k a b c d) (mn a c, mn b d, mx a c, mx b d) := by
  unfold oculusref04_Straight.f
  refine ev_bind (ev_some fun _ => rspan_may_eq a b c d) ?_
  refine Ev.step (fun k => oculusref04_Straight.j0.eq_2 _ _ _ _ _ _) ?_
  refine ev_neg (by rw [h]; simp) ?_
  have e : ∀ x y : Int, (mn x y = if x > y then y else x) ∧ (mx x y = if x > y then x else y) := by
    intro x y
    unfold mn mx
    constructor <;> (repeat' split) <;> omega
  refine ev_ite (fun g => ?_) (fun g => ?_)
  · refine Ev.step (fun k => oculusref04_Straight.j1.eq_2 _ _ _ _ _ _ _ _ _) ?_
    rw [(e a c).1, (e a c).2, if_pos g, if_pos g]
    refine ev_ite (fun g2 => ?_) (fun g2 => ?_)
    · rw [(e b d).1, (e b d).2, if_pos g2, if_pos g2]; exact Ev.now _
    · rw [(e b d).1, (e b d).2, if_neg g2, if_neg g2]; exact Ev.now _
  · refine Ev.step (fun k => oculusref04_Straight.j1.eq_2 _ _ _ _ _ _ _ _ _) ?_
    rw [(e a c).1, (e a c).2, if_neg g, if_neg g]
    refine ev_ite (fun g2 => ?_) (fun g2 => ?_)
    · rw [(e b d).1, (e b d).2, if_pos g2, if_pos g2]; exact Ev.now _
    · rw [(e b d).1, (e b d).2, if_neg g2, if_neg g2]; exact Ev.now _
end Go.Proofs.YtjbdljolpkkhcaaDoor.X
/- Plain facts on texts as lists of bytes. -/
set_option linter.unusedVariables false
set_option linter.unusedSimpArgs false
namespace Go.Proofs.YtjbdljolpkkhcaaDoor.X
open Go.RowKit Go.Proofs.YtjbdljolpkkhcaaDoorW.PrintWords Go.Proofs.YtjbdljolpkkhcaaDoorW.PrintLast Go.Proofs.YtjbdljolpkkhcaaDoorW.PrintMore
/-- A text's bytes; the text of bytes. -/
def by_ (s : ByteArray) : List UInt8 := s.data.toList
def tx (l : List UInt8) : ByteArray := ⟨l.toArray⟩
theorem by_tx (l : List UInt8) : by_ (tx l) = l := by simp [by_, tx]
theorem tx_by (s : ByteArray) : tx (by_ s) = s := by
  obtain ⟨⟨l⟩⟩ := s
  rfl
theorem by_inj {s t : ByteArray} (h : by_ s = by_ t) : s = t := by rw [← tx_by s, ← tx_by t, h]
theorem toList_by (s : ByteArray) : s.toList = by_ s := ByteArray.toList_eq s
theorem size_by (s : ByteArray) : s.size = (by_ s).length := by
  obtain ⟨⟨l⟩⟩ := s
  rfl
theorem size_tx (l : List UInt8) : (tx l).size = l.length := by rw [size_by, by_tx]
theorem by_extract (s : ByteArray) (a b : Nat) : by_ (s.extract a b) = ((by_ s).drop a).take (b - a) := Go.Lib.extract_data s a b
theorem by_head (s : ByteArray) (b : Nat) : by_ (s.extract 0 b) = (by_ s).take b := by rw [by_extract]; simp
theorem by_tail (s : ByteArray) (a : Nat) : by_ (s.extract a s.size) = (by_ s).drop a := by
  rw [by_extract, List.take_of_length_le]
  rw [List.length_drop, size_by]
  exact Nat.le_refl _
theorem ext_head (s : ByteArray) (b : Nat) : s.extract 0 b = tx ((by_ s).take b) := by_inj (by rw [by_head, by_tx])
theorem ext_tail (s : ByteArray) (a : Nat) : s.extract a s.size = tx ((by_ s).drop a) := by_inj (by rw [by_tail, by_tx])
theorem by_append (s t : ByteArray) : by_ (s ++ t) = by_ s ++ by_ t := by
  obtain ⟨⟨l⟩⟩ := s
  obtain ⟨⟨m⟩⟩ := t
  simp [by_, ByteArray.data_append]
theorem tx_append (l m : List UInt8) : tx l ++ tx m = tx (l ++ m) := by_inj (by rw [by_append, by_tx, by_tx, by_tx])
theorem bt_by (s : ByteArray) (i : Nat) (h : i < (by_ s).length) : bt s (i : Int) = ((by_ s)[i].toNat : Int) := by
  obtain ⟨⟨l⟩⟩ := s
  have h' : (i : Int).toNat < (⟨⟨l⟩⟩ : ByteArray).size := by rw [Int.toNat_natCast]; exact h
  unfold bt
  rw [dif_pos h']
  simp only [Int.toNat_natCast]
  rfl
theorem bt_tx (l : List UInt8) (i : Nat) (h : i < l.length) : bt (tx l) (i : Int) = (l[i].toNat : Int) := by
  rw [bt_by (tx l) i (by rw [by_tx]; exact h)]
  simp only [by_tx]
theorem bt_tx0 (c : UInt8) (l : List UInt8) : bt (tx (c :: l)) 0 = (c.toNat : Int) := bt_tx (c :: l) 0 (by simp)
theorem u8_lt (c : UInt8) : c.toNat < 256 := c.toNat_lt
theorem u8_inj {a b : UInt8} (h : a.toNat = b.toNat) : a = b := UInt8.toNat_inj.1 h
end Go.Proofs.YtjbdljolpkkhcaaDoor.X
/- What addr and its reference answer: letters, numbers, names. -/
set_option linter.unusedVariables false
set_option linter.unusedSimpArgs false
namespace Go.Proofs.YtjbdljolpkkhcaaDoor.X
open Go.RowKit Go.Proofs.YtjbdljolpkkhcaaDoorW.PrintWords Go.Proofs.YtjbdljolpkkhcaaDoorW.PrintLast Go.Proofs.YtjbdljolpkkhcaaDoorW.PrintMore
def u8 (n : Nat) : UInt8 := UInt8.ofNat n
/-- A column's letters; a number's digits. -/
def letL (c : Nat) : List UInt8 := if c < 26 then [u8 (65 + c)] else [u8 (64 + c / 26), u8 (65 + c % 26)]
def digL (n : Nat) : List UInt8 := if n < 10 then [u8 (48 + n)] else if n < 100 then [u8 (48 + n / 10), u8 (48 + n % 10)] else [u8 (48 + n / 100), u8 (48 + n / 10 % 10), u8 (48 + n % 10)]
theorem itoa_digL (n : Nat) (h : n < 1000) : Lib.itoa (n : Int) = digL n := by
  unfold Lib.itoa digL u8
  rw [if_neg (by omega), Int.toNat_natCast]
  by_cases h1 : n < 10
  · rw [if_pos h1, Lib.decDigits, dif_pos h1]
  · rw [if_neg h1, Lib.decDigits, dif_neg h1]
    by_cases h2 : n < 100
    · rw [if_pos h2, Lib.decDigits, dif_pos (by omega)]; rfl
    · rw [if_neg h2, Lib.decDigits, dif_neg (by omega), Lib.decDigits, dif_pos (by omega)]
      rw [Nat.div_div_eq_div_mul]; rfl
theorem itoa_eq (n : Nat) (h : n < 1000) : strconv_Itoa.f (n : Int) = some (tx (digL n)) := by
  unfold strconv_Itoa.f
  rw [if_pos (by omega), itoa_digL n h]; rfl
theorem sn1 (a : Nat) : strOfNums [(a : Int)] = tx [u8 a] := rfl
theorem sn2 (a b : Nat) : strOfNums [(a : Int), (b : Int)] = tx [u8 a, u8 b] := rfl
theorem tdiv26 (c : Nat) : Int.tdiv (c : Int) 26 = ((c / 26 : Nat) : Int) := by rw [Int.tdiv_eq_ediv_of_nonneg (by omega)]; omega
theorem tmod26 (c : Nat) : Int.tmod (c : Int) 26 = ((c % 26 : Nat) : Int) := by rw [Int.tmod_eq_emod_of_nonneg (by omega)]; omega
theorem wn (x : Int) (n : Nat) (h : x = (n : Int)) (hn : n < 256) : wrap64 x % 256 = (n : Int) := by rw [w64 (by omega) (by omega)]; omega
/-- The letters of any column. -/
def ltrI (c : Int) : List UInt8 := if c < 0 ∨ c ≥ 702 then [] else letL c.toNat
theorem letters_ev (c : Int) : Ev (fun k => addr_Letters.f k c) (tx (ltrI c)) := by
  unfold addr_Letters.f ltrI
  by_cases h : c < 0 ∨ c ≥ 702
  · rw [if_pos h]
    have hj : Ev (fun k => addr_Letters.j0 k c true) (tx []) := by
      refine Ev.step (fun k => addr_Letters.j0.eq_2 _ _ _) ?_
      exact ev_pos rfl (Ev.now _)
    refine ev_ite (fun _ => hj) (fun h1 => ?_)
    rw [decide_eq_true (by omega)]
    exact hj
  · rw [if_neg h]
    refine ev_neg (by omega) ?_
    rw [decide_eq_false (by omega)]
    refine Ev.step (fun k => addr_Letters.j0.eq_2 _ _ _) ?_
    refine ev_neg (by simp) ?_
    obtain ⟨n, rfl⟩ : ∃ n : Nat, c = (n : Int) := ⟨c.toNat, by omega⟩
    rw [Int.toNat_natCast]
    unfold letL
    refine ev_ite (fun h1 => ev_some fun _ => ?_) (fun h1 => ev_some fun _ => ?_)
    · rw [if_pos (by omega), wn _ (65 + n) (by omega) (by omega), sn1]
    · have e1 : wrap64 (wrap64 (65 + wrap64 (((n / 26 : Nat) : Int))) - 1) % 256 = ((64 + n / 26 : Nat) : Int) := by
        rw [w64 (x := ((n / 26 : Nat) : Int)) (by omega) (by omega), w64 (x := 65 + ((n / 26 : Nat) : Int)) (by omega) (by omega)]
        exact wn _ _ (by omega) (by omega)
      have e2 : wrap64 (65 + ((n % 26 : Nat) : Int)) % 256 = ((65 + n % 26 : Nat) : Int) := wn _ _ (by omega) (by omega)
      rw [if_neg (by omega), tdiv26, tmod26, e1, e2, sn2]
/-! The reference's digits. -/
/-! Names. -/
def mayI (r c : Int) : Bool := decide (0 ≤ r ∧ r < 999 ∧ 0 ≤ c ∧ c < 702)
theorem amay_eq (a b : Int) : addr_May.f a b = some (mayI a b) := by
  unfold addr_May.f mayI
  by_cases h1 : a ≥ 0
  · rw [if_pos h1]
    by_cases h2 : a < 999
    · rw [if_pos h2]
      by_cases h3 : b ≥ 0
      · rw [if_pos h3, Option.some.injEq, decide_eq_decide]; omega
      · rw [if_neg h3, decide_eq_false (by omega)]
    · rw [if_neg h2, decide_eq_false (by omega)]
  · rw [if_neg h1, decide_eq_false (by omega)]
def nameL (r c : Int) : List UInt8 := if mayI r c = true then letL c.toNat ++ digL (r.toNat + 1) else []
theorem letL_len (n : Nat) : (letL n).length ≤ 2 := by unfold letL; split <;> simp
theorem digL_len (n : Nat) : (digL n).length ≤ 3 := by unfold digL; (repeat' split) <;> simp
theorem name_ev (r c : Int) : Ev (fun k => addr_Name.f k r c) (tx (nameL r c)) := by
  unfold addr_Name.f nameL
  refine ev_bind (ev_some fun _ => amay_eq r c) ?_
  by_cases h : mayI r c = true
  · rw [if_pos h]
    refine ev_pos h ?_
    unfold mayI at h
    have hb := of_decide_eq_true h
    have hl := letters_ev c
    unfold ltrI at hl
    rw [if_neg (by omega)] at hl
    refine ev_bind hl ?_
    have e : wrap64 (r + 1) = ((r.toNat + 1 : Nat) : Int) := by rw [w64 (by omega) (by omega)]; omega
    rw [e, itoa_eq _ (by omega)]
    refine ev_bsome ?_
    have h1 := letL_len c.toNat
    have h2 := digL_len (r.toNat + 1)
    refine ev_pos (by rw [size_tx, size_tx]; omega) (ev_some fun _ => by rw [tx_append])
  · rw [if_neg h]; exact ev_neg h (Ev.now _)
end Go.Proofs.YtjbdljolpkkhcaaDoor.X
/- What addr.Column, Number, Parse and their reference answer. -/
set_option linter.unusedVariables false
set_option linter.unusedSimpArgs false
namespace Go.Proofs.YtjbdljolpkkhcaaDoor.X
open Go.RowKit Go.Proofs.YtjbdljolpkkhcaaDoorW.PrintWords Go.Proofs.YtjbdljolpkkhcaaDoorW.PrintLast Go.Proofs.YtjbdljolpkkhcaaDoorW.PrintMore
def isU (b : UInt8) : Bool := decide (65 ≤ b.toNat ∧ b.toNat ≤ 90)
def isD (b : UInt8) : Bool := decide (48 ≤ b.toNat ∧ b.toNat ≤ 57)
def colF : Int → List UInt8 → Int × Bool
  | n, [] => (n - 1, true)
  | n, b :: l => if isU b = true then colF (n * 26 + ((b.toNat : Int) - 65) + 1) l else (0, false)
def colS (l : List UInt8) : Int × Bool := if l.length < 1 ∨ l.length > 2 then (0, false) else colF 0 l
def numF : Int → List UInt8 → Int × Bool
  | n, [] => (n - 1, true)
  | n, b :: l => if isD b = true then numF (n * 10 + ((b.toNat : Int) - 48)) l else (0, false)
def numS (l : List UInt8) : Int × Bool := if l.length < 1 ∨ l.length > 3 ∨ l.head? = some 48 then (0, false) else numF 0 l
theorem col_l0 (l : List UInt8) (hl : l.length ≤ 2) : ∀ d i n, i + d = l.length → 0 ≤ n → ((i = 0 → n = 0) ∧ (i = 1 → n ≤ 26) ∧ n ≤ 1000) → Ev (fun k => addr_Column.l0 k (tx l) n (l.length : Int) (i : Int)) (colF n (l.drop i))
  | 0, i, n, h, h0, h1 => by
    rw [List.drop_eq_nil_of_le (by omega)]
    refine Ev.step (fun k => addr_Column.l0.eq_2 _ _ _ _ _) ?_
    refine ev_neg (by omega) ?_
    rw [w64 (by omega) (by omega)]
    exact Ev.now _
  | d + 1, i, n, h, h0, h1 => by
    have hlt : i < l.length := by omega
    have hz := size_tx l
    have hb := bt_tx l i hlt
    have hu := u8_lt l[i]
    rw [List.drop_eq_getElem_cons hlt]
    refine Ev.step (fun k => addr_Column.l0.eq_2 _ _ _ _ _) ?_
    refine ev_pos (by omega) (ev_pos (by omega) (ev_pos (by omega) ?_))
    simp only [hb, colF]
    by_cases g1 : ((l[i]).toNat : Int) < 65
    · rw [if_neg (by unfold isU; simp; omega)]; exact ev_pos g1 (Ev.now _)
    · refine ev_neg g1 ?_
      by_cases g2 : ((l[i]).toNat : Int) > 90
      · rw [if_neg (by unfold isU; simp; omega)]; exact ev_pos g2 (Ev.now _)
      · rw [if_pos (by unfold isU; simp; omega)]
        refine ev_neg g2 ?_
        rw [w64s (n := 100) (by omega) (by omega)]
        rw [show (((l[i]).toNat : Int) - 65) % 256 = ((l[i]).toNat : Int) - 65 by omega, w64 (x := n * 26) (by omega) (by omega), w64 (x := n * 26 + (((l[i]).toNat : Int) - 65)) (by omega) (by omega), w64 (by omega) (by omega)]
        exact col_l0 l hl d (i + 1) _ (by omega) (by omega) (by
          rcases (by omega : i = 0 ∨ i = 1) with rfl | rfl
          · have := h1.1 rfl; omega
          · have := h1.2.1 rfl; omega)
theorem column_ev (l : List UInt8) : Ev (fun k => addr_Column.f k (tx l)) (colS l) := by
  have hz := size_tx l
  unfold addr_Column.f colS
  have hj : Ev (fun k => addr_Column.j0 k (tx l) true) (0, false) := by
    refine Ev.step (fun k => addr_Column.j0.eq_2 _ _ _) ?_
    exact ev_pos rfl (Ev.now _)
  by_cases h : l.length < 1 ∨ l.length > 2
  · rw [if_pos h]
    refine ev_ite (fun _ => hj) (fun g => ?_)
    rw [decide_eq_true (by omega)]
    exact hj
  · rw [if_neg h]
    refine ev_neg (by omega) ?_
    rw [decide_eq_false (by omega)]
    refine Ev.step (fun k => addr_Column.j0.eq_2 _ _ _) ?_
    refine ev_neg (by simp) ?_
    rw [hz]
    exact col_l0 l (by omega) l.length 0 0 (by omega) (by omega) (by omega)
theorem num_l0 (l : List UInt8) (hl : l.length ≤ 3) : ∀ d i n, i + d = l.length → 0 ≤ n → ((i = 0 → n = 0) ∧ (i = 1 → n ≤ 9) ∧ (i = 2 → n ≤ 99) ∧ n ≤ 999) → Ev (fun k => addr_Number.l0 k (tx l) n (l.length : Int) (i : Int)) (numF n (l.drop i))
  | 0, i, n, h, h0, h1 => by
    rw [List.drop_eq_nil_of_le (by omega)]
    refine Ev.step (fun k => addr_Number.l0.eq_2 _ _ _ _ _) ?_
    refine ev_neg (by omega) ?_
    rw [w64 (by omega) (by omega)]
    exact Ev.now _
  | d + 1, i, n, h, h0, h1 => by
    have hlt : i < l.length := by omega
    have hz := size_tx l
    have hb := bt_tx l i hlt
    have hu := u8_lt l[i]
    rw [List.drop_eq_getElem_cons hlt]
    refine Ev.step (fun k => addr_Number.l0.eq_2 _ _ _ _ _) ?_
    refine ev_pos (by omega) (ev_pos (by omega) (ev_pos (by omega) ?_))
    simp only [hb, numF]
    by_cases g1 : ((l[i]).toNat : Int) < 48
    · rw [if_neg (by unfold isD; simp; omega)]; exact ev_pos g1 (Ev.now _)
    · refine ev_neg g1 ?_
      by_cases g2 : ((l[i]).toNat : Int) > 57
      · rw [if_neg (by unfold isD; simp; omega)]; exact ev_pos g2 (Ev.now _)
      · rw [if_pos (by unfold isD; simp; omega)]
        refine ev_neg g2 ?_
        rw [w64s (n := 100) (by omega) (by omega)]
        rw [show (((l[i]).toNat : Int) - 48) % 256 = ((l[i]).toNat : Int) - 48 by omega, w64 (x := n * 10) (by omega) (by omega), w64 (by omega) (by omega)]
        exact num_l0 l hl d (i + 1) _ (by omega) (by omega) (by
          rcases (by omega : i = 0 ∨ i = 1 ∨ i = 2) with rfl | rfl | rfl
          · have := h1.1 rfl; omega
          · have := h1.2.1 rfl; omega
          · have := h1.2.2.1 rfl; omega)
theorem number_ev (l : List UInt8) : Ev (fun k => addr_Number.f k (tx l)) (numS l) := by
  have hz := size_tx l
  unfold addr_Number.f numS
  have hj : Ev (fun k => addr_Number.j0 k (tx l) true) (0, false) := by
    refine Ev.step (fun k => addr_Number.j0.eq_2 _ _ _) ?_
    exact ev_pos rfl (Ev.now _)
  by_cases h1 : l.length < 1
  · rw [if_pos (Or.inl h1)]; exact ev_pos (by omega) hj
  · refine ev_neg (by omega) ?_
    by_cases h2 : l.length > 3
    · rw [if_pos (Or.inr (Or.inl h2))]; exact ev_pos (by omega) hj
    · refine ev_neg (by omega) (ev_pos (by omega) ?_)
      obtain ⟨b, m, rfl⟩ : ∃ b m, l = b :: m := by cases l with | nil => simp at h1 | cons b m => exact ⟨b, m, rfl⟩
      have hb0 : bt (tx (b :: m)) 0 = (b.toNat : Int) := bt_tx0 b m
      rw [hb0]
      by_cases h3 : b = 48
      · subst h3
        rw [if_pos (Or.inr (Or.inr (by rfl : (48 :: m : List UInt8).head? = some 48)))]
        exact hj
      · have hne : (((b.toNat : Int)) == 48) = false := by
          rw [beq_eq_false_iff_ne]
          intro e
          exact h3 (u8_inj (by show b.toNat = 48; omega))
        rw [if_neg (by rintro (hh | hh | hh); exact h1 hh; exact h2 hh; exact h3 (Option.some.inj hh)), hne]
        refine Ev.step (fun k => addr_Number.j0.eq_2 _ _ _) ?_
        refine ev_neg (by simp) ?_
        rw [hz]
        exact num_l0 (b :: m) (by omega) (b :: m).length 0 0 (by omega) (by omega) (by omega)
/-! Parse. -/
def parS (l : List UInt8) : Int × Int × Bool :=
  if (colS (l.takeWhile isU)).2 = true then (if (numS (l.dropWhile isU)).2 = true then ((numS (l.dropWhile isU)).1, (colS (l.takeWhile isU)).1, true) else (0, 0, false)) else (0, 0, false)
theorem parse_j1 (a r : List UInt8) : Ev (fun k => addr_Parse.j1 k (tx (a ++ r)) (a.length : Int)) (if (colS a).2 = true then (if (numS r).2 = true then ((numS r).1, (colS a).1, true) else (0, 0, false)) else (0, 0, false)) := by
  have hz := size_tx (a ++ r)
  rw [List.length_append] at hz
  refine Ev.step (fun k => addr_Parse.j1.eq_2 _ _ _) ?_
  refine ev_pos (by omega) (ev_pos (by omega) ?_)
  rw [Int.toNat_natCast, ext_head, ext_tail, by_tx, List.take_left' rfl, List.drop_left' rfl]
  refine ev_bind (column_ev a) (ev_bind (number_ev r) ?_)
  refine ev_ite (fun h1 => ev_ite (fun h2 => ?_) (fun h2 => ?_)) (fun h1 => ?_)
  · rw [if_pos h1, if_pos h2]; exact Ev.now _
  · rw [if_pos h1, if_neg h2]; exact Ev.now _
  · rw [if_neg h1]; exact Ev.now _
theorem parse_l0 (a r : List UInt8) (ha : ∀ x ∈ a, isU x = true) (hr : ∀ b m, r = b :: m → isU b = false) (hl : a.length + r.length ≤ 1000) : ∀ d i, i + d = a.length → Ev (fun k => addr_Parse.l0 k (tx (a ++ r)) (i : Int)) (if (colS a).2 = true then (if (numS r).2 = true then ((numS r).1, (colS a).1, true) else (0, 0, false)) else (0, 0, false))
  | 0, i, h => by
    have hz := size_tx (a ++ r)
    rw [List.length_append] at hz
    have hi : i = a.length := by omega
    subst hi
    refine Ev.step (fun k => addr_Parse.l0.eq_2 _ _ _) ?_
    cases r with
    | nil =>
      have hz' : (tx (a ++ [])).size = a.length := by rw [size_tx, List.append_nil]
      exact ev_neg (by omega) (parse_j1 a [])
    | cons b m =>
      have hb : bt (tx (a ++ b :: m)) (a.length : Int) = (b.toNat : Int) := by
        rw [bt_tx _ a.length (by simp)]
        simp
      have hu := hr b m rfl
      unfold isU at hu
      rw [decide_eq_false_iff_not] at hu
      refine ev_pos (by simp at hz; omega) (ev_pos (by omega) ?_)
      rw [hb]
      refine ev_ite (fun g1 => ?_) (fun _ => parse_j1 a (b :: m))
      exact ev_neg (by omega) (parse_j1 a (b :: m))
  | d + 1, i, h => by
    have hz := size_tx (a ++ r)
    rw [List.length_append] at hz
    have hlt : i < a.length := by omega
    have hb : bt (tx (a ++ r)) (i : Int) = ((a[i]).toNat : Int) := by
      rw [bt_tx _ i (by simp; omega), List.getElem_append_left hlt]
    have hu := ha _ (List.getElem_mem hlt)
    unfold isU at hu
    rw [decide_eq_true_eq] at hu
    refine Ev.step (fun k => addr_Parse.l0.eq_2 _ _ _) ?_
    refine ev_pos (by omega) (ev_pos (by omega) ?_)
    rw [hb, w64s (n := 10000) (by omega) (by omega)]
    exact ev_pos (by omega) (ev_pos (by omega) (parse_l0 a r ha hr hl d (i + 1) (by omega)))
theorem parse_ev (l : List UInt8) (hl : l.length ≤ 1000) : Ev (fun k => addr_Parse.f k (tx l)) (parS l) := by
  unfold addr_Parse.f parS
  have e : l.takeWhile isU ++ l.dropWhile isU = l := List.takeWhile_append_dropWhile
  have hlen := congrArg List.length e
  rw [List.length_append] at hlen
  have := parse_l0 (l.takeWhile isU) (l.dropWhile isU) (fun x hx => by
      have := List.all_takeWhile (l := l) (p := isU)
      exact List.all_eq_true.1 this x hx) (fun b m hbm => by
      cases hb : isU b with
      | false => rfl
      | true =>
        have hh := List.head?_dropWhile_not isU l
        rw [hbm] at hh
        simp [hb] at hh) (by omega) (l.takeWhile isU).length 0 (by omega)
  rw [e] at this
  exact this
end Go.Proofs.YtjbdljolpkkhcaaDoor.X
/- What strings.Cut at one byte answers. -/
set_option linter.unusedVariables false
set_option linter.unusedSimpArgs false
namespace Go.Proofs.YtjbdljolpkkhcaaDoor.X
open Go.RowKit Go.Proofs.YtjbdljolpkkhcaaDoorW.PrintWords Go.Proofs.YtjbdljolpkkhcaaDoorW.PrintLast Go.Proofs.YtjbdljolpkkhcaaDoorW.PrintMore
/-- Cut at the first c. -/
def cutL (c : UInt8) : List UInt8 → List UInt8 × List UInt8 × Bool
  | [] => ([], [], false)
  | b :: l => if b = c then ([], l, true) else (b :: (cutL c l).1, (cutL c l).2.1, (cutL c l).2.2)
theorem index_cut (c : UInt8) : ∀ l : List UInt8, (Lib.indexByte l c = -1 ∧ (cutL c l).1 = l ∧ (cutL c l).2.1 = [] ∧ (cutL c l).2.2 = false) ∨
    ∃ n : Nat, Lib.indexByte l c = (n : Int) ∧ n < l.length ∧ (cutL c l).1 = l.take n ∧ (cutL c l).2.1 = l.drop (n + 1) ∧ (cutL c l).2.2 = true
  | [] => Or.inl ⟨rfl, rfl, rfl, rfl⟩
  | b :: l => by
    by_cases h : b = c
    · refine Or.inr ⟨0, ?_, by simp, ?_, ?_, ?_⟩
      · simp [Lib.indexByte, h]
      · simp [cutL, h]
      · simp [cutL, h]
      · simp [cutL, h]
    · rcases index_cut c l with ⟨h1, h2, h3, h4⟩ | ⟨n, h1, h2, h3, h4, h5⟩
      · left
        refine ⟨?_, ?_, ?_, ?_⟩
        · simp [Lib.indexByte, h, h1]
        · simp [cutL, h, h2]
        · simp [cutL, h, h3]
        · simp [cutL, h, h4]
      · right
        refine ⟨n + 1, ?_, by simp; omega, ?_, ?_, ?_⟩
        · simp only [Lib.indexByte, beq_eq_false_iff_ne.2 h, h1]
          rw [if_neg (by simp), if_neg (by first | (simp; done) | (simp; omega))]
          omega
        · simp [cutL, h, h3]
        · simp [cutL, h, h4]
        · simp [cutL, h, h5]
theorem cut_eq (s : ByteArray) (c : UInt8) (hs : s.size ≤ 4611686018427387904) : strings_Cut.f s (tx [c]) = some (tx (cutL c (by_ s)).1, tx (cutL c (by_ s)).2.1, (cutL c (by_ s)).2.2) := by
  unfold strings_Cut.f stringslite_Cut.f stringslite_Index.f
  have h1 : (tx [c]).size = 1 := by rw [size_tx]; rfl
  have h2 : (tx [c])[0]'(by rw [h1]; decide) = c := rfl
  rw [dif_pos h1, h2]
  simp only [Option.bind_some]
  rcases index_cut c (by_ s) with ⟨g1, g2, g3, g4⟩ | ⟨n, g1, g2, g3, g4, g5⟩
  · rw [show Lib.indexByte s.data.toList c = -1 from g1, if_neg (by decide), g2, g3, g4, tx_by]
    rfl
  · have hl := size_by s
    rw [show Lib.indexByte s.data.toList c = (n : Int) from g1, if_pos (by omega), if_pos (by omega), if_pos (by omega), h1]
    have hw : wrap64 ((n : Int) + ((1 : Nat) : Int)) = ((n + 1 : Nat) : Int) := by unfold wrap64; omega
    rw [hw, if_pos (by omega), if_pos (by omega), g3, g4, g5]
    simp only [Option.bind_some, Int.toNat_natCast, ext_head, ext_tail]
theorem cutL_length (c : UInt8) (l : List UInt8) : (cutL c l).1.length ≤ l.length ∧ (cutL c l).2.1.length ≤ l.length := by
  rcases index_cut c l with ⟨g1, g2, g3, g4⟩ | ⟨n, g1, g2, g3, g4, g5⟩
  · rw [g2, g3]; simp
  · rw [g3, g4]; simp; omega
end Go.Proofs.YtjbdljolpkkhcaaDoor.X
/- Spans as texts; that the statements of span live. -/
set_option linter.unusedVariables false
set_option linter.unusedSimpArgs false
namespace Go.Proofs.YtjbdljolpkkhcaaDoor.X
open Go.RowKit Go.Proofs.YtjbdljolpkkhcaaDoorW.PrintWords Go.Proofs.YtjbdljolpkkhcaaDoorW.PrintLast Go.Proofs.YtjbdljolpkkhcaaDoorW.PrintMore
/-- The span that a text tells. -/
def spP (l : List UInt8) : Int × Int × Int × Int × Bool :=
  if (parS (cutL 58 l).1).2.2 = true then
    (if (cutL 58 l).2.2 = true then
      (if (parS (cutL 58 l).2.1).2.2 = true then
        (if (parS (cutL 58 l).1).1 = (parS (cutL 58 l).2.1).1 ∧ (parS (cutL 58 l).1).2.1 = (parS (cutL 58 l).2.1).2.1 then (0, 0, 0, 0, false)
        else ((parS (cutL 58 l).1).1, (parS (cutL 58 l).1).2.1, (parS (cutL 58 l).2.1).1, (parS (cutL 58 l).2.1).2.1, true))
      else (0, 0, 0, 0, false))
    else ((parS (cutL 58 l).1).1, (parS (cutL 58 l).1).2.1, (parS (cutL 58 l).1).1, (parS (cutL 58 l).1).2.1, true))
  else (0, 0, 0, 0, false)
theorem spparse_ev (l : List UInt8) (hl : l.length ≤ 1000) : Ev (fun k => span_Parse.f k (tx l)) (spP l) := by
  have hc := cutL_length 58 l
  unfold span_Parse.f spP
  have e := cut_eq (tx l) 58 (by rw [size_tx]; omega)
  rw [by_tx] at e
  refine ev_bind (ev_some fun _ => e) ?_
  refine ev_bind (parse_ev _ (by omega)) ?_
  have hp2 := parse_ev (cutL 58 l).2.1 (by omega)
  generalize parS (cutL 58 l).1 = p1 at *
  generalize parS (cutL 58 l).2.1 = p2 at *
  refine ev_ite (fun h1 => ?_) (fun h1 => ?_)
  · rw [if_pos h1]
    refine Ev.step (fun k => span_Parse.j0.eq_2 _ _ _ _ _ _) ?_
    cases h2 : (cutL 58 l).2.2 with
    | false =>
      rw [if_neg (by simp)]
      exact ev_pos rfl (Ev.now _)
    | true =>
      rw [if_pos rfl]
      refine ev_neg (by simp) (ev_bind hp2 ?_)
      refine ev_pos h1 (ev_ite (fun h3 => ?_) (fun h3 => ?_))
      · rw [if_pos h3]
        refine ev_ite (fun h4 => ?_) (fun h4 => ?_)
        · rw [if_pos (by simpa using h4)]; exact Ev.now _
        · rw [if_neg (by simpa using h4)]; exact Ev.now _
      · rw [if_neg h3]; exact Ev.now _
  · rw [if_neg h1]
    refine Ev.step (fun k => span_Parse.j0.eq_2 _ _ _ _ _ _) ?_
    refine ev_neg (by simp) (ev_bind hp2 ?_)
    exact ev_neg h1 (Ev.now _)
/-- A span as text. -/
def txtL (a b c d : Int) : List UInt8 := if mayZ a b c d = true then (if a = c ∧ b = d then nameL a b else nameL a b ++ 58 :: nameL c d) else []
theorem nameL_len (a b : Int) : (nameL a b).length ≤ 5 := by
  unfold nameL
  split
  · rw [List.length_append]
    have h1 := letL_len b.toNat
    have h2 := digL_len (a.toNat + 1)
    omega
  · simp
theorem text_ev (a b c d : Int) : Ev (fun k => span_Text.f k a b c d) (tx (txtL a b c d)) := by
  unfold span_Text.f txtL
  refine ev_bind (ev_some fun _ => span_may_eq a b c d) ?_
  refine Ev.step (fun k => span_Text.j0.eq_2 _ _ _ _ _ _) ?_
  cases h : mayZ a b c d with
  | false => rw [if_neg (by simp)]; exact ev_pos rfl (Ev.now _)
  | true =>
    rw [if_pos rfl]
    refine ev_neg (by simp) ?_
    have l1 := nameL_len a b
    have l2 := nameL_len c d
    refine ev_ite (fun g => ?_) (fun g => ?_)
    · rw [if_pos (by simpa using g)]
      exact ev_bind (name_ev a b) (Ev.now _)
    · rw [if_neg (by simpa using g)]
      refine ev_bind (name_ev a b) (ev_pos (by rw [size_tx]; omega) ?_)
      refine ev_bind (name_ev c d) ?_
      have e : tx (nameL a b) ++ (⟨#[58]⟩ : ByteArray) ++ tx (nameL c d) = tx (nameL a b ++ 58 :: nameL c d) := by
        rw [show (⟨#[58]⟩ : ByteArray) = tx [58] from rfl, tx_append, tx_append]; simp
      have e0 : tx (nameL a b) ++ (⟨#[58]⟩ : ByteArray) = tx (nameL a b ++ [58]) := by rw [show (⟨#[58]⟩ : ByteArray) = tx [58] from rfl, tx_append]
      refine ev_pos (by rw [e0, size_tx, size_tx, List.length_append]; simp; omega) ?_
      rw [e]
      exact Ev.now _
theorem alive04_ev : Ev (fun k => oculuslaw04_alive.f k) true := by
  unfold oculuslaw04_alive.f
  refine ev_bind (a := (1, 1, 0, 0, true)) ?_ ?_
  · have := spparse_ev [66, 50, 58, 65, 49] (by decide)
    rw [show spP [66, 50, 58, 65, 49] = (1, 1, 0, 0, true) by decide +kernel] at this
    exact this
  refine ev_bind (ev_some fun _ => span_cells_eq 1 1 0 0) ?_
  rw [show cellsOf 1 1 0 0 = [⟨0, 0⟩, ⟨0, 1⟩, ⟨1, 0⟩, ⟨1, 1⟩] by kernel_rfl]
  refine ev_pos rfl (ev_pos rfl (ev_pos (by decide) (ev_pos (by decide +kernel) (ev_pos (by decide) (ev_pos (by decide +kernel) ?_)))))
  refine ev_bind (text_ev 1 1 0 0) (ev_pos (by rw [toList_by, by_tx]; decide +kernel) ?_)
  refine ev_bind (ev_some fun _ => span_str 1 1 0 0 (by decide)) ?_
  refine ev_bind (text_ev 0 0 1 1) (ev_pos (by rw [toList_by, by_tx]; decide +kernel) ?_)
  exact ev_bind (ev_some fun _ => span_size_eq 1 1 0 0) (ev_some fun _ => by decide +kernel)
end Go.Proofs.YtjbdljolpkkhcaaDoor.X
/- The pure statement of the law SpanMeets: over numbers alone. -/
set_option linter.unusedVariables false
set_option linter.unusedSimpArgs false
namespace Go.Proofs.YtjbdljolpkkhcaaDoor.X
open Go.RowKit Go.Proofs.YtjbdljolpkkhcaaDoorW.PrintWords Go.Proofs.YtjbdljolpkkhcaaDoorW.PrintLast Go.Proofs.YtjbdljolpkkhcaaDoorW.PrintMore
def resM (p0 p1 q0 q1 : Int) : Int × Int × Int × Int × Bool := if p0 ≤ q0 ∧ p1 ≤ q1 then (p0, p1, q0, q1, true) else (0, 0, 0, 0, false)
/-- The meeting of two spans. -/
def meetZ (a0 a1 a2 a3 b0 b1 b2 b3 : Int) : Int × Int × Int × Int × Bool :=
  if mayZ a0 a1 a2 a3 = true ∧ mayZ b0 b1 b2 b3 = true then resM (mx (mn a0 a2) (mn b0 b2)) (mx (mn a1 a3) (mn b1 b3)) (mn (mx a0 a2) (mx b0 b2)) (mn (mx a1 a3) (mx b1 b3)) else (0, 0, 0, 0, false)
theorem resM_ev (p0 p1 q0 q1 : Int) : Ev (fun _ => if p0 > q0 then some ((0 : Int), (0 : Int), (0 : Int), (0 : Int), false) else (if p1 > q1 then some (0, 0, 0, 0, false) else some (p0, p1, q0, q1, true))) (resM p0 p1 q0 q1) := by
  unfold resM
  refine ev_ite (fun g => ?_) (fun g => ev_ite (fun g2 => ?_) (fun g2 => ?_))
  · rw [if_neg (fun h => absurd h.1 (by omega))]; exact Ev.now _
  · rw [if_neg (fun h => absurd h.2 (by omega))]; exact Ev.now _
  · rw [if_pos (by omega)]; exact Ev.now _
theorem span_meet_ev (a0 a1 a2 a3 b0 b1 b2 b3 : Int) : Ev (fun k => span_Meet.f k a0 a1 a2 a3 b0 b1 b2 b3) (meetZ a0 a1 a2 a3 b0 b1 b2 b3) := by
  unfold span_Meet.f meetZ
  refine ev_bind (ev_some fun _ => span_may_eq _ _ _ _) ?_
  by_cases ha : mayZ a0 a1 a2 a3 = true
  · refine ev_pos ha (ev_bind (ev_some fun _ => span_may_eq _ _ _ _) ?_)
    refine Ev.step (fun k => span_Meet.j0.eq_2 ..) ?_
    by_cases hb : mayZ b0 b1 b2 b3 = true
    · rw [if_pos ⟨ha, hb⟩]
      refine ev_neg (by rw [hb]; simp) ?_
      refine ev_bind (ev_some fun _ => span_str _ _ _ _ ha) (ev_bind (ev_some fun _ => span_str _ _ _ _ hb) ?_)
      refine Ev.step (fun k => span_Meet.j1.eq_2 ..) ?_
      exact resM_ev _ _ _ _
    · rw [if_neg (fun h => hb h.2)]
      exact ev_pos (by simpa using hb) (Ev.now _)
  · rw [if_neg (fun h => ha h.1)]
    refine ev_neg ha ?_
    refine Ev.step (fun k => span_Meet.j0.eq_2 ..) ?_
    exact ev_pos rfl (Ev.now _)
theorem rmeet_j3 (p0 p1 q0 q1 u0 u1 v0 v1 : Int) : Ev (fun k => oculusref04_Meet.j3 k p0 p1 q0 q1 u0 u1 v0 v1) (resM p0 p1 q0 (mn q1 v1)) := by
  refine Ev.step (fun k => oculusref04_Meet.j3.eq_2 ..) ?_
  refine ev_ite (fun g => ?_) (fun g => ?_)
  · rw [show mn q1 v1 = v1 by unfold mn; rw [if_pos g]]; exact resM_ev _ _ _ _
  · rw [show mn q1 v1 = q1 by unfold mn; rw [if_neg g]]; exact resM_ev _ _ _ _
theorem rmeet_j2 (p0 p1 q0 q1 u0 u1 v0 v1 : Int) : Ev (fun k => oculusref04_Meet.j2 k p0 p1 q0 q1 u0 u1 v0 v1) (resM p0 p1 (mn q0 v0) (mn q1 v1)) := by
  refine Ev.step (fun k => oculusref04_Meet.j2.eq_2 ..) ?_
  refine ev_ite (fun g => ?_) (fun g => ?_)
  · rw [show mn q0 v0 = v0 by unfold mn; rw [if_pos g]]; exact rmeet_j3 ..
  · rw [show mn q0 v0 = q0 by unfold mn; rw [if_neg g]]; exact rmeet_j3 ..
theorem rmeet_j1 (p0 p1 q0 q1 u0 u1 v0 v1 : Int) : Ev (fun k => oculusref04_Meet.j1 k p0 p1 q0 q1 u0 u1 v0 v1) (resM p0 (mx p1 u1) (mn q0 v0) (mn q1 v1)) := by
  refine Ev.step (fun k => oculusref04_Meet.j1.eq_2 ..) ?_
  refine ev_ite (fun g => ?_) (fun g => ?_)
  · rw [show mx p1 u1 = u1 by unfold mx; rw [if_pos (by omega)]]; exact rmeet_j2 ..
  · rw [show mx p1 u1 = p1 by unfold mx; rw [if_neg (by omega)]]; exact rmeet_j2 ..
theorem rmeet_ev (a0 a1 a2 a3 b0 b1 b2 b3 : Int) : Ev (fun k => oculusref04_Meet.f k a0 a1 a2 a3 b0 b1 b2 b3) (meetZ a0 a1 a2 a3 b0 b1 b2 b3) := by
  unfold oculusref04_Meet.f meetZ
  refine ev_bind (ev_some fun _ => rspan_may_eq _ _ _ _) ?_
  by_cases ha : mayZ a0 a1 a2 a3 = true
  · refine ev_pos ha (ev_bind (ev_some fun _ => rspan_may_eq _ _ _ _) ?_)
    refine Ev.step (fun k => oculusref04_Meet.j0.eq_2 ..) ?_
    by_cases hb : mayZ b0 b1 b2 b3 = true
    · rw [if_pos ⟨ha, hb⟩]
      refine ev_neg (by rw [hb]; simp) ?_
      refine ev_bind (rstraight_ev _ _ _ _ ha) (ev_bind (rstraight_ev _ _ _ _ hb) ?_)
      refine ev_ite (fun g => ?_) (fun g => ?_)
      · rw [show mx (mn a0 a2) (mn b0 b2) = mn b0 b2 by show (if _ then _ else _) = _; exact if_pos g]; exact rmeet_j1 ..
      · rw [show mx (mn a0 a2) (mn b0 b2) = mn a0 a2 by show (if _ then _ else _) = _; exact if_neg g]; exact rmeet_j1 ..
    · rw [if_neg (fun h => hb h.2)]
      exact ev_pos (by simpa using hb) (Ev.now _)
  · rw [if_neg (fun h => ha h.1)]
    refine ev_neg ha ?_
    refine Ev.step (fun k => oculusref04_Meet.j0.eq_2 ..) ?_
    exact ev_pos rfl (Ev.now _)
theorem mx_comm (x y : Int) : mx x y = mx y x := by unfold mx; repeat' split
                                                    all_goals omega
theorem mn_comm (x y : Int) : mn x y = mn y x := by unfold mn; repeat' split
                                                    all_goals omega
theorem meet_comm (a0 a1 a2 a3 b0 b1 b2 b3 : Int) : meetZ b0 b1 b2 b3 a0 a1 a2 a3 = meetZ a0 a1 a2 a3 b0 b1 b2 b3 := by
  unfold meetZ
  rw [mx_comm (mn b0 b2), mx_comm (mn b1 b3), mn_comm (mx b0 b2), mn_comm (mx b1 b3)]
  by_cases h : mayZ a0 a1 a2 a3 = true ∧ mayZ b0 b1 b2 b3 = true
  · rw [if_pos h, if_pos ⟨h.2, h.1⟩]
  · rw [if_neg h, if_neg (fun g => h ⟨g.2, g.1⟩)]
def withinZ (a0 a1 a2 a3 b0 b1 b2 b3 : Int) : Bool := mayZ a0 a1 a2 a3 && (hasZ b0 b1 b2 b3 a0 a1 && hasZ b0 b1 b2 b3 a2 a3)
theorem within_sp_ev (a0 a1 a2 a3 b0 b1 b2 b3 : Int) : Ev (fun k => span_Within.f k a0 a1 a2 a3 b0 b1 b2 b3) (withinZ a0 a1 a2 a3 b0 b1 b2 b3) := by
  unfold span_Within.f withinZ
  refine ev_bind (ev_some fun _ => span_may_eq _ _ _ _) ?_
  cases mayZ a0 a1 a2 a3 with
  | false => exact ev_neg (by simp) (Ev.now _)
  | true =>
    refine ev_pos rfl (ev_bind (has_ev _ _ _ _ _ _) ?_)
    cases hasZ b0 b1 b2 b3 a0 a1 with
    | false => exact ev_neg (by simp) (Ev.now _)
    | true => exact ev_pos rfl (ev_bind (has_ev _ _ _ _ _ _) (Ev.now _))
theorem mnf (x y : Int) : mn x y ≤ x ∧ mn x y ≤ y ∧ (mn x y = x ∨ mn x y = y) := by unfold mn; split <;> omega
theorem mxf (x y : Int) : x ≤ mx x y ∧ y ≤ mx x y ∧ (mx x y = x ∨ mx x y = y) := by unfold mx; split <;> omega
/-- What a meeting has. -/
theorem meet_facts (a0 a1 a2 a3 b0 b1 b2 b3 r c : Int) :
    (hasZ a0 a1 a2 a3 r c = true → hasZ b0 b1 b2 b3 r c = true → (meetZ a0 a1 a2 a3 b0 b1 b2 b3).2.2.2.2 = true) ∧
    ((meetZ a0 a1 a2 a3 b0 b1 b2 b3).2.2.2.2 = true → hasZ (meetZ a0 a1 a2 a3 b0 b1 b2 b3).1 (meetZ a0 a1 a2 a3 b0 b1 b2 b3).2.1 (meetZ a0 a1 a2 a3 b0 b1 b2 b3).2.2.1 (meetZ a0 a1 a2 a3 b0 b1 b2 b3).2.2.2.1 r c = (hasZ a0 a1 a2 a3 r c && hasZ b0 b1 b2 b3 r c)) := by
  by_cases h : mayZ a0 a1 a2 a3 = true ∧ mayZ b0 b1 b2 b3 = true
  · unfold meetZ
    rw [if_pos h]
    have hb1 := of_decide_eq_true (show decide _ = true from h.1)
    have hb2 := of_decide_eq_true (show decide _ = true from h.2)
    unfold hasZ
    rw [h.1, h.2]
    simp only [Bool.true_and, decide_eq_true_eq]
    have f1 := mnf a0 a2; have f2 := mxf a0 a2; have f3 := mnf a1 a3; have f4 := mxf a1 a3
    have f5 := mnf b0 b2; have f6 := mxf b0 b2; have f7 := mnf b1 b3; have f8 := mxf b1 b3
    have m1 := mnmx a0 a2 (by omega) (by omega); have m2 := mnmx a1 a3 (by omega) (by omega); have m3 := mnmx b0 b2 (by omega) (by omega); have m4 := mnmx b1 b3 (by omega) (by omega)
    generalize mn a0 a2 = x0 at *
    generalize mx a0 a2 = y0 at *
    generalize mn a1 a3 = x1 at *
    generalize mx a1 a3 = y1 at *
    generalize mn b0 b2 = u0 at *
    generalize mx b0 b2 = v0 at *
    generalize mn b1 b3 = u1 at *
    generalize mx b1 b3 = v1 at *
    have g1 := mxf x0 u0; have g2 := mxf x1 u1; have g3 := mnf y0 v0; have g4 := mnf y1 v1
    generalize mx x0 u0 = p0 at *
    generalize mx x1 u1 = p1 at *
    generalize mn y0 v0 = q0 at *
    generalize mn y1 v1 = q1 at *
    unfold resM
    by_cases g : p0 ≤ q0 ∧ p1 ≤ q1
    · rw [if_pos g]
      refine ⟨fun _ _ => rfl, fun _ => ?_⟩
      have hm : mayZ p0 p1 q0 q1 = true := decide_eq_true (by omega)
      rw [hm, Bool.true_and]
      have e1 : mn p0 q0 = p0 := by have := mnf p0 q0; omega
      have e2 : mx p0 q0 = q0 := by have := mxf p0 q0; omega
      have e3 : mn p1 q1 = p1 := by have := mnf p1 q1; omega
      have e4 : mx p1 q1 = q1 := by have := mxf p1 q1; omega
      show decide ((mn p0 q0 ≤ r ∧ r ≤ mx p0 q0) ∧ (mn p1 q1 ≤ c ∧ c ≤ mx p1 q1)) = _
      rw [e1, e2, e3, e4, ← Bool.decide_and, decide_eq_decide]
      omega
    · rw [if_neg g]
      exact ⟨fun k1 k2 => absurd (by omega) g, fun e => absurd e (by simp)⟩
  · unfold meetZ
    rw [if_neg h]
    refine ⟨fun k1 k2 => ?_, fun e => absurd e (by simp)⟩
    unfold hasZ at k1 k2
    rw [Bool.and_eq_true] at k1 k2
    exact absurd ⟨k1.1, k2.1⟩ h
theorem dim_facts (a0 a2 b0 b2 : Int) : (((mn b0 b2 ≤ a0 ∧ a0 ≤ mx b0 b2) ∧ (mn b0 b2 ≤ a2 ∧ a2 ≤ mx b0 b2)) ↔ (mn b0 b2 ≤ mn a0 a2 ∧ mx a0 a2 ≤ mx b0 b2)) ∧
    (mx (mn a0 a2) (mn b0 b2) = mn a0 a2 ↔ mn b0 b2 ≤ mn a0 a2) ∧ (mn (mx a0 a2) (mx b0 b2) = mx a0 a2 ↔ mx a0 a2 ≤ mx b0 b2) ∧ mn a0 a2 ≤ mx a0 a2 := by
  have f1 := mnf a0 a2; have f2 := mxf a0 a2
  generalize mn a0 a2 = x0 at *
  generalize mx a0 a2 = y0 at *
  generalize mn b0 b2 = u0 at *
  generalize mx b0 b2 = v0 at *
  have g1 := mxf x0 u0; have g3 := mnf y0 v0
  generalize mx x0 u0 = p0 at *
  generalize mn y0 v0 = q0 at *
  refine ⟨?_, ?_, ?_, ?_⟩ <;> omega
theorem meet_within (a0 a1 a2 a3 b0 b1 b2 b3 : Int) :
    (withinZ a0 a1 a2 a3 b0 b1 b2 b3 = true ↔ (meetZ a0 a1 a2 a3 b0 b1 b2 b3).2.2.2.2 = true ∧ (meetZ a0 a1 a2 a3 b0 b1 b2 b3).1 = mn a0 a2 ∧ (meetZ a0 a1 a2 a3 b0 b1 b2 b3).2.1 = mn a1 a3 ∧ (meetZ a0 a1 a2 a3 b0 b1 b2 b3).2.2.1 = mx a0 a2 ∧ (meetZ a0 a1 a2 a3 b0 b1 b2 b3).2.2.2.1 = mx a1 a3) ∧
    ((meetZ a0 a1 a2 a3 b0 b1 b2 b3).2.2.2.2 = true → mayZ a0 a1 a2 a3 = true) ∧
    (∀ r c, withinZ a0 a1 a2 a3 b0 b1 b2 b3 = true → hasZ a0 a1 a2 a3 r c = true → hasZ b0 b1 b2 b3 r c = true) := by
  by_cases h : mayZ a0 a1 a2 a3 = true ∧ mayZ b0 b1 b2 b3 = true
  · unfold meetZ withinZ
    rw [if_pos h]
    unfold hasZ
    rw [h.1, h.2]
    simp only [Bool.true_and, Bool.and_eq_true, decide_eq_true_eq]
    obtain ⟨d1, d2, d3, d4⟩ := dim_facts a0 a2 b0 b2
    obtain ⟨e1, e2, e3, e4⟩ := dim_facts a1 a3 b1 b3
    generalize mn a0 a2 = x0 at *
    generalize mx a0 a2 = y0 at *
    generalize mn a1 a3 = x1 at *
    generalize mx a1 a3 = y1 at *
    generalize mn b0 b2 = u0 at *
    generalize mx b0 b2 = v0 at *
    generalize mn b1 b3 = u1 at *
    generalize mx b1 b3 = v1 at *
    generalize mx x0 u0 = p0 at *
    generalize mx x1 u1 = p1 at *
    generalize mn y0 v0 = q0 at *
    generalize mn y1 v1 = q1 at *
    have hk : (((u0 ≤ a0 ∧ a0 ≤ v0) ∧ (u1 ≤ a1 ∧ a1 ≤ v1)) ∧ ((u0 ≤ a2 ∧ a2 ≤ v0) ∧ (u1 ≤ a3 ∧ a3 ≤ v1))) ↔ ((u0 ≤ x0 ∧ y0 ≤ v0) ∧ (u1 ≤ x1 ∧ y1 ≤ v1)) := by
      rw [← d1, ← e1]
      constructor
      · rintro ⟨⟨h1, h2⟩, h3, h4⟩; exact ⟨⟨h1, h3⟩, h2, h4⟩
      · rintro ⟨⟨h1, h3⟩, h2, h4⟩; exact ⟨⟨h1, h2⟩, h3, h4⟩
    rw [hk, ← d2, ← d3, ← e2, ← e3]
    have hl := fun (z : (p0 = x0 ∧ q0 = y0) ∧ (p1 = x1 ∧ q1 = y1)) => (⟨⟨d2.1 z.1.1, d3.1 z.1.2⟩, e2.1 z.2.1, e3.1 z.2.2⟩ : (u0 ≤ x0 ∧ y0 ≤ v0) ∧ (u1 ≤ x1 ∧ y1 ≤ v1))
    clear hk d1 e1 d2 d3 e2 e3 h
    unfold resM
    refine ⟨?_, fun _ => trivial, fun r c k1 k2 => by have := hl k1; clear hl k1; omega⟩
    clear hl
    by_cases g : p0 ≤ q0 ∧ p1 ≤ q1
    · rw [if_pos g]
      show _ ↔ true = true ∧ p0 = x0 ∧ p1 = x1 ∧ q0 = y0 ∧ q1 = y1
      constructor
      · intro k; exact ⟨rfl, by omega, by omega, by omega, by omega⟩
      · rintro ⟨_, k1, k2, k3, k4⟩; omega
    · rw [if_neg g]
      constructor
      · intro k; exact absurd (by omega) g
      · rintro ⟨k, _⟩; exact absurd k (by simp)
  · unfold meetZ withinZ
    rw [if_neg h]
    have hw : (mayZ a0 a1 a2 a3 && (hasZ b0 b1 b2 b3 a0 a1 && hasZ b0 b1 b2 b3 a2 a3)) = true → False := by
      intro k
      unfold hasZ at k
      simp only [Bool.and_eq_true] at k
      exact h ⟨k.1, k.2.1.1⟩
    refine ⟨⟨fun k => (hw k).elim, fun k => absurd k.1 (by simp)⟩, fun e => absurd e (by simp), fun r c k => (hw k).elim⟩
end Go.Proofs.YtjbdljolpkkhcaaDoor.X
namespace Go.Proofs.YtjbdljolpkkhcaaDoor.Pure
open Go.RowKit Go.Proofs.YtjbdljolpkkhcaaDoor.X Go.Proofs.YtjbdljolpkkhcaaDoorW.PrintWords Go.Proofs.YtjbdljolpkkhcaaDoorW.PrintLast Go.Proofs.YtjbdljolpkkhcaaDoorW.PrintMore
theorem SpanMeets : oculuslaw04_SpanMeets.PureX := by
  intro a b c _ _ _
  apply Ev.rounds
  unfold oculuslaw04_SpanMeets.f
  have hF := meet_facts a.f0.f0 a.f0.f1 a.f1.f0 a.f1.f1 b.f0.f0 b.f0.f1 b.f1.f0 b.f1.f1 c.f0 c.f1
  have hW := meet_within a.f0.f0 a.f0.f1 a.f1.f0 a.f1.f1 b.f0.f0 b.f0.f1 b.f1.f0 b.f1.f1
  have e1 := span_meet_ev a.f0.f0 a.f0.f1 a.f1.f0 a.f1.f1 b.f0.f0 b.f0.f1 b.f1.f0 b.f1.f1
  have e2 := span_meet_ev b.f0.f0 b.f0.f1 b.f1.f0 b.f1.f1 a.f0.f0 a.f0.f1 a.f1.f0 a.f1.f1
  have e3 := rmeet_ev a.f0.f0 a.f0.f1 a.f1.f0 a.f1.f1 b.f0.f0 b.f0.f1 b.f1.f0 b.f1.f1
  rw [meet_comm] at e2
  generalize meetZ a.f0.f0 a.f0.f1 a.f1.f0 a.f1.f1 b.f0.f0 b.f0.f1 b.f1.f0 b.f1.f1 = M at *
  refine ev_bind e1 (ev_bind e2 (ev_bind e3 ?_))
  refine ev_neg (by simp) (ev_neg (by simp) (ev_neg (by simp) ?_))
  have hwi := within_sp_ev a.f0.f0 a.f0.f1 a.f1.f0 a.f1.f1 b.f0.f0 b.f0.f1 b.f1.f0 b.f1.f1
  have hha := has_ev a.f0.f0 a.f0.f1 a.f1.f0 a.f1.f1 c.f0 c.f1
  have hhb := has_ev b.f0.f0 b.f0.f1 b.f1.f0 b.f1.f1 c.f0 c.f1
  have hhm := has_ev M.1 M.2.1 M.2.2.1 M.2.2.2.1 c.f0 c.f1
  have hend : Ev (fun k => oculuslaw04_SpanMeets.j2 k M.2.2.2.2 false a.f0.f0 a.f0.f1 a.f1.f0 a.f1.f1 b.f0.f0 b.f0.f1 b.f1.f0 b.f1.f1 c.f0 c.f1 M.1 M.2.1 M.2.2.1 M.2.2.2.1) true := by
    refine Ev.step (fun k => oculuslaw04_SpanMeets.j2.eq_2 ..) (ev_neg (by simp) (ev_bind hwi ?_))
    have tail : Ev (fun k => (span_Within.f k a.f0.f0 a.f0.f1 a.f1.f0 a.f1.f1 b.f0.f0 b.f0.f1 b.f1.f0 b.f1.f1).bind fun t131 => (if t131 = true then ((span_Has.f k a.f0.f0 a.f0.f1 a.f1.f0 a.f1.f1 c.f0 c.f1).bind fun t132 => (if t132 = true then ((span_Has.f k b.f0.f0 b.f0.f1 b.f1.f0 b.f1.f1 c.f0 c.f1).bind fun t133 => (if t133 = true then ((oculuslaw04_alive.f k).bind fun t134 => (some t134)) else (none))) else ((oculuslaw04_alive.f k).bind fun t135 => (some t135)))) else ((oculuslaw04_alive.f k).bind fun t136 => (some t136)))) true := by
      refine ev_bind hwi (ev_ite (fun g => ?_) (fun _ => ev_bind alive04_ev (Ev.now _)))
      refine ev_bind hha (ev_ite (fun g2 => ?_) (fun _ => ev_bind alive04_ev (Ev.now _)))
      refine ev_bind hhb (ev_pos (hW.2.2 _ _ g g2) (ev_bind alive04_ev (Ev.now _)))
    refine ev_ite (fun g => ?_) (fun g => ?_)
    · have hm := hW.2.1 g
      refine ev_bind (ev_some fun _ => span_str _ _ _ _ hm) (ev_pos ?_ tail)
      rw [beq_iff_eq, Bool.eq_iff_iff, hW.1]
      simp only [Bool.and_eq_true, beq_iff_eq]
      constructor
      · rintro ⟨_, k1, k2, k3, k4⟩; exact ⟨⟨k1, k2⟩, k3, k4⟩
      · rintro ⟨⟨k1, k2⟩, k3, k4⟩; exact ⟨g, k1, k2, k3, k4⟩
    · refine ev_pos ?_ tail
      rw [beq_iff_eq]
      cases hq : withinZ a.f0.f0 a.f0.f1 a.f1.f0 a.f1.f1 b.f0.f0 b.f0.f1 b.f1.f0 b.f1.f1 with
      | false => rfl
      | true => exact absurd (hW.1.1 hq).1 g
  refine Ev.step (fun k => oculuslaw04_SpanMeets.j0.eq_2 ..) (ev_neg (by simp) ?_)
  refine ev_bind hha (ev_ite (fun g => ?_) (fun g => ?_))
  · refine ev_bind hhb ?_
    refine Ev.step (fun k => oculuslaw04_SpanMeets.j1.eq_2 ..) ?_
    refine ev_ite (fun g2 => ?_) (fun g2 => ?_)
    · have hok := hF.1 g g2
      refine ev_pos hok (ev_bind hhm ?_)
      rw [hF.2 hok, g, g2]
      exact hend
    · refine ev_ite (fun hok => ?_) (fun _ => hend)
      refine ev_bind hhm ?_
      rw [hF.2 hok]
      have g2' : hasZ b.f0.f0 b.f0.f1 b.f1.f0 b.f1.f1 c.f0 c.f1 = false := by simpa using g2
      rw [g2', Bool.and_false]
      exact hend
  · refine Ev.step (fun k => oculuslaw04_SpanMeets.j1.eq_2 ..) (ev_neg (by simp) ?_)
    refine ev_ite (fun hok => ?_) (fun _ => hend)
    refine ev_bind hhm ?_
    rw [hF.2 hok]
    have g' : hasZ a.f0.f0 a.f0.f1 a.f1.f0 a.f1.f1 c.f0 c.f1 = false := by simpa using g
    rw [g', Bool.false_and]
    exact hend
end Go.Proofs.YtjbdljolpkkhcaaDoor.Pure
/- The row of the law SpanMeets: for every input the call returns true and each argument reads afterwards as before, out of its pure statement and the contract of its function. Conditions: none beyond the given statement. -/
namespace Go.Proofs.YtjbdljolpkkhcaaDoor.spanMeets
open Go.ChangeShapes Go.WideShapes Go.ChangeAt Go.RowKit
open Go.ChangeMaps (open_string shut_string)
open Go.Proofs.YtjbdljolpkkhcaaDoor.Opn Go.Proofs.YtjbdljolpkkhcaaDoor.X
open Go.Proofs.YtjbdljolpkkhcaaDoorW.PrintWords (Kd Drawn0)
set_option linter.unusedVariables false
set_option maxRecDepth 100000
theorem own : ownKnob Tryd.prog.godebug = none := by kernel_rfl
theorem laidOut : laidOutB Tryd.prog = true := by kernel_rfl
/-- What a listed table of whole numbers holds, out of the row's condition. -/
theorem tab_vars {P : Program} {W : World} {name : String} {k : IntKind} {zs : List Int} {g : Nat} {t e : TypeId} {n : Nat}
    (hg : P.globalNamed name = some g) (hty : (P.globals[g]?).map (·.type) = some t) (ht : P.underlying t = some (.array n e)) (he : P.underlying e = some (.int k)) (hce : P.cellsOf e = 1) (hct : P.cellsOf t = n) :
    ∀ (l : List (String × DataW Unit)) (ps : List MemPlace), DataW.LaidVars P W l ps → (name, Lib.tabData k zs) ∈ l → Lib.TabIs P W name k zs
  | [], _, _, hm => by simp at hm
  | (nm, d) :: rest, ps, h, hm => by
    obtain ⟨g', t', cs, fuel, p, q, hg', ht', hvar, hd, hr, _⟩ := h
    rcases List.mem_cons.1 hm with e0 | hm
    · cases e0
      obtain rfl := Option.some.inj (hg.symm.trans hg')
      obtain rfl := Option.some.inj (hty.symm.trans ht')
      unfold Lib.TabIs
      rw [hvar, ← Lib.cells_of_tab ht he hce hct hd]
    · exact tab_vars hg hty ht he hce hct rest q hr hm
theorem e_pow : (Rows.laid_internal_strconv_uint64pow10 : DataW Unit) = Lib.tabData .u64 Lib.pow10Tab := by kernel_rfl
theorem e_bru : (Rows.laid_math_bits_deBruijn64tab : DataW Unit) = Lib.tabData .u8 bru64 := by kernel_rfl
theorem tab_of_laid {W : World} (h : laidMet Tryd.prog Rows.spanMeetsRow.laid W) : Tab W := by
  obtain ⟨ps, hv, _⟩ := h
  have m_pow : (("internal/strconv.uint64pow10", (Rows.laid_internal_strconv_uint64pow10 : DataW Unit)) : String × DataW Unit) ∈ Rows.spanMeetsRow.laid := List.mem_cons_of_mem _ (List.mem_cons_of_mem _ (List.mem_cons_self))
  rw [e_pow] at m_pow
  have h_pow : Lib.TabIs Tryd.prog W "internal/strconv.uint64pow10" .u64 Lib.pow10Tab := tab_vars (g := 1) (t := 81) (e := 72) (n := 20) (by kernel_rfl) (by kernel_rfl) Tryd.underlying81 Tryd.underlying72 (by kernel_rfl) (by kernel_rfl) _ ps hv m_pow
  have m_bru : (("math/bits.deBruijn64tab", (Rows.laid_math_bits_deBruijn64tab : DataW Unit)) : String × DataW Unit) ∈ Rows.spanMeetsRow.laid := List.mem_cons_of_mem _ (List.mem_cons_self)
  rw [e_bru] at m_bru
  have h_bru : Lib.TabIs Tryd.prog W "math/bits.deBruijn64tab" .u8 bru64 := tab_vars (g := 3) (t := 90) (e := 5) (n := 64) (by kernel_rfl) (by kernel_rfl) Tryd.underlying90 Tryd.underlying5 (by kernel_rfl) (by kernel_rfl) _ ps hv m_bru
  exact ⟨h_pow, h_bru⟩
/-- A world that meets the condition: the settled one, the tables laid. -/
noncomputable def laidWorld (os : Os) : World :=
  { World.holding Tryd.prog os ⟨#[], #[], []⟩ with heap := ((((World.holding Tryd.prog os ⟨#[], #[], []⟩).heap.modify 2 (fun | .cells _ t fr => .cells #[.int .u8 0, .int .u8 1, .int .u8 28, .int .u8 2, .int .u8 29, .int .u8 14, .int .u8 24, .int .u8 3, .int .u8 30, .int .u8 22, .int .u8 20, .int .u8 15, .int .u8 25, .int .u8 17, .int .u8 4, .int .u8 8, .int .u8 31, .int .u8 27, .int .u8 13, .int .u8 23, .int .u8 21, .int .u8 19, .int .u8 16, .int .u8 7, .int .u8 26, .int .u8 12, .int .u8 18, .int .u8 6, .int .u8 11, .int .u8 5, .int .u8 10, .int .u8 9] t fr | o => o)).modify 3 (fun | .cells _ t fr => .cells #[.int .u8 0, .int .u8 1, .int .u8 56, .int .u8 2, .int .u8 57, .int .u8 49, .int .u8 28, .int .u8 3, .int .u8 61, .int .u8 58, .int .u8 42, .int .u8 50, .int .u8 38, .int .u8 29, .int .u8 17, .int .u8 4, .int .u8 62, .int .u8 47, .int .u8 59, .int .u8 36, .int .u8 45, .int .u8 43, .int .u8 51, .int .u8 22, .int .u8 53, .int .u8 39, .int .u8 33, .int .u8 30, .int .u8 24, .int .u8 18, .int .u8 12, .int .u8 5, .int .u8 63, .int .u8 55, .int .u8 48, .int .u8 27, .int .u8 60, .int .u8 41, .int .u8 37, .int .u8 16, .int .u8 46, .int .u8 35, .int .u8 44, .int .u8 21, .int .u8 52, .int .u8 32, .int .u8 23, .int .u8 11, .int .u8 54, .int .u8 26, .int .u8 40, .int .u8 15, .int .u8 34, .int .u8 20, .int .u8 31, .int .u8 10, .int .u8 25, .int .u8 14, .int .u8 19, .int .u8 9, .int .u8 13, .int .u8 8, .int .u8 7, .int .u8 6] t fr | o => o)).modify 1 (fun | .cells _ t fr => .cells #[.int .u64 1, .int .u64 10, .int .u64 100, .int .u64 1000, .int .u64 10000, .int .u64 100000, .int .u64 1000000, .int .u64 10000000, .int .u64 100000000, .int .u64 1000000000, .int .u64 10000000000, .int .u64 100000000000, .int .u64 1000000000000, .int .u64 10000000000000, .int .u64 100000000000000, .int .u64 1000000000000000, .int .u64 10000000000000000, .int .u64 100000000000000000, .int .u64 1000000000000000000, .int .u64 10000000000000000000] t fr | o => o)) }
theorem laidWorld_met (os : Os) (args : Array Value) : laidMet Tryd.prog Rows.spanMeetsRow.laid ((laidWorld os).forCall (fun _ _ => 0) ⟨#[], args, []⟩).memory := laidMet_of_run' 8 (by kernel_rfl) (by kernel_rfl)
set_option maxRecDepth 100000 in
set_option maxHeartbeats 1000000 in
theorem lifted (os : Os) (started : os.Started) (H : Type) (enc : TypeId × Value → H) :
    ReturnsInHanded {} Tryd.checked os 9 .any (fun w args => (Rows.spanMeetsSpec.pre enc Tryd.prog Tryd.f9 Rows.spanMeetsRow.domain false w args ∧ laidMet Tryd.prog Rows.spanMeetsRow.laid w) ∧ sizedMet enc Tryd.prog Tryd.f9 (OpenSpec.ofChange Rows.spanMeetsSpec) false w args) (Rows.spanMeetsSpec.post enc Tryd.prog Tryd.f9 false true false false) := by
  refine returnsInHanded_of_change_and (C := Tryd.checked) (X := fun w _ => laidMet Tryd.prog Rows.spanMeetsRow.laid w) (fun _ _ _ hh h => h.of_heap hh) own started (by kernel_rfl) Tryd.func9
    (ChangeSpec.witness_at (enc := enc) (C := Tryd.checked) (os := os) (X := fun w _ => laidMet Tryd.prog Rows.spanMeetsRow.laid w) false (laidWorld os) #[.agg #[.int .i64 0, .int .i64 0, .int .i64 0, .int .i64 0], .agg #[.int .i64 0, .int .i64 0, .int .i64 0, .int .i64 0], .agg #[.int .i64 0, .int .i64 0]] 8 rfl (by kernel_rfl) (by kernel_rfl) (by kernel_rfl) (by kernel_rfl) (by kernel_rfl) (laidWorld_met os _)) ?_
  intro W base args ds gs before hval0 hW hcnd hsz0 hL _
  have hsz : (DataW.weightsEach Tryd.prog (Tryd.f9.params.toList ++ Rows.spanMeetsSpec.plain.varTypes Tryd.prog) (ds ++ gs)).all (· ≤ reachBytes) = true := hsz0
  have hval : ∀ (j : Nat) t v, Tryd.f9.params[j]? = some t → args[j]? = some v → Value.okWide Tryd.prog W .any base t v := hval0
  have hW' := hW
  obtain ⟨p, q, hA0, hV, rfl, hfz, hnd⟩ := hW
  have hA : DataW.TrodAll enc Tryd.prog W 0 (fun _ => true) true Tryd.f9.params.toList args.toList ds p := hA0
  rw [Tryd.params9] at hA hval hsz
  obtain ⟨v0, vs0, d0, ds0, p0, q0, hargs, rfl, rfl, h0, r0⟩ := trodAll_cons hA
  obtain ⟨v1, vs1, d1, ds1, p1, q1, rfl, rfl, rfl, h1, r1⟩ := trodAll_cons r0
  obtain ⟨v2, vs2, d2, ds2, p2, q2, rfl, rfl, rfl, h2, r2⟩ := trodAll_cons r1
  obtain ⟨rfl, rfl, rfl⟩ := trodAll_nil r2
  obtain rfl : args = #[v0, v1, v2] := by cases args; simp_all
  obtain ⟨rfl, rfl⟩ := trodVars_none hV
  have lt0 : ∀ x ∈ p0, x.block < W.heap.size := by obtain ⟨m, hm⟩ := h0; exact DataW.trod_lt m _ _ _ hm
  have hw0 : ∀ m ∈ d0.weights Tryd.prog 42, m ≤ reachBytes := fun m hm => of_decide_eq_true (List.all_eq_true.1 hsz m (DataW.weights_mem_each (j := 0) (t := 42) rfl rfl m hm))
  obtain ⟨a0, K0, g0⟩ : ∃ a, (k42 : Kd S42).K W a v0.cells.toList ∧ (good42 a) := by
    obtain ⟨fuel, hf⟩ := h0
    exact opens42 hf hw0
  obtain ⟨cs0, rfl, _⟩ := okWide_struct Tryd.underlying42 (hval 0 42 v0 rfl rfl)
  have KO0 := k42_open K0
  obtain rfl : cs0 = #[.int .i64 a0.f0.f0, .int .i64 a0.f0.f1, .int .i64 a0.f1.f0, .int .i64 a0.f1.f1] := by
    have : cs0.toList = _ := KO0
    cases cs0; simp_all
  have lt1 : ∀ x ∈ p1, x.block < W.heap.size := by obtain ⟨m, hm⟩ := h1; exact DataW.trod_lt m _ _ _ hm
  have hw1 : ∀ m ∈ d1.weights Tryd.prog 42, m ≤ reachBytes := fun m hm => of_decide_eq_true (List.all_eq_true.1 hsz m (DataW.weights_mem_each (j := 1) (t := 42) rfl rfl m hm))
  obtain ⟨a1, K1, g1⟩ : ∃ a, (k42 : Kd S42).K W a v1.cells.toList ∧ (good42 a) := by
    obtain ⟨fuel, hf⟩ := h1
    exact opens42 hf hw1
  obtain ⟨cs1, rfl, _⟩ := okWide_struct Tryd.underlying42 (hval 1 42 v1 rfl rfl)
  have KO1 := k42_open K1
  obtain rfl : cs1 = #[.int .i64 a1.f0.f0, .int .i64 a1.f0.f1, .int .i64 a1.f1.f0, .int .i64 a1.f1.f1] := by
    have : cs1.toList = _ := KO1
    cases cs1; simp_all
  have lt2 : ∀ x ∈ p2, x.block < W.heap.size := by obtain ⟨m, hm⟩ := h2; exact DataW.trod_lt m _ _ _ hm
  have hw2 : ∀ m ∈ d2.weights Tryd.prog 23, m ≤ reachBytes := fun m hm => of_decide_eq_true (List.all_eq_true.1 hsz m (DataW.weights_mem_each (j := 2) (t := 23) rfl rfl m hm))
  obtain ⟨a2, K2, g2⟩ : ∃ a, (k23 : Kd S23).K W a v2.cells.toList ∧ (good23 a) := by
    obtain ⟨fuel, hf⟩ := h2
    exact opens23 hf hw2
  obtain ⟨cs2, rfl, _⟩ := okWide_struct Tryd.underlying23 (hval 2 23 v2 rfl rfl)
  have KO2 := k23_open K2
  obtain rfl : cs2 = #[.int .i64 a2.f0, .int .i64 a2.f1] := by
    have : cs2.toList = _ := KO2
    cases cs2; simp_all
  obtain ⟨k, hk⟩ := Pure.SpanMeets a0 a1 a2 g0 g1 g2
  clear hA0 hval0 hsz0 hsz
  refine (oculuslaw04_SpanMeets.calls k (a0.f0.f0) (a0.f0.f1) (a0.f1.f0) (a0.f1.f1) (a1.f0.f0) (a1.f0.f1) (a1.f1.f0) (a1.f1.f1) (a2.f0) (a2.f1) true W ⟨tab_of_laid hL⟩ hk).mono fun e W' ⟨he, bel0⟩ => ?_
  have bel : Below W.heap.size W W' := bel0
  subst he
  exact ⟨_, rfl, _, _, _, [], _, [], hW', trodAll_mk1 (shut_bool Tryd.underlying4 _), (trodAll_cons_mk (Below.trod laidOut (by kernel_rfl) (of_decide_eq_true (by kernel_rfl)) h0 bel lt0) (trodAll_cons_mk (Below.trod laidOut (by kernel_rfl) (of_decide_eq_true (by kernel_rfl)) h1 bel lt1) (trodAll_cons_mk (Below.trod laidOut (by kernel_rfl) (of_decide_eq_true (by kernel_rfl)) h2 bel lt2) trodAll_mk0))), rfl, bel.frame _, fun h => by cases h⟩
theorem over : Rows.spanMeetsRow.holds Tryd.pinned (OpenSpec.ofChange Rows.spanMeetsSpec) :=
  OpenClaim.holds_of_wide 9 Tryd.f9 rfl rfl rfl rfl rfl rfl rfl ⟨rfl, rfl, rfl, rfl, rfl⟩ rfl rfl rfl rfl rfl (by kernel_rfl) Tryd.func9 (by kernel_rfl)
    (of_decide_eq_true (by kernel_rfl)) (by unfold Func.isWrapper; first | (rw [if_pos (by decide +kernel)]; kernel_rfl) | (rw [if_neg (by decide +kernel)]; exact ⟨rfl, rfl⟩))
    (fun os started H enc _ => lifted os started H enc)
/-- THE TIED CARD. -/
theorem proved : Rows.SpanMeetsCardSaid :=
  Claim7.holds_tied_plain_at .later [] [.data, .data, .data] true (true, "cd3fbb522060d67cb5d3d7b59ccf9ae7174aa4d58e221fe88ccb4189470c6ff2") false
    over (fun _ h => by cases h) (by kernel_rfl) (fun _ h => by cases h) spanMeets_row_tie rfl ⟨rfl, rfl⟩ (by kernel_rfl) rfl
    (fun f fn hf hfn => by
      obtain rfl : f = 9 := Option.some.inj ((show Tryd.prog.funcNamed "oculus/oculuslaw04.SpanMeets" = some 9 by kernel_rfl).symm.trans hf) |>.symm
      obtain rfl : fn = Tryd.f9 := (Option.some.inj (Tryd.func9.symm.trans hfn)).symm
      refine ⟨by kernel_rfl, fun j t ht => ?_⟩
      rw [Tryd.params9] at ht
      have hall : ∀ t ∈ #[(42 : TypeId), (42 : TypeId), (23 : TypeId)], Tryd.prog.wantsStandIn t = false := by
        intro t ht
        simp only [List.mem_toArray, List.mem_cons, List.not_mem_nil, or_false] at ht
        rcases ht with rfl | rfl | rfl
        · exact (show Tryd.prog.wantsStandIn 42 = false by kernel_rfl)
        · exact (show Tryd.prog.wantsStandIn 42 = false by kernel_rfl)
        · exact (show Tryd.prog.wantsStandIn 23 = false by kernel_rfl)
      exact hall t (Array.mem_of_getElem? ht))
    (by kernel_rfl)
end Go.Proofs.YtjbdljolpkkhcaaDoor.spanMeets
namespace Go.Proofs.YtjbdljolpkkhcaaDoor
/-- The row, under a short name, for the claim. -/
theorem spanMeets_holds : Rows.SpanMeetsCardSaid := spanMeets.proved
#print axioms spanMeets_holds
end Go.Proofs.YtjbdljolpkkhcaaDoor
