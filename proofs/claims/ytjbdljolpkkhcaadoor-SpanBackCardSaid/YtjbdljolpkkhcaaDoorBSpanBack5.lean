/- The law SpanBack: for every input the call returns true, and each argument reads afterwards as it read before: the statement Rows.SpanBackSaid, whole, with no condition of ours. -/
import Derived.Test.YtjbdljolpkkhcaaDoorRows
import Derived.WalkKit
import Derived.ProofKit
import Derived.OpenShut
import Derived.ShutString
import Derived.ChangeOld
import Derived.Below
import Derived.SizedLaws
import Derived.Carry
import Derived.Handed
import Derived.LaidLaws
import Derived.Lib.LaidTab
import Derived.Test.YtjbdljolpkkhcaaDoorCards
import Derived.Test.YtjbdljolpkkhcaaDoorTie
import Derived.SevenTiedAt
import Derived.Test.YtjbdljolpkkhcaaDoorBSpanBack4
/- What addr.Column, Number, Parse and their reference answer. -/
set_option linter.unusedVariables false
set_option linter.unusedSimpArgs false
namespace Go.Proofs.YtjbdljolpkkhcaaDoor.X
open Go.RowKit Go.Proofs.YtjbdljolpkkhcaaDoorW.PrintWords Go.Proofs.YtjbdljolpkkhcaaDoorW.PrintLast Go.Proofs.YtjbdljolpkkhcaaDoorW.PrintMore
def isU (b : UInt8) : Bool := decide (65 ≤ b.toNat ∧ b.toNat ≤ 90)
def isD (b : UInt8) : Bool := decide (48 ≤ b.toNat ∧ b.toNat ≤ 57)
def colF : Int → List UInt8 → Int × Bool
  | n, [] => (n - 1, true)
  | n, b :: l => if isU b = true then colF (n * 26 + ((b.toNat : Int) - 65) + 1) l else (0, false)
def colS (l : List UInt8) : Int × Bool := if l.length < 1 ∨ l.length > 2 then (0, false) else colF 0 l
def numF : Int → List UInt8 → Int × Bool
  | n, [] => (n - 1, true)
  | n, b :: l => if isD b = true then numF (n * 10 + ((b.toNat : Int) - 48)) l else (0, false)
def numS (l : List UInt8) : Int × Bool := if l.length < 1 ∨ l.length > 3 ∨ l.head? = some 48 then (0, false) else numF 0 l
theorem col_l0 (l : List UInt8) (hl : l.length ≤ 2) : ∀ d i n, i + d = l.length → 0 ≤ n → ((i = 0 → n = 0) ∧ (i = 1 → n ≤ 26) ∧ n ≤ 1000) → Ev (fun k => addr_Column.l0 k (tx l) n (l.length : Int) (i : Int)) (colF n (l.drop i))
  | 0, i, n, h, h0, h1 => by
    rw [List.drop_eq_nil_of_le (by omega)]
    refine Ev.step (fun k => addr_Column.l0.eq_2 _ _ _ _ _) ?_
    refine ev_neg (by omega) ?_
    rw [w64 (by omega) (by omega)]
    exact Ev.now _
  | d + 1, i, n, h, h0, h1 => by
    have hlt : i < l.length := by omega
    have hz := size_tx l
    have hb := bt_tx l i hlt
    have hu := u8_lt l[i]
    rw [List.drop_eq_getElem_cons hlt]
    refine Ev.step (fun k => addr_Column.l0.eq_2 _ _ _ _ _) ?_
    refine ev_pos (by omega) (ev_pos (by omega) (ev_pos (by omega) ?_))
    simp only [hb, colF]
    by_cases g1 : ((l[i]).toNat : Int) < 65
    · rw [if_neg (by unfold isU; simp; omega)]; exact ev_pos g1 (Ev.now _)
    · refine ev_neg g1 ?_
      by_cases g2 : ((l[i]).toNat : Int) > 90
      · rw [if_neg (by unfold isU; simp; omega)]; exact ev_pos g2 (Ev.now _)
      · rw [if_pos (by unfold isU; simp; omega)]
        refine ev_neg g2 ?_
        rw [w64s (n := 100) (by omega) (by omega)]
        rw [show (((l[i]).toNat : Int) - 65) % 256 = ((l[i]).toNat : Int) - 65 by omega, w64 (x := n * 26) (by omega) (by omega), w64 (x := n * 26 + (((l[i]).toNat : Int) - 65)) (by omega) (by omega), w64 (by omega) (by omega)]
        exact col_l0 l hl d (i + 1) _ (by omega) (by omega) (by
          rcases (by omega : i = 0 ∨ i = 1) with rfl | rfl
          · have := h1.1 rfl; omega
          · have := h1.2.1 rfl; omega)
theorem column_ev (l : List UInt8) : Ev (fun k => addr_Column.f k (tx l)) (colS l) := by
  have hz := size_tx l
  unfold addr_Column.f colS
  have hj : Ev (fun k => addr_Column.j0 k (tx l) true) (0, false) := by
    refine Ev.step (fun k => addr_Column.j0.eq_2 _ _ _) ?_
    exact ev_pos rfl (Ev.now _)
  by_cases h : l.length < 1 ∨ l.length > 2
  · rw [if_pos h]
    refine ev_ite (fun _ => hj) (fun g => ?_)
    rw [decide_eq_true (by omega)]
    exact hj
  · rw [if_neg h]
    refine ev_neg (by omega) ?_
    rw [decide_eq_false (by omega)]
    refine Ev.step (fun k => addr_Column.j0.eq_2 _ _ _) ?_
    refine ev_neg (by simp) ?_
    rw [hz]
    exact col_l0 l (by omega) l.length 0 0 (by omega) (by omega) (by omega)
theorem num_l0 (l : List UInt8) (hl : l.length ≤ 3) : ∀ d i n, i + d = l.length → 0 ≤ n → ((i = 0 → n = 0) ∧ (i = 1 → n ≤ 9) ∧ (i = 2 → n ≤ 99) ∧ n ≤ 999) → Ev (fun k => addr_Number.l0 k (tx l) n (l.length : Int) (i : Int)) (numF n (l.drop i))
  | 0, i, n, h, h0, h1 => by
    rw [List.drop_eq_nil_of_le (by omega)]
    refine Ev.step (fun k => addr_Number.l0.eq_2 _ _ _ _ _) ?_
    refine ev_neg (by omega) ?_
    rw [w64 (by omega) (by omega)]
    exact Ev.now _
  | d + 1, i, n, h, h0, h1 => by
    have hlt : i < l.length := by omega
    have hz := size_tx l
    have hb := bt_tx l i hlt
    have hu := u8_lt l[i]
    rw [List.drop_eq_getElem_cons hlt]
    refine Ev.step (fun k => addr_Number.l0.eq_2 _ _ _ _ _) ?_
    refine ev_pos (by omega) (ev_pos (by omega) (ev_pos (by omega) ?_))
    simp only [hb, numF]
    by_cases g1 : ((l[i]).toNat : Int) < 48
    · rw [if_neg (by unfold isD; simp; omega)]; exact ev_pos g1 (Ev.now _)
    · refine ev_neg g1 ?_
      by_cases g2 : ((l[i]).toNat : Int) > 57
      · rw [if_neg (by unfold isD; simp; omega)]; exact ev_pos g2 (Ev.now _)
      · rw [if_pos (by unfold isD; simp; omega)]
        refine ev_neg g2 ?_
        rw [w64s (n := 100) (by omega) (by omega)]
        rw [show (((l[i]).toNat : Int) - 48) % 256 = ((l[i]).toNat : Int) - 48 by omega, w64 (x := n * 10) (by omega) (by omega), w64 (by omega) (by omega)]
        exact num_l0 l hl d (i + 1) _ (by omega) (by omega) (by
          rcases (by omega : i = 0 ∨ i = 1 ∨ i = 2) with rfl | rfl | rfl
          · have := h1.1 rfl; omega
          · have := h1.2.1 rfl; omega
          · have := h1.2.2.1 rfl; omega)
theorem number_ev (l : List UInt8) : Ev (fun k => addr_Number.f k (tx l)) (numS l) := by
  have hz := size_tx l
  unfold addr_Number.f numS
  have hj : Ev (fun k => addr_Number.j0 k (tx l) true) (0, false) := by
    refine Ev.step (fun k => addr_Number.j0.eq_2 _ _ _) ?_
    exact ev_pos rfl (Ev.now _)
  by_cases h1 : l.length < 1
  · rw [if_pos (Or.inl h1)]; exact ev_pos (by omega) hj
  · refine ev_neg (by omega) ?_
    by_cases h2 : l.length > 3
    · rw [if_pos (Or.inr (Or.inl h2))]; exact ev_pos (by omega) hj
    · refine ev_neg (by omega) (ev_pos (by omega) ?_)
      obtain ⟨b, m, rfl⟩ : ∃ b m, l = b :: m := by cases l with | nil => simp at h1 | cons b m => exact ⟨b, m, rfl⟩
      have hb0 : bt (tx (b :: m)) 0 = (b.toNat : Int) := bt_tx0 b m
      rw [hb0]
      by_cases h3 : b = 48
      · subst h3
        rw [if_pos (Or.inr (Or.inr (by rfl : (48 :: m : List UInt8).head? = some 48)))]
        exact hj
      · have hne : (((b.toNat : Int)) == 48) = false := by
          rw [beq_eq_false_iff_ne]
          intro e
          exact h3 (u8_inj (by show b.toNat = 48; omega))
        rw [if_neg (by rintro (hh | hh | hh); exact h1 hh; exact h2 hh; exact h3 (Option.some.inj hh)), hne]
        refine Ev.step (fun k => addr_Number.j0.eq_2 _ _ _) ?_
        refine ev_neg (by simp) ?_
        rw [hz]
        exact num_l0 (b :: m) (by omega) (b :: m).length 0 0 (by omega) (by omega) (by omega)
/-! Parse. -/
def parS (l : List UInt8) : Int × Int × Bool :=
  if (colS (l.takeWhile isU)).2 = true then (if (numS (l.dropWhile isU)).2 = true then ((numS (l.dropWhile isU)).1, (colS (l.takeWhile isU)).1, true) else (0, 0, false)) else (0, 0, false)
theorem parse_j1 (a r : List UInt8) : Ev (fun k => addr_Parse.j1 k (tx (a ++ r)) (a.length : Int)) (if (colS a).2 = true then (if (numS r).2 = true then ((numS r).1, (colS a).1, true) else (0, 0, false)) else (0, 0, false)) := by
  have hz := size_tx (a ++ r)
  rw [List.length_append] at hz
  refine Ev.step (fun k => addr_Parse.j1.eq_2 _ _ _) ?_
  refine ev_pos (by omega) (ev_pos (by omega) ?_)
  rw [Int.toNat_natCast, ext_head, ext_tail, by_tx, List.take_left' rfl, List.drop_left' rfl]
  refine ev_bind (column_ev a) (ev_bind (number_ev r) ?_)
  refine ev_ite (fun h1 => ev_ite (fun h2 => ?_) (fun h2 => ?_)) (fun h1 => ?_)
  · rw [if_pos h1, if_pos h2]; exact Ev.now _
  · rw [if_pos h1, if_neg h2]; exact Ev.now _
  · rw [if_neg h1]; exact Ev.now _
theorem parse_l0 (a r : List UInt8) (ha : ∀ x ∈ a, isU x = true) (hr : ∀ b m, r = b :: m → isU b = false) (hl : a.length + r.length ≤ 1000) : ∀ d i, i + d = a.length → Ev (fun k => addr_Parse.l0 k (tx (a ++ r)) (i : Int)) (if (colS a).2 = true then (if (numS r).2 = true then ((numS r).1, (colS a).1, true) else (0, 0, false)) else (0, 0, false))
  | 0, i, h => by
    have hz := size_tx (a ++ r)
    rw [List.length_append] at hz
    have hi : i = a.length := by omega
    subst hi
    refine Ev.step (fun k => addr_Parse.l0.eq_2 _ _ _) ?_
    cases r with
    | nil =>
      have hz' : (tx (a ++ [])).size = a.length := by rw [size_tx, List.append_nil]
      exact ev_neg (by omega) (parse_j1 a [])
    | cons b m =>
      have hb : bt (tx (a ++ b :: m)) (a.length : Int) = (b.toNat : Int) := by
        rw [bt_tx _ a.length (by simp)]
        simp
      have hu := hr b m rfl
      unfold isU at hu
      rw [decide_eq_false_iff_not] at hu
      refine ev_pos (by simp at hz; omega) (ev_pos (by omega) ?_)
      rw [hb]
      refine ev_ite (fun g1 => ?_) (fun _ => parse_j1 a (b :: m))
      exact ev_neg (by omega) (parse_j1 a (b :: m))
  | d + 1, i, h => by
    have hz := size_tx (a ++ r)
    rw [List.length_append] at hz
    have hlt : i < a.length := by omega
    have hb : bt (tx (a ++ r)) (i : Int) = ((a[i]).toNat : Int) := by
      rw [bt_tx _ i (by simp; omega), List.getElem_append_left hlt]
    have hu := ha _ (List.getElem_mem hlt)
    unfold isU at hu
    rw [decide_eq_true_eq] at hu
    refine Ev.step (fun k => addr_Parse.l0.eq_2 _ _ _) ?_
    refine ev_pos (by omega) (ev_pos (by omega) ?_)
    rw [hb, w64s (n := 10000) (by omega) (by omega)]
    exact ev_pos (by omega) (ev_pos (by omega) (parse_l0 a r ha hr hl d (i + 1) (by omega)))
theorem parse_ev (l : List UInt8) (hl : l.length ≤ 1000) : Ev (fun k => addr_Parse.f k (tx l)) (parS l) := by
  unfold addr_Parse.f parS
  have e : l.takeWhile isU ++ l.dropWhile isU = l := List.takeWhile_append_dropWhile
  have hlen := congrArg List.length e
  rw [List.length_append] at hlen
  have := parse_l0 (l.takeWhile isU) (l.dropWhile isU) (fun x hx => by
      have := List.all_takeWhile (l := l) (p := isU)
      exact List.all_eq_true.1 this x hx) (fun b m hbm => by
      cases hb : isU b with
      | false => rfl
      | true =>
        have hh := List.head?_dropWhile_not isU l
        rw [hbm] at hh
        simp [hb] at hh) (by omega) (l.takeWhile isU).length 0 (by omega)
  rw [e] at this
  exact this
end Go.Proofs.YtjbdljolpkkhcaaDoor.X
/- What strings.Cut at one byte answers. -/
set_option linter.unusedVariables false
set_option linter.unusedSimpArgs false
namespace Go.Proofs.YtjbdljolpkkhcaaDoor.X
open Go.RowKit Go.Proofs.YtjbdljolpkkhcaaDoorW.PrintWords Go.Proofs.YtjbdljolpkkhcaaDoorW.PrintLast Go.Proofs.YtjbdljolpkkhcaaDoorW.PrintMore
/-- Cut at the first c. -/
def cutL (c : UInt8) : List UInt8 → List UInt8 × List UInt8 × Bool
  | [] => ([], [], false)
  | b :: l => if b = c then ([], l, true) else (b :: (cutL c l).1, (cutL c l).2.1, (cutL c l).2.2)
theorem index_cut (c : UInt8) : ∀ l : List UInt8, (Lib.indexByte l c = -1 ∧ (cutL c l).1 = l ∧ (cutL c l).2.1 = [] ∧ (cutL c l).2.2 = false) ∨
    ∃ n : Nat, Lib.indexByte l c = (n : Int) ∧ n < l.length ∧ (cutL c l).1 = l.take n ∧ (cutL c l).2.1 = l.drop (n + 1) ∧ (cutL c l).2.2 = true
  | [] => Or.inl ⟨rfl, rfl, rfl, rfl⟩
  | b :: l => by
    by_cases h : b = c
    · refine Or.inr ⟨0, ?_, by simp, ?_, ?_, ?_⟩
      · simp [Lib.indexByte, h]
      · simp [cutL, h]
      · simp [cutL, h]
      · simp [cutL, h]
    · rcases index_cut c l with ⟨h1, h2, h3, h4⟩ | ⟨n, h1, h2, h3, h4, h5⟩
      · left
        refine ⟨?_, ?_, ?_, ?_⟩
        · simp [Lib.indexByte, h, h1]
        · simp [cutL, h, h2]
        · simp [cutL, h, h3]
        · simp [cutL, h, h4]
      · right
        refine ⟨n + 1, ?_, by simp; omega, ?_, ?_, ?_⟩
        · simp only [Lib.indexByte, beq_eq_false_iff_ne.2 h, h1]
          rw [if_neg (by simp), if_neg (by first | (simp; done) | (simp; omega))]
          omega
        · simp [cutL, h, h3]
        · simp [cutL, h, h4]
        · simp [cutL, h, h5]
theorem cut_eq (s : ByteArray) (c : UInt8) (hs : s.size ≤ 4611686018427387904) : strings_Cut.f s (tx [c]) = some (tx (cutL c (by_ s)).1, tx (cutL c (by_ s)).2.1, (cutL c (by_ s)).2.2) := by
  unfold strings_Cut.f stringslite_Cut.f stringslite_Index.f
  have h1 : (tx [c]).size = 1 := by rw [size_tx]; rfl
  have h2 : (tx [c])[0]'(by rw [h1]; decide) = c := rfl
  rw [dif_pos h1, h2]
  simp only [Option.bind_some]
  rcases index_cut c (by_ s) with ⟨g1, g2, g3, g4⟩ | ⟨n, g1, g2, g3, g4, g5⟩
  · rw [show Lib.indexByte s.data.toList c = -1 from g1, if_neg (by decide), g2, g3, g4, tx_by]
    rfl
  · have hl := size_by s
    rw [show Lib.indexByte s.data.toList c = (n : Int) from g1, if_pos (by omega), if_pos (by omega), if_pos (by omega), h1]
    have hw : wrap64 ((n : Int) + ((1 : Nat) : Int)) = ((n + 1 : Nat) : Int) := by unfold wrap64; omega
    rw [hw, if_pos (by omega), if_pos (by omega), g3, g4, g5]
    simp only [Option.bind_some, Int.toNat_natCast, ext_head, ext_tail]
theorem cutL_length (c : UInt8) (l : List UInt8) : (cutL c l).1.length ≤ l.length ∧ (cutL c l).2.1.length ≤ l.length := by
  rcases index_cut c l with ⟨g1, g2, g3, g4⟩ | ⟨n, g1, g2, g3, g4, g5⟩
  · rw [g2, g3]; simp
  · rw [g3, g4]; simp; omega
end Go.Proofs.YtjbdljolpkkhcaaDoor.X
/- Spans as texts; that the statements of span live. -/
set_option linter.unusedVariables false
set_option linter.unusedSimpArgs false
namespace Go.Proofs.YtjbdljolpkkhcaaDoor.X
open Go.RowKit Go.Proofs.YtjbdljolpkkhcaaDoorW.PrintWords Go.Proofs.YtjbdljolpkkhcaaDoorW.PrintLast Go.Proofs.YtjbdljolpkkhcaaDoorW.PrintMore
/-- The span that a text tells. -/
def spP (l : List UInt8) : Int × Int × Int × Int × Bool :=
  if (parS (cutL 58 l).1).2.2 = true then
    (if (cutL 58 l).2.2 = true then
      (if (parS (cutL 58 l).2.1).2.2 = true then
        (if (parS (cutL 58 l).1).1 = (parS (cutL 58 l).2.1).1 ∧ (parS (cutL 58 l).1).2.1 = (parS (cutL 58 l).2.1).2.1 then (0, 0, 0, 0, false)
        else ((parS (cutL 58 l).1).1, (parS (cutL 58 l).1).2.1, (parS (cutL 58 l).2.1).1, (parS (cutL 58 l).2.1).2.1, true))
      else (0, 0, 0, 0, false))
    else ((parS (cutL 58 l).1).1, (parS (cutL 58 l).1).2.1, (parS (cutL 58 l).1).1, (parS (cutL 58 l).1).2.1, true))
  else (0, 0, 0, 0, false)
theorem spparse_ev (l : List UInt8) (hl : l.length ≤ 1000) : Ev (fun k => span_Parse.f k (tx l)) (spP l) := by
  have hc := cutL_length 58 l
  unfold span_Parse.f spP
  have e := cut_eq (tx l) 58 (by rw [size_tx]; omega)
  rw [by_tx] at e
  refine ev_bind (ev_some fun _ => e) ?_
  refine ev_bind (parse_ev _ (by omega)) ?_
  have hp2 := parse_ev (cutL 58 l).2.1 (by omega)
  generalize parS (cutL 58 l).1 = p1 at *
  generalize parS (cutL 58 l).2.1 = p2 at *
  refine ev_ite (fun h1 => ?_) (fun h1 => ?_)
  · rw [if_pos h1]
    refine Ev.step (fun k => span_Parse.j0.eq_2 _ _ _ _ _ _) ?_
    cases h2 : (cutL 58 l).2.2 with
    | false =>
      rw [if_neg (by simp)]
      exact ev_pos rfl (Ev.now _)
    | true =>
      rw [if_pos rfl]
      refine ev_neg (by simp) (ev_bind hp2 ?_)
      refine ev_pos h1 (ev_ite (fun h3 => ?_) (fun h3 => ?_))
      · rw [if_pos h3]
        refine ev_ite (fun h4 => ?_) (fun h4 => ?_)
        · rw [if_pos (by simpa using h4)]; exact Ev.now _
        · rw [if_neg (by simpa using h4)]; exact Ev.now _
      · rw [if_neg h3]; exact Ev.now _
  · rw [if_neg h1]
    refine Ev.step (fun k => span_Parse.j0.eq_2 _ _ _ _ _ _) ?_
    refine ev_neg (by simp) (ev_bind hp2 ?_)
    exact ev_neg h1 (Ev.now _)
/-- A span as text. -/
def txtL (a b c d : Int) : List UInt8 := if mayZ a b c d = true then (if a = c ∧ b = d then nameL a b else nameL a b ++ 58 :: nameL c d) else []
theorem nameL_len (a b : Int) : (nameL a b).length ≤ 5 := by
  unfold nameL
  split
  · rw [List.length_append]
    have h1 := letL_len b.toNat
    have h2 := digL_len (a.toNat + 1)
    omega
  · simp
theorem text_ev (a b c d : Int) : Ev (fun k => span_Text.f k a b c d) (tx (txtL a b c d)) := by
  unfold span_Text.f txtL
  refine ev_bind (ev_some fun _ => span_may_eq a b c d) ?_
  refine Ev.step (fun k => span_Text.j0.eq_2 _ _ _ _ _ _) ?_
  cases h : mayZ a b c d with
  | false => rw [if_neg (by simp)]; exact ev_pos rfl (Ev.now _)
  | true =>
    rw [if_pos rfl]
    refine ev_neg (by simp) ?_
    have l1 := nameL_len a b
    have l2 := nameL_len c d
    refine ev_ite (fun g => ?_) (fun g => ?_)
    · rw [if_pos (by simpa using g)]
      exact ev_bind (name_ev a b) (Ev.now _)
    · rw [if_neg (by simpa using g)]
      refine ev_bind (name_ev a b) (ev_pos (by rw [size_tx]; omega) ?_)
      refine ev_bind (name_ev c d) ?_
      have e : tx (nameL a b) ++ (⟨#[58]⟩ : ByteArray) ++ tx (nameL c d) = tx (nameL a b ++ 58 :: nameL c d) := by
        rw [show (⟨#[58]⟩ : ByteArray) = tx [58] from rfl, tx_append, tx_append]; simp
      have e0 : tx (nameL a b) ++ (⟨#[58]⟩ : ByteArray) = tx (nameL a b ++ [58]) := by rw [show (⟨#[58]⟩ : ByteArray) = tx [58] from rfl, tx_append]
      refine ev_pos (by rw [e0, size_tx, size_tx, List.length_append]; simp; omega) ?_
      rw [e]
      exact Ev.now _
theorem alive04_ev : Ev (fun k => oculuslaw04_alive.f k) true := by
  unfold oculuslaw04_alive.f
  refine ev_bind (a := (1, 1, 0, 0, true)) ?_ ?_
  · have := spparse_ev [66, 50, 58, 65, 49] (by decide)
    rw [show spP [66, 50, 58, 65, 49] = (1, 1, 0, 0, true) by decide +kernel] at this
    exact this
  refine ev_bind (ev_some fun _ => span_cells_eq 1 1 0 0) ?_
  rw [show cellsOf 1 1 0 0 = [⟨0, 0⟩, ⟨0, 1⟩, ⟨1, 0⟩, ⟨1, 1⟩] by kernel_rfl]
  refine ev_pos rfl (ev_pos rfl (ev_pos (by decide) (ev_pos (by decide +kernel) (ev_pos (by decide) (ev_pos (by decide +kernel) ?_)))))
  refine ev_bind (text_ev 1 1 0 0) (ev_pos (by rw [toList_by, by_tx]; decide +kernel) ?_)
  refine ev_bind (ev_some fun _ => span_str 1 1 0 0 (by decide)) ?_
  refine ev_bind (text_ev 0 0 1 1) (ev_pos (by rw [toList_by, by_tx]; decide +kernel) ?_)
  exact ev_bind (ev_some fun _ => span_size_eq 1 1 0 0) (ev_some fun _ => by decide +kernel)
end Go.Proofs.YtjbdljolpkkhcaaDoor.X
/- The reference's searches: the column of letters, the row of a number, the cell of a name. -/
set_option linter.unusedVariables false
set_option linter.unusedSimpArgs false
namespace Go.Proofs.YtjbdljolpkkhcaaDoor.X
open Go.RowKit Go.Proofs.YtjbdljolpkkhcaaDoorW.PrintWords Go.Proofs.YtjbdljolpkkhcaaDoorW.PrintLast Go.Proofs.YtjbdljolpkkhcaaDoorW.PrintMore
def srch (f : Nat → List UInt8) (t : List UInt8) : Nat → Nat → Int × Bool
  | 0, _ => (0, false)
  | d + 1, i => if f i = t then ((i : Int), true) else srch f t d (i + 1)
theorem srch_miss (f : Nat → List UInt8) (t : List UInt8) : ∀ d i, (∀ j, i ≤ j → j < i + d → f j ≠ t) → srch f t d i = (0, false)
  | 0, _, _ => rfl
  | d + 1, i, h => by
    simp only [srch]
    rw [if_neg (h i (by omega) (by omega)), srch_miss f t d (i + 1) (fun j h1 h2 => h j (by omega) (by omega))]
theorem srch_hit (f : Nat → List UInt8) (t : List UInt8) (j : Nat) (hj : f j = t) : ∀ d i, i ≤ j → j < i + d → (∀ m, m < j → f m ≠ t) → srch f t d i = ((j : Int), true)
  | 0, i, h1, h2, _ => by omega
  | d + 1, i, h1, h2, h3 => by
    simp only [srch]
    by_cases e : i = j
    · subst e; rw [if_pos hj]
    · rw [if_neg (h3 i (by omega)), srch_hit f t j hj d (i + 1) (by omega) (by omega) h3]
theorem txl (l m : List UInt8) : ((tx l).toList = (tx m).toList) ↔ l = m := by rw [toList_by, toList_by, by_tx, by_tx]
theorem rcolumn_ev (t : List UInt8) : Ev (fun k => oculusref03_Column.f k (tx t)) (srch letL t 702 0) := by
  have hl : ∀ d i : Nat, i + d = 702 → Ev (fun k => oculusref03_Column.l0 k (tx t) (i : Int)) (srch letL t d i) := by
    intro d
    induction d with
    | zero =>
      intro i h
      refine Ev.step (fun k => oculusref03_Column.l0.eq_2 _ _ _) ?_
      exact ev_neg (by omega) (Ev.now _)
    | succ d ih =>
      intro i h
      refine Ev.step (fun k => oculusref03_Column.l0.eq_2 _ _ _) ?_
      refine ev_pos (by omega) ?_
      have hr := rletters_ev (i : Int)
      unfold ltrI at hr
      rw [if_neg (by omega), Int.toNat_natCast] at hr
      refine ev_bind hr ?_
      simp only [srch]
      refine ev_ite (fun g => ?_) (fun g => ?_)
      · rw [if_pos ((txl _ _).1 g)]; exact Ev.now _
      · rw [if_neg (fun e => g ((txl _ _).2 e)), w64s (n := 10000) (by omega) (by omega)]
        exact ih (i + 1) (by omega)
  exact hl 702 0 (by omega)
theorem rnumber_ev (t : List UInt8) : Ev (fun k => oculusref03_Number.f k (tx t)) (srch (fun i => digL (i + 1)) t 999 0) := by
  have hl : ∀ d i : Nat, i + d = 999 → Ev (fun k => oculusref03_Number.l0 k (tx t) (i : Int)) (srch (fun i => digL (i + 1)) t d i) := by
    intro d
    induction d with
    | zero =>
      intro i h
      refine Ev.step (fun k => oculusref03_Number.l0.eq_2 _ _ _) ?_
      exact ev_neg (by omega) (Ev.now _)
    | succ d ih =>
      intro i h
      refine Ev.step (fun k => oculusref03_Number.l0.eq_2 _ _ _) ?_
      refine ev_pos (by omega) ?_
      rw [w64s (n := 10000) (by omega) (by omega)]
      refine ev_bind (digits_ev (i + 1) (by omega)) ?_
      simp only [srch]
      refine ev_ite (fun g => ?_) (fun g => ?_)
      · rw [if_pos ((txl _ _).1 g)]; exact Ev.now _
      · rw [if_neg (fun e => g ((txl _ _).2 e))]
        exact ih (i + 1) (by omega)
  exact hl 999 0 (by omega)
theorem col_let : ∀ n : Fin 702, colS (letL n.val) = ((n.val : Int), true) := by decide +kernel
theorem num_dig : ∀ n : Fin 999, numS (digL (n.val + 1)) = ((n.val : Int), true) := by decide +kernel
theorem u8_of (a : UInt8) : u8 a.toNat = a := by
  apply u8_inj
  show (UInt8.ofNat a.toNat).toNat = a.toNat
  simp
theorem u8_eq (a : UInt8) (n : Nat) (h : n = a.toNat) : u8 n = a := by rw [h, u8_of]
theorem col_ok (t : List UInt8) (h : (colS t).2 = true) : ∃ n : Nat, n < 702 ∧ letL n = t := by
  unfold colS at h
  match t, h with
  | [], h => simp at h
  | [a], h =>
    simp only [List.length_singleton, colF] at h
    by_cases ha : isU a = true
    · unfold isU at ha
      have ha := of_decide_eq_true ha
      refine ⟨a.toNat - 65, by omega, ?_⟩
      unfold letL
      rw [if_pos (by omega), u8_eq a _ (by omega)]
    · rw [if_neg (by omega), if_neg ha] at h; simp at h
  | [a, b], h =>
    simp only [List.length_cons, List.length_nil, colF] at h
    rw [if_neg (by omega)] at h
    by_cases ha : isU a = true
    · rw [if_pos ha] at h
      by_cases hb : isU b = true
      · unfold isU at ha hb
        have ha := of_decide_eq_true ha
        have hb := of_decide_eq_true hb
        refine ⟨(a.toNat - 64) * 26 + (b.toNat - 65), by omega, ?_⟩
        unfold letL
        rw [if_neg (by omega), u8_eq a _ (by omega), u8_eq b _ (by omega)]
      · rw [if_neg hb] at h; simp at h
    · rw [if_neg ha] at h; simp at h
  | a :: b :: c :: l, h =>
    rw [if_pos (by simp)] at h; simp at h
theorem col_false (t : List UInt8) (h : ¬ (colS t).2 = true) : colS t = (0, false) := by
  have : ∀ (l : List UInt8) (n : Int), ¬ (colF n l).2 = true → colF n l = (0, false) := by
    intro l
    induction l with
    | nil => intro n h; simp [colF] at h
    | cons b l ih =>
      intro n h
      simp only [colF] at h ⊢
      by_cases hb : isU b = true
      · rw [if_pos hb] at h ⊢; exact ih _ h
      · rw [if_neg hb]
  unfold colS at h ⊢
  split
  · rfl
  · rename_i g
    rw [if_neg g] at h
    exact this _ _ h
theorem srch_col (t : List UInt8) : srch letL t 702 0 = colS t := by
  by_cases h : (colS t).2 = true
  · obtain ⟨n, hn, rfl⟩ := col_ok t h
    rw [col_let ⟨n, hn⟩]
    refine srch_hit letL _ n rfl 702 0 (by omega) (by omega) (fun m hm e => ?_)
    have h1 := col_let ⟨m, by omega⟩
    have h2 := col_let ⟨n, hn⟩
    simp only at h1 h2
    rw [e, h2] at h1
    simp only [Prod.mk.injEq] at h1
    omega
  · rw [col_false t h]
    refine srch_miss letL t 702 0 (fun j _ hj e => h ?_)
    rw [← e, col_let ⟨j, by omega⟩]
theorem num_ok (t : List UInt8) (h : (numS t).2 = true) : ∃ n : Nat, n < 999 ∧ digL (n + 1) = t := by
  unfold numS at h
  have hd : ∀ {b : UInt8}, isD b = true → 48 ≤ b.toNat ∧ b.toNat ≤ 57 := fun {b} hb => by unfold isD at hb; exact of_decide_eq_true hb
  match t, h with
  | [], h => simp at h
  | a :: l, h =>
    by_cases g : (a :: l).length < 1 ∨ (a :: l).length > 3 ∨ (a :: l).head? = some 48
    · rw [if_pos g] at h; simp at h
    · rw [if_neg g] at h
      have h0 : a ≠ 48 := fun e => g (Or.inr (Or.inr (by rw [e]; rfl)))
      have h0' : a.toNat ≠ 48 := fun e => h0 (u8_inj e)
      simp only [numF] at h
      by_cases ha : isD a = true
      · rw [if_pos ha] at h
        have ha := hd ha
        match l, h, g with
        | [], _, _ =>
          refine ⟨a.toNat - 49, by omega, ?_⟩
          unfold digL
          rw [if_pos (by omega), u8_eq a _ (by omega)]
        | [b], h, _ =>
          simp only [numF] at h
          by_cases hb : isD b = true
          · have hb := hd hb
            refine ⟨(a.toNat - 48) * 10 + (b.toNat - 48) - 1, by omega, ?_⟩
            unfold digL
            rw [if_neg (by omega), if_pos (by omega), u8_eq a _ (by omega), u8_eq b _ (by omega)]
          · rw [if_neg hb] at h; simp at h
        | [b, c], h, _ =>
          simp only [numF] at h
          by_cases hb : isD b = true
          · rw [if_pos hb] at h
            by_cases hc : isD c = true
            · have hb := hd hb
              have hc := hd hc
              refine ⟨(a.toNat - 48) * 100 + (b.toNat - 48) * 10 + (c.toNat - 48) - 1, by omega, ?_⟩
              unfold digL
              rw [if_neg (by omega), if_neg (by omega), u8_eq a _ (by omega), u8_eq b _ (by omega), u8_eq c _ (by omega)]
            · rw [if_neg hc] at h; simp at h
          · rw [if_neg hb] at h; simp at h
        | b :: c :: e :: m, _, g => exact absurd (Or.inr (Or.inl (by simp))) g
      · rw [if_neg ha] at h; simp at h
theorem num_false (t : List UInt8) (h : ¬ (numS t).2 = true) : numS t = (0, false) := by
  have : ∀ (l : List UInt8) (n : Int), ¬ (numF n l).2 = true → numF n l = (0, false) := by
    intro l
    induction l with
    | nil => intro n h; simp [numF] at h
    | cons b l ih =>
      intro n h
      simp only [numF] at h ⊢
      by_cases hb : isD b = true
      · rw [if_pos hb] at h ⊢; exact ih _ h
      · rw [if_neg hb]
  unfold numS at h ⊢
  split
  · rfl
  · rename_i g
    rw [if_neg g] at h
    exact this _ _ h
theorem srch_num (t : List UInt8) : srch (fun i => digL (i + 1)) t 999 0 = numS t := by
  by_cases h : (numS t).2 = true
  · obtain ⟨n, hn, rfl⟩ := num_ok t h
    rw [num_dig ⟨n, hn⟩]
    refine srch_hit _ _ n rfl 999 0 (by omega) (by omega) (fun m hm e => ?_)
    have h1 := num_dig ⟨m, by omega⟩
    have h2 := num_dig ⟨n, hn⟩
    simp only at h1 h2 e
    rw [e, h2] at h1
    simp only [Prod.mk.injEq] at h1
    omega
  · rw [num_false t h]
    refine srch_miss _ t 999 0 (fun j _ hj e => h ?_)
    rw [← e, num_dig ⟨j, by omega⟩]
end Go.Proofs.YtjbdljolpkkhcaaDoor.X
/- The reference's Parse is the code's. -/
set_option linter.unusedVariables false
set_option linter.unusedSimpArgs false
namespace Go.Proofs.YtjbdljolpkkhcaaDoor.X
open Go.RowKit Go.Proofs.YtjbdljolpkkhcaaDoorW.PrintWords Go.Proofs.YtjbdljolpkkhcaaDoorW.PrintLast Go.Proofs.YtjbdljolpkkhcaaDoorW.PrintMore
theorem rcol_ev (t : List UInt8) : Ev (fun k => oculusref03_Column.f k (tx t)) (colS t) := by rw [← srch_col]; exact rcolumn_ev t
theorem rnum_ev (t : List UInt8) : Ev (fun k => oculusref03_Number.f k (tx t)) (numS t) := by rw [← srch_num]; exact rnumber_ev t
def stepS (l : List UInt8) (i : Nat) (q : Int × Int × Bool) : Int × Int × Bool := if (colS (l.take i)).2 = true then (if (numS (l.drop i)).2 = true then ((numS (l.drop i)).1, (colS (l.take i)).1, true) else q) else q
def rpS (l : List UInt8) : Int × Int × Bool := if 1 ≤ l.length then stepS l 1 (if 2 ≤ l.length then stepS l 2 (0, 0, false) else (0, 0, false)) else (0, 0, false)
theorem rparse_j1f (l : List UInt8) (i : Int) : Ev (fun k => oculusref03_Parse.j1 k (tx l) i false) (0, 0, false) := by
  refine Ev.step (fun k => oculusref03_Parse.j1.eq_2 _ _ _ _) ?_
  exact ev_neg (by simp) (Ev.now _)
theorem rparse_step (l : List UInt8) (i : Nat) (hi : 1 ≤ i ∧ i ≤ 2) (q : Int × Int × Bool) (hn : Ev (fun k => oculusref03_Parse.l0 k (tx l) ((i + 1 : Nat) : Int)) q) : Ev (fun k => oculusref03_Parse.l0 k (tx l) (i : Int)) (if i ≤ l.length then stepS l i q else (0, 0, false)) := by
  have hz := size_tx l
  refine Ev.step (fun k => oculusref03_Parse.l0.eq_2 _ _ _) ?_
  refine ev_pos (by omega) ?_
  by_cases h : i ≤ l.length
  · rw [if_pos h, decide_eq_true (by omega)]
    refine Ev.step (fun k => oculusref03_Parse.j1.eq_2 _ _ _ _) ?_
    refine ev_pos rfl (ev_pos (by omega) (ev_pos (by omega) ?_))
    rw [Int.toNat_natCast, ext_head, ext_tail, by_tx, w64s (n := 100) (by omega) (by omega)]
    refine ev_bind (rcol_ev _) (ev_bind (rnum_ev _) ?_)
    unfold stepS
    refine ev_ite (fun h1 => ev_ite (fun h2 => ?_) (fun h2 => ?_)) (fun h1 => ?_)
    · rw [if_pos h1, if_pos h2]; exact Ev.now _
    · rw [if_pos h1, if_neg h2]; exact hn
    · rw [if_neg h1]; exact hn
  · rw [if_neg h, decide_eq_false (by omega)]
    exact rparse_j1f l i
theorem rparse_ev (l : List UInt8) : Ev (fun k => oculusref03_Parse.f k (tx l)) (rpS l) := by
  unfold oculusref03_Parse.f rpS
  refine rparse_step l 1 (by omega) _ (rparse_step l 2 (by omega) _ ?_)
  refine Ev.step (fun k => oculusref03_Parse.l0.eq_2 _ _ _) ?_
  exact ev_neg (by omega) (rparse_j1f l _)
theorem num_upper (b : UInt8) (l : List UInt8) (hb : isU b = true) : ¬ (numS (b :: l)).2 = true := by
  unfold isU at hb
  have hb := of_decide_eq_true hb
  unfold numS
  split
  · simp
  · simp only [numF]
    rw [if_neg (by unfold isD; simp; omega)]
    simp
theorem num_nil : ¬ (numS []).2 = true := by simp [numS]
theorem col_one (a : UInt8) : (colS [a]).2 = true ↔ isU a = true := by
  unfold colS
  rw [if_neg (by simp)]
  simp only [colF]
  by_cases h : isU a = true
  · rw [if_pos h]; simp [h]
  · rw [if_neg h]; simp [h]
theorem col_two (a b : UInt8) : (colS [a, b]).2 = true ↔ (isU a = true ∧ isU b = true) := by
  unfold colS
  rw [if_neg (by simp)]
  simp only [colF]
  by_cases h : isU a = true
  · rw [if_pos h]
    by_cases g : isU b = true
    · rw [if_pos g]; simp [h, g]
    · rw [if_neg g]; simp [g]
  · rw [if_neg h]; simp [h]
theorem rp_one (a : UInt8) : rpS [a] = if (colS [a]).2 = true then (if (numS []).2 = true then ((numS []).1, (colS [a]).1, true) else (0, 0, false)) else (0, 0, false) := rfl
theorem rp_two (a b : UInt8) (m : List UInt8) : rpS (a :: b :: m) = if (colS [a]).2 = true then (if (numS (b :: m)).2 = true then ((numS (b :: m)).1, (colS [a]).1, true) else (if (colS [a, b]).2 = true then (if (numS m).2 = true then ((numS m).1, (colS [a, b]).1, true) else (0, 0, false)) else (0, 0, false))) else (if (colS [a, b]).2 = true then (if (numS m).2 = true then ((numS m).1, (colS [a, b]).1, true) else (0, 0, false)) else (0, 0, false)) := by
  unfold rpS
  rw [if_pos (show 1 ≤ (a :: b :: m).length by simp), if_pos (show 2 ≤ (a :: b :: m).length by simp)]
  rfl
def parF (a r : List UInt8) : Int × Int × Bool := if (colS a).2 = true then (if (numS r).2 = true then ((numS r).1, (colS a).1, true) else (0, 0, false)) else (0, 0, false)
theorem par_F (l : List UInt8) : parS l = parF (l.takeWhile isU) (l.dropWhile isU) := rfl
theorem parF_num {a r : List UInt8} (h : ¬ (numS r).2 = true) : parF a r = (0, 0, false) := by unfold parF; rw [if_neg h]; split <;> rfl
theorem parF_col {a r : List UInt8} (h : ¬ (colS a).2 = true) : parF a r = (0, 0, false) := by unfold parF; rw [if_neg h]
theorem par_rp (l : List UInt8) : parS l = rpS l := by
  rw [par_F]
  match l with
  | [] => exact parF_num num_nil
  | [a] =>
    rw [rp_one, if_neg num_nil]
    by_cases h : isU a = true
    · rw [List.takeWhile_cons_of_pos h, List.dropWhile_cons_of_pos h, List.dropWhile_nil, parF_num num_nil]
      split <;> rfl
    · rw [List.takeWhile_cons_of_neg h, parF_col (by simp [colS])]
      split <;> rfl
  | a :: b :: m =>
    rw [rp_two]
    by_cases h : isU a = true
    · rw [List.takeWhile_cons_of_pos h, List.dropWhile_cons_of_pos h]
      by_cases g : isU b = true
      · rw [List.takeWhile_cons_of_pos g, List.dropWhile_cons_of_pos g, if_neg (num_upper b m g)]
        have e2 : parF (a :: b :: m.takeWhile isU) (m.dropWhile isU) = (if (colS [a, b]).2 = true then (if (numS m).2 = true then ((numS m).1, (colS [a, b]).1, true) else (0, 0, false)) else (0, 0, false)) := by
          cases m with
          | nil => rfl
          | cons c r =>
            by_cases k : isU c = true
            · rw [List.takeWhile_cons_of_pos k, parF_col (by unfold colS; rw [if_pos (by simp)]; simp), if_neg (num_upper c r k)]
              split <;> rfl
            · rw [List.takeWhile_cons_of_neg k, List.dropWhile_cons_of_neg k]; rfl
        rw [e2, if_pos ((col_one a).2 h)]
      · rw [List.takeWhile_cons_of_neg g, List.dropWhile_cons_of_neg g, if_neg (fun k => g ((col_two a b).1 k).2)]
        unfold parF
        split <;> rfl
    · rw [List.takeWhile_cons_of_neg h, parF_col (by simp [colS]), if_neg (fun k => h ((col_one a).1 k)), if_neg (fun k => h ((col_two a b).1 k).1)]
end Go.Proofs.YtjbdljolpkkhcaaDoor.X
/- A cell's name, read; what is read, named: plain. -/
set_option linter.unusedVariables false
set_option linter.unusedSimpArgs false
namespace Go.Proofs.YtjbdljolpkkhcaaDoor.Pure
open Go.RowKit Go.Proofs.YtjbdljolpkkhcaaDoor.X Go.Proofs.YtjbdljolpkkhcaaDoorW.PrintWords Go.Proofs.YtjbdljolpkkhcaaDoorW.PrintLast Go.Proofs.YtjbdljolpkkhcaaDoorW.PrintMore
theorem let_all : ∀ n : Fin 702, (letL n.val).all isU = true := by decide +kernel
theorem dig_head : ∀ n : Fin 999, (match digL (n.val + 1) with | [] => true | b :: _ => isU b) = false := by decide +kernel
theorem tw_app (p : UInt8 → Bool) (r : List UInt8) (hr : ∀ b m, r = b :: m → p b = false) : ∀ a : List UInt8, a.all p = true → (a ++ r).takeWhile p = a ∧ (a ++ r).dropWhile p = r
  | [], _ => by
    cases r with
    | nil => exact ⟨rfl, rfl⟩
    | cons b m =>
      have := hr b m rfl
      rw [List.nil_append, List.takeWhile_cons_of_neg (by rw [this]; simp), List.dropWhile_cons_of_neg (by rw [this]; simp)]
      exact ⟨rfl, rfl⟩
  | x :: a, h => by
    rw [List.all_cons, Bool.and_eq_true] at h
    have ih := tw_app p r hr a h.2
    rw [List.cons_append, List.takeWhile_cons_of_pos h.1, List.dropWhile_cons_of_pos h.1, ih.1, ih.2]
    exact ⟨rfl, rfl⟩
theorem par_name (r c : Int) : parS (nameL r c) = if mayI r c = true then (r, c, true) else (0, 0, false) := by
  unfold nameL
  by_cases h : mayI r c = true
  · rw [if_pos h, if_pos h]
    unfold mayI at h
    have hb := of_decide_eq_true h
    have hd := dig_head ⟨r.toNat, by omega⟩
    obtain ⟨t1, t2⟩ := tw_app isU (digL (r.toNat + 1)) (fun b m e => by simp only at hd; rw [e] at hd; exact hd) (letL c.toNat) (let_all ⟨c.toNat, by omega⟩)
    rw [par_F, t1, t2]
    unfold parF
    have e1 := col_let ⟨c.toNat, by omega⟩
    have e2 := num_dig ⟨r.toNat, by omega⟩
    simp only at e1 e2
    rw [e1, e2, if_pos rfl, if_pos rfl]
    simp only [Prod.mk.injEq]
    exact ⟨by omega, by omega, trivial⟩
  · rw [if_neg h, if_neg h]
    exact parF_num num_nil
theorem par_back {l : List UInt8} {r c : Int} (h : parS l = (r, c, true)) : mayI r c = true ∧ nameL r c = l := by
  rw [par_F] at h
  have ha : l.takeWhile isU ++ l.dropWhile isU = l := List.takeWhile_append_dropWhile
  unfold parF at h
  by_cases h1 : (colS (l.takeWhile isU)).2 = true
  · rw [if_pos h1] at h
    by_cases h2 : (numS (l.dropWhile isU)).2 = true
    · rw [if_pos h2] at h
      obtain ⟨n, hn, e1⟩ := col_ok _ h1
      obtain ⟨m, hm, e2⟩ := num_ok _ h2
      simp only [Prod.mk.injEq] at h
      have c1 := col_let ⟨n, hn⟩
      have c2 := num_dig ⟨m, hm⟩
      simp only at c1 c2
      rw [← e1, ← e2, c1, c2] at h
      simp only at h
      obtain ⟨rfl, rfl, _⟩ := h
      have hm2 : mayI (m : Int) (n : Int) = true := by unfold mayI; rw [decide_eq_true_eq]; omega
      refine ⟨hm2, ?_⟩
      unfold nameL
      rw [if_pos hm2, Int.toNat_natCast, Int.toNat_natCast, e1, e2, ha]
    · rw [if_neg h2] at h; simp at h
  · rw [if_neg h1] at h; simp at h
end Go.Proofs.YtjbdljolpkkhcaaDoor.Pure
/- The pure statement of the law SpanBack: over spans and texts alone. -/
set_option linter.unusedVariables false
set_option linter.unusedSimpArgs false
namespace Go.Proofs.YtjbdljolpkkhcaaDoor.Pure
open Go.RowKit Go.Proofs.YtjbdljolpkkhcaaDoor.X Go.Proofs.YtjbdljolpkkhcaaDoorW.PrintWords Go.Proofs.YtjbdljolpkkhcaaDoorW.PrintLast Go.Proofs.YtjbdljolpkkhcaaDoorW.PrintMore
theorem rpar (l : List UInt8) : Ev (fun k => oculusref03_Parse.f k (tx l)) (parS l) := by
  have := rparse_ev l
  rw [← par_rp l] at this
  exact this
theorem may_two (a b c d : Int) : mayZ a b c d = (mayI a b && mayI c d) := by
  unfold mayZ mayI
  rw [← Bool.decide_and]
/-! No colon in a name. -/
theorem let_col : ∀ n : Fin 702, (58 : UInt8) ∉ letL n.val := by decide +kernel
theorem dig_col : ∀ n : Fin 1000, (58 : UInt8) ∉ digL n.val := by decide +kernel
theorem name_col (r c : Int) : (58 : UInt8) ∉ nameL r c := by
  unfold nameL
  by_cases h : mayI r c = true
  · rw [if_pos h]
    unfold mayI at h
    have hb := of_decide_eq_true h
    have h1 := let_col ⟨c.toNat, by omega⟩
    have h2 := dig_col ⟨r.toNat + 1, by omega⟩
    simp only [List.mem_append, not_or]
    exact ⟨h1, h2⟩
  · rw [if_neg h]; simp
theorem cutL_plain (c : UInt8) : ∀ p : List UInt8, c ∉ p → cutL c p = (p, [], false)
  | [], _ => rfl
  | b :: p, h => by
    simp only [List.mem_cons, not_or] at h
    rw [cutL, if_neg (fun e => h.1 e.symm), cutL_plain c p h.2]
theorem cutL_app (c : UInt8) (l : List UInt8) : ∀ p : List UInt8, c ∉ p → cutL c (p ++ c :: l) = (p, l, true)
  | [], _ => by show cutL c (c :: l) = _; rw [cutL, if_pos rfl]
  | b :: p, h => by
    simp only [List.mem_cons, not_or] at h
    show cutL c (b :: (p ++ c :: l)) = _
    rw [cutL, if_neg (fun e => h.1 e.symm), cutL_app c l p h.2]
theorem cutL_back (c : UInt8) : ∀ l : List UInt8, ((cutL c l).2.2 = true ∧ l = (cutL c l).1 ++ c :: (cutL c l).2.1) ∨ ((cutL c l).2.2 = false ∧ l = (cutL c l).1 ∧ (cutL c l).2.1 = [])
  | [] => Or.inr ⟨rfl, rfl, rfl⟩
  | b :: l => by
    by_cases h : b = c
    · left; subst h; rw [cutL, if_pos rfl]; exact ⟨rfl, rfl⟩
    · rw [cutL, if_neg h]
      rcases cutL_back c l with ⟨h1, h2⟩ | ⟨h1, h2, h3⟩
      · left; refine ⟨h1, ?_⟩
        show b :: l = b :: ((cutL c l).1 ++ c :: (cutL c l).2.1)
        rw [← h2]
      · right; refine ⟨h1, ?_, h3⟩
        show b :: l = b :: (cutL c l).1
        rw [← h2]
theorem cutL_no (c : UInt8) : ∀ l : List UInt8, c ∉ (cutL c l).1
  | [] => by simp [cutL]
  | b :: l => by
    by_cases h : b = c
    · subst h; rw [cutL, if_pos rfl]; simp
    · rw [cutL, if_neg h]
      simp only [List.mem_cons, not_or]
      exact ⟨fun e => h e.symm, cutL_no c l⟩
/-- What is a cell's text has no colon, and at most five bytes. -/
theorem par_form {l : List UInt8} (h : (parS l).2.2 = true) : mayI (parS l).1 (parS l).2.1 = true ∧ nameL (parS l).1 (parS l).2.1 = l ∧ (58 : UInt8) ∉ l ∧ l.length ≤ 5 := by
  obtain ⟨h1, h2⟩ := par_back (l := l) (r := (parS l).1) (c := (parS l).2.1) (by rw [← h])
  have h3 := name_col (parS l).1 (parS l).2.1
  have h4 := nameL_len (parS l).1 (parS l).2.1
  rw [h2] at h3 h4
  exact ⟨h1, h2, h3, h4⟩
/-! A span's text, read. -/
theorem sp_txt (a b c d : Int) : spP (txtL a b c d) = if mayZ a b c d = true then (a, b, c, d, true) else (0, 0, 0, 0, false) := by
  unfold txtL
  by_cases h : mayZ a b c d = true
  · rw [if_pos h, if_pos h]
    rw [may_two, Bool.and_eq_true] at h
    have p1 := par_name a b
    have p2 := par_name c d
    rw [if_pos h.1] at p1
    rw [if_pos h.2] at p2
    by_cases g : a = c ∧ b = d
    · rw [if_pos g]
      unfold spP
      rw [cutL_plain 58 _ (name_col a b)]
      simp only [p1]
      rw [if_pos trivial, if_neg (by simp), ← g.1, ← g.2]
    · rw [if_neg g]
      unfold spP
      rw [cutL_app 58 _ _ (name_col a b)]
      simp only [p1, p2]
      rw [if_pos trivial, if_pos trivial, if_pos trivial, if_neg g]
  · rw [if_neg h, if_neg h]; kernel_rfl
theorem sp_back {l : List UInt8} {a b c d : Int} (h : spP l = (a, b, c, d, true)) : txtL a b c d = l := by
  unfold spP at h
  by_cases h1 : (parS (cutL 58 l).1).2.2 = true
  · rw [if_pos h1] at h
    obtain ⟨m1, n1, _, _⟩ := par_form h1
    by_cases h2 : (cutL 58 l).2.2 = true
    · rw [if_pos h2] at h
      by_cases h3 : (parS (cutL 58 l).2.1).2.2 = true
      · rw [if_pos h3] at h
        obtain ⟨m2, n2, _, _⟩ := par_form h3
        split at h
        · simp at h
        · rename_i h4
          simp only [Prod.mk.injEq] at h
          obtain ⟨rfl, rfl, rfl, rfl, _⟩ := h
          unfold txtL
          rw [if_pos (by rw [may_two, m1, m2]; rfl), if_neg h4, n1, n2]
          rcases cutL_back 58 l with ⟨_, k⟩ | ⟨k, _⟩
          · exact k.symm
          · rw [h2] at k; cases k
      · rw [if_neg h3] at h; simp at h
    · rw [if_neg h2] at h
      simp only [Prod.mk.injEq] at h
      obtain ⟨rfl, rfl, rfl, rfl, _⟩ := h
      unfold txtL
      rw [if_pos (by rw [may_two, m1]; rfl), if_pos ⟨rfl, rfl⟩, n1]
      rcases cutL_back 58 l with ⟨k, _⟩ | ⟨_, k, _⟩
      · exact absurd k h2
      · exact k.symm
  · rw [if_neg h1] at h; simp at h
/-! The reference. -/
theorem rtext_ev (a b c d : Int) : Ev (fun k => oculusref04_Text.f k a b c d) (tx (txtL a b c d)) := by
  unfold oculusref04_Text.f txtL
  refine ev_bind (ev_some fun _ => rspan_may_eq a b c d) ?_
  by_cases h : mayZ a b c d = true
  · rw [if_pos h]
    have l1 := nameL_len a b
    have l2 := nameL_len c d
    refine ev_pos h (ev_bind (rname_ev a b) (ev_ite (fun g => ?_) (fun g => ?_)))
    · have g' : ¬ (a = c ∧ b = d) := by
        rintro ⟨e1, e2⟩
        rw [e1, e2] at g
        simp at g
      rw [if_neg g']
      have e0 : tx (nameL a b) ++ (⟨#[58]⟩ : ByteArray) = tx (nameL a b ++ [58]) := by rw [show (⟨#[58]⟩ : ByteArray) = tx [58] from rfl, tx_append]
      refine ev_pos (by rw [size_tx]; omega) (ev_bind (rname_ev c d) ?_)
      rw [e0]
      refine ev_pos (by rw [size_tx, size_tx, List.length_append]; simp; omega) ?_
      rw [tx_append, List.append_assoc]
      exact Ev.now _
    · have g' : a = c ∧ b = d := by
        simp only [Bool.or_eq_true, Bool.not_eq_true', beq_eq_false_iff_ne, not_or, Decidable.not_not, ne_eq] at g
        exact ⟨g.1.symm, g.2.symm⟩
      rw [if_pos g']
      exact Ev.now _
  · rw [if_neg h]
    exact ev_neg h (Ev.now _)
theorem rsp_j1f (l : List UInt8) (i : Int) : Ev (fun k => oculusref04_Parse.j1 k (tx l) i false) (0, 0, 0, 0, false) :=
  Ev.step (fun k => oculusref04_Parse.j1.eq_2 ..) (ev_neg (by simp) (Ev.now _))
/-- Behind the place of a colon, and behind ten, nothing is found. -/
theorem rsp_late (l : List UInt8) (hl : l.length ≤ 1000) (n : Nat) (hn : n < l.length) (hc : l[n] = 58) : ∀ (m i : Nat), i + m = l.length → n < i → Ev (fun k => oculusref04_Parse.l0 k (tx l) (i : Int)) (0, 0, 0, 0, false)
  | 0, i, hi, _ => by
    refine Ev.step (fun k => oculusref04_Parse.l0.eq_2 ..) ?_
    rw [size_tx]
    exact ev_neg (by omega) (rsp_j1f l _)
  | m + 1, i, hi, hni => by
    have ih := rsp_late l hl n hn hc m (i + 1) (by omega) (by omega)
    refine Ev.step (fun k => oculusref04_Parse.l0.eq_2 ..) ?_
    rw [size_tx]
    refine ev_pos (by omega) ?_
    by_cases h10 : i < 10
    · rw [decide_eq_true (by omega)]
      refine Ev.step (fun k => oculusref04_Parse.j1.eq_2 ..) (ev_pos rfl ?_)
      rw [size_tx, bt_tx l i (by omega), w64s (n := 10000) (by omega) (by omega)]
      refine ev_pos (by omega) (ev_pos (by omega) (ev_ite (fun _ => ?_) (fun _ => ih)))
      refine ev_pos (by omega) ?_
      rw [Int.toNat_natCast, ext_head, by_tx]
      refine ev_bind (rpar _) (ev_pos (by omega) (ev_pos (by omega) ?_))
      have e5 : (tx l).extract (((i + 1 : Nat) : Int)).toNat l.length = tx (l.drop (i + 1)) := by
        have := ext_tail (tx l) (i + 1)
        rw [size_tx, by_tx] at this
        rw [Int.toNat_natCast]; exact this
      rw [e5]
      refine ev_bind (rpar _) (ev_neg ?_ ih)
      intro h
      have := (par_form h).2.2.1
      refine this ?_
      rw [← hc]
      have : l[n] = (l.take i)[n]'(by rw [List.length_take]; omega) := by rw [List.getElem_take]
      rw [this]
      exact List.getElem_mem _
    · rw [decide_eq_false (by omega)]
      exact rsp_j1f l _
theorem rsp_none (l : List UInt8) (hl : l.length ≤ 1000) (h : (58 : UInt8) ∉ l) : ∀ (m i : Nat), i + m = l.length → Ev (fun k => oculusref04_Parse.l0 k (tx l) (i : Int)) (0, 0, 0, 0, false)
  | 0, i, hi => by
    refine Ev.step (fun k => oculusref04_Parse.l0.eq_2 ..) ?_
    rw [size_tx]
    exact ev_neg (by omega) (rsp_j1f l _)
  | m + 1, i, hi => by
    have ih := rsp_none l hl h m (i + 1) (by omega)
    refine Ev.step (fun k => oculusref04_Parse.l0.eq_2 ..) ?_
    rw [size_tx]
    refine ev_pos (by omega) ?_
    by_cases h10 : i < 10
    · rw [decide_eq_true (by omega)]
      refine Ev.step (fun k => oculusref04_Parse.j1.eq_2 ..) (ev_pos rfl ?_)
      rw [size_tx, bt_tx l i (by omega), w64s (n := 10000) (by omega) (by omega)]
      refine ev_pos (by omega) (ev_pos (by omega) (ev_neg ?_ ih))
      intro e
      refine h ?_
      have : l[i] = 58 := u8_inj (by have : (58 : UInt8).toNat = 58 := rfl; omega)
      rw [← this]; exact List.getElem_mem _
    · rw [decide_eq_false (by omega)]
      exact rsp_j1f l _
theorem rsp_at (p q : List UInt8) (hp : (58 : UInt8) ∉ p) (hl : (p ++ 58 :: q).length ≤ 1000) : ∀ (m i : Nat), i + m = p.length → Ev (fun k => oculusref04_Parse.l0 k (tx (p ++ 58 :: q)) (i : Int))
    (if (parS p).2.2 = true ∧ (parS q).2.2 = true ∧ ¬ ((parS p).1 = (parS q).1 ∧ (parS p).2.1 = (parS q).2.1) then ((parS p).1, (parS p).2.1, (parS q).1, (parS q).2.1, true) else (0, 0, 0, 0, false))
  | 0, i, hi => by
    obtain rfl : i = p.length := by omega
    have hlen : (p ++ 58 :: q).length = p.length + (q.length + 1) := by rw [List.length_append]; rfl
    have hg : (p ++ 58 :: q)[p.length]'(by omega) = 58 := by simp
    refine Ev.step (fun k => oculusref04_Parse.l0.eq_2 ..) ?_
    rw [size_tx]
    refine ev_pos (by omega) ?_
    by_cases h10 : p.length < 10
    · rw [decide_eq_true (by omega)]
      refine Ev.step (fun k => oculusref04_Parse.j1.eq_2 ..) (ev_pos rfl ?_)
      rw [size_tx, bt_tx _ p.length (by omega), w64s (n := 10000) (by omega) (by omega), hg]
      refine ev_pos (by omega) (ev_pos (by omega) (ev_pos rfl (ev_pos (by omega) ?_)))
      rw [Int.toNat_natCast, ext_head, by_tx, List.take_left]
      refine ev_bind (rpar _) (ev_pos (by omega) (ev_pos (by omega) ?_))
      have e5 : (tx (p ++ 58 :: q)).extract (((p.length + 1 : Nat) : Int)).toNat (p ++ 58 :: q).length = tx q := by
        have := ext_tail (tx (p ++ 58 :: q)) (p.length + 1)
        rw [size_tx, by_tx] at this
        rw [Int.toNat_natCast, this, ← List.drop_drop, List.drop_left]; rfl
      rw [e5]
      have late := rsp_late (p ++ 58 :: q) hl p.length (by omega) hg (q.length) (p.length + 1) (by omega) (by omega)
      refine ev_bind (rpar _) (ev_ite (fun h1 => ?_) (fun h1 => ?_))
      · refine ev_ite (fun h2 => ?_) (fun h2 => ?_)
        · refine ev_ite (fun h3 => ?_) (fun h3 => ?_)
          · have h3' : ¬ ((parS p).1 = (parS q).1 ∧ (parS p).2.1 = (parS q).2.1) := by
              rintro ⟨e1, e2⟩
              rw [e1, e2] at h3
              simp at h3
            rw [if_pos ⟨h1, h2, h3'⟩]
            exact Ev.now _
          · have h3' : (parS p).1 = (parS q).1 ∧ (parS p).2.1 = (parS q).2.1 := by
              simp only [Bool.or_eq_true, Bool.not_eq_true', beq_eq_false_iff_ne, not_or, Decidable.not_not, ne_eq] at h3
              exact h3
            rw [if_neg (fun k => k.2.2 h3')]
            exact late
        · rw [if_neg (fun k => h2 k.2.1)]; exact late
      · rw [if_neg (fun k => h1 k.1)]; exact late
    · rw [decide_eq_false (by omega)]
      rw [if_neg (fun k => by have := (par_form k.1).2.2.2; omega)]
      exact rsp_j1f _ _
  | m + 1, i, hi => by
    have ih := rsp_at p q hp hl m (i + 1) (by omega)
    have hlen : (p ++ 58 :: q).length = p.length + (q.length + 1) := by rw [List.length_append]; rfl
    refine Ev.step (fun k => oculusref04_Parse.l0.eq_2 ..) ?_
    rw [size_tx]
    refine ev_pos (by omega) ?_
    by_cases h10 : i < 10
    · rw [decide_eq_true (by omega)]
      refine Ev.step (fun k => oculusref04_Parse.j1.eq_2 ..) (ev_pos rfl ?_)
      rw [size_tx, bt_tx _ i (by omega), w64s (n := 10000) (by omega) (by omega)]
      refine ev_pos (by omega) (ev_pos (by omega) (ev_neg ?_ ih))
      intro e
      refine hp ?_
      have e1 : (p ++ 58 :: q)[i]'(by omega) = 58 := u8_inj (by have : (58 : UInt8).toNat = 58 := rfl; omega)
      rw [List.getElem_append_left (by omega)] at e1
      rw [← e1]; exact List.getElem_mem _
    · rw [decide_eq_false (by omega)]
      rw [if_neg (fun k => by have := (par_form k.1).2.2.2; omega)]
      exact rsp_j1f _ _
theorem rspparse_ev (l : List UInt8) (hl : l.length ≤ 1000) : Ev (fun k => oculusref04_Parse.f k (tx l)) (spP l) := by
  unfold oculusref04_Parse.f
  refine ev_bind (rpar l) (ev_ite (fun h => ?_) (fun h => ?_))
  · obtain ⟨_, _, h3, _⟩ := par_form h
    have : spP l = ((parS l).1, (parS l).2.1, (parS l).1, (parS l).2.1, true) := by
      unfold spP
      rw [cutL_plain 58 l h3]
      rw [if_pos h, if_neg (by simp)]
    rw [this]
    exact Ev.now _
  · by_cases hc : (58 : UInt8) ∈ l
    · rcases cutL_back 58 l with ⟨k1, k2⟩ | ⟨k1, k2, k3⟩
      · have hno := cutL_no 58 l
        have hl' := hl
        rw [k2] at hl'
        have := rsp_at (cutL 58 l).1 (cutL 58 l).2.1 hno hl' _ 0 (Nat.zero_add _)
        rw [← k2] at this
        have e : spP l = if (parS (cutL 58 l).1).2.2 = true ∧ (parS (cutL 58 l).2.1).2.2 = true ∧ ¬ ((parS (cutL 58 l).1).1 = (parS (cutL 58 l).2.1).1 ∧ (parS (cutL 58 l).1).2.1 = (parS (cutL 58 l).2.1).2.1) then ((parS (cutL 58 l).1).1, (parS (cutL 58 l).1).2.1, (parS (cutL 58 l).2.1).1, (parS (cutL 58 l).2.1).2.1, true) else (0, 0, 0, 0, false) := by
          unfold spP
          rw [if_pos k1]
          by_cases g1 : (parS (cutL 58 l).1).2.2 = true
          · rw [if_pos g1]
            by_cases g2 : (parS (cutL 58 l).2.1).2.2 = true
            · rw [if_pos g2]
              by_cases g3 : (parS (cutL 58 l).1).1 = (parS (cutL 58 l).2.1).1 ∧ (parS (cutL 58 l).1).2.1 = (parS (cutL 58 l).2.1).2.1
              · rw [if_pos g3, if_neg (fun k => k.2.2 g3)]
              · rw [if_neg g3, if_pos ⟨g1, g2, g3⟩]
            · rw [if_neg g2, if_neg (fun k => g2 k.2.1)]
          · rw [if_neg g1, if_neg (fun k => g1 k.1)]
        rw [e]
        exact this
      · exact absurd (k2 ▸ hc) (cutL_no 58 l)
    · have : spP l = (0, 0, 0, 0, false) := by
        unfold spP
        rw [cutL_plain 58 l hc]
        rw [if_neg h]
      rw [this]
      exact rsp_none l hl hc l.length 0 (by omega)
theorem txtL_len (a b c d : Int) : (txtL a b c d).length ≤ 11 := by
  unfold txtL
  have l1 := nameL_len a b
  have l2 := nameL_len c d
  split
  · split
    · omega
    · rw [List.length_append, List.length_cons]; omega
  · simp
theorem SpanBack : oculuslaw04_SpanBack.PureX := by
  intro s t _ _
  apply Ev.rounds
  obtain ⟨l, rfl⟩ : ∃ l, t = tx l := ⟨by_ t, (tx_by t).symm⟩
  unfold oculuslaw04_SpanBack.f
  rw [size_tx]
  refine ev_ite (fun _ => ev_bind alive04_ev (Ev.now _)) (fun hl => ?_)
  have ht := txtL_len s.f0.f0 s.f0.f1 s.f1.f0 s.f1.f1
  refine ev_bind (text_ev _ _ _ _) (ev_bind (spparse_ev _ (by omega)) (ev_bind (spparse_ev l (by omega)) (ev_bind (rspparse_ev l (by omega)) (ev_bind (text_ev _ _ _ _) (ev_bind (rtext_ev _ _ _ _) (ev_pos rfl ?_))))))
  refine ev_bind (ev_some fun _ => span_may_eq _ _ _ _) ?_
  rw [sp_txt]
  have hend : Ev (fun k => oculuslaw04_SpanBack.j0 k (tx l) (spP l).2.2.2.2 false (spP l).1 (spP l).2.1 (spP l).2.2.1 (spP l).2.2.2.1) true := by
    refine Ev.step (fun k => oculuslaw04_SpanBack.j0.eq_2 ..) (ev_neg (by simp) (ev_ite (fun h => ?_) (fun _ => ev_bind alive04_ev (Ev.now _))))
    have hb := sp_back (l := l) (a := (spP l).1) (b := (spP l).2.1) (c := (spP l).2.2.1) (d := (spP l).2.2.2.1) (by rw [← h])
    exact ev_bind (text_ev _ _ _ _) (ev_pos (by rw [hb]) (ev_bind alive04_ev (Ev.now _)))
  have ee : ((!((spP l).1 == (spP l).1) || (!((spP l).2.1 == (spP l).2.1))) || ((!((spP l).2.2.1 == (spP l).2.2.1) || (!((spP l).2.2.2.1 == (spP l).2.2.2.1))))) = false := by simp
  by_cases h : mayZ s.f0.f0 s.f0.f1 s.f1.f0 s.f1.f1 = true
  · rw [if_pos h]
    refine ev_neg (by rw [h]; simp) (ev_pos rfl (ev_neg (by simp) (ev_neg (by simp) ?_)))
    rw [ee]
    exact hend
  · have h' : mayZ s.f0.f0 s.f0.f1 s.f1.f0 s.f1.f1 = false := by simpa using h
    rw [if_neg h, h']
    refine ev_neg (by simp) (ev_neg (by simp) (ev_neg (by simp) ?_))
    rw [ee]
    exact hend
end Go.Proofs.YtjbdljolpkkhcaaDoor.Pure
/- The row of the law SpanBack: for every input the call returns true and each argument reads afterwards as before, out of its pure statement and the contract of its function. Conditions: none beyond the given statement. -/
namespace Go.Proofs.YtjbdljolpkkhcaaDoor.spanBack
open Go.ChangeShapes Go.WideShapes Go.ChangeAt Go.RowKit
open Go.ChangeMaps (open_string shut_string)
open Go.Proofs.YtjbdljolpkkhcaaDoor.Opn Go.Proofs.YtjbdljolpkkhcaaDoor.X
open Go.Proofs.YtjbdljolpkkhcaaDoorW.PrintWords (Kd Drawn0)
set_option linter.unusedVariables false
set_option maxRecDepth 100000
theorem own : ownKnob Tryd.prog.godebug = none := by kernel_rfl
theorem laidOut : laidOutB Tryd.prog = true := by kernel_rfl
/-- What a listed table of whole numbers holds, out of the row's condition. -/
theorem tab_vars {P : Program} {W : World} {name : String} {k : IntKind} {zs : List Int} {g : Nat} {t e : TypeId} {n : Nat}
    (hg : P.globalNamed name = some g) (hty : (P.globals[g]?).map (·.type) = some t) (ht : P.underlying t = some (.array n e)) (he : P.underlying e = some (.int k)) (hce : P.cellsOf e = 1) (hct : P.cellsOf t = n) :
    ∀ (l : List (String × DataW Unit)) (ps : List MemPlace), DataW.LaidVars P W l ps → (name, Lib.tabData k zs) ∈ l → Lib.TabIs P W name k zs
  | [], _, _, hm => by simp at hm
  | (nm, d) :: rest, ps, h, hm => by
    obtain ⟨g', t', cs, fuel, p, q, hg', ht', hvar, hd, hr, _⟩ := h
    rcases List.mem_cons.1 hm with e0 | hm
    · cases e0
      obtain rfl := Option.some.inj (hg.symm.trans hg')
      obtain rfl := Option.some.inj (hty.symm.trans ht')
      unfold Lib.TabIs
      rw [hvar, ← Lib.cells_of_tab ht he hce hct hd]
    · exact tab_vars hg hty ht he hce hct rest q hr hm
theorem e_pow : (Rows.laid_internal_strconv_uint64pow10 : DataW Unit) = Lib.tabData .u64 Lib.pow10Tab := by kernel_rfl
theorem e_bru : (Rows.laid_math_bits_deBruijn64tab : DataW Unit) = Lib.tabData .u8 bru64 := by kernel_rfl
theorem tab_of_laid {W : World} (h : laidMet Tryd.prog Rows.spanBackRow.laid W) : Tab W := by
  obtain ⟨ps, hv, _⟩ := h
  have m_pow : (("internal/strconv.uint64pow10", (Rows.laid_internal_strconv_uint64pow10 : DataW Unit)) : String × DataW Unit) ∈ Rows.spanBackRow.laid := List.mem_cons_of_mem _ (List.mem_cons_of_mem _ (List.mem_cons_self))
  rw [e_pow] at m_pow
  have h_pow : Lib.TabIs Tryd.prog W "internal/strconv.uint64pow10" .u64 Lib.pow10Tab := tab_vars (g := 1) (t := 81) (e := 72) (n := 20) (by kernel_rfl) (by kernel_rfl) Tryd.underlying81 Tryd.underlying72 (by kernel_rfl) (by kernel_rfl) _ ps hv m_pow
  have m_bru : (("math/bits.deBruijn64tab", (Rows.laid_math_bits_deBruijn64tab : DataW Unit)) : String × DataW Unit) ∈ Rows.spanBackRow.laid := List.mem_cons_of_mem _ (List.mem_cons_self)
  rw [e_bru] at m_bru
  have h_bru : Lib.TabIs Tryd.prog W "math/bits.deBruijn64tab" .u8 bru64 := tab_vars (g := 3) (t := 90) (e := 5) (n := 64) (by kernel_rfl) (by kernel_rfl) Tryd.underlying90 Tryd.underlying5 (by kernel_rfl) (by kernel_rfl) _ ps hv m_bru
  exact ⟨h_pow, h_bru⟩
/-- A world that meets the condition: the settled one, the tables laid. -/
noncomputable def laidWorld (os : Os) : World :=
  { World.holding Tryd.prog os ⟨#[], #[], []⟩ with heap := ((((World.holding Tryd.prog os ⟨#[], #[], []⟩).heap.modify 2 (fun | .cells _ t fr => .cells #[.int .u8 0, .int .u8 1, .int .u8 28, .int .u8 2, .int .u8 29, .int .u8 14, .int .u8 24, .int .u8 3, .int .u8 30, .int .u8 22, .int .u8 20, .int .u8 15, .int .u8 25, .int .u8 17, .int .u8 4, .int .u8 8, .int .u8 31, .int .u8 27, .int .u8 13, .int .u8 23, .int .u8 21, .int .u8 19, .int .u8 16, .int .u8 7, .int .u8 26, .int .u8 12, .int .u8 18, .int .u8 6, .int .u8 11, .int .u8 5, .int .u8 10, .int .u8 9] t fr | o => o)).modify 3 (fun | .cells _ t fr => .cells #[.int .u8 0, .int .u8 1, .int .u8 56, .int .u8 2, .int .u8 57, .int .u8 49, .int .u8 28, .int .u8 3, .int .u8 61, .int .u8 58, .int .u8 42, .int .u8 50, .int .u8 38, .int .u8 29, .int .u8 17, .int .u8 4, .int .u8 62, .int .u8 47, .int .u8 59, .int .u8 36, .int .u8 45, .int .u8 43, .int .u8 51, .int .u8 22, .int .u8 53, .int .u8 39, .int .u8 33, .int .u8 30, .int .u8 24, .int .u8 18, .int .u8 12, .int .u8 5, .int .u8 63, .int .u8 55, .int .u8 48, .int .u8 27, .int .u8 60, .int .u8 41, .int .u8 37, .int .u8 16, .int .u8 46, .int .u8 35, .int .u8 44, .int .u8 21, .int .u8 52, .int .u8 32, .int .u8 23, .int .u8 11, .int .u8 54, .int .u8 26, .int .u8 40, .int .u8 15, .int .u8 34, .int .u8 20, .int .u8 31, .int .u8 10, .int .u8 25, .int .u8 14, .int .u8 19, .int .u8 9, .int .u8 13, .int .u8 8, .int .u8 7, .int .u8 6] t fr | o => o)).modify 1 (fun | .cells _ t fr => .cells #[.int .u64 1, .int .u64 10, .int .u64 100, .int .u64 1000, .int .u64 10000, .int .u64 100000, .int .u64 1000000, .int .u64 10000000, .int .u64 100000000, .int .u64 1000000000, .int .u64 10000000000, .int .u64 100000000000, .int .u64 1000000000000, .int .u64 10000000000000, .int .u64 100000000000000, .int .u64 1000000000000000, .int .u64 10000000000000000, .int .u64 100000000000000000, .int .u64 1000000000000000000, .int .u64 10000000000000000000] t fr | o => o)) }
theorem laidWorld_met (os : Os) (args : Array Value) : laidMet Tryd.prog Rows.spanBackRow.laid ((laidWorld os).forCall (fun _ _ => 0) ⟨#[], args, []⟩).memory := laidMet_of_run' 8 (by kernel_rfl) (by kernel_rfl)
set_option maxRecDepth 100000 in
set_option maxHeartbeats 1000000 in
theorem lifted (os : Os) (started : os.Started) (H : Type) (enc : TypeId × Value → H) :
    ReturnsInHanded {} Tryd.checked os 6 .any (fun w args => (Rows.spanBackSpec.pre enc Tryd.prog Tryd.f6 Rows.spanBackRow.domain false w args ∧ laidMet Tryd.prog Rows.spanBackRow.laid w) ∧ sizedMet enc Tryd.prog Tryd.f6 (OpenSpec.ofChange Rows.spanBackSpec) false w args) (Rows.spanBackSpec.post enc Tryd.prog Tryd.f6 false true false false) := by
  refine returnsInHanded_of_change_and (C := Tryd.checked) (X := fun w _ => laidMet Tryd.prog Rows.spanBackRow.laid w) (fun _ _ _ hh h => h.of_heap hh) own started (by kernel_rfl) Tryd.func6
    (ChangeSpec.witness_at (enc := enc) (C := Tryd.checked) (os := os) (X := fun w _ => laidMet Tryd.prog Rows.spanBackRow.laid w) false (laidWorld os) #[.agg #[.int .i64 0, .int .i64 0, .int .i64 0, .int .i64 0], .string ByteArray.empty] 8 rfl (by kernel_rfl) (by kernel_rfl) (by kernel_rfl) (by kernel_rfl) (by kernel_rfl) (laidWorld_met os _)) ?_
  intro W base args ds gs before hval0 hW hcnd hsz0 hL _
  have hsz : (DataW.weightsEach Tryd.prog (Tryd.f6.params.toList ++ Rows.spanBackSpec.plain.varTypes Tryd.prog) (ds ++ gs)).all (· ≤ reachBytes) = true := hsz0
  have hval : ∀ (j : Nat) t v, Tryd.f6.params[j]? = some t → args[j]? = some v → Value.okWide Tryd.prog W .any base t v := hval0
  have hW' := hW
  obtain ⟨p, q, hA0, hV, rfl, hfz, hnd⟩ := hW
  have hA : DataW.TrodAll enc Tryd.prog W 0 (fun _ => true) true Tryd.f6.params.toList args.toList ds p := hA0
  rw [Tryd.params6] at hA hval hsz
  obtain ⟨v0, vs0, d0, ds0, p0, q0, hargs, rfl, rfl, h0, r0⟩ := trodAll_cons hA
  obtain ⟨v1, vs1, d1, ds1, p1, q1, rfl, rfl, rfl, h1, r1⟩ := trodAll_cons r0
  obtain ⟨rfl, rfl, rfl⟩ := trodAll_nil r1
  obtain rfl : args = #[v0, v1] := by cases args; simp_all
  obtain ⟨rfl, rfl⟩ := trodVars_none hV
  have lt0 : ∀ x ∈ p0, x.block < W.heap.size := by obtain ⟨m, hm⟩ := h0; exact DataW.trod_lt m _ _ _ hm
  have hw0 : ∀ m ∈ d0.weights Tryd.prog 42, m ≤ reachBytes := fun m hm => of_decide_eq_true (List.all_eq_true.1 hsz m (DataW.weights_mem_each (j := 0) (t := 42) rfl rfl m hm))
  obtain ⟨a0, K0, g0⟩ : ∃ a, (k42 : Kd S42).K W a v0.cells.toList ∧ (good42 a) := by
    obtain ⟨fuel, hf⟩ := h0
    exact opens42 hf hw0
  obtain ⟨cs0, rfl, _⟩ := okWide_struct Tryd.underlying42 (hval 0 42 v0 rfl rfl)
  have KO0 := k42_open K0
  obtain rfl : cs0 = #[.int .i64 a0.f0.f0, .int .i64 a0.f0.f1, .int .i64 a0.f1.f0, .int .i64 a0.f1.f1] := by
    have : cs0.toList = _ := KO0
    cases cs0; simp_all
  have lt1 : ∀ x ∈ p1, x.block < W.heap.size := by obtain ⟨m, hm⟩ := h1; exact DataW.trod_lt m _ _ _ hm
  have hw1 : ∀ m ∈ d1.weights Tryd.prog 9, m ≤ reachBytes := fun m hm => of_decide_eq_true (List.all_eq_true.1 hsz m (DataW.weights_mem_each (j := 1) (t := 9) rfl rfl m hm))
  obtain ⟨a1, K1, g1⟩ : ∃ a, (Kd.string : Kd ByteArray).K W a v1.cells.toList ∧ (a.size ≤ reachBytes) := by
    obtain ⟨fuel, hf⟩ := h1
    exact (opens_string Tryd.underlying9) hf hw1
  obtain rfl : v1 = .string a1 := by
    obtain ⟨x, rfl, _⟩ := open_string Tryd.underlying9 (hval 1 9 v1 rfl rfl) h1
    have := K1
    simpa [Kd.string, Kd.scalar, Value.cells] using this
  obtain ⟨k, hk⟩ := Pure.SpanBack a0 a1 g0 g1
  clear hA0 hval0 hsz0 hsz
  refine (oculuslaw04_SpanBack.calls k (a0.f0.f0) (a0.f0.f1) (a0.f1.f0) (a0.f1.f1) a1 true W ⟨tab_of_laid hL⟩ hk).mono fun e W' ⟨he, bel0⟩ => ?_
  have bel : Below W.heap.size W W' := bel0
  subst he
  exact ⟨_, rfl, _, _, _, [], _, [], hW', trodAll_mk1 (shut_bool Tryd.underlying4 _), (trodAll_cons_mk (Below.trod laidOut (by kernel_rfl) (of_decide_eq_true (by kernel_rfl)) h0 bel lt0) (trodAll_cons_mk (Below.trod laidOut (by kernel_rfl) (of_decide_eq_true (by kernel_rfl)) h1 bel lt1) trodAll_mk0)), rfl, bel.frame _, fun h => by cases h⟩
theorem over : Rows.spanBackRow.holds Tryd.pinned (OpenSpec.ofChange Rows.spanBackSpec) :=
  OpenClaim.holds_of_wide 6 Tryd.f6 rfl rfl rfl rfl rfl rfl rfl ⟨rfl, rfl, rfl, rfl, rfl⟩ rfl rfl rfl rfl rfl (by kernel_rfl) Tryd.func6 (by kernel_rfl)
    (of_decide_eq_true (by kernel_rfl)) (by unfold Func.isWrapper; first | (rw [if_pos (by decide +kernel)]; kernel_rfl) | (rw [if_neg (by decide +kernel)]; exact ⟨rfl, rfl⟩))
    (fun os started H enc _ => lifted os started H enc)
/-- THE TIED CARD. -/
theorem proved : Rows.SpanBackCardSaid :=
  Claim7.holds_tied_plain_at .later [] [.data, .data, .data] true (true, "cd3fbb522060d67cb5d3d7b59ccf9ae7174aa4d58e221fe88ccb4189470c6ff2") false
    over (fun _ h => by cases h) (by kernel_rfl) (fun _ h => by cases h) spanBack_row_tie rfl ⟨rfl, rfl⟩ (by kernel_rfl) rfl
    (fun f fn hf hfn => by
      obtain rfl : f = 6 := Option.some.inj ((show Tryd.prog.funcNamed "oculus/oculuslaw04.SpanBack" = some 6 by kernel_rfl).symm.trans hf) |>.symm
      obtain rfl : fn = Tryd.f6 := (Option.some.inj (Tryd.func6.symm.trans hfn)).symm
      refine ⟨by kernel_rfl, fun j t ht => ?_⟩
      rw [Tryd.params6] at ht
      have hall : ∀ t ∈ #[(42 : TypeId), (9 : TypeId)], Tryd.prog.wantsStandIn t = false := by
        intro t ht
        simp only [List.mem_toArray, List.mem_cons, List.not_mem_nil, or_false] at ht
        rcases ht with rfl | rfl
        · exact (show Tryd.prog.wantsStandIn 42 = false by kernel_rfl)
        · exact (show Tryd.prog.wantsStandIn 9 = false by kernel_rfl)
      exact hall t (Array.mem_of_getElem? ht))
    (by kernel_rfl)
end Go.Proofs.YtjbdljolpkkhcaaDoor.spanBack
namespace Go.Proofs.YtjbdljolpkkhcaaDoor
/-- The row, under a short name, for the claim. -/
theorem spanBack_holds : Rows.SpanBackCardSaid := spanBack.proved
#print axioms spanBack_holds
end Go.Proofs.YtjbdljolpkkhcaaDoor
