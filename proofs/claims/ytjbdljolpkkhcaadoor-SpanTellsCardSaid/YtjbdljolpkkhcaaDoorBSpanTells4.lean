/- The law SpanTells: for every input the call returns true, and each argument reads afterwards as it read before: the statement Rows.SpanTellsSaid, whole, with no condition of ours. -/
import Derived.Test.YtjbdljolpkkhcaaDoorRows
import Derived.WalkKit
import Derived.ProofKit
import Derived.OpenShut
import Derived.ShutString
import Derived.ChangeOld
import Derived.Below
import Derived.SizedLaws
import Derived.Carry
import Derived.Handed
import Derived.LaidLaws
import Derived.Lib.LaidTab
import Derived.Test.YtjbdljolpkkhcaaDoorCards
import Derived.Test.YtjbdljolpkkhcaaDoorTie
import Derived.SevenTiedAt
import Derived.Test.YtjbdljolpkkhcaaDoorBSpanTells3
/- What addr and its reference answer: letters, numbers, names. -/
set_option linter.unusedVariables false
set_option linter.unusedSimpArgs false
namespace Go.Proofs.YtjbdljolpkkhcaaDoor.X
open Go.RowKit Go.Proofs.YtjbdljolpkkhcaaDoorW.PrintWords Go.Proofs.YtjbdljolpkkhcaaDoorW.PrintLast Go.Proofs.YtjbdljolpkkhcaaDoorW.PrintMore
def u8 (n : Nat) : UInt8 := UInt8.ofNat n
/-- A column's letters; a number's digits. -/
def letL (c : Nat) : List UInt8 := if c < 26 then [u8 (65 + c)] else [u8 (64 + c / 26), u8 (65 + c % 26)]
def digL (n : Nat) : List UInt8 := if n < 10 then [u8 (48 + n)] else if n < 100 then [u8 (48 + n / 10), u8 (48 + n % 10)] else [u8 (48 + n / 100), u8 (48 + n / 10 % 10), u8 (48 + n % 10)]
theorem itoa_digL (n : Nat) (h : n < 1000) : Lib.itoa (n : Int) = digL n := by
  unfold Lib.itoa digL u8
  rw [if_neg (by omega), Int.toNat_natCast]
  by_cases h1 : n < 10
  · rw [if_pos h1, Lib.decDigits, dif_pos h1]
  · rw [if_neg h1, Lib.decDigits, dif_neg h1]
    by_cases h2 : n < 100
    · rw [if_pos h2, Lib.decDigits, dif_pos (by omega)]; rfl
    · rw [if_neg h2, Lib.decDigits, dif_neg (by omega), Lib.decDigits, dif_pos (by omega)]
      rw [Nat.div_div_eq_div_mul]; rfl
theorem itoa_eq (n : Nat) (h : n < 1000) : strconv_Itoa.f (n : Int) = some (tx (digL n)) := by
  unfold strconv_Itoa.f
  rw [if_pos (by omega), itoa_digL n h]; rfl
theorem sn1 (a : Nat) : strOfNums [(a : Int)] = tx [u8 a] := rfl
theorem sn2 (a b : Nat) : strOfNums [(a : Int), (b : Int)] = tx [u8 a, u8 b] := rfl
theorem tdiv26 (c : Nat) : Int.tdiv (c : Int) 26 = ((c / 26 : Nat) : Int) := by rw [Int.tdiv_eq_ediv_of_nonneg (by omega)]; omega
theorem tmod26 (c : Nat) : Int.tmod (c : Int) 26 = ((c % 26 : Nat) : Int) := by rw [Int.tmod_eq_emod_of_nonneg (by omega)]; omega
theorem tdiv10 (c : Nat) : Int.tdiv (c : Int) 10 = ((c / 10 : Nat) : Int) := by rw [Int.tdiv_eq_ediv_of_nonneg (by omega)]; omega
theorem tmod10 (c : Nat) : Int.tmod (c : Int) 10 = ((c % 10 : Nat) : Int) := by rw [Int.tmod_eq_emod_of_nonneg (by omega)]; omega
theorem wn (x : Int) (n : Nat) (h : x = (n : Int)) (hn : n < 256) : wrap64 x % 256 = (n : Int) := by rw [w64 (by omega) (by omega)]; omega
/-- The letters of any column. -/
def ltrI (c : Int) : List UInt8 := if c < 0 ∨ c ≥ 702 then [] else letL c.toNat
theorem letters_ev (c : Int) : Ev (fun k => addr_Letters.f k c) (tx (ltrI c)) := by
  unfold addr_Letters.f ltrI
  by_cases h : c < 0 ∨ c ≥ 702
  · rw [if_pos h]
    have hj : Ev (fun k => addr_Letters.j0 k c true) (tx []) := by
      refine Ev.step (fun k => addr_Letters.j0.eq_2 _ _ _) ?_
      exact ev_pos rfl (Ev.now _)
    refine ev_ite (fun _ => hj) (fun h1 => ?_)
    rw [decide_eq_true (by omega)]
    exact hj
  · rw [if_neg h]
    refine ev_neg (by omega) ?_
    rw [decide_eq_false (by omega)]
    refine Ev.step (fun k => addr_Letters.j0.eq_2 _ _ _) ?_
    refine ev_neg (by simp) ?_
    obtain ⟨n, rfl⟩ : ∃ n : Nat, c = (n : Int) := ⟨c.toNat, by omega⟩
    rw [Int.toNat_natCast]
    unfold letL
    refine ev_ite (fun h1 => ev_some fun _ => ?_) (fun h1 => ev_some fun _ => ?_)
    · rw [if_pos (by omega), wn _ (65 + n) (by omega) (by omega), sn1]
    · have e1 : wrap64 (wrap64 (65 + wrap64 (((n / 26 : Nat) : Int))) - 1) % 256 = ((64 + n / 26 : Nat) : Int) := by
        rw [w64 (x := ((n / 26 : Nat) : Int)) (by omega) (by omega), w64 (x := 65 + ((n / 26 : Nat) : Int)) (by omega) (by omega)]
        exact wn _ _ (by omega) (by omega)
      have e2 : wrap64 (65 + ((n % 26 : Nat) : Int)) % 256 = ((65 + n % 26 : Nat) : Int) := wn _ _ (by omega) (by omega)
      rw [if_neg (by omega), tdiv26, tmod26, e1, e2, sn2]
theorem rletters_ev (c : Int) : Ev (fun k => oculusref03_Letters.f k c) (tx (ltrI c)) := by
  unfold oculusref03_Letters.f ltrI
  by_cases h : c < 0 ∨ c ≥ 702
  · rw [if_pos h]
    have hj : Ev (fun k => oculusref03_Letters.j0 k c true) (tx []) := by
      refine Ev.step (fun k => oculusref03_Letters.j0.eq_2 _ _ _) ?_
      exact ev_pos rfl (Ev.now _)
    refine ev_ite (fun _ => hj) (fun h1 => ?_)
    rw [decide_eq_true (by omega)]
    exact hj
  · rw [if_neg h]
    refine ev_neg (by omega) ?_
    rw [decide_eq_false (by omega)]
    refine Ev.step (fun k => oculusref03_Letters.j0.eq_2 _ _ _) ?_
    refine ev_neg (by simp) ?_
    obtain ⟨n, rfl⟩ : ∃ n : Nat, c = (n : Int) := ⟨c.toNat, by omega⟩
    rw [Int.toNat_natCast]
    unfold letL
    refine ev_ite (fun h1 => ev_some fun _ => ?_) (fun h1 => ev_some fun _ => ?_)
    · rw [if_pos (by omega), wn _ (65 + n) (by omega) (by omega), sn1]
    · have e1 : wrap64 (64 + wrap64 (((n / 26 : Nat) : Int))) % 256 = ((64 + n / 26 : Nat) : Int) := by
        rw [w64 (x := ((n / 26 : Nat) : Int)) (by omega) (by omega)]
        exact wn _ _ (by omega) (by omega)
      have e2 : wrap64 (65 + ((n % 26 : Nat) : Int)) % 256 = ((65 + n % 26 : Nat) : Int) := wn _ _ (by omega) (by omega)
      rw [if_neg (by omega), tdiv26, tmod26, e1, e2, sn2]
/-! The reference's digits. -/
theorem digits_l0_zero (l : List UInt8) : Ev (fun k => oculusref01_Digits.l0 k 0 (tx l)) (tx l) := by
  refine Ev.step (fun k => oculusref01_Digits.l0.eq_2 _ _ _) ?_
  exact ev_neg (by omega) (Ev.now _)
theorem digits_l0_more (n : Nat) (h0 : 0 < n) (h : n < 1000) (l q : List UInt8) (hl : l.length < 10) (hn : Ev (fun k => oculusref01_Digits.l0 k ((n / 10 : Nat) : Int) (tx (u8 (48 + n % 10) :: l))) (tx q)) : Ev (fun k => oculusref01_Digits.l0 k (n : Int) (tx l)) (tx q) := by
  refine Ev.step (fun k => oculusref01_Digits.l0.eq_2 _ _ _) ?_
  refine ev_pos (by omega) (ev_bsome ?_)
  have e2 : wrap64 (48 + Int.tmod (n : Int) 10) % 256 = ((48 + n % 10 : Nat) : Int) := by rw [tmod10]; exact wn _ _ (by omega) (by omega)
  rw [e2, sn1, tdiv10, w64 (by omega) (by omega)]
  refine ev_pos (by rw [size_tx, size_tx]; simp; omega) ?_
  rw [tx_append]
  exact hn
theorem digits_ev (n : Nat) (h : n < 1000) : Ev (fun k => oculusref01_Digits.f k (n : Int)) (tx (digL n)) := by
  unfold oculusref01_Digits.f
  have e2 : wrap64 (48 + Int.tmod (n : Int) 10) % 256 = ((48 + n % 10 : Nat) : Int) := by rw [tmod10]; exact wn _ _ (by omega) (by omega)
  rw [e2, sn1, tdiv10, w64 (by omega) (by omega)]
  unfold digL
  by_cases h1 : n < 10
  · rw [if_pos h1, show n / 10 = 0 by omega, show n % 10 = n by omega]
    exact digits_l0_zero _
  · rw [if_neg h1]
    by_cases h2 : n < 100
    · rw [if_pos h2]
      refine digits_l0_more _ (by omega) (by omega) _ _ (by simp) ?_
      rw [show n / 10 / 10 = 0 by omega, show n / 10 % 10 = n / 10 by omega]
      exact digits_l0_zero _
    · rw [if_neg h2]
      refine digits_l0_more _ (by omega) (by omega) _ _ (by simp) ?_
      refine digits_l0_more _ (by omega) (by omega) _ _ (by simp) ?_
      rw [show n / 10 / 10 / 10 = 0 by omega, show n / 10 / 10 % 10 = n / 100 by omega]
      exact digits_l0_zero _
/-! Names. -/
def mayI (r c : Int) : Bool := decide (0 ≤ r ∧ r < 999 ∧ 0 ≤ c ∧ c < 702)
theorem amay_eq (a b : Int) : addr_May.f a b = some (mayI a b) := by
  unfold addr_May.f mayI
  by_cases h1 : a ≥ 0
  · rw [if_pos h1]
    by_cases h2 : a < 999
    · rw [if_pos h2]
      by_cases h3 : b ≥ 0
      · rw [if_pos h3, Option.some.injEq, decide_eq_decide]; omega
      · rw [if_neg h3, decide_eq_false (by omega)]
    · rw [if_neg h2, decide_eq_false (by omega)]
  · rw [if_neg h1, decide_eq_false (by omega)]
theorem rmay_eq (a b : Int) : oculusref03_May.f a b = some (mayI a b) := by
  unfold oculusref03_May.f mayI
  by_cases h1 : a ≥ 0
  · rw [if_pos h1]
    by_cases h2 : a ≤ 998
    · rw [if_pos h2]
      by_cases h3 : b ≥ 0
      · rw [if_pos h3, Option.some.injEq, decide_eq_decide]; omega
      · rw [if_neg h3, decide_eq_false (by omega)]
    · rw [if_neg h2, decide_eq_false (by omega)]
  · rw [if_neg h1, decide_eq_false (by omega)]
def nameL (r c : Int) : List UInt8 := if mayI r c = true then letL c.toNat ++ digL (r.toNat + 1) else []
theorem letL_len (n : Nat) : (letL n).length ≤ 2 := by unfold letL; split <;> simp
theorem digL_len (n : Nat) : (digL n).length ≤ 3 := by unfold digL; (repeat' split) <;> simp
theorem name_ev (r c : Int) : Ev (fun k => addr_Name.f k r c) (tx (nameL r c)) := by
  unfold addr_Name.f nameL
  refine ev_bind (ev_some fun _ => amay_eq r c) ?_
  by_cases h : mayI r c = true
  · rw [if_pos h]
    refine ev_pos h ?_
    unfold mayI at h
    have hb := of_decide_eq_true h
    have hl := letters_ev c
    unfold ltrI at hl
    rw [if_neg (by omega)] at hl
    refine ev_bind hl ?_
    have e : wrap64 (r + 1) = ((r.toNat + 1 : Nat) : Int) := by rw [w64 (by omega) (by omega)]; omega
    rw [e, itoa_eq _ (by omega)]
    refine ev_bsome ?_
    have h1 := letL_len c.toNat
    have h2 := digL_len (r.toNat + 1)
    refine ev_pos (by rw [size_tx, size_tx]; omega) (ev_some fun _ => by rw [tx_append])
  · rw [if_neg h]; exact ev_neg h (Ev.now _)
theorem rname_ev (r c : Int) : Ev (fun k => oculusref03_Name.f k r c) (tx (nameL r c)) := by
  unfold oculusref03_Name.f nameL
  refine ev_bind (ev_some fun _ => rmay_eq r c) ?_
  by_cases h : mayI r c = true
  · rw [if_pos h]
    refine ev_pos h ?_
    unfold mayI at h
    have hb := of_decide_eq_true h
    have hl := rletters_ev c
    unfold ltrI at hl
    rw [if_neg (by omega)] at hl
    refine ev_bind hl ?_
    have e : wrap64 (r + 1) = ((r.toNat + 1 : Nat) : Int) := by rw [w64 (by omega) (by omega)]; omega
    rw [e]
    refine ev_bind (digits_ev _ (by omega)) ?_
    have h1 := letL_len c.toNat
    have h2 := digL_len (r.toNat + 1)
    refine ev_pos (by rw [size_tx, size_tx]; omega) (ev_some fun _ => by rw [tx_append])
  · rw [if_neg h]; exact ev_neg h (Ev.now _)
def lessI (a b c d : Int) : Bool := decide (a < c ∨ (a = c ∧ b < d))
theorem less_eq (a b c d : Int) : addr_Less.f a b c d = some (lessI a b c d) := by
  unfold addr_Less.f lessI
  by_cases h1 : a < c
  · rw [if_pos h1, decide_eq_true (Or.inl h1)]
  · rw [if_neg h1]
    by_cases h2 : a = c
    · rw [if_pos h2, Option.some.injEq, decide_eq_decide]; omega
    · rw [if_neg h2, decide_eq_false (by omega)]
theorem rless_eq (a b c d : Int) : oculusref03_Less.f a b c d = some (lessI a b c d) := by
  unfold oculusref03_Less.f lessI
  by_cases h2 : a = c
  · rw [if_pos h2, Option.some.injEq, decide_eq_decide]; omega
  · rw [if_neg h2, Option.some.injEq, decide_eq_decide]; omega
end Go.Proofs.YtjbdljolpkkhcaaDoor.X
/- What addr.Column, Number, Parse and their reference answer. -/
set_option linter.unusedVariables false
set_option linter.unusedSimpArgs false
namespace Go.Proofs.YtjbdljolpkkhcaaDoor.X
open Go.RowKit Go.Proofs.YtjbdljolpkkhcaaDoorW.PrintWords Go.Proofs.YtjbdljolpkkhcaaDoorW.PrintLast Go.Proofs.YtjbdljolpkkhcaaDoorW.PrintMore
def isU (b : UInt8) : Bool := decide (65 ≤ b.toNat ∧ b.toNat ≤ 90)
def isD (b : UInt8) : Bool := decide (48 ≤ b.toNat ∧ b.toNat ≤ 57)
def colF : Int → List UInt8 → Int × Bool
  | n, [] => (n - 1, true)
  | n, b :: l => if isU b = true then colF (n * 26 + ((b.toNat : Int) - 65) + 1) l else (0, false)
def colS (l : List UInt8) : Int × Bool := if l.length < 1 ∨ l.length > 2 then (0, false) else colF 0 l
def numF : Int → List UInt8 → Int × Bool
  | n, [] => (n - 1, true)
  | n, b :: l => if isD b = true then numF (n * 10 + ((b.toNat : Int) - 48)) l else (0, false)
def numS (l : List UInt8) : Int × Bool := if l.length < 1 ∨ l.length > 3 ∨ l.head? = some 48 then (0, false) else numF 0 l
theorem col_l0 (l : List UInt8) (hl : l.length ≤ 2) : ∀ d i n, i + d = l.length → 0 ≤ n → ((i = 0 → n = 0) ∧ (i = 1 → n ≤ 26) ∧ n ≤ 1000) → Ev (fun k => addr_Column.l0 k (tx l) n (l.length : Int) (i : Int)) (colF n (l.drop i))
  | 0, i, n, h, h0, h1 => by
    rw [List.drop_eq_nil_of_le (by omega)]
    refine Ev.step (fun k => addr_Column.l0.eq_2 _ _ _ _ _) ?_
    refine ev_neg (by omega) ?_
    rw [w64 (by omega) (by omega)]
    exact Ev.now _
  | d + 1, i, n, h, h0, h1 => by
    have hlt : i < l.length := by omega
    have hz := size_tx l
    have hb := bt_tx l i hlt
    have hu := u8_lt l[i]
    rw [List.drop_eq_getElem_cons hlt]
    refine Ev.step (fun k => addr_Column.l0.eq_2 _ _ _ _ _) ?_
    refine ev_pos (by omega) (ev_pos (by omega) (ev_pos (by omega) ?_))
    simp only [hb, colF]
    by_cases g1 : ((l[i]).toNat : Int) < 65
    · rw [if_neg (by unfold isU; simp; omega)]; exact ev_pos g1 (Ev.now _)
    · refine ev_neg g1 ?_
      by_cases g2 : ((l[i]).toNat : Int) > 90
      · rw [if_neg (by unfold isU; simp; omega)]; exact ev_pos g2 (Ev.now _)
      · rw [if_pos (by unfold isU; simp; omega)]
        refine ev_neg g2 ?_
        rw [w64s (n := 100) (by omega) (by omega)]
        rw [show (((l[i]).toNat : Int) - 65) % 256 = ((l[i]).toNat : Int) - 65 by omega, w64 (x := n * 26) (by omega) (by omega), w64 (x := n * 26 + (((l[i]).toNat : Int) - 65)) (by omega) (by omega), w64 (by omega) (by omega)]
        exact col_l0 l hl d (i + 1) _ (by omega) (by omega) (by
          rcases (by omega : i = 0 ∨ i = 1) with rfl | rfl
          · have := h1.1 rfl; omega
          · have := h1.2.1 rfl; omega)
theorem column_ev (l : List UInt8) : Ev (fun k => addr_Column.f k (tx l)) (colS l) := by
  have hz := size_tx l
  unfold addr_Column.f colS
  have hj : Ev (fun k => addr_Column.j0 k (tx l) true) (0, false) := by
    refine Ev.step (fun k => addr_Column.j0.eq_2 _ _ _) ?_
    exact ev_pos rfl (Ev.now _)
  by_cases h : l.length < 1 ∨ l.length > 2
  · rw [if_pos h]
    refine ev_ite (fun _ => hj) (fun g => ?_)
    rw [decide_eq_true (by omega)]
    exact hj
  · rw [if_neg h]
    refine ev_neg (by omega) ?_
    rw [decide_eq_false (by omega)]
    refine Ev.step (fun k => addr_Column.j0.eq_2 _ _ _) ?_
    refine ev_neg (by simp) ?_
    rw [hz]
    exact col_l0 l (by omega) l.length 0 0 (by omega) (by omega) (by omega)
theorem num_l0 (l : List UInt8) (hl : l.length ≤ 3) : ∀ d i n, i + d = l.length → 0 ≤ n → ((i = 0 → n = 0) ∧ (i = 1 → n ≤ 9) ∧ (i = 2 → n ≤ 99) ∧ n ≤ 999) → Ev (fun k => addr_Number.l0 k (tx l) n (l.length : Int) (i : Int)) (numF n (l.drop i))
  | 0, i, n, h, h0, h1 => by
    rw [List.drop_eq_nil_of_le (by omega)]
    refine Ev.step (fun k => addr_Number.l0.eq_2 _ _ _ _ _) ?_
    refine ev_neg (by omega) ?_
    rw [w64 (by omega) (by omega)]
    exact Ev.now _
  | d + 1, i, n, h, h0, h1 => by
    have hlt : i < l.length := by omega
    have hz := size_tx l
    have hb := bt_tx l i hlt
    have hu := u8_lt l[i]
    rw [List.drop_eq_getElem_cons hlt]
    refine Ev.step (fun k => addr_Number.l0.eq_2 _ _ _ _ _) ?_
    refine ev_pos (by omega) (ev_pos (by omega) (ev_pos (by omega) ?_))
    simp only [hb, numF]
    by_cases g1 : ((l[i]).toNat : Int) < 48
    · rw [if_neg (by unfold isD; simp; omega)]; exact ev_pos g1 (Ev.now _)
    · refine ev_neg g1 ?_
      by_cases g2 : ((l[i]).toNat : Int) > 57
      · rw [if_neg (by unfold isD; simp; omega)]; exact ev_pos g2 (Ev.now _)
      · rw [if_pos (by unfold isD; simp; omega)]
        refine ev_neg g2 ?_
        rw [w64s (n := 100) (by omega) (by omega)]
        rw [show (((l[i]).toNat : Int) - 48) % 256 = ((l[i]).toNat : Int) - 48 by omega, w64 (x := n * 10) (by omega) (by omega), w64 (by omega) (by omega)]
        exact num_l0 l hl d (i + 1) _ (by omega) (by omega) (by
          rcases (by omega : i = 0 ∨ i = 1 ∨ i = 2) with rfl | rfl | rfl
          · have := h1.1 rfl; omega
          · have := h1.2.1 rfl; omega
          · have := h1.2.2.1 rfl; omega)
theorem number_ev (l : List UInt8) : Ev (fun k => addr_Number.f k (tx l)) (numS l) := by
  have hz := size_tx l
  unfold addr_Number.f numS
  have hj : Ev (fun k => addr_Number.j0 k (tx l) true) (0, false) := by
    refine Ev.step (fun k => addr_Number.j0.eq_2 _ _ _) ?_
    exact ev_pos rfl (Ev.now _)
  by_cases h1 : l.length < 1
  · rw [if_pos (Or.inl h1)]; exact ev_pos (by omega) hj
  · refine ev_neg (by omega) ?_
    by_cases h2 : l.length > 3
    · rw [if_pos (Or.inr (Or.inl h2))]; exact ev_pos (by omega) hj
    · refine ev_neg (by omega) (ev_pos (by omega) ?_)
      obtain ⟨b, m, rfl⟩ : ∃ b m, l = b :: m := by cases l with | nil => simp at h1 | cons b m => exact ⟨b, m, rfl⟩
      have hb0 : bt (tx (b :: m)) 0 = (b.toNat : Int) := bt_tx0 b m
      rw [hb0]
      by_cases h3 : b = 48
      · subst h3
        rw [if_pos (Or.inr (Or.inr (by rfl : (48 :: m : List UInt8).head? = some 48)))]
        exact hj
      · have hne : (((b.toNat : Int)) == 48) = false := by
          rw [beq_eq_false_iff_ne]
          intro e
          exact h3 (u8_inj (by show b.toNat = 48; omega))
        rw [if_neg (by rintro (hh | hh | hh); exact h1 hh; exact h2 hh; exact h3 (Option.some.inj hh)), hne]
        refine Ev.step (fun k => addr_Number.j0.eq_2 _ _ _) ?_
        refine ev_neg (by simp) ?_
        rw [hz]
        exact num_l0 (b :: m) (by omega) (b :: m).length 0 0 (by omega) (by omega) (by omega)
/-! Parse. -/
def parS (l : List UInt8) : Int × Int × Bool :=
  if (colS (l.takeWhile isU)).2 = true then (if (numS (l.dropWhile isU)).2 = true then ((numS (l.dropWhile isU)).1, (colS (l.takeWhile isU)).1, true) else (0, 0, false)) else (0, 0, false)
theorem parse_j1 (a r : List UInt8) : Ev (fun k => addr_Parse.j1 k (tx (a ++ r)) (a.length : Int)) (if (colS a).2 = true then (if (numS r).2 = true then ((numS r).1, (colS a).1, true) else (0, 0, false)) else (0, 0, false)) := by
  have hz := size_tx (a ++ r)
  rw [List.length_append] at hz
  refine Ev.step (fun k => addr_Parse.j1.eq_2 _ _ _) ?_
  refine ev_pos (by omega) (ev_pos (by omega) ?_)
  rw [Int.toNat_natCast, ext_head, ext_tail, by_tx, List.take_left' rfl, List.drop_left' rfl]
  refine ev_bind (column_ev a) (ev_bind (number_ev r) ?_)
  refine ev_ite (fun h1 => ev_ite (fun h2 => ?_) (fun h2 => ?_)) (fun h1 => ?_)
  · rw [if_pos h1, if_pos h2]; exact Ev.now _
  · rw [if_pos h1, if_neg h2]; exact Ev.now _
  · rw [if_neg h1]; exact Ev.now _
theorem parse_l0 (a r : List UInt8) (ha : ∀ x ∈ a, isU x = true) (hr : ∀ b m, r = b :: m → isU b = false) (hl : a.length + r.length ≤ 1000) : ∀ d i, i + d = a.length → Ev (fun k => addr_Parse.l0 k (tx (a ++ r)) (i : Int)) (if (colS a).2 = true then (if (numS r).2 = true then ((numS r).1, (colS a).1, true) else (0, 0, false)) else (0, 0, false))
  | 0, i, h => by
    have hz := size_tx (a ++ r)
    rw [List.length_append] at hz
    have hi : i = a.length := by omega
    subst hi
    refine Ev.step (fun k => addr_Parse.l0.eq_2 _ _ _) ?_
    cases r with
    | nil =>
      have hz' : (tx (a ++ [])).size = a.length := by rw [size_tx, List.append_nil]
      exact ev_neg (by omega) (parse_j1 a [])
    | cons b m =>
      have hb : bt (tx (a ++ b :: m)) (a.length : Int) = (b.toNat : Int) := by
        rw [bt_tx _ a.length (by simp)]
        simp
      have hu := hr b m rfl
      unfold isU at hu
      rw [decide_eq_false_iff_not] at hu
      refine ev_pos (by simp at hz; omega) (ev_pos (by omega) ?_)
      rw [hb]
      refine ev_ite (fun g1 => ?_) (fun _ => parse_j1 a (b :: m))
      exact ev_neg (by omega) (parse_j1 a (b :: m))
  | d + 1, i, h => by
    have hz := size_tx (a ++ r)
    rw [List.length_append] at hz
    have hlt : i < a.length := by omega
    have hb : bt (tx (a ++ r)) (i : Int) = ((a[i]).toNat : Int) := by
      rw [bt_tx _ i (by simp; omega), List.getElem_append_left hlt]
    have hu := ha _ (List.getElem_mem hlt)
    unfold isU at hu
    rw [decide_eq_true_eq] at hu
    refine Ev.step (fun k => addr_Parse.l0.eq_2 _ _ _) ?_
    refine ev_pos (by omega) (ev_pos (by omega) ?_)
    rw [hb, w64s (n := 10000) (by omega) (by omega)]
    exact ev_pos (by omega) (ev_pos (by omega) (parse_l0 a r ha hr hl d (i + 1) (by omega)))
theorem parse_ev (l : List UInt8) (hl : l.length ≤ 1000) : Ev (fun k => addr_Parse.f k (tx l)) (parS l) := by
  unfold addr_Parse.f parS
  have e : l.takeWhile isU ++ l.dropWhile isU = l := List.takeWhile_append_dropWhile
  have hlen := congrArg List.length e
  rw [List.length_append] at hlen
  have := parse_l0 (l.takeWhile isU) (l.dropWhile isU) (fun x hx => by
      have := List.all_takeWhile (l := l) (p := isU)
      exact List.all_eq_true.1 this x hx) (fun b m hbm => by
      cases hb : isU b with
      | false => rfl
      | true =>
        have hh := List.head?_dropWhile_not isU l
        rw [hbm] at hh
        simp [hb] at hh) (by omega) (l.takeWhile isU).length 0 (by omega)
  rw [e] at this
  exact this
theorem alive03_ev : Ev (fun k => oculuslaw03_alive.f k) true := by
  unfold oculuslaw03_alive.f
  refine ev_bind (a := (11, 27, true)) ?_ ?_
  · have := parse_ev [65, 66, 49, 50] (by decide)
    rw [show parS [65, 66, 49, 50] = (11, 27, true) by decide +kernel] at this
    exact this
  refine ev_pos rfl (ev_pos (by decide) ?_)
  refine ev_bind (name_ev 11 27) (ev_pos (by rw [toList_by, by_tx]; decide +kernel) ?_)
  refine ev_bind (letters_ev 701) (ev_pos (by rw [toList_by, by_tx]; decide +kernel) ?_)
  refine ev_bind (ev_some fun _ => amay_eq 11 27) (ev_pos (by decide +kernel) ?_)
  refine ev_bind (ev_some fun _ => amay_eq 999 0) (ev_neg (by decide +kernel) ?_)
  exact ev_bind (ev_some fun _ => less_eq 11 27 12 0) (ev_some fun _ => by decide +kernel)
end Go.Proofs.YtjbdljolpkkhcaaDoor.X
/- The reference's searches: the column of letters, the row of a number, the cell of a name. -/
set_option linter.unusedVariables false
set_option linter.unusedSimpArgs false
namespace Go.Proofs.YtjbdljolpkkhcaaDoor.X
open Go.RowKit Go.Proofs.YtjbdljolpkkhcaaDoorW.PrintWords Go.Proofs.YtjbdljolpkkhcaaDoorW.PrintLast Go.Proofs.YtjbdljolpkkhcaaDoorW.PrintMore
def srch (f : Nat → List UInt8) (t : List UInt8) : Nat → Nat → Int × Bool
  | 0, _ => (0, false)
  | d + 1, i => if f i = t then ((i : Int), true) else srch f t d (i + 1)
theorem srch_miss (f : Nat → List UInt8) (t : List UInt8) : ∀ d i, (∀ j, i ≤ j → j < i + d → f j ≠ t) → srch f t d i = (0, false)
  | 0, _, _ => rfl
  | d + 1, i, h => by
    simp only [srch]
    rw [if_neg (h i (by omega) (by omega)), srch_miss f t d (i + 1) (fun j h1 h2 => h j (by omega) (by omega))]
theorem srch_hit (f : Nat → List UInt8) (t : List UInt8) (j : Nat) (hj : f j = t) : ∀ d i, i ≤ j → j < i + d → (∀ m, m < j → f m ≠ t) → srch f t d i = ((j : Int), true)
  | 0, i, h1, h2, _ => by omega
  | d + 1, i, h1, h2, h3 => by
    simp only [srch]
    by_cases e : i = j
    · subst e; rw [if_pos hj]
    · rw [if_neg (h3 i (by omega)), srch_hit f t j hj d (i + 1) (by omega) (by omega) h3]
theorem txl (l m : List UInt8) : ((tx l).toList = (tx m).toList) ↔ l = m := by rw [toList_by, toList_by, by_tx, by_tx]
theorem rcolumn_ev (t : List UInt8) : Ev (fun k => oculusref03_Column.f k (tx t)) (srch letL t 702 0) := by
  have hl : ∀ d i : Nat, i + d = 702 → Ev (fun k => oculusref03_Column.l0 k (tx t) (i : Int)) (srch letL t d i) := by
    intro d
    induction d with
    | zero =>
      intro i h
      refine Ev.step (fun k => oculusref03_Column.l0.eq_2 _ _ _) ?_
      exact ev_neg (by omega) (Ev.now _)
    | succ d ih =>
      intro i h
      refine Ev.step (fun k => oculusref03_Column.l0.eq_2 _ _ _) ?_
      refine ev_pos (by omega) ?_
      have hr := rletters_ev (i : Int)
      unfold ltrI at hr
      rw [if_neg (by omega), Int.toNat_natCast] at hr
      refine ev_bind hr ?_
      simp only [srch]
      refine ev_ite (fun g => ?_) (fun g => ?_)
      · rw [if_pos ((txl _ _).1 g)]; exact Ev.now _
      · rw [if_neg (fun e => g ((txl _ _).2 e)), w64s (n := 10000) (by omega) (by omega)]
        exact ih (i + 1) (by omega)
  exact hl 702 0 (by omega)
theorem rnumber_ev (t : List UInt8) : Ev (fun k => oculusref03_Number.f k (tx t)) (srch (fun i => digL (i + 1)) t 999 0) := by
  have hl : ∀ d i : Nat, i + d = 999 → Ev (fun k => oculusref03_Number.l0 k (tx t) (i : Int)) (srch (fun i => digL (i + 1)) t d i) := by
    intro d
    induction d with
    | zero =>
      intro i h
      refine Ev.step (fun k => oculusref03_Number.l0.eq_2 _ _ _) ?_
      exact ev_neg (by omega) (Ev.now _)
    | succ d ih =>
      intro i h
      refine Ev.step (fun k => oculusref03_Number.l0.eq_2 _ _ _) ?_
      refine ev_pos (by omega) ?_
      rw [w64s (n := 10000) (by omega) (by omega)]
      refine ev_bind (digits_ev (i + 1) (by omega)) ?_
      simp only [srch]
      refine ev_ite (fun g => ?_) (fun g => ?_)
      · rw [if_pos ((txl _ _).1 g)]; exact Ev.now _
      · rw [if_neg (fun e => g ((txl _ _).2 e))]
        exact ih (i + 1) (by omega)
  exact hl 999 0 (by omega)
theorem col_let : ∀ n : Fin 702, colS (letL n.val) = ((n.val : Int), true) := by decide +kernel
theorem num_dig : ∀ n : Fin 999, numS (digL (n.val + 1)) = ((n.val : Int), true) := by decide +kernel
theorem u8_of (a : UInt8) : u8 a.toNat = a := by
  apply u8_inj
  show (UInt8.ofNat a.toNat).toNat = a.toNat
  simp
theorem u8_eq (a : UInt8) (n : Nat) (h : n = a.toNat) : u8 n = a := by rw [h, u8_of]
theorem col_ok (t : List UInt8) (h : (colS t).2 = true) : ∃ n : Nat, n < 702 ∧ letL n = t := by
  unfold colS at h
  match t, h with
  | [], h => simp at h
  | [a], h =>
    simp only [List.length_singleton, colF] at h
    by_cases ha : isU a = true
    · unfold isU at ha
      have ha := of_decide_eq_true ha
      refine ⟨a.toNat - 65, by omega, ?_⟩
      unfold letL
      rw [if_pos (by omega), u8_eq a _ (by omega)]
    · rw [if_neg (by omega), if_neg ha] at h; simp at h
  | [a, b], h =>
    simp only [List.length_cons, List.length_nil, colF] at h
    rw [if_neg (by omega)] at h
    by_cases ha : isU a = true
    · rw [if_pos ha] at h
      by_cases hb : isU b = true
      · unfold isU at ha hb
        have ha := of_decide_eq_true ha
        have hb := of_decide_eq_true hb
        refine ⟨(a.toNat - 64) * 26 + (b.toNat - 65), by omega, ?_⟩
        unfold letL
        rw [if_neg (by omega), u8_eq a _ (by omega), u8_eq b _ (by omega)]
      · rw [if_neg hb] at h; simp at h
    · rw [if_neg ha] at h; simp at h
  | a :: b :: c :: l, h =>
    rw [if_pos (by simp)] at h; simp at h
theorem col_false (t : List UInt8) (h : ¬ (colS t).2 = true) : colS t = (0, false) := by
  have : ∀ (l : List UInt8) (n : Int), ¬ (colF n l).2 = true → colF n l = (0, false) := by
    intro l
    induction l with
    | nil => intro n h; simp [colF] at h
    | cons b l ih =>
      intro n h
      simp only [colF] at h ⊢
      by_cases hb : isU b = true
      · rw [if_pos hb] at h ⊢; exact ih _ h
      · rw [if_neg hb]
  unfold colS at h ⊢
  split
  · rfl
  · rename_i g
    rw [if_neg g] at h
    exact this _ _ h
theorem srch_col (t : List UInt8) : srch letL t 702 0 = colS t := by
  by_cases h : (colS t).2 = true
  · obtain ⟨n, hn, rfl⟩ := col_ok t h
    rw [col_let ⟨n, hn⟩]
    refine srch_hit letL _ n rfl 702 0 (by omega) (by omega) (fun m hm e => ?_)
    have h1 := col_let ⟨m, by omega⟩
    have h2 := col_let ⟨n, hn⟩
    simp only at h1 h2
    rw [e, h2] at h1
    simp only [Prod.mk.injEq] at h1
    omega
  · rw [col_false t h]
    refine srch_miss letL t 702 0 (fun j _ hj e => h ?_)
    rw [← e, col_let ⟨j, by omega⟩]
theorem num_ok (t : List UInt8) (h : (numS t).2 = true) : ∃ n : Nat, n < 999 ∧ digL (n + 1) = t := by
  unfold numS at h
  have hd : ∀ {b : UInt8}, isD b = true → 48 ≤ b.toNat ∧ b.toNat ≤ 57 := fun {b} hb => by unfold isD at hb; exact of_decide_eq_true hb
  match t, h with
  | [], h => simp at h
  | a :: l, h =>
    by_cases g : (a :: l).length < 1 ∨ (a :: l).length > 3 ∨ (a :: l).head? = some 48
    · rw [if_pos g] at h; simp at h
    · rw [if_neg g] at h
      have h0 : a ≠ 48 := fun e => g (Or.inr (Or.inr (by rw [e]; rfl)))
      have h0' : a.toNat ≠ 48 := fun e => h0 (u8_inj e)
      simp only [numF] at h
      by_cases ha : isD a = true
      · rw [if_pos ha] at h
        have ha := hd ha
        match l, h, g with
        | [], _, _ =>
          refine ⟨a.toNat - 49, by omega, ?_⟩
          unfold digL
          rw [if_pos (by omega), u8_eq a _ (by omega)]
        | [b], h, _ =>
          simp only [numF] at h
          by_cases hb : isD b = true
          · have hb := hd hb
            refine ⟨(a.toNat - 48) * 10 + (b.toNat - 48) - 1, by omega, ?_⟩
            unfold digL
            rw [if_neg (by omega), if_pos (by omega), u8_eq a _ (by omega), u8_eq b _ (by omega)]
          · rw [if_neg hb] at h; simp at h
        | [b, c], h, _ =>
          simp only [numF] at h
          by_cases hb : isD b = true
          · rw [if_pos hb] at h
            by_cases hc : isD c = true
            · have hb := hd hb
              have hc := hd hc
              refine ⟨(a.toNat - 48) * 100 + (b.toNat - 48) * 10 + (c.toNat - 48) - 1, by omega, ?_⟩
              unfold digL
              rw [if_neg (by omega), if_neg (by omega), u8_eq a _ (by omega), u8_eq b _ (by omega), u8_eq c _ (by omega)]
            · rw [if_neg hc] at h; simp at h
          · rw [if_neg hb] at h; simp at h
        | b :: c :: e :: m, _, g => exact absurd (Or.inr (Or.inl (by simp))) g
      · rw [if_neg ha] at h; simp at h
theorem num_false (t : List UInt8) (h : ¬ (numS t).2 = true) : numS t = (0, false) := by
  have : ∀ (l : List UInt8) (n : Int), ¬ (numF n l).2 = true → numF n l = (0, false) := by
    intro l
    induction l with
    | nil => intro n h; simp [numF] at h
    | cons b l ih =>
      intro n h
      simp only [numF] at h ⊢
      by_cases hb : isD b = true
      · rw [if_pos hb] at h ⊢; exact ih _ h
      · rw [if_neg hb]
  unfold numS at h ⊢
  split
  · rfl
  · rename_i g
    rw [if_neg g] at h
    exact this _ _ h
theorem srch_num (t : List UInt8) : srch (fun i => digL (i + 1)) t 999 0 = numS t := by
  by_cases h : (numS t).2 = true
  · obtain ⟨n, hn, rfl⟩ := num_ok t h
    rw [num_dig ⟨n, hn⟩]
    refine srch_hit _ _ n rfl 999 0 (by omega) (by omega) (fun m hm e => ?_)
    have h1 := num_dig ⟨m, by omega⟩
    have h2 := num_dig ⟨n, hn⟩
    simp only at h1 h2 e
    rw [e, h2] at h1
    simp only [Prod.mk.injEq] at h1
    omega
  · rw [num_false t h]
    refine srch_miss _ t 999 0 (fun j _ hj e => h ?_)
    rw [← e, num_dig ⟨j, by omega⟩]
end Go.Proofs.YtjbdljolpkkhcaaDoor.X
/- The reference's Parse is the code's. -/
set_option linter.unusedVariables false
set_option linter.unusedSimpArgs false
namespace Go.Proofs.YtjbdljolpkkhcaaDoor.X
open Go.RowKit Go.Proofs.YtjbdljolpkkhcaaDoorW.PrintWords Go.Proofs.YtjbdljolpkkhcaaDoorW.PrintLast Go.Proofs.YtjbdljolpkkhcaaDoorW.PrintMore
theorem rcol_ev (t : List UInt8) : Ev (fun k => oculusref03_Column.f k (tx t)) (colS t) := by rw [← srch_col]; exact rcolumn_ev t
theorem rnum_ev (t : List UInt8) : Ev (fun k => oculusref03_Number.f k (tx t)) (numS t) := by rw [← srch_num]; exact rnumber_ev t
def stepS (l : List UInt8) (i : Nat) (q : Int × Int × Bool) : Int × Int × Bool := if (colS (l.take i)).2 = true then (if (numS (l.drop i)).2 = true then ((numS (l.drop i)).1, (colS (l.take i)).1, true) else q) else q
def rpS (l : List UInt8) : Int × Int × Bool := if 1 ≤ l.length then stepS l 1 (if 2 ≤ l.length then stepS l 2 (0, 0, false) else (0, 0, false)) else (0, 0, false)
theorem rparse_j1f (l : List UInt8) (i : Int) : Ev (fun k => oculusref03_Parse.j1 k (tx l) i false) (0, 0, false) := by
  refine Ev.step (fun k => oculusref03_Parse.j1.eq_2 _ _ _ _) ?_
  exact ev_neg (by simp) (Ev.now _)
theorem rparse_step (l : List UInt8) (i : Nat) (hi : 1 ≤ i ∧ i ≤ 2) (q : Int × Int × Bool) (hn : Ev (fun k => oculusref03_Parse.l0 k (tx l) ((i + 1 : Nat) : Int)) q) : Ev (fun k => oculusref03_Parse.l0 k (tx l) (i : Int)) (if i ≤ l.length then stepS l i q else (0, 0, false)) := by
  have hz := size_tx l
  refine Ev.step (fun k => oculusref03_Parse.l0.eq_2 _ _ _) ?_
  refine ev_pos (by omega) ?_
  by_cases h : i ≤ l.length
  · rw [if_pos h, decide_eq_true (by omega)]
    refine Ev.step (fun k => oculusref03_Parse.j1.eq_2 _ _ _ _) ?_
    refine ev_pos rfl (ev_pos (by omega) (ev_pos (by omega) ?_))
    rw [Int.toNat_natCast, ext_head, ext_tail, by_tx, w64s (n := 100) (by omega) (by omega)]
    refine ev_bind (rcol_ev _) (ev_bind (rnum_ev _) ?_)
    unfold stepS
    refine ev_ite (fun h1 => ev_ite (fun h2 => ?_) (fun h2 => ?_)) (fun h1 => ?_)
    · rw [if_pos h1, if_pos h2]; exact Ev.now _
    · rw [if_pos h1, if_neg h2]; exact hn
    · rw [if_neg h1]; exact hn
  · rw [if_neg h, decide_eq_false (by omega)]
    exact rparse_j1f l i
theorem rparse_ev (l : List UInt8) : Ev (fun k => oculusref03_Parse.f k (tx l)) (rpS l) := by
  unfold oculusref03_Parse.f rpS
  refine rparse_step l 1 (by omega) _ (rparse_step l 2 (by omega) _ ?_)
  refine Ev.step (fun k => oculusref03_Parse.l0.eq_2 _ _ _) ?_
  exact ev_neg (by omega) (rparse_j1f l _)
theorem num_upper (b : UInt8) (l : List UInt8) (hb : isU b = true) : ¬ (numS (b :: l)).2 = true := by
  unfold isU at hb
  have hb := of_decide_eq_true hb
  unfold numS
  split
  · simp
  · simp only [numF]
    rw [if_neg (by unfold isD; simp; omega)]
    simp
theorem num_nil : ¬ (numS []).2 = true := by simp [numS]
theorem col_one (a : UInt8) : (colS [a]).2 = true ↔ isU a = true := by
  unfold colS
  rw [if_neg (by simp)]
  simp only [colF]
  by_cases h : isU a = true
  · rw [if_pos h]; simp [h]
  · rw [if_neg h]; simp [h]
theorem col_two (a b : UInt8) : (colS [a, b]).2 = true ↔ (isU a = true ∧ isU b = true) := by
  unfold colS
  rw [if_neg (by simp)]
  simp only [colF]
  by_cases h : isU a = true
  · rw [if_pos h]
    by_cases g : isU b = true
    · rw [if_pos g]; simp [h, g]
    · rw [if_neg g]; simp [g]
  · rw [if_neg h]; simp [h]
theorem rp_one (a : UInt8) : rpS [a] = if (colS [a]).2 = true then (if (numS []).2 = true then ((numS []).1, (colS [a]).1, true) else (0, 0, false)) else (0, 0, false) := rfl
theorem rp_two (a b : UInt8) (m : List UInt8) : rpS (a :: b :: m) = if (colS [a]).2 = true then (if (numS (b :: m)).2 = true then ((numS (b :: m)).1, (colS [a]).1, true) else (if (colS [a, b]).2 = true then (if (numS m).2 = true then ((numS m).1, (colS [a, b]).1, true) else (0, 0, false)) else (0, 0, false))) else (if (colS [a, b]).2 = true then (if (numS m).2 = true then ((numS m).1, (colS [a, b]).1, true) else (0, 0, false)) else (0, 0, false)) := by
  unfold rpS
  rw [if_pos (show 1 ≤ (a :: b :: m).length by simp), if_pos (show 2 ≤ (a :: b :: m).length by simp)]
  rfl
def parF (a r : List UInt8) : Int × Int × Bool := if (colS a).2 = true then (if (numS r).2 = true then ((numS r).1, (colS a).1, true) else (0, 0, false)) else (0, 0, false)
theorem par_F (l : List UInt8) : parS l = parF (l.takeWhile isU) (l.dropWhile isU) := rfl
theorem parF_num {a r : List UInt8} (h : ¬ (numS r).2 = true) : parF a r = (0, 0, false) := by unfold parF; rw [if_neg h]; split <;> rfl
theorem parF_col {a r : List UInt8} (h : ¬ (colS a).2 = true) : parF a r = (0, 0, false) := by unfold parF; rw [if_neg h]
theorem par_rp (l : List UInt8) : parS l = rpS l := by
  rw [par_F]
  match l with
  | [] => exact parF_num num_nil
  | [a] =>
    rw [rp_one, if_neg num_nil]
    by_cases h : isU a = true
    · rw [List.takeWhile_cons_of_pos h, List.dropWhile_cons_of_pos h, List.dropWhile_nil, parF_num num_nil]
      split <;> rfl
    · rw [List.takeWhile_cons_of_neg h, parF_col (by simp [colS])]
      split <;> rfl
  | a :: b :: m =>
    rw [rp_two]
    by_cases h : isU a = true
    · rw [List.takeWhile_cons_of_pos h, List.dropWhile_cons_of_pos h]
      by_cases g : isU b = true
      · rw [List.takeWhile_cons_of_pos g, List.dropWhile_cons_of_pos g, if_neg (num_upper b m g)]
        have e2 : parF (a :: b :: m.takeWhile isU) (m.dropWhile isU) = (if (colS [a, b]).2 = true then (if (numS m).2 = true then ((numS m).1, (colS [a, b]).1, true) else (0, 0, false)) else (0, 0, false)) := by
          cases m with
          | nil => rfl
          | cons c r =>
            by_cases k : isU c = true
            · rw [List.takeWhile_cons_of_pos k, parF_col (by unfold colS; rw [if_pos (by simp)]; simp), if_neg (num_upper c r k)]
              split <;> rfl
            · rw [List.takeWhile_cons_of_neg k, List.dropWhile_cons_of_neg k]; rfl
        rw [e2, if_pos ((col_one a).2 h)]
      · rw [List.takeWhile_cons_of_neg g, List.dropWhile_cons_of_neg g, if_neg (fun k => g ((col_two a b).1 k).2)]
        unfold parF
        split <;> rfl
    · rw [List.takeWhile_cons_of_neg h, parF_col (by simp [colS]), if_neg (fun k => h ((col_one a).1 k)), if_neg (fun k => h ((col_two a b).1 k).1)]
end Go.Proofs.YtjbdljolpkkhcaaDoor.X
/- What strings.Cut at one byte answers. -/
set_option linter.unusedVariables false
set_option linter.unusedSimpArgs false
namespace Go.Proofs.YtjbdljolpkkhcaaDoor.X
open Go.RowKit Go.Proofs.YtjbdljolpkkhcaaDoorW.PrintWords Go.Proofs.YtjbdljolpkkhcaaDoorW.PrintLast Go.Proofs.YtjbdljolpkkhcaaDoorW.PrintMore
/-- Cut at the first c. -/
def cutL (c : UInt8) : List UInt8 → List UInt8 × List UInt8 × Bool
  | [] => ([], [], false)
  | b :: l => if b = c then ([], l, true) else (b :: (cutL c l).1, (cutL c l).2.1, (cutL c l).2.2)
theorem index_cut (c : UInt8) : ∀ l : List UInt8, (Lib.indexByte l c = -1 ∧ (cutL c l).1 = l ∧ (cutL c l).2.1 = [] ∧ (cutL c l).2.2 = false) ∨
    ∃ n : Nat, Lib.indexByte l c = (n : Int) ∧ n < l.length ∧ (cutL c l).1 = l.take n ∧ (cutL c l).2.1 = l.drop (n + 1) ∧ (cutL c l).2.2 = true
  | [] => Or.inl ⟨rfl, rfl, rfl, rfl⟩
  | b :: l => by
    by_cases h : b = c
    · refine Or.inr ⟨0, ?_, by simp, ?_, ?_, ?_⟩
      · simp [Lib.indexByte, h]
      · simp [cutL, h]
      · simp [cutL, h]
      · simp [cutL, h]
    · rcases index_cut c l with ⟨h1, h2, h3, h4⟩ | ⟨n, h1, h2, h3, h4, h5⟩
      · left
        refine ⟨?_, ?_, ?_, ?_⟩
        · simp [Lib.indexByte, h, h1]
        · simp [cutL, h, h2]
        · simp [cutL, h, h3]
        · simp [cutL, h, h4]
      · right
        refine ⟨n + 1, ?_, by simp; omega, ?_, ?_, ?_⟩
        · simp only [Lib.indexByte, beq_eq_false_iff_ne.2 h, h1]
          rw [if_neg (by simp), if_neg (by first | (simp; done) | (simp; omega))]
          omega
        · simp [cutL, h, h3]
        · simp [cutL, h, h4]
        · simp [cutL, h, h5]
theorem cut_eq (s : ByteArray) (c : UInt8) (hs : s.size ≤ 4611686018427387904) : strings_Cut.f s (tx [c]) = some (tx (cutL c (by_ s)).1, tx (cutL c (by_ s)).2.1, (cutL c (by_ s)).2.2) := by
  unfold strings_Cut.f stringslite_Cut.f stringslite_Index.f
  have h1 : (tx [c]).size = 1 := by rw [size_tx]; rfl
  have h2 : (tx [c])[0]'(by rw [h1]; decide) = c := rfl
  rw [dif_pos h1, h2]
  simp only [Option.bind_some]
  rcases index_cut c (by_ s) with ⟨g1, g2, g3, g4⟩ | ⟨n, g1, g2, g3, g4, g5⟩
  · rw [show Lib.indexByte s.data.toList c = -1 from g1, if_neg (by decide), g2, g3, g4, tx_by]
    rfl
  · have hl := size_by s
    rw [show Lib.indexByte s.data.toList c = (n : Int) from g1, if_pos (by omega), if_pos (by omega), if_pos (by omega), h1]
    have hw : wrap64 ((n : Int) + ((1 : Nat) : Int)) = ((n + 1 : Nat) : Int) := by unfold wrap64; omega
    rw [hw, if_pos (by omega), if_pos (by omega), g3, g4, g5]
    simp only [Option.bind_some, Int.toNat_natCast, ext_head, ext_tail]
theorem cutL_length (c : UInt8) (l : List UInt8) : (cutL c l).1.length ≤ l.length ∧ (cutL c l).2.1.length ≤ l.length := by
  rcases index_cut c l with ⟨g1, g2, g3, g4⟩ | ⟨n, g1, g2, g3, g4, g5⟩
  · rw [g2, g3]; simp
  · rw [g3, g4]; simp; omega
end Go.Proofs.YtjbdljolpkkhcaaDoor.X
/- Spans as texts; that the statements of span live. -/
set_option linter.unusedVariables false
set_option linter.unusedSimpArgs false
namespace Go.Proofs.YtjbdljolpkkhcaaDoor.X
open Go.RowKit Go.Proofs.YtjbdljolpkkhcaaDoorW.PrintWords Go.Proofs.YtjbdljolpkkhcaaDoorW.PrintLast Go.Proofs.YtjbdljolpkkhcaaDoorW.PrintMore
/-- The span that a text tells. -/
def spP (l : List UInt8) : Int × Int × Int × Int × Bool :=
  if (parS (cutL 58 l).1).2.2 = true then
    (if (cutL 58 l).2.2 = true then
      (if (parS (cutL 58 l).2.1).2.2 = true then
        (if (parS (cutL 58 l).1).1 = (parS (cutL 58 l).2.1).1 ∧ (parS (cutL 58 l).1).2.1 = (parS (cutL 58 l).2.1).2.1 then (0, 0, 0, 0, false)
        else ((parS (cutL 58 l).1).1, (parS (cutL 58 l).1).2.1, (parS (cutL 58 l).2.1).1, (parS (cutL 58 l).2.1).2.1, true))
      else (0, 0, 0, 0, false))
    else ((parS (cutL 58 l).1).1, (parS (cutL 58 l).1).2.1, (parS (cutL 58 l).1).1, (parS (cutL 58 l).1).2.1, true))
  else (0, 0, 0, 0, false)
theorem spparse_ev (l : List UInt8) (hl : l.length ≤ 1000) : Ev (fun k => span_Parse.f k (tx l)) (spP l) := by
  have hc := cutL_length 58 l
  unfold span_Parse.f spP
  have e := cut_eq (tx l) 58 (by rw [size_tx]; omega)
  rw [by_tx] at e
  refine ev_bind (ev_some fun _ => e) ?_
  refine ev_bind (parse_ev _ (by omega)) ?_
  have hp2 := parse_ev (cutL 58 l).2.1 (by omega)
  generalize parS (cutL 58 l).1 = p1 at *
  generalize parS (cutL 58 l).2.1 = p2 at *
  refine ev_ite (fun h1 => ?_) (fun h1 => ?_)
  · rw [if_pos h1]
    refine Ev.step (fun k => span_Parse.j0.eq_2 _ _ _ _ _ _) ?_
    cases h2 : (cutL 58 l).2.2 with
    | false =>
      rw [if_neg (by simp)]
      exact ev_pos rfl (Ev.now _)
    | true =>
      rw [if_pos rfl]
      refine ev_neg (by simp) (ev_bind hp2 ?_)
      refine ev_pos h1 (ev_ite (fun h3 => ?_) (fun h3 => ?_))
      · rw [if_pos h3]
        refine ev_ite (fun h4 => ?_) (fun h4 => ?_)
        · rw [if_pos (by simpa using h4)]; exact Ev.now _
        · rw [if_neg (by simpa using h4)]; exact Ev.now _
      · rw [if_neg h3]; exact Ev.now _
  · rw [if_neg h1]
    refine Ev.step (fun k => span_Parse.j0.eq_2 _ _ _ _ _ _) ?_
    refine ev_neg (by simp) (ev_bind hp2 ?_)
    exact ev_neg h1 (Ev.now _)
/-- A span as text. -/
def txtL (a b c d : Int) : List UInt8 := if mayZ a b c d = true then (if a = c ∧ b = d then nameL a b else nameL a b ++ 58 :: nameL c d) else []
theorem nameL_len (a b : Int) : (nameL a b).length ≤ 5 := by
  unfold nameL
  split
  · rw [List.length_append]
    have h1 := letL_len b.toNat
    have h2 := digL_len (a.toNat + 1)
    omega
  · simp
theorem text_ev (a b c d : Int) : Ev (fun k => span_Text.f k a b c d) (tx (txtL a b c d)) := by
  unfold span_Text.f txtL
  refine ev_bind (ev_some fun _ => span_may_eq a b c d) ?_
  refine Ev.step (fun k => span_Text.j0.eq_2 _ _ _ _ _ _) ?_
  cases h : mayZ a b c d with
  | false => rw [if_neg (by simp)]; exact ev_pos rfl (Ev.now _)
  | true =>
    rw [if_pos rfl]
    refine ev_neg (by simp) ?_
    have l1 := nameL_len a b
    have l2 := nameL_len c d
    refine ev_ite (fun g => ?_) (fun g => ?_)
    · rw [if_pos (by simpa using g)]
      exact ev_bind (name_ev a b) (Ev.now _)
    · rw [if_neg (by simpa using g)]
      refine ev_bind (name_ev a b) (ev_pos (by rw [size_tx]; omega) ?_)
      refine ev_bind (name_ev c d) ?_
      have e : tx (nameL a b) ++ (⟨#[58]⟩ : ByteArray) ++ tx (nameL c d) = tx (nameL a b ++ 58 :: nameL c d) := by
        rw [show (⟨#[58]⟩ : ByteArray) = tx [58] from rfl, tx_append, tx_append]; simp
      have e0 : tx (nameL a b) ++ (⟨#[58]⟩ : ByteArray) = tx (nameL a b ++ [58]) := by rw [show (⟨#[58]⟩ : ByteArray) = tx [58] from rfl, tx_append]
      refine ev_pos (by rw [e0, size_tx, size_tx, List.length_append]; simp; omega) ?_
      rw [e]
      exact Ev.now _
theorem alive04_ev : Ev (fun k => oculuslaw04_alive.f k) true := by
  unfold oculuslaw04_alive.f
  refine ev_bind (a := (1, 1, 0, 0, true)) ?_ ?_
  · have := spparse_ev [66, 50, 58, 65, 49] (by decide)
    rw [show spP [66, 50, 58, 65, 49] = (1, 1, 0, 0, true) by decide +kernel] at this
    exact this
  refine ev_bind (ev_some fun _ => span_cells_eq 1 1 0 0) ?_
  rw [show cellsOf 1 1 0 0 = [⟨0, 0⟩, ⟨0, 1⟩, ⟨1, 0⟩, ⟨1, 1⟩] by kernel_rfl]
  refine ev_pos rfl (ev_pos rfl (ev_pos (by decide) (ev_pos (by decide +kernel) (ev_pos (by decide) (ev_pos (by decide +kernel) ?_)))))
  refine ev_bind (text_ev 1 1 0 0) (ev_pos (by rw [toList_by, by_tx]; decide +kernel) ?_)
  refine ev_bind (ev_some fun _ => span_str 1 1 0 0 (by decide)) ?_
  refine ev_bind (text_ev 0 0 1 1) (ev_pos (by rw [toList_by, by_tx]; decide +kernel) ?_)
  exact ev_bind (ev_some fun _ => span_size_eq 1 1 0 0) (ev_some fun _ => by decide +kernel)
end Go.Proofs.YtjbdljolpkkhcaaDoor.X
/- The pure statement of the law SpanTells: over numbers alone. -/
set_option linter.unusedVariables false
set_option linter.unusedSimpArgs false
namespace Go.Proofs.YtjbdljolpkkhcaaDoor.X
open Go.RowKit Go.Proofs.YtjbdljolpkkhcaaDoorW.PrintWords Go.Proofs.YtjbdljolpkkhcaaDoorW.PrintLast Go.Proofs.YtjbdljolpkkhcaaDoorW.PrintMore
theorem span_rows_eq (a b c d : Int) : span_Rows.f a b c d = some (if mayZ a b c d = true then mx a c - mn a c + 1 else 0) := by
  unfold span_Rows.f
  rw [span_may_eq, Option.bind_some]
  by_cases h : mayZ a b c d = true
  · have hb := may_b h
    have m1 := mnmx a c hb.1 hb.2.2.1
    rw [if_pos h, if_pos h, span_str a b c d h, Option.bind_some, w64 (x := mx a c - mn a c) (by omega) (by omega), w64 (by omega) (by omega)]
  · rw [if_neg h, if_neg h]
theorem span_cols_eq (a b c d : Int) : span_Cols.f a b c d = some (if mayZ a b c d = true then mx b d - mn b d + 1 else 0) := by
  unfold span_Cols.f
  rw [span_may_eq, Option.bind_some]
  by_cases h : mayZ a b c d = true
  · have hb := may_b h
    have m1 := mnmx b d hb.2.1 hb.2.2.2
    rw [if_pos h, if_pos h, span_str a b c d h, Option.bind_some, w64 (x := mx b d - mn b d) (by omega) (by omega), w64 (by omega) (by omega)]
  · rw [if_neg h, if_neg h]
theorem rrows_all (a b c d : Int) : oculusref04_Rows.f a b c d = some (if mayZ a b c d = true then mx a c - mn a c + 1 else 0) := by
  by_cases h : mayZ a b c d = true
  · rw [if_pos h, rows_eq a b c d h]
  · unfold oculusref04_Rows.f; rw [if_neg h, rspan_may_eq, Option.bind_some, if_neg h]
theorem rcols_all (a b c d : Int) : oculusref04_Cols.f a b c d = some (if mayZ a b c d = true then mx b d - mn b d + 1 else 0) := by
  by_cases h : mayZ a b c d = true
  · rw [if_pos h, cols_eq a b c d h]
  · unfold oculusref04_Cols.f; rw [if_neg h, rspan_may_eq, Option.bind_some, if_neg h]
def strZ (a b c d : Int) : Int × Int × Int × Int := if mayZ a b c d = true then (mn a c, mn b d, mx a c, mx b d) else (0, 0, 0, 0)
theorem span_str_all (a b c d : Int) : span_Straight.f a b c d = some (strZ a b c d) := by
  unfold strZ
  by_cases h : mayZ a b c d = true
  · rw [if_pos h, span_str a b c d h]
  · unfold span_Straight.f; rw [if_neg h, span_may_eq, Option.bind_some, if_neg h]
theorem rstr_all (a b c d : Int) : Ev (fun k => oculusref04_Straight.f k a b c d) (strZ a b c d) := by
  unfold strZ
  by_cases h : mayZ a b c d = true
  · rw [if_pos h]; exact rstraight_ev a b c d h
  · rw [if_neg h]
    unfold oculusref04_Straight.f
    refine ev_bind (ev_some fun _ => rspan_may_eq a b c d) ?_
    refine Ev.step (fun k => oculusref04_Straight.j0.eq_2 _ _ _ _ _ _) ?_
    have h' : mayZ a b c d = false := by simpa using h
    exact ev_pos (by rw [h']; rfl) (Ev.now _)
end Go.Proofs.YtjbdljolpkkhcaaDoor.X
namespace Go.Proofs.YtjbdljolpkkhcaaDoor.Pure
open Go.RowKit Go.Proofs.YtjbdljolpkkhcaaDoor.X Go.Proofs.YtjbdljolpkkhcaaDoorW.PrintWords Go.Proofs.YtjbdljolpkkhcaaDoorW.PrintLast Go.Proofs.YtjbdljolpkkhcaaDoorW.PrintMore
theorem SpanTells : oculuslaw04_SpanTells.PureX := by
  intro s c _ _
  apply Ev.rounds
  unfold oculuslaw04_SpanTells.f
  refine ev_bind (ev_some fun _ => rrows_all _ _ _ _) (ev_bind (ev_some fun _ => rcols_all _ _ _ _) ?_)
  refine ev_bind (ev_some fun _ => span_may_eq _ _ _ _) (ev_bind (ev_some fun _ => rspan_may_eq _ _ _ _) (ev_pos (by simp) ?_))
  refine ev_bind (ev_some fun _ => span_str_all _ _ _ _) (ev_bind (rstr_all _ _ _ _) (ev_pos (by simp) ?_))
  refine ev_bind (has_ev _ _ _ _ _ _) (ev_bind (ev_some fun _ => rhas_eq _ _ _ _ _ _) (ev_pos (by simp) ?_))
  refine ev_bind (ev_some fun _ => span_rows_eq _ _ _ _) (ev_bind (ev_some fun _ => rrows_all _ _ _ _) (ev_pos rfl ?_))
  refine ev_bind (ev_some fun _ => span_cols_eq _ _ _ _) (ev_bind (ev_some fun _ => rcols_all _ _ _ _) (ev_pos rfl ?_))
  refine ev_bind (ev_some fun _ => span_size_eq _ _ _ _) (ev_pos ?_ (ev_bind alive04_ev (Ev.now _)))
  by_cases h : mayZ s.f0.f0 s.f0.f1 s.f1.f0 s.f1.f1 = true
  · simp only [if_pos h]
    have hb := may_b h
    have m1 := mnmx s.f0.f0 s.f1.f0 hb.1 hb.2.2.1
    have m2 := mnmx s.f0.f1 s.f1.f1 hb.2.1 hb.2.2.2
    obtain ⟨x, hx⟩ : ∃ x : Nat, mx s.f0.f0 s.f1.f0 - mn s.f0.f0 s.f1.f0 + 1 = (x : Int) := ⟨(mx s.f0.f0 s.f1.f0 - mn s.f0.f0 s.f1.f0 + 1).toNat, by omega⟩
    obtain ⟨y, hy⟩ : ∃ y : Nat, mx s.f0.f1 s.f1.f1 - mn s.f0.f1 s.f1.f1 + 1 = (y : Int) := ⟨(mx s.f0.f1 s.f1.f1 - mn s.f0.f1 s.f1.f1 + 1).toNat, by omega⟩
    rw [hx, hy]
    have hxy : x * y ≤ 1000 * 1000 := Nat.mul_le_mul (by omega) (by omega)
    have hc : (x : Int) * (y : Int) = ((x * y : Nat) : Int) := by simp
    rw [hc, w64 (by omega) (by omega)]
  · simp only [if_neg h]
    rw [w64 (by omega) (by omega)]; rfl
end Go.Proofs.YtjbdljolpkkhcaaDoor.Pure
/- The row of the law SpanTells: for every input the call returns true and each argument reads afterwards as before, out of its pure statement and the contract of its function. Conditions: none beyond the given statement. -/
namespace Go.Proofs.YtjbdljolpkkhcaaDoor.spanTells
open Go.ChangeShapes Go.WideShapes Go.ChangeAt Go.RowKit
open Go.ChangeMaps (open_string shut_string)
open Go.Proofs.YtjbdljolpkkhcaaDoor.Opn Go.Proofs.YtjbdljolpkkhcaaDoor.X
open Go.Proofs.YtjbdljolpkkhcaaDoorW.PrintWords (Kd Drawn0)
set_option linter.unusedVariables false
set_option maxRecDepth 100000
theorem own : ownKnob Tryd.prog.godebug = none := by kernel_rfl
theorem laidOut : laidOutB Tryd.prog = true := by kernel_rfl
/-- What a listed table of whole numbers holds, out of the row's condition. -/
theorem tab_vars {P : Program} {W : World} {name : String} {k : IntKind} {zs : List Int} {g : Nat} {t e : TypeId} {n : Nat}
    (hg : P.globalNamed name = some g) (hty : (P.globals[g]?).map (·.type) = some t) (ht : P.underlying t = some (.array n e)) (he : P.underlying e = some (.int k)) (hce : P.cellsOf e = 1) (hct : P.cellsOf t = n) :
    ∀ (l : List (String × DataW Unit)) (ps : List MemPlace), DataW.LaidVars P W l ps → (name, Lib.tabData k zs) ∈ l → Lib.TabIs P W name k zs
  | [], _, _, hm => by simp at hm
  | (nm, d) :: rest, ps, h, hm => by
    obtain ⟨g', t', cs, fuel, p, q, hg', ht', hvar, hd, hr, _⟩ := h
    rcases List.mem_cons.1 hm with e0 | hm
    · cases e0
      obtain rfl := Option.some.inj (hg.symm.trans hg')
      obtain rfl := Option.some.inj (hty.symm.trans ht')
      unfold Lib.TabIs
      rw [hvar, ← Lib.cells_of_tab ht he hce hct hd]
    · exact tab_vars hg hty ht he hce hct rest q hr hm
theorem e_pow : (Rows.laid_internal_strconv_uint64pow10 : DataW Unit) = Lib.tabData .u64 Lib.pow10Tab := by kernel_rfl
theorem e_bru : (Rows.laid_math_bits_deBruijn64tab : DataW Unit) = Lib.tabData .u8 bru64 := by kernel_rfl
theorem tab_of_laid {W : World} (h : laidMet Tryd.prog Rows.spanTellsRow.laid W) : Tab W := by
  obtain ⟨ps, hv, _⟩ := h
  have m_pow : (("internal/strconv.uint64pow10", (Rows.laid_internal_strconv_uint64pow10 : DataW Unit)) : String × DataW Unit) ∈ Rows.spanTellsRow.laid := List.mem_cons_of_mem _ (List.mem_cons_of_mem _ (List.mem_cons_self))
  rw [e_pow] at m_pow
  have h_pow : Lib.TabIs Tryd.prog W "internal/strconv.uint64pow10" .u64 Lib.pow10Tab := tab_vars (g := 1) (t := 81) (e := 72) (n := 20) (by kernel_rfl) (by kernel_rfl) Tryd.underlying81 Tryd.underlying72 (by kernel_rfl) (by kernel_rfl) _ ps hv m_pow
  have m_bru : (("math/bits.deBruijn64tab", (Rows.laid_math_bits_deBruijn64tab : DataW Unit)) : String × DataW Unit) ∈ Rows.spanTellsRow.laid := List.mem_cons_of_mem _ (List.mem_cons_self)
  rw [e_bru] at m_bru
  have h_bru : Lib.TabIs Tryd.prog W "math/bits.deBruijn64tab" .u8 bru64 := tab_vars (g := 3) (t := 90) (e := 5) (n := 64) (by kernel_rfl) (by kernel_rfl) Tryd.underlying90 Tryd.underlying5 (by kernel_rfl) (by kernel_rfl) _ ps hv m_bru
  exact ⟨h_pow, h_bru⟩
/-- A world that meets the condition: the settled one, the tables laid. -/
noncomputable def laidWorld (os : Os) : World :=
  { World.holding Tryd.prog os ⟨#[], #[], []⟩ with heap := ((((World.holding Tryd.prog os ⟨#[], #[], []⟩).heap.modify 2 (fun | .cells _ t fr => .cells #[.int .u8 0, .int .u8 1, .int .u8 28, .int .u8 2, .int .u8 29, .int .u8 14, .int .u8 24, .int .u8 3, .int .u8 30, .int .u8 22, .int .u8 20, .int .u8 15, .int .u8 25, .int .u8 17, .int .u8 4, .int .u8 8, .int .u8 31, .int .u8 27, .int .u8 13, .int .u8 23, .int .u8 21, .int .u8 19, .int .u8 16, .int .u8 7, .int .u8 26, .int .u8 12, .int .u8 18, .int .u8 6, .int .u8 11, .int .u8 5, .int .u8 10, .int .u8 9] t fr | o => o)).modify 3 (fun | .cells _ t fr => .cells #[.int .u8 0, .int .u8 1, .int .u8 56, .int .u8 2, .int .u8 57, .int .u8 49, .int .u8 28, .int .u8 3, .int .u8 61, .int .u8 58, .int .u8 42, .int .u8 50, .int .u8 38, .int .u8 29, .int .u8 17, .int .u8 4, .int .u8 62, .int .u8 47, .int .u8 59, .int .u8 36, .int .u8 45, .int .u8 43, .int .u8 51, .int .u8 22, .int .u8 53, .int .u8 39, .int .u8 33, .int .u8 30, .int .u8 24, .int .u8 18, .int .u8 12, .int .u8 5, .int .u8 63, .int .u8 55, .int .u8 48, .int .u8 27, .int .u8 60, .int .u8 41, .int .u8 37, .int .u8 16, .int .u8 46, .int .u8 35, .int .u8 44, .int .u8 21, .int .u8 52, .int .u8 32, .int .u8 23, .int .u8 11, .int .u8 54, .int .u8 26, .int .u8 40, .int .u8 15, .int .u8 34, .int .u8 20, .int .u8 31, .int .u8 10, .int .u8 25, .int .u8 14, .int .u8 19, .int .u8 9, .int .u8 13, .int .u8 8, .int .u8 7, .int .u8 6] t fr | o => o)).modify 1 (fun | .cells _ t fr => .cells #[.int .u64 1, .int .u64 10, .int .u64 100, .int .u64 1000, .int .u64 10000, .int .u64 100000, .int .u64 1000000, .int .u64 10000000, .int .u64 100000000, .int .u64 1000000000, .int .u64 10000000000, .int .u64 100000000000, .int .u64 1000000000000, .int .u64 10000000000000, .int .u64 100000000000000, .int .u64 1000000000000000, .int .u64 10000000000000000, .int .u64 100000000000000000, .int .u64 1000000000000000000, .int .u64 10000000000000000000] t fr | o => o)) }
theorem laidWorld_met (os : Os) (args : Array Value) : laidMet Tryd.prog Rows.spanTellsRow.laid ((laidWorld os).forCall (fun _ _ => 0) ⟨#[], args, []⟩).memory := laidMet_of_run' 8 (by kernel_rfl) (by kernel_rfl)
set_option maxRecDepth 100000 in
set_option maxHeartbeats 1000000 in
theorem lifted (os : Os) (started : os.Started) (H : Type) (enc : TypeId × Value → H) :
    ReturnsInHanded {} Tryd.checked os 7 .any (fun w args => (Rows.spanTellsSpec.pre enc Tryd.prog Tryd.f7 Rows.spanTellsRow.domain false w args ∧ laidMet Tryd.prog Rows.spanTellsRow.laid w) ∧ sizedMet enc Tryd.prog Tryd.f7 (OpenSpec.ofChange Rows.spanTellsSpec) false w args) (Rows.spanTellsSpec.post enc Tryd.prog Tryd.f7 false true false false) := by
  refine returnsInHanded_of_change_and (C := Tryd.checked) (X := fun w _ => laidMet Tryd.prog Rows.spanTellsRow.laid w) (fun _ _ _ hh h => h.of_heap hh) own started (by kernel_rfl) Tryd.func7
    (ChangeSpec.witness_at (enc := enc) (C := Tryd.checked) (os := os) (X := fun w _ => laidMet Tryd.prog Rows.spanTellsRow.laid w) false (laidWorld os) #[.agg #[.int .i64 0, .int .i64 0, .int .i64 0, .int .i64 0], .agg #[.int .i64 0, .int .i64 0]] 8 rfl (by kernel_rfl) (by kernel_rfl) (by kernel_rfl) (by kernel_rfl) (by kernel_rfl) (laidWorld_met os _)) ?_
  intro W base args ds gs before hval0 hW hcnd hsz0 hL _
  have hsz : (DataW.weightsEach Tryd.prog (Tryd.f7.params.toList ++ Rows.spanTellsSpec.plain.varTypes Tryd.prog) (ds ++ gs)).all (· ≤ reachBytes) = true := hsz0
  have hval : ∀ (j : Nat) t v, Tryd.f7.params[j]? = some t → args[j]? = some v → Value.okWide Tryd.prog W .any base t v := hval0
  have hW' := hW
  obtain ⟨p, q, hA0, hV, rfl, hfz, hnd⟩ := hW
  have hA : DataW.TrodAll enc Tryd.prog W 0 (fun _ => true) true Tryd.f7.params.toList args.toList ds p := hA0
  rw [Tryd.params7] at hA hval hsz
  obtain ⟨v0, vs0, d0, ds0, p0, q0, hargs, rfl, rfl, h0, r0⟩ := trodAll_cons hA
  obtain ⟨v1, vs1, d1, ds1, p1, q1, rfl, rfl, rfl, h1, r1⟩ := trodAll_cons r0
  obtain ⟨rfl, rfl, rfl⟩ := trodAll_nil r1
  obtain rfl : args = #[v0, v1] := by cases args; simp_all
  obtain ⟨rfl, rfl⟩ := trodVars_none hV
  have lt0 : ∀ x ∈ p0, x.block < W.heap.size := by obtain ⟨m, hm⟩ := h0; exact DataW.trod_lt m _ _ _ hm
  have hw0 : ∀ m ∈ d0.weights Tryd.prog 42, m ≤ reachBytes := fun m hm => of_decide_eq_true (List.all_eq_true.1 hsz m (DataW.weights_mem_each (j := 0) (t := 42) rfl rfl m hm))
  obtain ⟨a0, K0, g0⟩ : ∃ a, (k42 : Kd S42).K W a v0.cells.toList ∧ (good42 a) := by
    obtain ⟨fuel, hf⟩ := h0
    exact opens42 hf hw0
  obtain ⟨cs0, rfl, _⟩ := okWide_struct Tryd.underlying42 (hval 0 42 v0 rfl rfl)
  have KO0 := k42_open K0
  obtain rfl : cs0 = #[.int .i64 a0.f0.f0, .int .i64 a0.f0.f1, .int .i64 a0.f1.f0, .int .i64 a0.f1.f1] := by
    have : cs0.toList = _ := KO0
    cases cs0; simp_all
  have lt1 : ∀ x ∈ p1, x.block < W.heap.size := by obtain ⟨m, hm⟩ := h1; exact DataW.trod_lt m _ _ _ hm
  have hw1 : ∀ m ∈ d1.weights Tryd.prog 23, m ≤ reachBytes := fun m hm => of_decide_eq_true (List.all_eq_true.1 hsz m (DataW.weights_mem_each (j := 1) (t := 23) rfl rfl m hm))
  obtain ⟨a1, K1, g1⟩ : ∃ a, (k23 : Kd S23).K W a v1.cells.toList ∧ (good23 a) := by
    obtain ⟨fuel, hf⟩ := h1
    exact opens23 hf hw1
  obtain ⟨cs1, rfl, _⟩ := okWide_struct Tryd.underlying23 (hval 1 23 v1 rfl rfl)
  have KO1 := k23_open K1
  obtain rfl : cs1 = #[.int .i64 a1.f0, .int .i64 a1.f1] := by
    have : cs1.toList = _ := KO1
    cases cs1; simp_all
  obtain ⟨k, hk⟩ := Pure.SpanTells a0 a1 g0 g1
  clear hA0 hval0 hsz0 hsz
  refine (oculuslaw04_SpanTells.calls k (a0.f0.f0) (a0.f0.f1) (a0.f1.f0) (a0.f1.f1) (a1.f0) (a1.f1) true W ⟨tab_of_laid hL⟩ hk).mono fun e W' ⟨he, bel0⟩ => ?_
  have bel : Below W.heap.size W W' := bel0
  subst he
  exact ⟨_, rfl, _, _, _, [], _, [], hW', trodAll_mk1 (shut_bool Tryd.underlying4 _), (trodAll_cons_mk (Below.trod laidOut (by kernel_rfl) (of_decide_eq_true (by kernel_rfl)) h0 bel lt0) (trodAll_cons_mk (Below.trod laidOut (by kernel_rfl) (of_decide_eq_true (by kernel_rfl)) h1 bel lt1) trodAll_mk0)), rfl, bel.frame _, fun h => by cases h⟩
theorem over : Rows.spanTellsRow.holds Tryd.pinned (OpenSpec.ofChange Rows.spanTellsSpec) :=
  OpenClaim.holds_of_wide 7 Tryd.f7 rfl rfl rfl rfl rfl rfl rfl ⟨rfl, rfl, rfl, rfl, rfl⟩ rfl rfl rfl rfl rfl (by kernel_rfl) Tryd.func7 (by kernel_rfl)
    (of_decide_eq_true (by kernel_rfl)) (by unfold Func.isWrapper; first | (rw [if_pos (by decide +kernel)]; kernel_rfl) | (rw [if_neg (by decide +kernel)]; exact ⟨rfl, rfl⟩))
    (fun os started H enc _ => lifted os started H enc)
/-- THE TIED CARD. -/
theorem proved : Rows.SpanTellsCardSaid :=
  Claim7.holds_tied_plain_at .later [] [.data, .data, .data] true (true, "cd3fbb522060d67cb5d3d7b59ccf9ae7174aa4d58e221fe88ccb4189470c6ff2") false
    over (fun _ h => by cases h) (by kernel_rfl) (fun _ h => by cases h) spanTells_row_tie rfl ⟨rfl, rfl⟩ (by kernel_rfl) rfl
    (fun f fn hf hfn => by
      obtain rfl : f = 7 := Option.some.inj ((show Tryd.prog.funcNamed "oculus/oculuslaw04.SpanTells" = some 7 by kernel_rfl).symm.trans hf) |>.symm
      obtain rfl : fn = Tryd.f7 := (Option.some.inj (Tryd.func7.symm.trans hfn)).symm
      refine ⟨by kernel_rfl, fun j t ht => ?_⟩
      rw [Tryd.params7] at ht
      have hall : ∀ t ∈ #[(42 : TypeId), (23 : TypeId)], Tryd.prog.wantsStandIn t = false := by
        intro t ht
        simp only [List.mem_toArray, List.mem_cons, List.not_mem_nil, or_false] at ht
        rcases ht with rfl | rfl
        · exact (show Tryd.prog.wantsStandIn 42 = false by kernel_rfl)
        · exact (show Tryd.prog.wantsStandIn 23 = false by kernel_rfl)
      exact hall t (Array.mem_of_getElem? ht))
    (by kernel_rfl)
end Go.Proofs.YtjbdljolpkkhcaaDoor.spanTells
namespace Go.Proofs.YtjbdljolpkkhcaaDoor
/-- The row, under a short name, for the claim. -/
theorem spanTells_holds : Rows.SpanTellsCardSaid := spanTells.proved
#print axioms spanTells_holds
end Go.Proofs.YtjbdljolpkkhcaaDoor
