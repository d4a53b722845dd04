/- The law SpanCells: for every input the call returns true, and each argument reads afterwards as it read before: the statement Rows.SpanCellsSaid, whole, with no condition of ours. -/
import Derived.Deep.Slices
import Derived.ChangeArms
import Derived.SizedLaws
import Derived.OpenShut
import Derived.Test.YtcbjihedobhjcaaDoorRows
import Derived.WalkKit
import Derived.ProofKit
import Derived.ShutString
import Derived.ChangeOld
import Derived.Below
import Derived.Carry
import Derived.Handed
import Derived.LaidLaws
import Derived.Lib.LaidTab
import Derived.Test.YtcbjihedobhjcaaDoorCards
import Derived.Test.YtcbjihedobhjcaaDoorTie
import Derived.SevenTiedAt
import Derived.Test.YtcbjihedobhjcaaDoorBSpanCells2
/- What span and its reference answer: spans, their cells. -/
set_option linter.unusedVariables false
set_option linter.unusedSimpArgs false
namespace Go.Proofs.YtcbjihedobhjcaaDoor.X
open Go.RowKit Go.Proofs.YtcbjihedobhjcaaDoorW.PrintWords Go.Proofs.YtcbjihedobhjcaaDoorW.PrintLast Go.Proofs.YtcbjihedobhjcaaDoorW.PrintMore
abbrev Cl := S23
theorem rdC (xs : List Cl) (i : Nat) (h : i < xs.length) : rd_T23 xs (i : Int) = xs[i] := by
  show xs.getD (Int.toNat (i : Int)) _ = _
  rw [Int.toNat_natCast, List.getD_eq_getElem?_getD, List.getElem?_eq_getElem h]; rfl
def mayZ (a b c d : Int) : Bool := decide ((0 ≤ a ∧ a < 999 ∧ 0 ≤ b ∧ b < 702) ∧ (0 ≤ c ∧ c < 999 ∧ 0 ≤ d ∧ d < 702))
theorem addr_may_eq (a b : Int) : addr_May.f a b = some (decide (0 ≤ a ∧ a < 999 ∧ 0 ≤ b ∧ b < 702)) := by
  unfold addr_May.f
  by_cases h1 : a ≥ 0
  · rw [if_pos h1]
    by_cases h2 : a < 999
    · rw [if_pos h2]
      by_cases h3 : b ≥ 0
      · rw [if_pos h3, Option.some.injEq, decide_eq_decide]; omega
      · rw [if_neg h3, decide_eq_false (by omega)]
    · rw [if_neg h2, decide_eq_false (by omega)]
  · rw [if_neg h1, decide_eq_false (by omega)]
theorem span_may_eq (a b c d : Int) : span_May.f a b c d = some (mayZ a b c d) := by
  unfold span_May.f mayZ
  rw [addr_may_eq, Option.bind_some]
  by_cases h : 0 ≤ a ∧ a < 999 ∧ 0 ≤ b ∧ b < 702
  · rw [decide_eq_true h, if_pos rfl, addr_may_eq, Option.bind_some, Option.some.injEq, decide_eq_decide]
    exact ⟨fun g => ⟨h, g⟩, fun g => g.2⟩
  · rw [decide_eq_false h, if_neg (by simp), decide_eq_false (fun g => h g.1)]
theorem rmayd_eq (a b : Int) : oculusref03_May.f a b = some (decide (0 ≤ a ∧ a < 999 ∧ 0 ≤ b ∧ b < 702)) := by
  unfold oculusref03_May.f
  by_cases h1 : a ≥ 0
  · rw [if_pos h1]
    by_cases h2 : a ≤ 998
    · rw [if_pos h2]
      by_cases h3 : b ≥ 0
      · rw [if_pos h3, Option.some.injEq, decide_eq_decide]; omega
      · rw [if_neg h3, decide_eq_false (by omega)]
    · rw [if_neg h2, decide_eq_false (by omega)]
  · rw [if_neg h1, decide_eq_false (by omega)]
theorem rspan_may_eq (a b c d : Int) : oculusref04_May.f a b c d = some (mayZ a b c d) := by
  unfold oculusref04_May.f mayZ
  rw [rmayd_eq, Option.bind_some]
  by_cases h : 0 ≤ a ∧ a < 999 ∧ 0 ≤ b ∧ b < 702
  · rw [decide_eq_true h, if_pos rfl, rmayd_eq, Option.bind_some, Option.some.injEq, decide_eq_decide]
    exact ⟨fun g => ⟨h, g⟩, fun g => g.2⟩
  · rw [decide_eq_false h, if_neg (by simp), decide_eq_false (fun g => h g.1)]
def hasZ (a b c d r q : Int) : Bool := mayZ a b c d && decide ((mn a c ≤ r ∧ r ≤ mx a c) ∧ (mn b d ≤ q ∧ q ≤ mx b d))
theorem span_str (a b c d : Int) (h : mayZ a b c d = true) : span_Straight.f a b c d = some (mn a c, mn b d, mx a c, mx b d) := straight_eq (by rw [span_may_eq, h])
theorem has_ev (a b c d r q : Int) : Ev (fun k => span_Has.f k a b c d r q) (hasZ a b c d r q) := by
  unfold span_Has.f hasZ
  rw [span_may_eq]
  refine ev_bsome ?_
  refine Ev.step (fun k => span_Has.j0.eq_2 _ _ _ _ _ _ _ _) ?_
  cases h : mayZ a b c d with
  | false => exact ev_pos rfl (Ev.now _)
  | true =>
    refine ev_neg (by simp) ?_
    rw [span_str a b c d h]
    refine ev_bsome ?_
    simp only [Bool.true_and]
    by_cases g : (mn a c ≤ r ∧ r ≤ mx a c) ∧ (mn b d ≤ q ∧ q ≤ mx b d)
    · rw [decide_eq_true g]
      exact ev_pos g.1.1 (ev_pos g.1.2 (ev_pos g.2.1 (ev_some fun _ => by rw [decide_eq_true g.2.2])))
    · rw [decide_eq_false g]
      exact ev_ite (fun h1 => ev_ite (fun h2 => ev_ite (fun h3 => ev_some fun _ => by rw [decide_eq_false (fun h4 => g ⟨⟨h1, h2⟩, h3, h4⟩)]) (fun _ => Ev.now _)) (fun _ => Ev.now _)) (fun _ => Ev.now _)
def cellsOf (a b c d : Int) : List Cl := if mayZ a b c d = true ∧ ¬ ((mx a c - mn a c + 1) * (mx b d - mn b d + 1) > 1000) then cellsL (mn a c) (mn b d) (mx a c) (mx b d) else []
theorem mnmx (a c : Int) (h1 : 0 ≤ a ∧ a < 1000) (h2 : 0 ≤ c ∧ c < 1000) : 0 ≤ mn a c ∧ mn a c ≤ mx a c ∧ mx a c < 1000 := by
  unfold mn mx
  refine ⟨?_, ?_, ?_⟩ <;> (repeat' split) <;> omega
theorem may_b {a b c d : Int} (h : mayZ a b c d = true) : (0 ≤ a ∧ a < 1000) ∧ (0 ≤ b ∧ b < 1000) ∧ (0 ≤ c ∧ c < 1000) ∧ (0 ≤ d ∧ d < 1000) := by
  unfold mayZ at h
  have := of_decide_eq_true h
  omega
theorem span_size_eq (a b c d : Int) : span_Size.f a b c d = some (if mayZ a b c d = true then (mx a c - mn a c + 1) * (mx b d - mn b d + 1) else 0) := by
  unfold span_Size.f span_Rows.f span_Cols.f
  rw [span_may_eq, Option.bind_some]
  by_cases h : mayZ a b c d = true
  · have hb := may_b h
    have m1 := mnmx a c hb.1 hb.2.2.1
    have m2 := mnmx b d hb.2.1 hb.2.2.2
    rw [if_pos h, if_pos h, span_str a b c d h]
    simp only [Option.bind_some]
    rw [if_pos h]
    simp only [Option.bind_some]
    generalize mn a c = p0 at *
    generalize mn b d = p1 at *
    generalize mx a c = p2 at *
    generalize mx b d = p3 at *
    rw [w64 (x := p2 - p0) (by omega) (by omega), w64 (x := p2 - p0 + 1) (by omega) (by omega), w64 (x := p3 - p1) (by omega) (by omega), w64 (x := p3 - p1 + 1) (by omega) (by omega)]
    obtain ⟨x, hx⟩ : ∃ x : Nat, p2 - p0 + 1 = (x : Int) := ⟨(p2 - p0 + 1).toNat, by omega⟩
    obtain ⟨y, hy⟩ : ∃ y : Nat, p3 - p1 + 1 = (y : Int) := ⟨(p3 - p1 + 1).toNat, by omega⟩
    rw [hx, hy]
    have hxy : x * y ≤ 1000 * 1000 := Nat.mul_le_mul (by omega) (by omega)
    have hc : (x : Int) * (y : Int) = ((x * y : Nat) : Int) := by simp
    rw [hc, w64 (by omega) (by omega)]
  · rw [if_neg h, if_neg h, Option.bind_some, Option.bind_some, if_neg h, Option.bind_some]
    rw [w64 (by omega) (by omega)]; rfl
theorem span_cells_eq (a b c d : Int) : span_Cells.f a b c d = some (cellsOf a b c d) := by
  unfold span_Cells.f cellsOf allF
  rw [span_size_eq, Option.bind_some, span_may_eq, Option.bind_some]
  by_cases h : mayZ a b c d = true
  · simp only [if_pos h]
    by_cases g : (mx a c - mn a c + 1) * (mx b d - mn b d + 1) > 1000
    · rw [if_pos g, if_neg (fun k => k.2 g)]
    · rw [if_neg g, if_pos ⟨h, g⟩, span_str a b c d h]; rfl
  · simp only [if_neg h]
    rw [if_neg (by omega), if_neg (fun k => h k.1)]
theorem apart_eq (a c : Int) (h1 : 0 ≤ a ∧ a < 1000) (h2 : 0 ≤ c ∧ c < 1000) : oculusref04_apart.f a c = some (mx a c - mn a c) := by
  unfold oculusref04_apart.f mn mx
  by_cases h : a > c
  · rw [if_pos h, w64 (by omega) (by omega)]
    congr 1
    repeat' split
    all_goals omega
  · rw [if_neg h, w64 (by omega) (by omega)]
    congr 1
    repeat' split
    all_goals omega
theorem rows_eq (a b c d : Int) (h : mayZ a b c d = true) : oculusref04_Rows.f a b c d = some (mx a c - mn a c + 1) := by
  have hb := may_b h
  have m1 := mnmx a c hb.1 hb.2.2.1
  unfold oculusref04_Rows.f
  rw [rspan_may_eq, Option.bind_some, if_pos h, apart_eq a c hb.1 hb.2.2.1, Option.bind_some, w64 (by omega) (by omega)]
theorem cols_eq (a b c d : Int) (h : mayZ a b c d = true) : oculusref04_Cols.f a b c d = some (mx b d - mn b d + 1) := by
  have hb := may_b h
  have m1 := mnmx b d hb.2.1 hb.2.2.2
  unfold oculusref04_Cols.f
  rw [rspan_may_eq, Option.bind_some, if_pos h, apart_eq b d hb.2.1 hb.2.2.2, Option.bind_some, w64 (by omega) (by omega)]
theorem rstraight_ev (a b c d : Int) (h : mayZ a b c d = true) : Ev (fun k => oculusref04_Straight.f k a b c d) (mn a c, mn b d, mx a c, mx b d) := by
  unfold oculusref04_Straight.f
  refine ev_bind (ev_some fun _ => rspan_may_eq a b c d) ?_
  refine Ev.step (fun k => oculusref04_Straight.j0.eq_2 _ _ _ _ _ _) ?_
  refine ev_neg (by rw [h]; simp) ?_
  have e : ∀ x y : Int, (mn x y = if x > y then y else x) ∧ (mx x y = if x > y then x else y) := by
    intro x y
    unfold mn mx
    constructor <;> (repeat' split) <;> omega
  refine ev_ite (fun g => ?_) (fun g => ?_)
  · refine Ev.step (fun k => oculusref04_Straight.j1.eq_2 _ _ _ _ _ _ _ _ _) ?_
    rw [(e a c).1, (e a c).2, if_pos g, if_pos g]
    refine ev_ite (fun g2 => ?_) (fun g2 => ?_)
    · rw [(e b d).1, (e b d).2, if_pos g2, if_pos g2]; exact Ev.now _
    · rw [(e b d).1, (e b d).2, if_neg g2, if_neg g2]; exact Ev.now _
  · refine Ev.step (fun k => oculusref04_Straight.j1.eq_2 _ _ _ _ _ _ _ _ _) ?_
    rw [(e a c).1, (e a c).2, if_neg g, if_neg g]
    refine ev_ite (fun g2 => ?_) (fun g2 => ?_)
    · rw [(e b d).1, (e b d).2, if_pos g2, if_pos g2]; exact Ev.now _
    · rw [(e b d).1, (e b d).2, if_neg g2, if_neg g2]; exact Ev.now _
theorem cellsOf_len (a b c d : Int) : (cellsOf a b c d).length ≤ 1000 := by
  unfold cellsOf
  split
  · rename_i g
    have hb := may_b g.1
    have m1 := mnmx a c hb.1 hb.2.2.1
    have m2 := mnmx b d hb.2.1 hb.2.2.2
    unfold cellsL
    rw [rowsLs_length]
    have hg := g.2
    obtain ⟨R, hR⟩ : ∃ R : Nat, mx a c - mn a c + 1 = (R : Int) := ⟨(mx a c - mn a c + 1).toNat, by omega⟩
    obtain ⟨M, hM⟩ : ∃ M : Nat, mx b d - mn b d + 1 = (M : Int) := ⟨(mx b d - mn b d + 1).toNat, by omega⟩
    rw [hR, hM] at hg ⊢
    have hc : (R : Int) * (M : Int) = ((R * M : Nat) : Int) := by simp
    rw [hc] at hg
    simp only [Int.toNat_natCast]
    omega
  · simp
end Go.Proofs.YtcbjihedobhjcaaDoor.X
/- The reference's cells of a span. -/
set_option linter.unusedVariables false
set_option linter.unusedSimpArgs false
namespace Go.Proofs.YtcbjihedobhjcaaDoor.X
open Go.RowKit Go.Proofs.YtcbjihedobhjcaaDoorW.PrintWords Go.Proofs.YtcbjihedobhjcaaDoorW.PrintLast Go.Proofs.YtcbjihedobhjcaaDoorW.PrintMore
section
variable (a b c d : Int) (h : mayZ a b c d = true) (R M : Nat) (hR : mx a c - mn a c + 1 = (R : Int)) (hM : mx b d - mn b d + 1 = (M : Int)) (hs : R * M ≤ 1000)
include h hR hM hs
theorem rcells_l1 (i : Nat) (hi : i < R) (q : List Cl) (hn : Ev (fun k => oculusref04_Cells.l0 k (rowsLs (mn b d) M (mn a c) (i + 1)) ((i + 1 : Nat) : Int) a b c d (mn a c) (mn b d) (mx a c) (mx b d)) q) : ∀ e j, j + e = M → Ev (fun k => oculusref04_Cells.l1 k (rowsLs (mn b d) M (mn a c) i ++ rowL (mn b d) (mn a c + (i : Int)) j) (i : Int) (j : Int) a b c d (mn a c) (mn b d) (mx a c) (mx b d)) q
  | 0, j, hj => by
    have hb := may_b h
    have m1 := mnmx a c hb.1 hb.2.2.1
    refine Ev.step (fun k => oculusref04_Cells.l1.eq_2 _ _ _ _ _ _ _ _ _ _ _ _) ?_
    refine ev_bind (ev_some fun _ => cols_eq a b c d h) ?_
    refine ev_neg (by omega) ?_
    rw [w64s (n := 10000) (by omega) (by omega)]
    rw [rowsLs_succ, show M = j by omega] at hn
    rw [show M = j by omega]
    exact hn
  | e + 1, j, hj => by
    have hb := may_b h
    have m1 := mnmx a c hb.1 hb.2.2.1
    have m2 := mnmx b d hb.2.1 hb.2.2.2
    have hlen : (rowsLs (mn b d) M (mn a c) i ++ rowL (mn b d) (mn a c + (i : Int)) j).length = i * M + j := by rw [List.length_append, rowsLs_length, rowL_length]
    have hle : i * M ≤ R * M := Nat.mul_le_mul_right M (by omega)
    refine Ev.step (fun k => oculusref04_Cells.l1.eq_2 _ _ _ _ _ _ _ _ _ _ _ _) ?_
    refine ev_bind (ev_some fun _ => cols_eq a b c d h) ?_
    refine ev_pos (by omega) (ev_pos (by rw [hlen]; omega) ?_)
    rw [w64s (n := 10000) (by omega) (by omega), w64 (x := mn a c + (i : Int)) (by omega) (by omega), w64 (x := mn b d + (j : Int)) (by omega) (by omega), List.append_assoc, ← rowL_succ]
    exact rcells_l1 i hi q hn e (j + 1) (by omega)
theorem rcells_l0 : ∀ e i, i + e = R → Ev (fun k => oculusref04_Cells.l0 k (rowsLs (mn b d) M (mn a c) i) (i : Int) a b c d (mn a c) (mn b d) (mx a c) (mx b d)) (rowsLs (mn b d) M (mn a c) R)
  | 0, i, hi => by
    refine Ev.step (fun k => oculusref04_Cells.l0.eq_2 _ _ _ _ _ _ _ _ _ _ _) ?_
    refine ev_bind (ev_some fun _ => rows_eq a b c d h) ?_
    rw [show R = i by omega]
    exact ev_neg (by omega) (Ev.now _)
  | e + 1, i, hi => by
    refine Ev.step (fun k => oculusref04_Cells.l0.eq_2 _ _ _ _ _ _ _ _ _ _ _) ?_
    refine ev_bind (ev_some fun _ => rows_eq a b c d h) ?_
    refine ev_pos (by omega) ?_
    have := rcells_l1 a b c d h R M hR hM hs i (by omega) _ (rcells_l0 e (i + 1) (by omega)) M 0 (by omega)
    simpa [rowL] using this
end
theorem rcells_ev (a b c d : Int) : Ev (fun k => oculusref04_Cells.f k a b c d) (cellsOf a b c d) := by
  unfold oculusref04_Cells.f cellsOf
  by_cases h : mayZ a b c d = true
  · have hb := may_b h
    have m1 := mnmx a c hb.1 hb.2.2.1
    have m2 := mnmx b d hb.2.1 hb.2.2.2
    refine ev_bind (rstraight_ev a b c d h) ?_
    refine ev_bind (ev_some fun _ => rspan_may_eq a b c d) (ev_pos h ?_)
    refine ev_bind (ev_some fun _ => rows_eq a b c d h) ?_
    refine ev_bind (ev_some fun _ => cols_eq a b c d h) ?_
    refine Ev.step (fun k => oculusref04_Cells.j0.eq_2 _ _ _ _ _ _ _ _ _ _ _) ?_
    obtain ⟨R, hR⟩ : ∃ R : Nat, mx a c - mn a c + 1 = (R : Int) := ⟨(mx a c - mn a c + 1).toNat, by omega⟩
    obtain ⟨M, hM⟩ : ∃ M : Nat, mx b d - mn b d + 1 = (M : Int) := ⟨(mx b d - mn b d + 1).toNat, by omega⟩
    have hxy : R * M ≤ 1000 * 1000 := Nat.mul_le_mul (by omega) (by omega)
    have hc : (R : Int) * (M : Int) = ((R * M : Nat) : Int) := by simp
    rw [hR, hM, hc, w64 (by omega) (by omega)]
    by_cases g : ((R * M : Nat) : Int) > 1000
    · rw [if_neg (fun k => k.2 g)]
      exact ev_pos (decide_eq_true g) (Ev.now _)
    · rw [if_pos ⟨h, g⟩]
      refine ev_neg (by rw [decide_eq_false g]; simp) ?_
      unfold cellsL
      rw [hR, hM, Int.toNat_natCast, Int.toNat_natCast]
      have := rcells_l0 a b c d h R M hR hM (by omega) R 0 (by omega)
      simpa [rowsLs] using this
  · rw [if_neg (fun k => h k.1)]
    have hst : Ev (fun k => oculusref04_Straight.f k a b c d) (0, 0, 0, 0) := by
      unfold oculusref04_Straight.f
      refine ev_bind (ev_some fun _ => rspan_may_eq a b c d) ?_
      refine Ev.step (fun k => oculusref04_Straight.j0.eq_2 _ _ _ _ _ _) ?_
      have h' : mayZ a b c d = false := by simpa using h
      exact ev_pos (by rw [h']; rfl) (Ev.now _)
    refine ev_bind hst ?_
    refine ev_bind (ev_some fun _ => rspan_may_eq a b c d) (ev_neg h ?_)
    refine Ev.step (fun k => oculusref04_Cells.j0.eq_2 _ _ _ _ _ _ _ _ _ _ _) ?_
    exact ev_pos rfl (Ev.now _)
end Go.Proofs.YtcbjihedobhjcaaDoor.X
/- The law SpanCells as a function of numbers, and its contract. -/
set_option linter.unusedVariables false
set_option linter.unusedSimpArgs false
namespace Go.Proofs.YtcbjihedobhjcaaDoor.X
open Go.RowKit Go.Proofs.YtcbjihedobhjcaaDoorW.PrintWords Go.Proofs.YtcbjihedobhjcaaDoorW.PrintLast Go.Proofs.YtcbjihedobhjcaaDoorW.PrintMore
def oculuslaw04_SpanCells.f (k : Nat) (a0_0 : Int) (a0_1 : Int) (a0_2 : Int) (a0_3 : Int) : Option Bool :=
  (oculusref04_Cells.f k a0_0 a0_1 a0_2 a0_3).bind fun L2 =>
    if oculusref03_Same.f k (cellsOf a0_0 a0_1 a0_2 a0_3) L2 = some true ∧ (∀ i, i < (cellsOf a0_0 a0_1 a0_2 a0_3).length → span_Has.f k a0_0 a0_1 a0_2 a0_3 (rd_T23 (cellsOf a0_0 a0_1 a0_2 a0_3) (i : Int)).f0 (rd_T23 (cellsOf a0_0 a0_1 a0_2 a0_3) (i : Int)).f1 = some true) ∧ oculuslaw04_alive.f k = some true then some true else none
theorem rowL_get (c0 r : Int) : ∀ (n j : Nat), j < n → (rowL c0 r n)[j]? = some ⟨r, c0 + (j : Int)⟩
  | n + 1, j, h => by
    rw [rowL_succ]
    by_cases hj : j < n
    · rw [List.getElem?_append_left (by rw [rowL_length]; exact hj)]; exact rowL_get c0 r n j hj
    · rw [List.getElem?_append_right (by rw [rowL_length]; omega), rowL_length, show j - n = 0 by omega, show n = j by omega]; rfl
theorem rowsLs_get (c0 : Int) (m : Nat) (r0 : Int) : ∀ (n q r : Nat), q < n → r < m → (rowsLs c0 m r0 n)[q * m + r]? = some ⟨r0 + (q : Int), c0 + (r : Int)⟩
  | n + 1, q, r, hq, hr => by
    rw [rowsLs_succ]
    by_cases hn : q < n
    · have h2 : (q + 1) * m ≤ n * m := Nat.mul_le_mul_right m hn
      rw [Nat.succ_mul] at h2
      rw [List.getElem?_append_left (by rw [rowsLs_length]; omega)]
      exact rowsLs_get c0 m r0 n q r hn hr
    · obtain rfl : q = n := by omega
      rw [List.getElem?_append_right (by rw [rowsLs_length]; omega), rowsLs_length, show q * m + r - q * m = r by omega]
      exact rowL_get c0 _ m r hr
theorem split_ix {n m i : Nat} (h : i < n * m) : ∃ q r, q < n ∧ r < m ∧ i = q * m + r := by
  have hm : 0 < m := Nat.pos_of_ne_zero (fun h0 => by subst h0; omega)
  exact ⟨i / m, i % m, Nat.div_lt_of_lt_mul (by rw [Nat.mul_comm]; exact h), Nat.mod_lt _ hm, by rw [Nat.mul_comm]; exact (Nat.div_add_mod i m).symm⟩
theorem rd_of_get {xs : List Cl} {i : Nat} {c : Cl} (h : xs[i]? = some c) : rd_T23 xs (i : Int) = c := by
  obtain ⟨hi, he⟩ := List.getElem?_eq_some_iff.1 h
  rw [rdC xs i hi]; exact he
theorem rows_less (c0 : Int) (m : Nat) (r0 : Int) (n i : Nat) (h : i + 1 < n * m) :
    oculusref03_Less.f (rd_T23 (rowsLs c0 m r0 n) (i : Int)).f0 (rd_T23 (rowsLs c0 m r0 n) (i : Int)).f1 (rd_T23 (rowsLs c0 m r0 n) ((i + 1 : Nat) : Int)).f0 (rd_T23 (rowsLs c0 m r0 n) ((i + 1 : Nat) : Int)).f1 = some true := by
  obtain ⟨q, r, hq, hr, rfl⟩ := split_ix (show i < n * m by omega)
  rw [rd_of_get (rowsLs_get c0 m r0 n q r hq hr)]
  unfold oculusref03_Less.f
  by_cases hl : r + 1 < m
  · rw [show q * m + r + 1 = q * m + (r + 1) by omega, rd_of_get (rowsLs_get c0 m r0 n q (r + 1) hq hl)]
    rw [if_pos rfl, Option.some.injEq, decide_eq_true_eq]
    show c0 + (r : Int) < c0 + ((r + 1 : Nat) : Int)
    omega
  · have e : q * m + r + 1 = (q + 1) * m + 0 := by rw [Nat.succ_mul]; omega
    rw [e] at h ⊢
    have hq1 : q + 1 < n := by
      rcases Nat.lt_or_ge (q + 1) n with h1 | h1
      · exact h1
      · have := Nat.mul_le_mul_right m h1
        omega
    rw [rd_of_get (rowsLs_get c0 m r0 n (q + 1) 0 hq1 (by omega))]
    have hne : ¬ ((⟨r0 + (q : Int), c0 + (r : Int)⟩ : Cl).f0 = (⟨r0 + ((q + 1 : Nat) : Int), c0 + ((0 : Nat) : Int)⟩ : Cl).f0) := by
      show ¬ (r0 + (q : Int) = r0 + ((q + 1 : Nat) : Int)); omega
    rw [if_neg hne, Option.some.injEq, decide_eq_true_eq]
    show r0 + (q : Int) < r0 + ((q + 1 : Nat) : Int)
    omega
theorem allF_eq (a b c d : Int) : allF a b c d = some (if mayZ a b c d = true then cellsL (mn a c) (mn b d) (mx a c) (mx b d) else []) := by
  unfold allF
  rw [span_may_eq, Option.bind_some]
  by_cases h : mayZ a b c d = true
  · rw [if_pos h, if_pos h, span_str a b c d h]; rfl
  · rw [if_neg h, if_neg h]
theorem cellsL_len (a b c d : Int) (h : mayZ a b c d = true) : ((cellsL (mn a c) (mn b d) (mx a c) (mx b d)).length : Int) = (mx a c - mn a c + 1) * (mx b d - mn b d + 1) := by
  have hb := may_b h
  have m1 := mnmx a c hb.1 hb.2.2.1
  have m2 := mnmx b d hb.2.1 hb.2.2.2
  unfold cellsL
  rw [rowsLs_length]
  obtain ⟨R, hR⟩ : ∃ R : Nat, mx a c - mn a c + 1 = (R : Int) := ⟨(mx a c - mn a c + 1).toNat, by omega⟩
  obtain ⟨M, hM⟩ : ∃ M : Nat, mx b d - mn b d + 1 = (M : Int) := ⟨(mx b d - mn b d + 1).toNat, by omega⟩
  rw [hR, hM]
  simp
theorem oculuslaw04_SpanCells.calls (k : Nat) (a0_0 : Int) (a0_1 : Int) (a0_2 : Int) (a0_3 : Int) (r : Bool) (w : World) (hT : Aside0 (Tab w)) (h : oculuslaw04_SpanCells.f k a0_0 a0_1 a0_2 a0_3 = some r) :
    Calls Tryd.prog 3 #[.agg #[.int .i64 a0_0, .int .i64 a0_1, .int .i64 a0_2, .int .i64 a0_3]] w fun e w' => e = .returned (.bool r) ∧ Below w.heap.size w w' := by
  obtain ⟨L2, hR, h⟩ := Option.bind_eq_some_iff.1 h
  by_cases hc : oculusref03_Same.f k (cellsOf a0_0 a0_1 a0_2 a0_3) L2 = some true ∧ (∀ i, i < (cellsOf a0_0 a0_1 a0_2 a0_3).length → span_Has.f k a0_0 a0_1 a0_2 a0_3 (rd_T23 (cellsOf a0_0 a0_1 a0_2 a0_3) (i : Int)).f0 (rd_T23 (cellsOf a0_0 a0_1 a0_2 a0_3) (i : Int)).f1 = some true) ∧ oculuslaw04_alive.f k = some true
  · rw [if_pos hc] at h
    obtain rfl := Option.some.inj h
    refine spanCells_walk k a0_0 a0_1 a0_2 a0_3 _ _ L2 _ w hT (span_cells_eq _ _ _ _) hR hc.1 (cellsOf_len _ _ _ _) ?_ ?_ (allF_eq _ _ _ _) (span_size_eq _ _ _ _) ?_ hc.2.2
    · intro x h0 h1
      have := hc.2.1 x.toNat (by omega)
      rwa [Int.toNat_of_nonneg h0] at this
    · intro x h0 h1
      by_cases hm : mayZ a0_0 a0_1 a0_2 a0_3 = true ∧ ¬ ((mx a0_0 a0_2 - mn a0_0 a0_2 + 1) * (mx a0_1 a0_3 - mn a0_1 a0_3 + 1) > 1000)
      · have e : cellsOf a0_0 a0_1 a0_2 a0_3 = cellsL (mn a0_0 a0_2) (mn a0_1 a0_3) (mx a0_0 a0_2) (mx a0_1 a0_3) := if_pos hm
        rw [e] at h1 ⊢
        unfold cellsL at h1 ⊢
        rw [rowsLs_length] at h1
        obtain ⟨i, hi⟩ : ∃ i : Nat, x = ((i + 1 : Nat) : Int) := ⟨x.toNat - 1, by omega⟩
        subst hi
        rw [show ((i + 1 : Nat) : Int) - 1 = (i : Int) by omega]
        exact rows_less _ _ _ _ i (by omega)
      · have e : cellsOf a0_0 a0_1 a0_2 a0_3 = [] := if_neg hm
        rw [e] at h1
        simp at h1
        omega
    · by_cases hm : mayZ a0_0 a0_1 a0_2 a0_3 = true
      · rw [if_pos hm, if_pos hm]
        have hl := cellsL_len a0_0 a0_1 a0_2 a0_3 hm
        by_cases hg : (mx a0_0 a0_2 - mn a0_0 a0_2 + 1) * (mx a0_1 a0_3 - mn a0_1 a0_3 + 1) > 1000
        · exact .inr ⟨if_neg (fun q => q.2 hg), by omega, by omega⟩
        · left
          have e : cellsOf a0_0 a0_1 a0_2 a0_3 = cellsL (mn a0_0 a0_2) (mn a0_1 a0_3) (mx a0_0 a0_2) (mx a0_1 a0_3) := if_pos ⟨hm, hg⟩
          rw [e]
          exact ⟨rfl, hl.symm⟩
      · rw [if_neg hm, if_neg hm]
        have e : cellsOf a0_0 a0_1 a0_2 a0_3 = [] := if_neg (fun q => hm q.1)
        rw [e]
        exact .inl ⟨rfl, rfl⟩
  · rw [if_neg hc] at h
    cases h
end Go.Proofs.YtcbjihedobhjcaaDoor.X
/- A general opening of a row's arguments: what a value of a type reads as, as a term of a kind 'Kd', with the bounds that the row's reach gives. -/
set_option linter.unusedVariables false
set_option linter.unusedSimpArgs false
namespace Go.Proofs.YtcbjihedobhjcaaDoor.Opn
open Go.ChangeShapes Go.WideShapes Go.RowKit Go.Proofs.YtcbjihedobhjcaaDoorW.PrintWords

def Opens {α : Type} (P : Program) (t : TypeId) (d : Kd α) (good : α → Prop) : Prop :=
  ∀ {H : Type} {enc : TypeId × Value → H} {w : World} {base : Nat} {spare : Nat → Bool} {held : Bool} {fuel : Nat} {cs : List Value} {x : DataW H × List MemPlace},
    DataW.trod enc P w base spare held fuel t cs = some x → (∀ m ∈ x.1.weights P t, m ≤ reachBytes) → ∃ a, d.K w a cs ∧ good a

theorem opens_int {P : Program} {t : TypeId} {k : IntKind} (ht : P.underlying t = some (.int k)) : Opens P t (Kd.int k) (fun n => (Lit.int k n).wf = true) := by
  intro H enc w base spare held fuel cs x hx _
  obtain ⟨n, rfl, rfl, hn⟩ := DataW.trod_int ht hx
  exact ⟨n, rfl, hn⟩
def OpensTail {α : Type} (P : Program) (fs : List Field) (o len : Nat) (d : Kd α) (good : α → Prop) : Prop :=
  ∀ {H : Type} {enc : TypeId × Value → H} {w : World} {base : Nat} {spare : Nat → Bool} {held : Bool} {n : Nat} {cs : List Value} {xs : List (DataW H × List MemPlace)},
    cs.length = len → xs.length = fs.length →
    (∀ (i : Nat) (f : Field), fs[i]? = some f → DataW.trod enc P w base spare held n f.type ((cs.drop f.offset).take (P.cellsOf f.type)) = xs[i]?) →
    (∀ m ∈ DataW.weightsEach P (fs.map (·.type)) (xs.map (·.1)), m ≤ reachBytes) → ∃ a, d.K w a (cs.drop o) ∧ good a

theorem tail_one {α : Type} {P : Program} {f : Field} {o len : Nat} {d : Kd α} {good : α → Prop} (ho : f.offset = o) (hl : len ≤ o + P.cellsOf f.type) (h : Opens P f.type d good) : OpensTail P [f] o len d good := by
  intro H enc w base spare held n cs xs hcs hxs hall hw
  obtain ⟨x, rfl⟩ : ∃ x, xs = [x] := by
    match xs, hxs with
    | [x], _ => exact ⟨x, rfl⟩
  have h0 := hall 0 f rfl
  rw [ho, List.take_of_length_le (by rw [List.length_drop]; omega)] at h0
  exact h h0 (fun m hm => hw m (by simp only [List.map_cons, List.map_nil, DataW.weightsEach, List.mem_append]; exact Or.inl hm))
theorem tail_cons {α β : Type} {P : Program} {f : Field} {fs : List Field} {o o' len : Nat} {a : Kd α} {b : Kd β} {ga : α → Prop} {gb : β → Prop} (ho : f.offset = o) (ho' : o' = o + P.cellsOf f.type)
    (h : Opens P f.type a ga) (ht : OpensTail P fs o' len b gb) : OpensTail P (f :: fs) o len (Kd.pair a b) (fun x => ga x.1 ∧ gb x.2) := by
  intro H enc w base spare held n cs xs hcs hxs hall hw
  obtain ⟨x, xs, rfl⟩ : ∃ x r, xs = x :: r := by
    match xs, hxs with
    | x :: r, _ => exact ⟨x, r, rfl⟩
  have h0 := hall 0 f rfl
  rw [ho] at h0
  obtain ⟨y, hy, hgy⟩ := h h0 (fun m hm => hw m (by simp only [List.map_cons, DataW.weightsEach, List.mem_append]; exact Or.inl hm))
  obtain ⟨z, hz, hgz⟩ := ht (xs := xs) hcs (by simpa using hxs) (fun i g hg => by simpa using hall (i + 1) g (by simpa using hg))
    (fun m hm => hw m (by simp only [List.map_cons, DataW.weightsEach, List.mem_append]; exact Or.inr hm))
  refine ⟨(y, z), ⟨(cs.drop o).take (P.cellsOf f.type), cs.drop o', ?_, hy, hz⟩, hgy, hgz⟩
  rw [ho', ← List.drop_drop, List.take_append_drop]
theorem opens_struct {α β : Type} {P : Program} {t : TypeId} {fs : Array Field} {len : Nat} {d : Kd α} {good : α → Prop} (ht : P.underlying t = some (.struct fs)) (hl : P.cellsOf t = len) (h : OpensTail P fs.toList 0 len d good) (f : β → α) (g : α → β) (hfg : ∀ a, f (g a) = a) :
    Opens P t (Kd.iso d f) (fun x => good (f x)) := by
  intro H enc w base spare held fuel cs x hx hw
  obtain ⟨xs, n, rfl, rfl, hcs, hxs, hall⟩ := DataW.trod_struct ht hx
  obtain ⟨a, ha, hga⟩ := h (xs := xs) (hcs.trans hl) (by simpa using hxs) (fun i f hf => hall i f (by simpa using hf)) (fun m hm => hw m (by simp only [DataW.weights, ht]; exact hm))
  refine ⟨g a, ?_, by show good (f (g a)); rw [hfg]; exact hga⟩
  show d.K w (f (g a)) cs
  rw [hfg]
  simpa using ha
theorem Opens.iso {α β : Type} {P : Program} {t : TypeId} {d : Kd α} {good : α → Prop} (h : Opens P t d good) (f : β → α) (g : α → β) (hfg : ∀ a, f (g a) = a) : Opens P t (Kd.iso d f) (fun x => good (f x)) := by
  intro H enc w base spare held fuel cs x hx hw
  obtain ⟨a, ha, hga⟩ := h hx hw
  refine ⟨g a, ?_, by show good (f (g a)); rw [hfg]; exact hga⟩
  show d.K w (f (g a)) cs
  rw [hfg]
  exact ha
end Go.Proofs.YtcbjihedobhjcaaDoor.Opn
/- The openings of the arguments of the law SpanCells, and its pure statement. -/
set_option linter.unusedVariables false
namespace Go.Proofs.YtcbjihedobhjcaaDoor.X
open Go.RowKit Go.Proofs.YtcbjihedobhjcaaDoorW.PrintWords Go.Proofs.YtcbjihedobhjcaaDoorW.PrintLast Go.Proofs.YtcbjihedobhjcaaDoorW.PrintMore Go.Proofs.YtcbjihedobhjcaaDoor.Opn
def good23 (x : S23) : Prop := ((Lit.int .i64 x.f0).wf = true) ∧ ((Lit.int .i64 x.f1).wf = true)
theorem opens23 : Opens Tryd.prog 23 k23 good23 := opens_struct Tryd.underlying23 (len := 2) (by kernel_rfl) (tail_cons rfl (by kernel_rfl) (opens_int Tryd.underlying3) (tail_one rfl (Nat.le_of_eq (by kernel_rfl)) (opens_int Tryd.underlying3))) (fun x : S23 => (x.f0, x.f1)) (fun a => ⟨a.1, a.2⟩) (fun _ => rfl)
def good25 (x : S25) : Prop := (good23 x.f0) ∧ (good23 x.f1)
theorem opens25 : Opens Tryd.prog 25 k25 good25 := opens_struct Tryd.underlying25 (len := 4) (by kernel_rfl) (tail_cons rfl (by kernel_rfl) opens23 (tail_one rfl (Nat.le_of_eq (by kernel_rfl)) opens23)) (fun x : S25 => (x.f0, x.f1)) (fun a => ⟨a.1, a.2⟩) (fun _ => rfl)
def oculuslaw04_SpanCells.PureX : Prop := ∀ (a0 : S25), (good25 a0) → ∃ k, oculuslaw04_SpanCells.f k (a0.f0.f0) (a0.f0.f1) (a0.f1.f0) (a0.f1.f1) = some true
end Go.Proofs.YtcbjihedobhjcaaDoor.X
/- The pure statement of the law SpanCells: over numbers alone. -/
set_option linter.unusedVariables false
set_option linter.unusedSimpArgs false
namespace Go.Proofs.YtcbjihedobhjcaaDoor.X
open Go.RowKit Go.Proofs.YtcbjihedobhjcaaDoorW.PrintWords Go.Proofs.YtcbjihedobhjcaaDoorW.PrintLast Go.Proofs.YtcbjihedobhjcaaDoorW.PrintMore
theorem alive04_evC : Ev (fun k => oculuslaw04_alive.f k) true := Ev.of (fun k => oculuslaw04_alive.mono k) (k := 60) (by decide +kernel)
theorem sameL_l0 (L : List Cl) (hl : L.length ≤ 1000) : ∀ d i, i + d = L.length → Ev (fun k => oculusref03_Same.l0 k L L (i : Int)) true
  | 0, i, hi => by
    refine Ev.step (fun k => oculusref03_Same.l0.eq_2 _ _ _ _) ?_
    exact ev_neg (by omega) (Ev.now _)
  | d + 1, i, hi => by
    refine Ev.step (fun k => oculusref03_Same.l0.eq_2 _ _ _ _) ?_
    refine ev_pos (by omega) (ev_pos (by omega) (ev_pos (by omega) (ev_neg (by simp) ?_)))
    rw [w64s (n := 10000) (by omega) (by omega)]
    exact sameL_l0 L hl d (i + 1) (by omega)
theorem sameL_ev (L : List Cl) (hl : L.length ≤ 1000) : Ev (fun k => oculusref03_Same.f k L L) true := by
  unfold oculusref03_Same.f
  exact ev_pos rfl (sameL_l0 L hl L.length 0 (by omega))
theorem has_all (a b c d : Int) (L : List Cl) (h : ∀ i, i < L.length → hasZ a b c d (rd_T23 L (i : Int)).f0 (rd_T23 L (i : Int)).f1 = true) : ∀ n, n ≤ L.length → ∃ K, ∀ k, K ≤ k → ∀ i, i < n → span_Has.f k a b c d (rd_T23 L (i : Int)).f0 (rd_T23 L (i : Int)).f1 = some true
  | 0, _ => ⟨0, fun _ _ i hi => absurd hi (Nat.not_lt_zero i)⟩
  | n + 1, hn => by
    obtain ⟨K1, h1⟩ := has_all a b c d L h n (by omega)
    obtain ⟨K2, h2⟩ := has_ev a b c d (rd_T23 L (n : Int)).f0 (rd_T23 L (n : Int)).f1
    rw [h n (by omega)] at h2
    refine ⟨max K1 K2, fun k hk i hi => ?_⟩
    by_cases hin : i < n
    · exact h1 k (by omega) i hin
    · obtain rfl : i = n := by omega
      exact h2 k (by omega)
theorem cells_has (a b c d : Int) (i : Nat) (hi : i < (cellsOf a b c d).length) : hasZ a b c d (rd_T23 (cellsOf a b c d) (i : Int)).f0 (rd_T23 (cellsOf a b c d) (i : Int)).f1 = true := by
  by_cases hm : mayZ a b c d = true ∧ ¬ ((mx a c - mn a c + 1) * (mx b d - mn b d + 1) > 1000)
  · have e : cellsOf a b c d = cellsL (mn a c) (mn b d) (mx a c) (mx b d) := if_pos hm
    rw [e] at hi ⊢
    unfold cellsL at hi ⊢
    rw [rowsLs_length] at hi
    obtain ⟨q, r, hq, hr, rfl⟩ := split_ix hi
    rw [rd_of_get (rowsLs_get _ _ _ _ q r hq hr)]
    unfold hasZ
    rw [hm.1, Bool.true_and, decide_eq_true_eq]
    show (mn a c ≤ mn a c + (q : Int) ∧ mn a c + (q : Int) ≤ mx a c) ∧ (mn b d ≤ mn b d + (r : Int) ∧ mn b d + (r : Int) ≤ mx b d)
    omega
  · have e : cellsOf a b c d = [] := if_neg hm
    rw [e] at hi
    simp at hi
theorem pureSpanCells : oculuslaw04_SpanCells.PureX := by
  intro s hs
  generalize s.f0.f0 = a
  generalize s.f0.f1 = b
  generalize s.f1.f0 = c
  generalize s.f1.f1 = d
  obtain ⟨K1, h1⟩ := rcells_ev a b c d
  obtain ⟨K2, h2⟩ := sameL_ev (cellsOf a b c d) (cellsOf_len a b c d)
  obtain ⟨K3, h3⟩ := has_all a b c d (cellsOf a b c d) (cells_has a b c d) _ (Nat.le_refl _)
  obtain ⟨K4, h4⟩ := alive04_evC
  refine ⟨max (max K1 K2) (max K3 K4), ?_⟩
  unfold oculuslaw04_SpanCells.f
  have e1 := h1 (max (max K1 K2) (max K3 K4)) (by omega)
  have e2 := h2 (max (max K1 K2) (max K3 K4)) (by omega)
  have e4 := h4 (max (max K1 K2) (max K3 K4)) (by omega)
  dsimp only at e1 e2 e4
  rw [e1, Option.bind_some, if_pos ⟨e2, h3 _ (by omega), e4⟩]
end Go.Proofs.YtcbjihedobhjcaaDoor.X
namespace Go.Proofs.YtcbjihedobhjcaaDoor.Pure
theorem SpanCells : X.oculuslaw04_SpanCells.PureX := X.pureSpanCells
end Go.Proofs.YtcbjihedobhjcaaDoor.Pure
/- The row of the law SpanCells: for every input the call returns true and each argument reads afterwards as before, out of its pure statement and the contract of its function. Conditions: none beyond the given statement. -/
namespace Go.Proofs.YtcbjihedobhjcaaDoor.spanCells
open Go.ChangeShapes Go.WideShapes Go.ChangeAt Go.RowKit
open Go.ChangeMaps (open_string shut_string)
open Go.Proofs.YtcbjihedobhjcaaDoor.Opn Go.Proofs.YtcbjihedobhjcaaDoor.X
open Go.Proofs.YtcbjihedobhjcaaDoorW.PrintWords (Kd Drawn0)
set_option linter.unusedVariables false
set_option maxRecDepth 100000
theorem own : ownKnob Tryd.prog.godebug = none := by kernel_rfl
theorem laidOut : laidOutB Tryd.prog = true := by kernel_rfl
theorem tab_vars {P : Program} {W : World} {name : String} {k : IntKind} {zs : List Int} {g : Nat} {t e : TypeId} {n : Nat}
    (hg : P.globalNamed name = some g) (hty : (P.globals[g]?).map (·.type) = some t) (ht : P.underlying t = some (.array n e)) (he : P.underlying e = some (.int k)) (hce : P.cellsOf e = 1) (hct : P.cellsOf t = n) :
    ∀ (l : List (String × DataW Unit)) (ps : List MemPlace), DataW.LaidVars P W l ps → (name, Lib.tabData k zs) ∈ l → Lib.TabIs P W name k zs
  | [], _, _, hm => by simp at hm
  | (nm, d) :: rest, ps, h, hm => by
    obtain ⟨g', t', cs, fuel, p, q, hg', ht', hvar, hd, hr, _⟩ := h
    rcases List.mem_cons.1 hm with e0 | hm
    · cases e0
      obtain rfl := Option.some.inj (hg.symm.trans hg')
      obtain rfl := Option.some.inj (hty.symm.trans ht')
      unfold Lib.TabIs
      rw [hvar, ← Lib.cells_of_tab ht he hce hct hd]
    · exact tab_vars hg hty ht he hce hct rest q hr hm
theorem e_pow : (Rows.laid_internal_strconv_uint64pow10 : DataW Unit) = Lib.tabData .u64 Lib.pow10Tab := by kernel_rfl
theorem e_bru : (Rows.laid_math_bits_deBruijn64tab : DataW Unit) = Lib.tabData .u8 bru64 := by kernel_rfl
theorem tab_of_laid {W : World} (h : laidMet Tryd.prog Rows.spanCellsRow.laid W) : Tab W := by
  obtain ⟨ps, hv, _⟩ := h
  have m_pow : (("internal/strconv.uint64pow10", (Rows.laid_internal_strconv_uint64pow10 : DataW Unit)) : String × DataW Unit) ∈ Rows.spanCellsRow.laid := List.mem_cons_of_mem _ (List.mem_cons_of_mem _ (List.mem_cons_self))
  rw [e_pow] at m_pow
  have h_pow : Lib.TabIs Tryd.prog W "internal/strconv.uint64pow10" .u64 Lib.pow10Tab := tab_vars (g := 1) (t := 67) (e := 61) (n := 20) (by kernel_rfl) (by kernel_rfl) Tryd.underlying67 Tryd.underlying61 (by kernel_rfl) (by kernel_rfl) _ ps hv m_pow
  have m_bru : (("math/bits.deBruijn64tab", (Rows.laid_math_bits_deBruijn64tab : DataW Unit)) : String × DataW Unit) ∈ Rows.spanCellsRow.laid := List.mem_cons_of_mem _ (List.mem_cons_self)
  rw [e_bru] at m_bru
  have h_bru : Lib.TabIs Tryd.prog W "math/bits.deBruijn64tab" .u8 bru64 := tab_vars (g := 3) (t := 73) (e := 5) (n := 64) (by kernel_rfl) (by kernel_rfl) Tryd.underlying73 Tryd.underlying5 (by kernel_rfl) (by kernel_rfl) _ ps hv m_bru
  exact ⟨h_pow, h_bru⟩
noncomputable def laidWorld (os : Os) : World :=
  { World.holding Tryd.prog os ⟨#[], #[], []⟩ with heap := ((((World.holding Tryd.prog os ⟨#[], #[], []⟩).heap.modify 2 (fun | .cells _ t fr => .cells #[.int .u8 0, .int .u8 1, .int .u8 28, .int .u8 2, .int .u8 29, .int .u8 14, .int .u8 24, .int .u8 3, .int .u8 30, .int .u8 22, .int .u8 20, .int .u8 15, .int .u8 25, .int .u8 17, .int .u8 4, .int .u8 8, .int .u8 31, .int .u8 27, .int .u8 13, .int .u8 23, .int .u8 21, .int .u8 19, .int .u8 16, .int .u8 7, .int .u8 26, .int .u8 12, .int .u8 18, .int .u8 6, .int .u8 11, .int .u8 5, .int .u8 10, .int .u8 9] t fr | o => o)).modify 3 (fun | .cells _ t fr => .cells #[.int .u8 0, .int .u8 1, .int .u8 56, .int .u8 2, .int .u8 57, .int .u8 49, .int .u8 28, .int .u8 3, .int .u8 61, .int .u8 58, .int .u8 42, .int .u8 50, .int .u8 38, .int .u8 29, .int .u8 17, .int .u8 4, .int .u8 62, .int .u8 47, .int .u8 59, .int .u8 36, .int .u8 45, .int .u8 43, .int .u8 51, .int .u8 22, .int .u8 53, .int .u8 39, .int .u8 33, .int .u8 30, .int .u8 24, .int .u8 18, .int .u8 12, .int .u8 5, .int .u8 63, .int .u8 55, .int .u8 48, .int .u8 27, .int .u8 60, .int .u8 41, .int .u8 37, .int .u8 16, .int .u8 46, .int .u8 35, .int .u8 44, .int .u8 21, .int .u8 52, .int .u8 32, .int .u8 23, .int .u8 11, .int .u8 54, .int .u8 26, .int .u8 40, .int .u8 15, .int .u8 34, .int .u8 20, .int .u8 31, .int .u8 10, .int .u8 25, .int .u8 14, .int .u8 19, .int .u8 9, .int .u8 13, .int .u8 8, .int .u8 7, .int .u8 6] t fr | o => o)).modify 1 (fun | .cells _ t fr => .cells #[.int .u64 1, .int .u64 10, .int .u64 100, .int .u64 1000, .int .u64 10000, .int .u64 100000, .int .u64 1000000, .int .u64 10000000, .int .u64 100000000, .int .u64 1000000000, .int .u64 10000000000, .int .u64 100000000000, .int .u64 1000000000000, .int .u64 10000000000000, .int .u64 100000000000000, .int .u64 1000000000000000, .int .u64 10000000000000000, .int .u64 100000000000000000, .int .u64 1000000000000000000, .int .u64 10000000000000000000] t fr | o => o)) }
theorem laidWorld_met (os : Os) (args : Array Value) : laidMet Tryd.prog Rows.spanCellsRow.laid ((laidWorld os).forCall (fun _ _ => 0) ⟨#[], args, []⟩).memory := laidMet_of_run' 8 (by kernel_rfl) (by kernel_rfl)
set_option maxRecDepth 100000 in
set_option maxHeartbeats 1000000 in
theorem lifted (os : Os) (started : os.Started) (H : Type) (enc : TypeId × Value → H) :
    ReturnsInHanded {} Tryd.checked os 3 .any (fun w args => (Rows.spanCellsSpec.pre enc Tryd.prog Tryd.f3 Rows.spanCellsRow.domain false w args ∧ laidMet Tryd.prog Rows.spanCellsRow.laid w) ∧ sizedMet enc Tryd.prog Tryd.f3 (OpenSpec.ofChange Rows.spanCellsSpec) false w args) (Rows.spanCellsSpec.post enc Tryd.prog Tryd.f3 false true false false) := by
  refine returnsInHanded_of_change_and (C := Tryd.checked) (X := fun w _ => laidMet Tryd.prog Rows.spanCellsRow.laid w) (fun _ _ _ hh h => h.of_heap hh) own started (by kernel_rfl) Tryd.func3
    (ChangeSpec.witness_at (enc := enc) (C := Tryd.checked) (os := os) (X := fun w _ => laidMet Tryd.prog Rows.spanCellsRow.laid w) false (laidWorld os) #[.agg #[.int .i64 0, .int .i64 0, .int .i64 0, .int .i64 0]] 8 rfl (by kernel_rfl) (by kernel_rfl) (by kernel_rfl) (by kernel_rfl) (by kernel_rfl) (laidWorld_met os _)) ?_
  intro W base args ds gs before hval0 hW hcnd hsz0 hL _
  have hsz : (DataW.weightsEach Tryd.prog (Tryd.f3.params.toList ++ Rows.spanCellsSpec.plain.varTypes Tryd.prog) (ds ++ gs)).all (· ≤ reachBytes) = true := hsz0
  have hval : ∀ (j : Nat) t v, Tryd.f3.params[j]? = some t → args[j]? = some v → Value.okWide Tryd.prog W .any base t v := hval0
  have hW' := hW
  obtain ⟨p, q, hA0, hV, rfl, hfz, hnd⟩ := hW
  have hA : DataW.TrodAll enc Tryd.prog W 0 (fun _ => true) true Tryd.f3.params.toList args.toList ds p := hA0
  rw [Tryd.params3] at hA hval hsz
  obtain ⟨v0, vs0, d0, ds0, p0, q0, hargs, rfl, rfl, h0, r0⟩ := trodAll_cons hA
  obtain ⟨rfl, rfl, rfl⟩ := trodAll_nil r0
  obtain rfl : args = #[v0] := by cases args; simp_all
  obtain ⟨rfl, rfl⟩ := trodVars_none hV
  have lt0 : ∀ x ∈ p0, x.block < W.heap.size := by obtain ⟨m, hm⟩ := h0; exact DataW.trod_lt m _ _ _ hm
  have hw0 : ∀ m ∈ d0.weights Tryd.prog 25, m ≤ reachBytes := fun m hm => of_decide_eq_true (List.all_eq_true.1 hsz m (DataW.weights_mem_each (j := 0) (t := 25) rfl rfl m hm))
  obtain ⟨a0, K0, g0⟩ : ∃ a, (k25 : Kd S25).K W a v0.cells.toList ∧ (good25 a) := by
    obtain ⟨fuel, hf⟩ := h0
    exact opens25 hf hw0
  obtain ⟨cs0, rfl, _⟩ := okWide_struct Tryd.underlying25 (hval 0 25 v0 rfl rfl)
  have KO0 := k25_open K0
  obtain rfl : cs0 = #[.int .i64 a0.f0.f0, .int .i64 a0.f0.f1, .int .i64 a0.f1.f0, .int .i64 a0.f1.f1] := by
    have : cs0.toList = _ := KO0
    cases cs0; simp_all
  obtain ⟨k, hk⟩ := Pure.SpanCells a0 g0
  clear hA0 hval0 hsz0 hsz
  refine (oculuslaw04_SpanCells.calls k (a0.f0.f0) (a0.f0.f1) (a0.f1.f0) (a0.f1.f1) true W ⟨tab_of_laid hL⟩ hk).mono fun e W' ⟨he, bel0⟩ => ?_
  have bel : Below W.heap.size W W' := bel0
  subst he
  exact ⟨_, rfl, _, _, _, [], _, [], hW', trodAll_mk1 (shut_bool Tryd.underlying4 _), (trodAll_cons_mk (Below.trod laidOut (by kernel_rfl) (of_decide_eq_true (by kernel_rfl)) h0 bel lt0) trodAll_mk0), rfl, bel.frame _, fun h => by cases h⟩
theorem over : Rows.spanCellsRow.holds Tryd.pinned (OpenSpec.ofChange Rows.spanCellsSpec) :=
  OpenClaim.holds_of_wide 3 Tryd.f3 rfl rfl rfl rfl rfl rfl rfl ⟨rfl, rfl, rfl, rfl, rfl⟩ rfl rfl rfl rfl rfl (by kernel_rfl) Tryd.func3 (by kernel_rfl)
    (of_decide_eq_true (by kernel_rfl)) (by unfold Func.isWrapper; first | (rw [if_pos (by decide +kernel)]; kernel_rfl) | (rw [if_neg (by decide +kernel)]; exact ⟨rfl, rfl⟩))
    (fun os started H enc _ => lifted os started H enc)
theorem proved : Rows.SpanCellsCardSaid :=
  Claim7.holds_tied_plain_at .later [] [.data, .data, .data] true (true, "64cf98877057f68b2e5a827b4384d3fd293808ab07f490a2d2195850612861e1") false
    over (fun _ h => by cases h) (by kernel_rfl) (fun _ h => by cases h) spanCells_row_tie rfl ⟨rfl, rfl⟩ (by kernel_rfl) rfl
    (fun f fn hf hfn => by
      obtain rfl : f = 3 := Option.some.inj ((show Tryd.prog.funcNamed "oculus/oculuslaw04.SpanCells" = some 3 by kernel_rfl).symm.trans hf) |>.symm
      obtain rfl : fn = Tryd.f3 := (Option.some.inj (Tryd.func3.symm.trans hfn)).symm
      refine ⟨by kernel_rfl, fun j t ht => ?_⟩
      rw [Tryd.params3] at ht
      have hall : ∀ t ∈ #[(25 : TypeId)], Tryd.prog.wantsStandIn t = false := by
        intro t ht
        simp only [List.mem_toArray, List.mem_cons, List.not_mem_nil, or_false] at ht
        rcases ht with rfl
        · exact (show Tryd.prog.wantsStandIn 25 = false by kernel_rfl)
      exact hall t (Array.mem_of_getElem? ht))
    (by kernel_rfl)
end Go.Proofs.YtcbjihedobhjcaaDoor.spanCells
namespace Go.Proofs.YtcbjihedobhjcaaDoor
theorem spanCells_holds : Rows.SpanCellsCardSaid := spanCells.proved
#print axioms spanCells_holds
end Go.Proofs.YtcbjihedobhjcaaDoor
