/- The law AddrBack: for every input the call returns true, and each argument reads afterwards as it read before: the statement Rows.AddrBackSaid, whole, with no condition of ours. -/
import Derived.Test.YtjbdljolpkkhcaaDoorRows
import Derived.WalkKit
import Derived.ProofKit
import Derived.OpenShut
import Derived.ShutString
import Derived.ChangeOld
import Derived.Below
import Derived.SizedLaws
import Derived.Carry
import Derived.Handed
import Derived.LaidLaws
import Derived.Lib.LaidTab
import Derived.Test.YtjbdljolpkkhcaaDoorCards
import Derived.Test.YtjbdljolpkkhcaaDoorTie
import Derived.SevenTiedAt
import Derived.Test.YtjbdljolpkkhcaaDoorBAddrBack1
/- The reference's Parse is the code's. -/
set_option linter.unusedVariables false
set_option linter.unusedSimpArgs false
namespace Go.Proofs.YtjbdljolpkkhcaaDoor.X
open Go.RowKit Go.Proofs.YtjbdljolpkkhcaaDoorW.PrintWords Go.Proofs.YtjbdljolpkkhcaaDoorW.PrintLast Go.Proofs.YtjbdljolpkkhcaaDoorW.PrintMore
theorem rcol_ev (t : List UInt8) : Ev (fun k => oculusref03_Column.f k (tx t)) (colS t) := by rw [← srch_col]; exact rcolumn_ev t
theorem rnum_ev (t : List UInt8) : Ev (fun k => oculusref03_Number.f k (tx t)) (numS t) := by rw [← srch_num]; exact rnumber_ev t
def stepS (l : List UInt8) (i : Nat) (q : Int × Int × Bool) : Int × Int × Bool := if (colS (l.take i)).2 = true then (if (numS (l.drop i)).2 = true then ((numS (l.drop i)).1, (colS (l.take i)).1, true) else q) else q
def rpS (l : List UInt8) : Int × Int × Bool := if 1 ≤ l.length then stepS l 1 (if 2 ≤ l.length then stepS l 2 (0, 0, false) else (0, 0, false)) else (0, 0, false)
theorem rparse_j1f (l : List UInt8) (i : Int) : Ev (fun k => oculusref03_Parse.j1 k (tx l) i false) (0, 0, false) := by
  refine Ev.step (fun k => oculusref03_Parse.j1.eq_2 _ _ _ _) ?_
  exact ev_neg (by simp) (Ev.now _)
theorem rparse_step (l : List UInt8) (i : Nat) (hi : 1 ≤ i ∧ i ≤ 2) (q : Int × Int × Bool) (hn : Ev (fun k => oculusref03_Parse.l0 k (tx l) ((i + 1 : Nat) : Int)) q) : Ev (fun k => oculusref03_Parse.l0 k (tx l) (i : Int)) (if i ≤ l.length then stepS l i q else (0, 0, false)) := by
  have hz := size_tx l
  refine Ev.step (fun k => oculusref03_Parse.l0.eq_2 _ _ _) ?_
  refine ev_pos (by omega) ?_
  by_cases h : i ≤ l.length
  · rw [if_pos h, decide_eq_true (by omega)]
    refine Ev.step (fun k => oculusref03_Parse.j1.eq_2 _ _ _ _) ?_
    refine ev_pos rfl (ev_pos (by omega) (ev_pos (by omega) ?_))
    rw [Int.toNat_natCast, ext_head, ext_tail, by_tx, w64s (n := 100) (by omega) (by omega)]
    refine ev_bind (rcol_ev _) (ev_bind (rnum_ev _) ?_)
    unfold stepS
    refine ev_ite (fun h1 => ev_ite (fun h2 => ?_) (fun h2 => ?_)) (fun h1 => ?_)
    · rw [if_pos h1, if_pos h2]; exact Ev.now _
    · rw [if_pos h1, if_neg h2]; exact hn
    · rw [if_neg h1]; exact hn
  · rw [if_neg h, decide_eq_false (by omega)]
    exact rparse_j1f l i
theorem rparse_ev (l : List UInt8) : Ev (fun k => oculusref03_Parse.f k (tx l)) (rpS l) := by
  unfold oculusref03_Parse.f rpS
  refine rparse_step l 1 (by omega) _ (rparse_step l 2 (by omega) _ ?_)
  refine Ev.step (fun k => oculusref03_Parse.l0.eq_2 _ _ _) ?_
  exact ev_neg (by omega) (rparse_j1f l _)
theorem num_upper (b : UInt8) (l : List UInt8) (hb : isU b = true) : ¬ (numS (b :: l)).2 = true := by
  unfold isU at hb
  have hb := of_decide_eq_true hb
  unfold numS
  split
  · simp
  · simp only [numF]
    rw [if_neg (by unfold isD; simp; omega)]
    simp
theorem num_nil : ¬ (numS []).2 = true := by simp [numS]
theorem col_one (a : UInt8) : (colS [a]).2 = true ↔ isU a = true := by
  unfold colS
  rw [if_neg (by simp)]
  simp only [colF]
  by_cases h : isU a = true
  · rw [if_pos h]; simp [h]
  · rw [if_neg h]; simp [h]
theorem col_two (a b : UInt8) : (colS [a, b]).2 = true ↔ (isU a = true ∧ isU b = true) := by
  unfold colS
  rw [if_neg (by simp)]
  simp only [colF]
  by_cases h : isU a = true
  · rw [if_pos h]
    by_cases g : isU b = true
    · rw [if_pos g]; simp [h, g]
    · rw [if_neg g]; simp [g]
  · rw [if_neg h]; simp [h]
theorem rp_one (a : UInt8) : rpS [a] = if (colS [a]).2 = true then (if (numS []).2 = true then ((numS []).1, (colS [a]).1, true) else (0, 0, false)) else (0, 0, false) := rfl
theorem rp_two (a b : UInt8) (m : List UInt8) : rpS (a :: b :: m) = if (colS [a]).2 = true then (if (numS (b :: m)).2 = true then ((numS (b :: m)).1, (colS [a]).1, true) else (if (colS [a, b]).2 = true then (if (numS m).2 = true then ((numS m).1, (colS [a, b]).1, true) else (0, 0, false)) else (0, 0, false))) else (if (colS [a, b]).2 = true then (if (numS m).2 = true then ((numS m).1, (colS [a, b]).1, true) else (0, 0, false)) else (0, 0, false)) := by
  unfold rpS
  rw [if_pos (show 1 ≤ (a :: b :: m).length by simp), if_pos (show 2 ≤ (a :: b :: m).length by simp)]
  rfl
def parF (a r : List UInt8) : Int × Int × Bool := if (colS a).2 = true then (if (numS r).2 = true then ((numS r).1, (colS a).1, true) else (0, 0, false)) else (0, 0, false)
theorem par_F (l : List UInt8) : parS l = parF (l.takeWhile isU) (l.dropWhile isU) := rfl
theorem parF_num {a r : List UInt8} (h : ¬ (numS r).2 = true) : parF a r = (0, 0, false) := by unfold parF; rw [if_neg h]; split <;> rfl
theorem parF_col {a r : List UInt8} (h : ¬ (colS a).2 = true) : parF a r = (0, 0, false) := by unfold parF; rw [if_neg h]
theorem par_rp (l : List UInt8) : parS l = rpS l := by
  rw [par_F]
  match l with
  | [] => exact parF_num num_nil
  | [a] =>
    rw [rp_one, if_neg num_nil]
    by_cases h : isU a = true
    · rw [List.takeWhile_cons_of_pos h, List.dropWhile_cons_of_pos h, List.dropWhile_nil, parF_num num_nil]
      split <;> rfl
    · rw [List.takeWhile_cons_of_neg h, parF_col (by simp [colS])]
      split <;> rfl
  | a :: b :: m =>
    rw [rp_two]
    by_cases h : isU a = true
    · rw [List.takeWhile_cons_of_pos h, List.dropWhile_cons_of_pos h]
      by_cases g : isU b = true
      · rw [List.takeWhile_cons_of_pos g, List.dropWhile_cons_of_pos g, if_neg (num_upper b m g)]
        have e2 : parF (a :: b :: m.takeWhile isU) (m.dropWhile isU) = (if (colS [a, b]).2 = true then (if (numS m).2 = true then ((numS m).1, (colS [a, b]).1, true) else (0, 0, false)) else (0, 0, false)) := by
          cases m with
          | nil => rfl
          | cons c r =>
            by_cases k : isU c = true
            · rw [List.takeWhile_cons_of_pos k, parF_col (by unfold colS; rw [if_pos (by simp)]; simp), if_neg (num_upper c r k)]
              split <;> rfl
            · rw [List.takeWhile_cons_of_neg k, List.dropWhile_cons_of_neg k]; rfl
        rw [e2, if_pos ((col_one a).2 h)]
      · rw [List.takeWhile_cons_of_neg g, List.dropWhile_cons_of_neg g, if_neg (fun k => g ((col_two a b).1 k).2)]
        unfold parF
        split <;> rfl
    · rw [List.takeWhile_cons_of_neg h, parF_col (by simp [colS]), if_neg (fun k => h ((col_one a).1 k)), if_neg (fun k => h ((col_two a b).1 k).1)]
end Go.Proofs.YtjbdljolpkkhcaaDoor.X
/- The pure statement of the law AddrBack: over texts and numbers alone. -/
set_option linter.unusedVariables false
set_option linter.unusedSimpArgs false
namespace Go.Proofs.YtjbdljolpkkhcaaDoor.Pure
open Go.RowKit Go.Proofs.YtjbdljolpkkhcaaDoor.X Go.Proofs.YtjbdljolpkkhcaaDoorW.PrintWords Go.Proofs.YtjbdljolpkkhcaaDoorW.PrintLast Go.Proofs.YtjbdljolpkkhcaaDoorW.PrintMore
theorem let_all : ∀ n : Fin 702, (letL n.val).all isU = true := by decide +kernel
theorem dig_head : ∀ n : Fin 999, (match digL (n.val + 1) with | [] => true | b :: _ => isU b) = false := by decide +kernel
theorem tw_app (p : UInt8 → Bool) (r : List UInt8) (hr : ∀ b m, r = b :: m → p b = false) : ∀ a : List UInt8, a.all p = true → (a ++ r).takeWhile p = a ∧ (a ++ r).dropWhile p = r
  | [], _ => by
    cases r with
    | nil => exact ⟨rfl, rfl⟩
    | cons b m =>
      have := hr b m rfl
      rw [List.nil_append, List.takeWhile_cons_of_neg (by rw [this]; simp), List.dropWhile_cons_of_neg (by rw [this]; simp)]
      exact ⟨rfl, rfl⟩
  | x :: a, h => by
    rw [List.all_cons, Bool.and_eq_true] at h
    have ih := tw_app p r hr a h.2
    rw [List.cons_append, List.takeWhile_cons_of_pos h.1, List.dropWhile_cons_of_pos h.1, ih.1, ih.2]
    exact ⟨rfl, rfl⟩
theorem par_name (r c : Int) : parS (nameL r c) = if mayI r c = true then (r, c, true) else (0, 0, false) := by
  unfold nameL
  by_cases h : mayI r c = true
  · rw [if_pos h, if_pos h]
    unfold mayI at h
    have hb := of_decide_eq_true h
    have hd := dig_head ⟨r.toNat, by omega⟩
    obtain ⟨t1, t2⟩ := tw_app isU (digL (r.toNat + 1)) (fun b m e => by simp only at hd; rw [e] at hd; exact hd) (letL c.toNat) (let_all ⟨c.toNat, by omega⟩)
    rw [par_F, t1, t2]
    unfold parF
    have e1 := col_let ⟨c.toNat, by omega⟩
    have e2 := num_dig ⟨r.toNat, by omega⟩
    simp only at e1 e2
    rw [e1, e2, if_pos rfl, if_pos rfl]
    simp only [Prod.mk.injEq]
    exact ⟨by omega, by omega, trivial⟩
  · rw [if_neg h, if_neg h]
    exact parF_num num_nil
theorem name_ne (r c : Int) : ((tx (nameL r c)).toList == ([] : List UInt8)) = !(mayI r c) := by
  rw [toList_by, by_tx]
  unfold nameL
  cases h : mayI r c with
  | false => rw [if_neg (by simp)]; rfl
  | true =>
    rw [if_pos rfl]
    have : letL c.toNat ≠ [] := by unfold letL; split <;> simp
    rw [Bool.not_true, beq_eq_false_iff_ne]
    intro e
    exact this (List.append_eq_nil_iff.1 e).1
theorem par_back {l : List UInt8} {r c : Int} (h : parS l = (r, c, true)) : mayI r c = true ∧ nameL r c = l := by
  rw [par_F] at h
  have ha : l.takeWhile isU ++ l.dropWhile isU = l := List.takeWhile_append_dropWhile
  unfold parF at h
  by_cases h1 : (colS (l.takeWhile isU)).2 = true
  · rw [if_pos h1] at h
    by_cases h2 : (numS (l.dropWhile isU)).2 = true
    · rw [if_pos h2] at h
      obtain ⟨n, hn, e1⟩ := col_ok _ h1
      obtain ⟨m, hm, e2⟩ := num_ok _ h2
      simp only [Prod.mk.injEq] at h
      have c1 := col_let ⟨n, hn⟩
      have c2 := num_dig ⟨m, hm⟩
      simp only at c1 c2
      rw [← e1, ← e2, c1, c2] at h
      simp only at h
      obtain ⟨rfl, rfl, _⟩ := h
      have hm2 : mayI (m : Int) (n : Int) = true := by unfold mayI; rw [decide_eq_true_eq]; omega
      refine ⟨hm2, ?_⟩
      unfold nameL
      rw [if_pos hm2, Int.toNat_natCast, Int.toNat_natCast, e1, e2, ha]
    · rw [if_neg h2] at h; simp at h
  · rw [if_neg h1] at h; simp at h
theorem back_j0 (l : List UInt8) : Ev (fun k => oculuslaw03_AddrBack.j0 k (tx l) (parS l).2.2 false (parS l).1 (parS l).2.1) true := by
  refine Ev.step (fun k => oculuslaw03_AddrBack.j0.eq_2 _ _ _ _ _ _) ?_
  refine ev_neg (by simp) ?_
  refine ev_ite (fun h => ?_) (fun _ => ev_bind alive03_ev (Ev.now _))
  obtain ⟨h1, h2⟩ := par_back (l := l) (r := (parS l).1) (c := (parS l).2.1) (by rw [← h])
  refine ev_bind (ev_some fun _ => amay_eq _ _) (ev_pos h1 ?_)
  refine ev_bind (name_ev _ _) (ev_pos (by rw [h2]) ?_)
  exact ev_bind alive03_ev (Ev.now _)
theorem AddrBack : oculuslaw03_AddrBack.PureX := by
  intro a s _ _
  obtain ⟨l, rfl⟩ : ∃ l, s = tx l := ⟨by_ s, (tx_by s).symm⟩
  have hz := size_tx l
  apply Ev.rounds
  unfold oculuslaw03_AddrBack.f
  refine ev_ite (fun _ => ev_bind alive03_ev (Ev.now _)) (fun h => ?_)
  refine ev_bind (name_ev _ _) ?_
  have hn : (nameL a.f0 a.f1).length ≤ 1000 := by
    unfold nameL
    split
    · rw [List.length_append]
      have h1 := letL_len a.f1.toNat
      have h2 := digL_len (a.f0.toNat + 1)
      omega
    · simp
  have hp := parse_ev _ hn
  rw [par_name] at hp
  refine ev_bind hp (ev_bind (parse_ev l (by omega)) (ev_bind (ev_some fun _ => amay_eq _ _) ?_))
  have hj := back_j0 l
  cases hm : mayI a.f0 a.f1 with
  | true =>
    refine ev_neg (by simp) (ev_pos (by simp) (ev_neg (by simp) ?_))
    simp only [name_ne, hm]
    exact hj
  | false =>
    refine ev_neg (by simp) (ev_neg (by simp) ?_)
    simp only [name_ne, hm]
    exact hj
end Go.Proofs.YtjbdljolpkkhcaaDoor.Pure
/- The row of the law AddrBack: for every input the call returns true and each argument reads afterwards as before, out of its pure statement and the contract of its function. Conditions: none beyond the given statement. -/
namespace Go.Proofs.YtjbdljolpkkhcaaDoor.addrBack
open Go.ChangeShapes Go.WideShapes Go.ChangeAt Go.RowKit
open Go.ChangeMaps (open_string shut_string)
open Go.Proofs.YtjbdljolpkkhcaaDoor.Opn Go.Proofs.YtjbdljolpkkhcaaDoor.X
open Go.Proofs.YtjbdljolpkkhcaaDoorW.PrintWords (Kd Drawn0)
set_option linter.unusedVariables false
set_option maxRecDepth 100000
theorem own : ownKnob Tryd.prog.godebug = none := by kernel_rfl
theorem laidOut : laidOutB Tryd.prog = true := by kernel_rfl
/-- What a listed table of whole numbers holds, out of the row's condition. -/
theorem tab_vars {P : Program} {W : World} {name : String} {k : IntKind} {zs : List Int} {g : Nat} {t e : TypeId} {n : Nat}
    (hg : P.globalNamed name = some g) (hty : (P.globals[g]?).map (·.type) = some t) (ht : P.underlying t = some (.array n e)) (he : P.underlying e = some (.int k)) (hce : P.cellsOf e = 1) (hct : P.cellsOf t = n) :
    ∀ (l : List (String × DataW Unit)) (ps : List MemPlace), DataW.LaidVars P W l ps → (name, Lib.tabData k zs) ∈ l → Lib.TabIs P W name k zs
  | [], _, _, hm => by simp at hm
  | (nm, d) :: rest, ps, h, hm => by
    obtain ⟨g', t', cs, fuel, p, q, hg', ht', hvar, hd, hr, _⟩ := h
    rcases List.mem_cons.1 hm with e0 | hm
    · cases e0
      obtain rfl := Option.some.inj (hg.symm.trans hg')
      obtain rfl := Option.some.inj (hty.symm.trans ht')
      unfold Lib.TabIs
      rw [hvar, ← Lib.cells_of_tab ht he hce hct hd]
    · exact tab_vars hg hty ht he hce hct rest q hr hm
theorem e_pow : (Rows.laid_internal_strconv_uint64pow10 : DataW Unit) = Lib.tabData .u64 Lib.pow10Tab := by kernel_rfl
theorem e_bru : (Rows.laid_math_bits_deBruijn64tab : DataW Unit) = Lib.tabData .u8 bru64 := by kernel_rfl
theorem tab_of_laid {W : World} (h : laidMet Tryd.prog Rows.addrBackRow.laid W) : Tab W := by
  obtain ⟨ps, hv, _⟩ := h
  have m_pow : (("internal/strconv.uint64pow10", (Rows.laid_internal_strconv_uint64pow10 : DataW Unit)) : String × DataW Unit) ∈ Rows.addrBackRow.laid := List.mem_cons_of_mem _ (List.mem_cons_of_mem _ (List.mem_cons_self))
  rw [e_pow] at m_pow
  have h_pow : Lib.TabIs Tryd.prog W "internal/strconv.uint64pow10" .u64 Lib.pow10Tab := tab_vars (g := 1) (t := 81) (e := 72) (n := 20) (by kernel_rfl) (by kernel_rfl) Tryd.underlying81 Tryd.underlying72 (by kernel_rfl) (by kernel_rfl) _ ps hv m_pow
  have m_bru : (("math/bits.deBruijn64tab", (Rows.laid_math_bits_deBruijn64tab : DataW Unit)) : String × DataW Unit) ∈ Rows.addrBackRow.laid := List.mem_cons_of_mem _ (List.mem_cons_self)
  rw [e_bru] at m_bru
  have h_bru : Lib.TabIs Tryd.prog W "math/bits.deBruijn64tab" .u8 bru64 := tab_vars (g := 3) (t := 90) (e := 5) (n := 64) (by kernel_rfl) (by kernel_rfl) Tryd.underlying90 Tryd.underlying5 (by kernel_rfl) (by kernel_rfl) _ ps hv m_bru
  exact ⟨h_pow, h_bru⟩
/-- A world that meets the condition: the settled one, the tables laid. -/
noncomputable def laidWorld (os : Os) : World :=
  { World.holding Tryd.prog os ⟨#[], #[], []⟩ with heap := ((((World.holding Tryd.prog os ⟨#[], #[], []⟩).heap.modify 2 (fun | .cells _ t fr => .cells #[.int .u8 0, .int .u8 1, .int .u8 28, .int .u8 2, .int .u8 29, .int .u8 14, .int .u8 24, .int .u8 3, .int .u8 30, .int .u8 22, .int .u8 20, .int .u8 15, .int .u8 25, .int .u8 17, .int .u8 4, .int .u8 8, .int .u8 31, .int .u8 27, .int .u8 13, .int .u8 23, .int .u8 21, .int .u8 19, .int .u8 16, .int .u8 7, .int .u8 26, .int .u8 12, .int .u8 18, .int .u8 6, .int .u8 11, .int .u8 5, .int .u8 10, .int .u8 9] t fr | o => o)).modify 3 (fun | .cells _ t fr => .cells #[.int .u8 0, .int .u8 1, .int .u8 56, .int .u8 2, .int .u8 57, .int .u8 49, .int .u8 28, .int .u8 3, .int .u8 61, .int .u8 58, .int .u8 42, .int .u8 50, .int .u8 38, .int .u8 29, .int .u8 17, .int .u8 4, .int .u8 62, .int .u8 47, .int .u8 59, .int .u8 36, .int .u8 45, .int .u8 43, .int .u8 51, .int .u8 22, .int .u8 53, .int .u8 39, .int .u8 33, .int .u8 30, .int .u8 24, .int .u8 18, .int .u8 12, .int .u8 5, .int .u8 63, .int .u8 55, .int .u8 48, .int .u8 27, .int .u8 60, .int .u8 41, .int .u8 37, .int .u8 16, .int .u8 46, .int .u8 35, .int .u8 44, .int .u8 21, .int .u8 52, .int .u8 32, .int .u8 23, .int .u8 11, .int .u8 54, .int .u8 26, .int .u8 40, .int .u8 15, .int .u8 34, .int .u8 20, .int .u8 31, .int .u8 10, .int .u8 25, .int .u8 14, .int .u8 19, .int .u8 9, .int .u8 13, .int .u8 8, .int .u8 7, .int .u8 6] t fr | o => o)).modify 1 (fun | .cells _ t fr => .cells #[.int .u64 1, .int .u64 10, .int .u64 100, .int .u64 1000, .int .u64 10000, .int .u64 100000, .int .u64 1000000, .int .u64 10000000, .int .u64 100000000, .int .u64 1000000000, .int .u64 10000000000, .int .u64 100000000000, .int .u64 1000000000000, .int .u64 10000000000000, .int .u64 100000000000000, .int .u64 1000000000000000, .int .u64 10000000000000000, .int .u64 100000000000000000, .int .u64 1000000000000000000, .int .u64 10000000000000000000] t fr | o => o)) }
theorem laidWorld_met (os : Os) (args : Array Value) : laidMet Tryd.prog Rows.addrBackRow.laid ((laidWorld os).forCall (fun _ _ => 0) ⟨#[], args, []⟩).memory := laidMet_of_run' 8 (by kernel_rfl) (by kernel_rfl)
set_option maxRecDepth 100000 in
set_option maxHeartbeats 1000000 in
theorem lifted (os : Os) (started : os.Started) (H : Type) (enc : TypeId × Value → H) :
    ReturnsInHanded {} Tryd.checked os 5 .any (fun w args => (Rows.addrBackSpec.pre enc Tryd.prog Tryd.f5 Rows.addrBackRow.domain false w args ∧ laidMet Tryd.prog Rows.addrBackRow.laid w) ∧ sizedMet enc Tryd.prog Tryd.f5 (OpenSpec.ofChange Rows.addrBackSpec) false w args) (Rows.addrBackSpec.post enc Tryd.prog Tryd.f5 false true false false) := by
  refine returnsInHanded_of_change_and (C := Tryd.checked) (X := fun w _ => laidMet Tryd.prog Rows.addrBackRow.laid w) (fun _ _ _ hh h => h.of_heap hh) own started (by kernel_rfl) Tryd.func5
    (ChangeSpec.witness_at (enc := enc) (C := Tryd.checked) (os := os) (X := fun w _ => laidMet Tryd.prog Rows.addrBackRow.laid w) false (laidWorld os) #[.agg #[.int .i64 0, .int .i64 0], .string ByteArray.empty] 8 rfl (by kernel_rfl) (by kernel_rfl) (by kernel_rfl) (by kernel_rfl) (by kernel_rfl) (laidWorld_met os _)) ?_
  intro W base args ds gs before hval0 hW hcnd hsz0 hL _
  have hsz : (DataW.weightsEach Tryd.prog (Tryd.f5.params.toList ++ Rows.addrBackSpec.plain.varTypes Tryd.prog) (ds ++ gs)).all (· ≤ reachBytes) = true := hsz0
  have hval : ∀ (j : Nat) t v, Tryd.f5.params[j]? = some t → args[j]? = some v → Value.okWide Tryd.prog W .any base t v := hval0
  have hW' := hW
  obtain ⟨p, q, hA0, hV, rfl, hfz, hnd⟩ := hW
  have hA : DataW.TrodAll enc Tryd.prog W 0 (fun _ => true) true Tryd.f5.params.toList args.toList ds p := hA0
  rw [Tryd.params5] at hA hval hsz
  obtain ⟨v0, vs0, d0, ds0, p0, q0, hargs, rfl, rfl, h0, r0⟩ := trodAll_cons hA
  obtain ⟨v1, vs1, d1, ds1, p1, q1, rfl, rfl, rfl, h1, r1⟩ := trodAll_cons r0
  obtain ⟨rfl, rfl, rfl⟩ := trodAll_nil r1
  obtain rfl : args = #[v0, v1] := by cases args; simp_all
  obtain ⟨rfl, rfl⟩ := trodVars_none hV
  have lt0 : ∀ x ∈ p0, x.block < W.heap.size := by obtain ⟨m, hm⟩ := h0; exact DataW.trod_lt m _ _ _ hm
  have hw0 : ∀ m ∈ d0.weights Tryd.prog 23, m ≤ reachBytes := fun m hm => of_decide_eq_true (List.all_eq_true.1 hsz m (DataW.weights_mem_each (j := 0) (t := 23) rfl rfl m hm))
  obtain ⟨a0, K0, g0⟩ : ∃ a, (k23 : Kd S23).K W a v0.cells.toList ∧ (good23 a) := by
    obtain ⟨fuel, hf⟩ := h0
    exact opens23 hf hw0
  obtain ⟨cs0, rfl, _⟩ := okWide_struct Tryd.underlying23 (hval 0 23 v0 rfl rfl)
  have KO0 := k23_open K0
  obtain rfl : cs0 = #[.int .i64 a0.f0, .int .i64 a0.f1] := by
    have : cs0.toList = _ := KO0
    cases cs0; simp_all
  have lt1 : ∀ x ∈ p1, x.block < W.heap.size := by obtain ⟨m, hm⟩ := h1; exact DataW.trod_lt m _ _ _ hm
  have hw1 : ∀ m ∈ d1.weights Tryd.prog 9, m ≤ reachBytes := fun m hm => of_decide_eq_true (List.all_eq_true.1 hsz m (DataW.weights_mem_each (j := 1) (t := 9) rfl rfl m hm))
  obtain ⟨a1, K1, g1⟩ : ∃ a, (Kd.string : Kd ByteArray).K W a v1.cells.toList ∧ (a.size ≤ reachBytes) := by
    obtain ⟨fuel, hf⟩ := h1
    exact (opens_string Tryd.underlying9) hf hw1
  obtain rfl : v1 = .string a1 := by
    obtain ⟨x, rfl, _⟩ := open_string Tryd.underlying9 (hval 1 9 v1 rfl rfl) h1
    have := K1
    simpa [Kd.string, Kd.scalar, Value.cells] using this
  obtain ⟨k, hk⟩ := Pure.AddrBack a0 a1 g0 g1
  clear hA0 hval0 hsz0 hsz
  refine (oculuslaw03_AddrBack.calls k (a0.f0) (a0.f1) a1 true W ⟨tab_of_laid hL⟩ hk).mono fun e W' ⟨he, bel0⟩ => ?_
  have bel : Below W.heap.size W W' := bel0
  subst he
  exact ⟨_, rfl, _, _, _, [], _, [], hW', trodAll_mk1 (shut_bool Tryd.underlying4 _), (trodAll_cons_mk (Below.trod laidOut (by kernel_rfl) (of_decide_eq_true (by kernel_rfl)) h0 bel lt0) (trodAll_cons_mk (Below.trod laidOut (by kernel_rfl) (of_decide_eq_true (by kernel_rfl)) h1 bel lt1) trodAll_mk0)), rfl, bel.frame _, fun h => by cases h⟩
theorem over : Rows.addrBackRow.holds Tryd.pinned (OpenSpec.ofChange Rows.addrBackSpec) :=
  OpenClaim.holds_of_wide 5 Tryd.f5 rfl rfl rfl rfl rfl rfl rfl ⟨rfl, rfl, rfl, rfl, rfl⟩ rfl rfl rfl rfl rfl (by kernel_rfl) Tryd.func5 (by kernel_rfl)
    (of_decide_eq_true (by kernel_rfl)) (by unfold Func.isWrapper; first | (rw [if_pos (by decide +kernel)]; kernel_rfl) | (rw [if_neg (by decide +kernel)]; exact ⟨rfl, rfl⟩))
    (fun os started H enc _ => lifted os started H enc)
/-- THE TIED CARD. -/
theorem proved : Rows.AddrBackCardSaid :=
  Claim7.holds_tied_plain_at .later [] [.data, .data, .data] true (true, "cd3fbb522060d67cb5d3d7b59ccf9ae7174aa4d58e221fe88ccb4189470c6ff2") false
    over (fun _ h => by cases h) (by kernel_rfl) (fun _ h => by cases h) addrBack_row_tie rfl ⟨rfl, rfl⟩ (by kernel_rfl) rfl
    (fun f fn hf hfn => by
      obtain rfl : f = 5 := Option.some.inj ((show Tryd.prog.funcNamed "oculus/oculuslaw03.AddrBack" = some 5 by kernel_rfl).symm.trans hf) |>.symm
      obtain rfl : fn = Tryd.f5 := (Option.some.inj (Tryd.func5.symm.trans hfn)).symm
      refine ⟨by kernel_rfl, fun j t ht => ?_⟩
      rw [Tryd.params5] at ht
      have hall : ∀ t ∈ #[(23 : TypeId), (9 : TypeId)], Tryd.prog.wantsStandIn t = false := by
        intro t ht
        simp only [List.mem_toArray, List.mem_cons, List.not_mem_nil, or_false] at ht
        rcases ht with rfl | rfl
        · exact (show Tryd.prog.wantsStandIn 23 = false by kernel_rfl)
        · exact (show Tryd.prog.wantsStandIn 9 = false by kernel_rfl)
      exact hall t (Array.mem_of_getElem? ht))
    (by kernel_rfl)
end Go.Proofs.YtjbdljolpkkhcaaDoor.addrBack
namespace Go.Proofs.YtjbdljolpkkhcaaDoor
/-- The row, under a short name, for the claim. -/
theorem addrBack_holds : Rows.AddrBackCardSaid := addrBack.proved
#print axioms addrBack_holds
end Go.Proofs.YtjbdljolpkkhcaaDoor
