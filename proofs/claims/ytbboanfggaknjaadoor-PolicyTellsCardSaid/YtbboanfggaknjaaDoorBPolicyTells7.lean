/- The law PolicyTells: for every input the call returns true, and each argument reads afterwards as it read before: the statement Rows.PolicyTellsSaid, whole, with no condition of ours. -/
import Derived.Laws.Bits128
import Derived.Test.YtbboanfggaknjaaDoorRows
import Derived.WalkKit
import Derived.ProofKit
import Derived.OpenShut
import Derived.ShutString
import Derived.ChangeOld
import Derived.Below
import Derived.SizedLaws
import Derived.Carry
import Derived.Handed
import Derived.LaidLaws
import Derived.Lib.LaidTab
import Derived.Test.YtbboanfggaknjaaDoorCards
import Derived.Test.YtbboanfggaknjaaDoorTie
import Derived.SevenTiedAt
import Derived.Test.YtbboanfggaknjaaDoorBPolicyTells6
/- What the program's sets answer: their lists, texts, and what is read. -/
set_option linter.unusedVariables false
set_option linter.unusedSimpArgs false
namespace Go.Proofs.YtbboanfggaknjaaDoor.X
open Go.RowKit Go.Proofs.YtbboanfggaknjaaDoorW.PrintWords Go.Proofs.YtbboanfggaknjaaDoorW.PrintLast Go.Proofs.YtbboanfggaknjaaDoorW.PrintMore
def toI (l : List Nat) : List Int := l.map fun c : Nat => (c : Int)
theorem bitsL_le (s : Nat) : (bitsL s).length ≤ 64 := by unfold bitsL; exact Nat.le_trans (List.length_filter_le _ _) (by simp)
theorem tz_eq (s : Nat) (h : s < 18446744073709551616) : bits_TrailingZeros64.f (s : Int) = some ((Lib.ctz 64 s : Nat) : Int) := by
  unfold bits_TrailingZeros64.f
  rw [if_pos (by omega), Int.toNat_natCast]
theorem and_nat (a b : Nat) (ha : a < 18446744073709551616) (hb : b < 18446744073709551616) : Go.bits .and .u64 (a : Int) (b : Int) = ((a &&& b : Nat) : Int) := by
  rw [u64_and _ _ (by omega) (by omega) (by omega) (by omega)]; simp
theorem or_nat (a b : Nat) (ha : a < 18446744073709551616) (hb : b < 18446744073709551616) : Go.bits .or .u64 (a : Int) (b : Int) = ((a ||| b : Nat) : Int) := by
  rw [u64_or _ _ (by omega) (by omega) (by omega) (by omega)]; simp
theorem or_lt (a b : Nat) (ha : a < 18446744073709551616) (hb : b < 18446744073709551616) : a ||| b < 18446744073709551616 := Nat.or_lt_two_pow (n := 64) ha hb
theorem list_l0 : ∀ n s, s ≤ n → s < 18446744073709551616 → ∀ acc : List Int, acc.length + (bitsL s).length ≤ 64 → Ev (fun k => cats_List.l0 k (s : Int) acc) (acc ++ toI (bitsL s))
  | n, 0, _, _, acc, _ => by
    refine Ev.step (fun k => cats_List.l0.eq_2 _ _ _) ?_
    rw [show bitsL 0 = [] by kernel_rfl]
    simp only [toI, List.map_nil, List.append_nil]
    exact ev_pos rfl (Ev.now _)
  | 0, s + 1, h, _, _, _ => by omega
  | n + 1, s + 1, h, hs, acc, hl => by
    obtain ⟨e1, e2, e3⟩ := bitsL_cons (s + 1) hs (by omega)
    have hl2 : (bitsL (s + 1)).length = (bitsL ((s + 1) &&& (s + 1 - 1))).length + 1 := by rw [e1]; rfl
    refine Ev.step (fun k => cats_List.l0.eq_2 _ _ _) ?_
    refine ev_neg (by omega) ?_
    refine ev_bind (ev_some fun _ => tz_eq (s + 1) hs) (ev_pos (by omega) ?_)
    have ew : IntKind.u64.wrap (((s + 1 : Nat) : Int) - 1) = ((s + 1 - 1 : Nat) : Int) := by rw [IntKind.wrap_u64]; omega
    rw [ew, and_nat _ _ hs (by omega)]
    have := list_l0 n ((s + 1) &&& (s + 1 - 1)) (by omega) (by omega) (acc ++ [((Lib.ctz 64 (s + 1) : Nat) : Int)]) (by rw [List.length_append]; simp only [List.length_cons, List.length_nil]; omega)
    rw [e1]
    simp only [toI, List.map_cons]
    simpa [toI] using this
theorem list_ev (s : Nat) (hs : s < 18446744073709551616) : Ev (fun k => cats_List.f k (s : Int)) (toI (bitsL s)) := by
  unfold cats_List.f
  have := list_l0 s s (Nat.le_refl _) hs [] (by have := bitsL_le s; simpa using this)
  simpa using this
theorem dec_digT (n : Nat) (h : n < 100) : Lib.decDigits n = digT n := by
  unfold digT du8
  rw [Lib.decDigits]
  by_cases h1 : n < 10
  · rw [dif_pos h1, if_pos h1]
  · rw [dif_neg h1, if_neg h1, Lib.decDigits, dif_pos (by omega)]; rfl
theorem texG_more : ∀ (ns : List Nat) (i c : Nat), (∀ d ∈ c :: ns, d < 100) → texG (i + 1) (toI (c :: ns)) = 44 :: joiC 44 ((c :: ns).map digT)
  | [], i, c, h => by
    show [44] ++ (Lib.decDigits ((c : Int)).toNat ++ []) = 44 :: digT c
    rw [Int.toNat_natCast, dec_digT c (h c (by simp)), List.append_nil]; rfl
  | d :: ns, i, c, h => by
    show [44] ++ (Lib.decDigits ((c : Int)).toNat ++ texG (i + 1 + 1) (toI (d :: ns))) = 44 :: (digT c ++ 44 :: joiC 44 ((d :: ns).map digT))
    rw [Int.toNat_natCast, dec_digT c (h c (by simp)), texG_more ns (i + 1) d (fun x hx => h x (List.mem_cons_of_mem _ hx))]; rfl
theorem texG_zero (ns : List Nat) (h : ∀ d ∈ ns, d < 100) : texG 0 (toI ns) = joiC 44 (ns.map digT) := by
  cases ns with
  | nil => rfl
  | cons c ns =>
    cases ns with
    | nil =>
      show [] ++ (Lib.decDigits ((c : Int)).toNat ++ []) = digT c
      rw [Int.toNat_natCast, dec_digT c (h c (by simp)), List.append_nil]; rfl
    | cons d ns =>
      show [] ++ (Lib.decDigits ((c : Int)).toNat ++ texG (0 + 1) (toI (d :: ns))) = digT c ++ 44 :: joiC 44 ((d :: ns).map digT)
      rw [Int.toNat_natCast, dec_digT c (h c (by simp)), texG_more ns 0 d (fun x hx => h x (List.mem_cons_of_mem _ hx))]; rfl
theorem texG_bits (s : Nat) : texG 0 (toI (bitsL s)) = txtS s := texG_zero _ fun d hd => by have := bitsL_lt hd; omega
theorem cats_text_ev (s : Nat) (hs : s < 18446744073709551616) : Ev (fun k => cats_Text.f k (s : Int)) (tx (txtS s)) := by
  unfold cats_Text.f
  refine ev_bind (list_ev s hs) (ev_some fun _ => ?_)
  rw [if_pos, texG_bits]; rfl
  refine ⟨by unfold toI; rw [List.length_map]; have := bitsL_le s; omega, fun c hc => ?_⟩
  unfold toI at hc
  rw [List.mem_map] at hc
  obtain ⟨d, hd, rfl⟩ := hc
  have := bitsL_lt hd
  omega
theorem num_end (l : List UInt8) (x : Int) : Ev (fun k => cats_number.l0 k (tx l) x (l.length : Int) (l.length : Int)) (x, decide (x < 64)) := by
  refine Ev.step (fun k => cats_number.l0.eq_2 _ _ _ _ _) ?_
  exact ev_neg (by omega) (Ev.now _)
theorem num_step (l : List UInt8) (i : Nat) (hi : i < l.length) (hn : l.length ≤ 1000) (x : Int) (hx : 0 ≤ x ∧ x ≤ 1000) (v : Int × Bool)
    (good : 48 ≤ l[i].toNat ∧ l[i].toNat ≤ 57 → Ev (fun k => cats_number.l0 k (tx l) (x * 10 + ((l[i].toNat : Int) - 48)) (l.length : Int) ((i + 1 : Nat) : Int)) v) (bad : ¬ (48 ≤ l[i].toNat ∧ l[i].toNat ≤ 57) → v = (0, false)) :
    Ev (fun k => cats_number.l0 k (tx l) x (l.length : Int) (i : Int)) v := by
  refine Ev.step (fun k => cats_number.l0.eq_2 _ _ _ _ _) ?_
  rw [bt_tx l i hi]
  have hb := u8_lt l[i]
  refine ev_pos (by omega) (ev_pos (by omega) (ev_pos (by rw [size_tx]; omega) ?_))
  refine ev_ite (fun h => ?_) (fun h => ?_)
  · rw [bad (by omega)]; exact Ev.now _
  · refine ev_ite (fun h2 => ?_) (fun h2 => ?_)
    · rw [bad (by omega)]; exact Ev.now _
    · rw [show ((l[i].toNat : Int) - 48) % 256 = (l[i].toNat : Int) - 48 by omega, w64 (x := x * 10) (by omega) (by omega), w64 (by omega) (by omega), w64s (n := 10000) (by omega) (by omega)]
      exact good (by omega)
theorem numZ_one (a : UInt8) : numZ [a] = if 48 ≤ a.toNat ∧ a.toNat ≤ 57 then some (a.toNat - 48) else none := rfl
theorem numZ_two (a b : UInt8) : numZ [a, b] = if a.toNat ≠ 48 ∧ (48 ≤ a.toNat ∧ a.toNat ≤ 57) ∧ (48 ≤ b.toNat ∧ b.toNat ≤ 57) ∧ (a.toNat - 48) * 10 + (b.toNat - 48) < 64 then some ((a.toNat - 48) * 10 + (b.toNat - 48)) else none := rfl
theorem number_ev (w : List UInt8) (hw : w.length ≤ 4611686018427387904) : ∃ v : Int × Bool, Ev (fun k => cats_number.f k (tx w)) v ∧ (match numZ w with | some n => v = ((n : Int), true) | none => v.2 = false) := by
  unfold cats_number.f
  rw [size_tx]
  match w, hw with
  | [], _ => exact ⟨(0, false), ev_pos (by simp) (Ev.step (fun k => cats_number.j0.eq_2 _ _ _) (ev_pos rfl (Ev.now _))), rfl⟩
  | [a], _ =>
    have hb := u8_lt a
    have key : ∀ v : Int × Bool, (48 ≤ a.toNat ∧ a.toNat ≤ 57 → v = ((a.toNat : Int) - 48, true)) → (¬ (48 ≤ a.toNat ∧ a.toNat ≤ 57) → v = (0, false)) → Ev (fun k => if (([a] : List UInt8).length : Int) < 1 then cats_number.j0 k (tx [a]) true else if (([a] : List UInt8).length : Int) > 2 then cats_number.j0 k (tx [a]) true else if (([a] : List UInt8).length : Int) = 2 then (if 0 < (([a] : List UInt8).length : Int) then cats_number.j0 k (tx [a]) (bt (tx [a]) 0 == 48) else none) else cats_number.j0 k (tx [a]) false) v := by
      intro v h1 h2
      refine ev_neg (by simp) (ev_neg (by simp) (ev_neg (by simp) ?_))
      refine Ev.step (fun k => cats_number.j0.eq_2 _ _ _) (ev_neg (by simp) ?_)
      rw [size_tx]
      refine num_step [a] 0 (by simp) (by simp) 0 (by omega) v (fun g => ?_) (fun g => h2 g)
      have g' : 48 ≤ a.toNat ∧ a.toNat ≤ 57 := g
      rw [h1 g']
      have := num_end [a] ((a.toNat : Int) - 48)
      rw [decide_eq_true (by omega)] at this
      simpa using this
    by_cases g : 48 ≤ a.toNat ∧ a.toNat ≤ 57
    · refine ⟨_, key _ (fun _ => rfl) (fun h => absurd g h), ?_⟩
      rw [numZ_one]
      rw [if_pos g]
      show ((a.toNat : Int) - 48, true) = (((a.toNat - 48 : Nat) : Int), true)
      congr 1
      omega
    · refine ⟨_, key _ (fun h => absurd h g) (fun _ => rfl), ?_⟩
      rw [numZ_one]
      rw [if_neg g]
  | [a, b], _ =>
    have hb := u8_lt a
    have hb2 := u8_lt b
    have key : ∀ v : Int × Bool, (a.toNat = 48 → v = (0, false)) → (a.toNat ≠ 48 → 48 ≤ a.toNat ∧ a.toNat ≤ 57 → 48 ≤ b.toNat ∧ b.toNat ≤ 57 → v = (((a.toNat : Int) - 48) * 10 + ((b.toNat : Int) - 48), decide (((a.toNat : Int) - 48) * 10 + ((b.toNat : Int) - 48) < 64))) → (¬ (48 ≤ a.toNat ∧ a.toNat ≤ 57) → v = (0, false)) → (¬ (48 ≤ b.toNat ∧ b.toNat ≤ 57) → v = (0, false)) → Ev (fun k => if (([a, b] : List UInt8).length : Int) < 1 then cats_number.j0 k (tx [a, b]) true else if (([a, b] : List UInt8).length : Int) > 2 then cats_number.j0 k (tx [a, b]) true else if (([a, b] : List UInt8).length : Int) = 2 then (if 0 < (([a, b] : List UInt8).length : Int) then cats_number.j0 k (tx [a, b]) (bt (tx [a, b]) 0 == 48) else none) else cats_number.j0 k (tx [a, b]) false) v := by
      intro v h0 h1 h2 h3
      refine ev_neg (by simp) (ev_neg (by simp) (ev_pos (by simp) (ev_pos (by simp) ?_)))
      refine Ev.step (fun k => cats_number.j0.eq_2 _ _ _) ?_
      rw [bt_tx0]
      refine ev_ite (fun g => ?_) (fun g => ?_)
      · rw [beq_iff_eq] at g
        rw [h0 (by omega)]; exact Ev.now _
      · rw [beq_iff_eq] at g
        rw [size_tx]
        refine num_step [a, b] 0 (by simp) (by simp) 0 (by omega) v (fun g1 => ?_) (fun g1 => h2 g1)
        have g1' : 48 ≤ a.toNat ∧ a.toNat ≤ 57 := g1
        refine num_step [a, b] 1 (by simp) (by simp) _ (by show 0 ≤ 0 * 10 + ((a.toNat : Int) - 48) ∧ 0 * 10 + ((a.toNat : Int) - 48) ≤ 1000; omega) v (fun g2 => ?_) (fun g2 => h3 g2)
        have g2' : 48 ≤ b.toNat ∧ b.toNat ≤ 57 := g2
        rw [h1 (by omega) g1' g2']
        have := num_end [a, b] ((0 * 10 + ((a.toNat : Int) - 48)) * 10 + ((b.toNat : Int) - 48))
        rw [show (0 * 10 + ((a.toNat : Int) - 48)) * 10 + ((b.toNat : Int) - 48) = ((a.toNat : Int) - 48) * 10 + ((b.toNat : Int) - 48) by omega] at this
        simpa using this
    by_cases g0 : a.toNat = 48
    · refine ⟨(0, false), key _ (fun _ => rfl) (fun h => absurd g0 h) (fun h => rfl) (fun h => rfl), ?_⟩
      rw [numZ_two]
      rw [if_neg (by omega)]
    · by_cases g : (48 ≤ a.toNat ∧ a.toNat ≤ 57) ∧ (48 ≤ b.toNat ∧ b.toNat ≤ 57)
      · refine ⟨_, key _ (fun h => absurd h g0) (fun _ _ _ => rfl) (fun h => absurd g.1 h) (fun h => absurd g.2 h), ?_⟩
        rw [numZ_two]
        by_cases g2 : (a.toNat - 48) * 10 + (b.toNat - 48) < 64
        · rw [if_pos ⟨g0, g.1, g.2, g2⟩]
          show (_, decide _) = ((((a.toNat - 48) * 10 + (b.toNat - 48) : Nat) : Int), true)
          rw [decide_eq_true (by omega)]
          congr 1
          omega
        · rw [if_neg (fun h => g2 h.2.2.2)]
          exact decide_eq_false (by omega)
      · refine ⟨(0, false), key _ (fun h => absurd h g0) (fun _ h1 h2 => absurd ⟨h1, h2⟩ g) (fun h => rfl) (fun h => rfl), ?_⟩
        rw [numZ_two]
        rw [if_neg (fun h => g ⟨h.2.1, h.2.2.1⟩)]
  | a :: b :: c :: l, hw =>
    refine ⟨(0, false), ev_neg (by simp; omega) (ev_pos (by simp; omega) (Ev.step (fun k => cats_number.j0.eq_2 _ _ _) (ev_pos rfl (Ev.now _)))), ?_⟩
    rfl
def resP : Option Nat → Int × Bool
  | some y => ((y : Int), true)
  | none => (0, false)
theorem shr_nat (s c : Nat) (h : c ≤ 64) : shr .u64 (s : Int) (c : Int) = ((s / 2 ^ c : Nat) : Int) := by
  unfold shr
  rw [Int.toNat_natCast, Nat.min_eq_left (show c ≤ IntKind.u64.bits from h)]
  rw [Int.natCast_ediv, Int.natCast_pow]
  rfl
theorem shl_one (c : Nat) (h : c < 64) : shl .u64 1 (c : Int) = ((2 ^ c : Nat) : Int) := by
  unfold shl
  rw [Int.toNat_natCast, Nat.min_eq_left (show c ≤ IntKind.u64.bits from Nat.le_of_lt h), Int.one_mul]
  have hp := pow_lt64 (i := c) (by omega)
  have e : (2 : Int) ^ c = ((2 ^ c : Nat) : Int) := (Int.natCast_pow 2 c).symm
  rw [e, IntKind.wrap_u64]
  generalize 2 ^ c = q at *
  omega
theorem uw (c : Nat) (h : c < 18446744073709551616) : IntKind.u64.wrap (c : Int) = (c : Int) := by rw [IntKind.wrap_u64]; omega
theorem rd_tx (ws : List (List UInt8)) (i : Nat) (h : i < ws.length) : rdOf ByteArray.empty (ws.map tx) (i : Int) = tx ws[i] := by
  unfold rdOf
  rw [Int.toNat_natCast, List.getD_eq_getElem?_getD, List.getElem?_map, List.getElem?_eq_getElem h]; rfl
theorem parse_l0 (ws : List (List UInt8)) (hl : ws.length ≤ 4611686018427387904) (hp : ∀ w ∈ ws, w.length ≤ 4611686018427387904) : ∀ (n i : Nat), i + n = ws.length → ∀ s : Nat, s < 18446744073709551616 → Ev (fun k => cats_Parse.l0 k (s : Int) (ws.map tx) (ws.length : Int) (i : Int)) (resP (parC s (ws.drop i)))
  | 0, i, hi, s, hs => by
    rw [List.drop_eq_nil_of_le (by omega)]
    refine Ev.step (fun k => cats_Parse.l0.eq_2 _ _ _ _ _) ?_
    exact ev_neg (by omega) (Ev.now _)
  | n + 1, i, hi, s, hs => by
    have h : i < ws.length := by omega
    rw [List.drop_eq_getElem_cons h, parC]
    refine Ev.step (fun k => cats_Parse.l0.eq_2 _ _ _ _ _) ?_
    refine ev_pos (by omega) (ev_pos (by omega) (ev_pos (by rw [List.length_map]; omega) ?_))
    rw [rd_tx ws i h]
    obtain ⟨v, hv, hz⟩ := number_ev ws[i] (hp _ (List.getElem_mem h))
    refine ev_bind hv ?_
    cases hq : numZ ws[i] with
    | none =>
      rw [hq] at hz
      have hz' : v.2 = false := hz
      refine ev_neg (by rw [hz']; simp) (Ev.now _)
    | some c =>
      rw [hq] at hz
      have hz' : v = ((c : Int), true) := hz
      subst hz'
      have hc := (numZ_back _ _ hq).1
      refine ev_pos rfl ?_
      show Ev (fun k => if 0 ≤ IntKind.u64.wrap (c : Int) then (if shr .u64 (s : Int) (IntKind.u64.wrap (c : Int)) = 0 then cats_Parse.l0 k (Go.bits .or .u64 (s : Int) (shl .u64 1 (IntKind.u64.wrap (c : Int)))) (ws.map tx) (ws.length : Int) (wrap64 ((i : Int) + 1)) else some (0, false)) else none) (resP (if s / 2 ^ c = 0 then parC (s ||| 2 ^ c) (ws.drop (i + 1)) else none))
      rw [uw c (by omega), shr_nat s c (by omega), shl_one c hc, or_nat s (2 ^ c) hs (pow_lt64 (by omega)), w64s (n := 9223372036854775807) (by omega) (by omega)]
      refine ev_pos (by omega) ?_
      by_cases g : s / 2 ^ c = 0
      · rw [if_pos g]
        refine ev_pos (by omega) ?_
        exact parse_l0 ws hl hp n (i + 1) (by omega) _ (or_lt _ _ hs (pow_lt64 (by omega)))
      · rw [if_neg g]
        exact ev_neg (by omega) (Ev.now _)
theorem splitB_tx (c : UInt8) (t : List UInt8) : Lib.splitB (tx [c]) 0 (Lib.countB (tx t) (tx [c])) (tx t) = (splC c t).map tx := by
  have h := Lib.splitB_data (tx [c]) 0 (Lib.countB (tx t) (tx [c])) (tx t)
  have e : (Lib.splitB (tx [c]) 0 (Lib.countB (tx t) (tx [c])) (tx t)).map by_ = splC c t := h.trans (split_one c t)
  rw [← e, List.map_map]
  have : (tx ∘ by_) = id := by funext s; exact tx_by s
  rw [this, List.map_id]
theorem splitf_tx (c : UInt8) (t : List UInt8) (h : t.length < 4294967281) : strings_Split.f (tx t) (tx [c]) = some ((splC c t).map tx) := by
  unfold strings_Split.f
  rw [if_pos ⟨by rw [size_tx]; rfl, by rw [size_tx]; exact h⟩, splitB_tx]
theorem tx_nil (t : List UInt8) : ((tx t).toList = ([] : List UInt8)) ↔ t = [] := by rw [toList_by, by_tx]
theorem cats_parse_ev (t : List UInt8) (h : t.length < 4294967281) : Ev (fun k => cats_Parse.f k (tx t)) (resP (parT t)) := by
  unfold cats_Parse.f parT
  by_cases h0 : t = []
  · rw [if_pos h0]
    exact ev_pos ((tx_nil t).2 h0) (Ev.now _)
  · rw [if_neg h0]
    refine ev_neg (fun e => h0 ((tx_nil t).1 e)) ?_
    refine ev_bind (ev_some fun _ => splitf_tx 44 t h) ?_
    have hl := splC_length 44 t
    have := parse_l0 (splC 44 t) (by omega) (fun w hw => by have := splC_piece 44 t w hw; omega) (splC 44 t).length 0 (by omega) 0 (by omega)
    rw [List.length_map]
    simpa using this
end Go.Proofs.YtbboanfggaknjaaDoor.X
/- What the reference's sets answer; the rest of the program's; that the statements live. -/
set_option linter.unusedVariables false
set_option linter.unusedSimpArgs false
namespace Go.Proofs.YtbboanfggaknjaaDoor.X
open Go.RowKit Go.Proofs.YtbboanfggaknjaaDoorW.PrintWords Go.Proofs.YtbboanfggaknjaaDoorW.PrintLast Go.Proofs.YtbboanfggaknjaaDoorW.PrintMore
theorem sn1 (a : Nat) : strOfNums [(a : Int)] = tx [du8 a] := rfl
theorem tdiv10 (c : Nat) : Int.tdiv (c : Int) 10 = ((c / 10 : Nat) : Int) := by rw [Int.tdiv_eq_ediv_of_nonneg (by omega)]; omega
theorem tmod10 (c : Nat) : Int.tmod (c : Int) 10 = ((c % 10 : Nat) : Int) := by rw [Int.tmod_eq_emod_of_nonneg (by omega)]; omega
theorem wn (x : Int) (n : Nat) (h : x = (n : Int)) (hn : n < 256) : wrap64 x % 256 = (n : Int) := by rw [w64 (by omega) (by omega)]; omega
theorem digits_l0_zero (l : List UInt8) : Ev (fun k => oculusref01_Digits.l0 k 0 (tx l)) (tx l) := by
  refine Ev.step (fun k => oculusref01_Digits.l0.eq_2 _ _ _) ?_
  exact ev_neg (by omega) (Ev.now _)
theorem digits_ev (n : Nat) (h : n < 100) : Ev (fun k => oculusref01_Digits.f k (n : Int)) (tx (digT n)) := by
  unfold oculusref01_Digits.f
  have e2 : wrap64 (48 + Int.tmod (n : Int) 10) % 256 = ((48 + n % 10 : Nat) : Int) := by rw [tmod10]; exact wn _ _ (by omega) (by omega)
  rw [e2, sn1, tdiv10, w64 (by omega) (by omega)]
  unfold digT
  by_cases h1 : n < 10
  · rw [if_pos h1, show n / 10 = 0 by omega, show n % 10 = n by omega]
    exact digits_l0_zero _
  · rw [if_neg h1]
    refine Ev.step (fun k => oculusref01_Digits.l0.eq_2 _ _ _) ?_
    refine ev_pos (by omega) (ev_bsome ?_)
    have e3 : wrap64 (48 + Int.tmod ((n / 10 : Nat) : Int) 10) % 256 = ((48 + n / 10 : Nat) : Int) := by rw [tmod10]; exact wn _ _ (by omega) (by omega)
    rw [e3, sn1, tdiv10, w64 (by omega) (by omega)]
    refine ev_pos (by rw [size_tx, size_tx]; simp) ?_
    rw [tx_append, show n / 10 / 10 = 0 by omega]
    exact digits_l0_zero _
theorem rlist_l0 (s : Nat) (hs : s < 18446744073709551616) : ∀ (n i : Nat), i + n = 64 → Ev (fun k => oculusref01_List.l0 k (s : Int) (toI ((List.range i).filter fun j => s.testBit j)) (i : Int)) (toI (bitsL s))
  | 0, i, hi => by
    obtain rfl : i = 64 := by omega
    refine Ev.step (fun k => oculusref01_List.l0.eq_2 _ _ _ _) ?_
    exact ev_neg (by omega) (Ev.now _)
  | n + 1, i, hi => by
    have ih := rlist_l0 s hs n (i + 1) (by omega)
    have hlen : ((List.range i).filter fun j => s.testBit j).length ≤ i := Nat.le_trans (List.length_filter_le _ _) (by simp)
    refine Ev.step (fun k => oculusref01_List.l0.eq_2 _ _ _ _) ?_
    refine ev_pos (by omega) (ev_bind (bit_ev s i hs) ?_)
    rw [bitS_nat s i (by omega), w64s (n := 64) (by omega) (by omega)]
    rw [List.range_succ, List.filter_append] at ih
    refine ev_ite (fun g => ?_) (fun g => ?_)
    · refine ev_pos (by unfold toI; rw [List.length_map]; omega) ?_
      have e : [i].filter (fun j => s.testBit j) = [i] := by rw [List.filter_cons, if_pos g]; rfl
      rw [e] at ih
      simpa [toI] using ih
    · have e : [i].filter (fun j => s.testBit j) = [] := by rw [List.filter_cons, if_neg g]; rfl
      rw [e, List.append_nil] at ih
      exact ih
theorem rlist_ev (s : Nat) (hs : s < 18446744073709551616) : Ev (fun k => oculusref01_List.f k (s : Int)) (toI (bitsL s)) := by
  unfold oculusref01_List.f
  exact rlist_l0 s hs 64 0 (by omega)
theorem rd_toI (l : List Nat) (i : Nat) (h : i < l.length) : rd (toI l) (i : Int) = ((l[i] : Nat) : Int) := by
  unfold rd toI
  rw [Int.toNat_natCast, List.getD_eq_getElem?_getD, List.getElem?_map, List.getElem?_eq_getElem h]; rfl
theorem texG_at (l : List Nat) (hc : ∀ c ∈ l, c < 100) (i : Nat) (h : i < l.length) : texG i (toI (l.drop i)) = (if i = 0 then [] else [44]) ++ (digT l[i] ++ texG (i + 1) (toI (l.drop (i + 1)))) := by
  rw [List.drop_eq_getElem_cons h]
  show (if i = 0 then [] else [44]) ++ (Lib.decDigits (((l[i] : Nat) : Int)).toNat ++ texG (i + 1) (toI (l.drop (i + 1)))) = _
  rw [Int.toNat_natCast, dec_digT _ (hc _ (List.getElem_mem h))]
theorem rtext_l0 (l : List Nat) (hc : ∀ c ∈ l, c < 100) (hl : l.length ≤ 64) (q : List UInt8) : ∀ (n i : Nat), i + n = l.length → ∀ acc : List UInt8, acc.length ≤ 3 * i → acc ++ texG i (toI (l.drop i)) = q → Ev (fun k => oculusref01_Text.l0 k (tx acc) (toI l) (i : Int)) (tx q)
  | 0, i, hi, acc, ha, hq => by
    rw [List.drop_eq_nil_of_le (by omega)] at hq
    have hq' : acc = q := by rw [← hq]; show _ = acc ++ texG i []; rw [texG]; simp
    subst hq'
    refine Ev.step (fun k => oculusref01_Text.l0.eq_2 _ _ _ _) ?_
    exact ev_neg (by unfold toI; rw [List.length_map]; omega) (Ev.now _)
  | n + 1, i, hi, acc, ha, hq => by
    have h : i < l.length := by omega
    rw [texG_at l hc i h] at hq
    have hd := digT_len l[i]
    refine Ev.step (fun k => oculusref01_Text.l0.eq_2 _ _ _ _) ?_
    refine ev_pos (by unfold toI; rw [List.length_map]; omega) ?_
    rw [rd_toI l i h, w64s (n := 1000) (by omega) (by omega)]
    refine ev_ite (fun g => ?_) (fun g => ?_)
    · rw [if_neg (by omega)] at hq
      have e0 : tx acc ++ (⟨#[44]⟩ : ByteArray) = tx (acc ++ [44]) := by rw [show (⟨#[44]⟩ : ByteArray) = tx [44] from rfl, tx_append]
      rw [e0]
      refine ev_pos (by rw [size_tx]; omega) (ev_pos (by omega) ?_)
      refine ev_bind (digits_ev l[i] (hc _ (List.getElem_mem h))) ?_
      refine ev_pos (by rw [size_tx, size_tx, List.length_append]; simp; omega) ?_
      rw [tx_append]
      refine rtext_l0 l hc hl q n (i + 1) (by omega) _ (by rw [List.length_append, List.length_append]; simp; omega) ?_
      rw [← hq]; simp
    · rw [if_pos (by omega)] at hq
      refine ev_pos (by omega) ?_
      refine ev_bind (digits_ev l[i] (hc _ (List.getElem_mem h))) ?_
      refine ev_pos (by rw [size_tx, size_tx]; omega) ?_
      rw [tx_append]
      refine rtext_l0 l hc hl q n (i + 1) (by omega) _ (by rw [List.length_append]; omega) ?_
      rw [← hq]; simp
theorem rtext_ev (s : Nat) (hs : s < 18446744073709551616) : Ev (fun k => oculusref01_Text.f k (s : Int)) (tx (txtS s)) := by
  unfold oculusref01_Text.f
  refine ev_bind (rlist_ev s hs) ?_
  have := rtext_l0 (bitsL s) (fun c hc => by have := bitsL_lt hc; omega) (bitsL_le s) (txtS s) (bitsL s).length 0 (by omega) [] (by simp) (by rw [List.drop_zero, List.nil_append]; exact texG_bits s)
  exact this
theorem tx_eq (s t : List UInt8) : ((tx s).toList = (tx t).toList) ↔ s = t := by rw [toList_by, toList_by, by_tx, by_tx]
end Go.Proofs.YtbboanfggaknjaaDoor.X
/- What the program's labels and the reference's answer: told, and read. -/
set_option linter.unusedVariables false
set_option linter.unusedSimpArgs false
namespace Go.Proofs.YtbboanfggaknjaaDoor.X
open Go.RowKit Go.Proofs.YtbboanfggaknjaaDoorW.PrintWords Go.Proofs.YtbboanfggaknjaaDoorW.PrintLast Go.Proofs.YtbboanfggaknjaaDoorW.PrintMore
theorem lmay_eq (lv c : Int) : label_May.f lv c = some (mayL lv) := by
  unfold label_May.f mayL
  by_cases h : lv ≥ 0
  · rw [if_pos h, Option.some.injEq, decide_eq_decide]; omega
  · rw [if_neg h, decide_eq_false (by omega)]
theorem itoa_dig (n : Nat) (h : n < 100) : strconv_Itoa.f (n : Int) = some (tx (digT n)) := by
  unfold strconv_Itoa.f
  rw [if_pos (by omega)]
  unfold Lib.itoa
  rw [if_neg (by omega), Int.toNat_natCast, dec_digT n h]; rfl
theorem ltext_ev (lv : Int) (c : Nat) (hc : c < 18446744073709551616) : Ev (fun k => label_Text.f k lv (c : Int)) (tx (labT lv c)) := by
  unfold label_Text.f labT
  refine ev_bind (ev_some fun _ => lmay_eq lv c) ?_
  by_cases h : 0 ≤ lv ∧ lv ≤ 15
  · rw [if_pos h]
    refine ev_pos (decide_eq_true h) (ev_bind (ev_some fun _ => rfl) ?_)
    obtain ⟨n, rfl⟩ : ∃ n : Nat, lv = (n : Int) := ⟨lv.toNat, by omega⟩
    rw [Int.toNat_natCast]
    refine Ev.step (fun k => label_Text.j0.eq_2 ..) ?_
    by_cases ht : (n : Int) = 15 ∧ c = full64
    · rw [if_pos ht]
      refine ev_pos ?_ (Ev.now _)
      rw [ht.1, ht.2]; rfl
    · rw [if_neg ht]
      refine ev_neg ?_ ?_
      · intro e
        simp only [Bool.and_eq_true, beq_iff_eq] at e
        exact ht ⟨e.1, by unfold full64; omega⟩
      · refine ev_ite (fun h0 => ?_) (fun h0 => ?_)
        · rw [if_pos (by omega)]
          exact ev_bind (ev_some fun _ => itoa_dig n (by omega)) (Ev.now _)
        · rw [if_neg (by omega)]
          have h1 := digT_len n
          have h2 := txtS_len c
          refine ev_bind (ev_some fun _ => itoa_dig n (by omega)) (ev_pos (by rw [size_tx]; omega) ?_)
          refine ev_bind (cats_text_ev c hc) ?_
          have e0 : tx (digT n) ++ (⟨#[58]⟩ : ByteArray) = tx (digT n ++ [58]) := by rw [show (⟨#[58]⟩ : ByteArray) = tx [58] from rfl, tx_append]
          rw [e0]
          refine ev_pos (by rw [size_tx, size_tx, List.length_append]; simp; omega) ?_
          rw [tx_append, List.append_assoc]
          exact Ev.now _
  · rw [if_neg h]
    exact ev_neg (by unfold mayL; rw [decide_eq_false h]; simp) (Ev.now _)
def resL : Option (Int × Nat) → Int × Int × Bool
  | some (lv, c) => (lv, (c : Int), true)
  | none => (0, 0, false)
def levI (h : List UInt8) (i : Nat) : Int := if levZ h < (i : Int) then levZ h else -1
theorem levZ_ge (h : List UInt8) : -1 ≤ levZ h ∧ levZ h < 16 := by
  rcases levZ_back h with e | ⟨n, h1, h2, _⟩ <;> omega
theorem top_iff (l : List UInt8) : ((tx l).toList = ([116, 111, 112] : List UInt8)) ↔ l = topL := by rw [toList_by, by_tx]; exact Iff.rfl
theorem lparse_l0 (h rest : List UInt8) (more : Bool) (hr : rest.length < 4294967281) : ∀ (m i : Nat), i + m = 16 →
    Ev (fun k => label_Parse.l0 k (tx h) (tx rest) more (i : Int) (levI h i) 0) (resL (match parT rest with
      | none => none
      | some s => if levZ h < 0 ∨ more ≠ decide (s ≠ 0) ∨ (levZ h = 15 ∧ s = full64) then none else some (levZ h, s)))
  | 0, i, hi => by
    have hz := levZ_ge h
    have e : levI h i = levZ h := by unfold levI; rw [if_pos (by omega)]
    rw [e]
    refine Ev.step (fun k => label_Parse.l0.eq_2 ..) (ev_neg (by omega) ?_)
    refine ev_bind (cats_parse_ev rest hr) ?_
    have j1t : ∀ (a b : Int), Ev (fun k => label_Parse.j1 k true a b) (0, 0, false) := fun a b => Ev.step (fun k => label_Parse.j1.eq_2 ..) (ev_pos rfl (Ev.now _))
    cases hp : parT rest with
    | none => exact ev_neg (by simp [resP]) (j1t _ _)
    | some s =>
      refine ev_pos rfl ?_
      show Ev (fun k => if levZ h < 0 then label_Parse.j1 k true (levZ h) (s : Int) else if (more != ((s : Int) != 0)) = true then label_Parse.j1 k true (levZ h) (s : Int) else (label_Top.f).bind fun bt111 => label_Parse.j1 k (levZ h == bt111.1 && ((s : Int) == bt111.2)) (levZ h) (s : Int)) (resL (if levZ h < 0 ∨ more ≠ decide (s ≠ 0) ∨ (levZ h = 15 ∧ s = full64) then none else some (levZ h, s)))
      have hd : ((s : Int) != 0) = decide (s ≠ 0) := by
        rw [Bool.eq_iff_iff, bne_iff_ne, decide_eq_true_eq]; omega
      refine ev_ite (fun g => ?_) (fun g => ?_)
      · rw [if_pos (Or.inl g)]; exact j1t _ _
      · refine ev_ite (fun g2 => ?_) (fun g2 => ?_)
        · rw [hd, bne_iff_ne] at g2
          rw [if_pos (Or.inr (Or.inl g2))]; exact j1t _ _
        · rw [hd, bne_iff_ne] at g2
          refine ev_bind (ev_some fun _ => rfl) ?_
          refine Ev.step (fun k => label_Parse.j1.eq_2 ..) ?_
          refine ev_ite (fun g3 => ?_) (fun g3 => ?_)
          · simp only [Bool.and_eq_true, beq_iff_eq] at g3
            rw [if_pos (Or.inr (Or.inr ⟨g3.1, by unfold full64; omega⟩))]
            exact Ev.now _
          · rw [if_neg]
            · exact Ev.now _
            · rintro (k | k | k)
              · exact g k
              · exact g2 k
              · exact g3 (by simp only [Bool.and_eq_true, beq_iff_eq]; exact ⟨k.1, by rw [k.2]; rfl⟩)
  | m + 1, i, hi => by
    have ih := lparse_l0 h rest more hr m (i + 1) (by omega)
    have hz := levZ_ge h
    refine Ev.step (fun k => label_Parse.l0.eq_2 ..) (ev_pos (by omega) ?_)
    refine ev_bind (ev_some fun _ => itoa_dig i (by omega)) ?_
    rw [w64s (n := 1000) (by omega) (by omega)]
    have hq := levZ_eq h i (by omega)
    refine ev_ite (fun g => ?_) (fun g => ?_)
    · have g' := hq.1 ((tx_eq _ _).1 g)
      have e : levI h (i + 1) = (i : Int) := by unfold levI; rw [if_pos (by omega), g']
      rw [e] at ih
      exact ih
    · have g' : ¬ levZ h = (i : Int) := fun k => g ((tx_eq _ _).2 (hq.2 k))
      have e : levI h (i + 1) = levI h i := by
        unfold levI
        by_cases k : levZ h < (i : Int)
        · rw [if_pos k, if_pos (by omega)]
        · rw [if_neg k, if_neg (by omega)]
      rw [e] at ih
      exact ih
theorem lparse_ev (t : List UInt8) (ht : t.length ≤ 1000) : Ev (fun k => label_Parse.f k (tx t)) (resL (labP t)) := by
  unfold label_Parse.f labP
  refine ev_ite (fun g => ?_) (fun g => ?_)
  · rw [if_pos ((top_iff t).1 g)]
    exact ev_bind (ev_some fun _ => rfl) (Ev.now _)
  · rw [if_neg (fun e => g ((top_iff t).2 e))]
    have hc := cutL_length 58 t
    have e := cut_eq (tx t) 58 (by rw [size_tx]; omega)
    rw [by_tx] at e
    refine ev_bind (ev_some fun _ => e) ?_
    have := lparse_l0 (cutL 58 t).1 (cutL 58 t).2.1 (cutL 58 t).2.2 (by omega) 16 0 (by omega)
    have e2 : levI (cutL 58 t).1 0 = -1 := by
      have := levZ_ge (cutL 58 t).1
      unfold levI; split <;> omega
    rw [e2] at this
    exact this
theorem every_l0 : ∀ (m i : Nat), i + m = 64 → Ev (fun k => oculusref02_Every.l0 k ((2 ^ i - 1 : Nat) : Int) (i : Int)) ((full64 : Nat) : Int)
  | 0, i, hi => by
    obtain rfl : i = 64 := by omega
    refine Ev.step (fun k => oculusref02_Every.l0.eq_2 ..) (ev_neg (by omega) ?_)
    exact Ev.now _
  | m + 1, i, hi => by
    have hp := pow_lt64 (i := i) (by omega)
    have h1 : 1 ≤ 2 ^ i := Nat.two_pow_pos i
    have hs : 2 ^ (i + 1) = 2 ^ i * 2 := Nat.pow_succ ..
    have hle : 2 ^ (i + 1) ≤ 2 ^ 64 := Nat.pow_le_pow_right (by omega) (by omega)
    refine Ev.step (fun k => oculusref02_Every.l0.eq_2 ..) (ev_pos (by omega) ?_)
    have e : IntKind.u64.wrap (IntKind.u64.wrap (((2 ^ i - 1 : Nat) : Int) * 2) + 1) = ((2 ^ (i + 1) - 1 : Nat) : Int) := by
      rw [hs] at hle ⊢
      generalize 2 ^ i = q at *
      rw [IntKind.wrap_u64, IntKind.wrap_u64]
      omega
    rw [e, w64s (n := 1000) (by omega) (by omega)]
    exact every_l0 m (i + 1) (by omega)
theorem rtop_ev : Ev (fun k => oculusref02_Top.f k) (15, ((full64 : Nat) : Int)) := by
  unfold oculusref02_Top.f oculusref02_Every.f
  exact ev_bind (every_l0 64 0 (by omega)) (Ev.now _)
theorem rltext_ev (lv : Int) (c : Nat) (hc : c < 18446744073709551616) : Ev (fun k => oculusref02_Text.f k lv (c : Int)) (tx (labT lv c)) := by
  unfold oculusref02_Text.f labT
  have j0t : Ev (fun k => oculusref02_Text.j0 k true lv (c : Int)) (tx []) := Ev.step (fun k => oculusref02_Text.j0.eq_2 ..) (ev_pos rfl (Ev.now _))
  refine ev_ite (fun g => ?_) (fun g => ?_)
  · rw [if_neg (by omega)]; exact j0t
  · by_cases g2 : lv > 15
    · rw [if_neg (by omega), decide_eq_true g2]; exact j0t
    · rw [if_pos (by omega), decide_eq_false g2]
      obtain ⟨n, rfl⟩ : ∃ n : Nat, lv = (n : Int) := ⟨lv.toNat, by omega⟩
      rw [Int.toNat_natCast]
      refine Ev.step (fun k => oculusref02_Text.j0.eq_2 ..) (ev_neg (by simp) (ev_bind rtop_ev ?_))
      refine Ev.step (fun k => oculusref02_Text.j1.eq_2 ..) ?_
      by_cases ht : (n : Int) = 15 ∧ c = full64
      · rw [if_pos ht]
        refine ev_pos ?_ (Ev.now _)
        rw [ht.1, ht.2]; rfl
      · rw [if_neg ht]
        refine ev_neg ?_ ?_
        · intro e
          simp only [Bool.and_eq_true, beq_iff_eq] at e
          exact ht ⟨e.1, by omega⟩
        · refine ev_bind (digits_ev n (by omega)) ?_
          refine ev_ite (fun h0 => ?_) (fun h0 => ?_)
          · rw [if_pos (by omega)]; exact Ev.now _
          · rw [if_neg (by omega)]
            have h1 := digT_len n
            have h2 := txtS_len c
            refine ev_pos (by rw [size_tx]; omega) (ev_bind (rtext_ev c hc) ?_)
            have e0 : tx (digT n) ++ (⟨#[58]⟩ : ByteArray) = tx (digT n ++ [58]) := by rw [show (⟨#[58]⟩ : ByteArray) = tx [58] from rfl, tx_append]
            rw [e0]
            refine ev_pos (by rw [size_tx, size_tx, List.length_append]; simp; omega) ?_
            rw [tx_append, List.append_assoc]
            exact Ev.now _
end Go.Proofs.YtbboanfggaknjaaDoor.X
/- Users and grants. -/
set_option linter.unusedVariables false
set_option linter.unusedSimpArgs false
namespace Go.Proofs.YtbboanfggaknjaaDoor.X.US
open Go.RowKit Go.Proofs.YtbboanfggaknjaaDoorW.PrintWords Go.Proofs.YtbboanfggaknjaaDoorW.PrintLast Go.Proofs.YtbboanfggaknjaaDoorW.PrintMore
abbrev Gr := S67
abbrev Us := S65
theorem rdG (xs : List Gr) (i : Nat) (h : i < xs.length) : rd_T67 xs (i : Int) = xs[i] := by
  simp [rd_T67, List.getD_eq_getElem?_getD, h]
theorem rdU (xs : List Us) (i : Nat) (h : i < xs.length) : rd_T65 xs (i : Int) = xs[i] := by
  simp [rd_T65, List.getD_eq_getElem?_getD, h]
def chS (c : Int) : Bool := (decide (97 ≤ c) && decide (c ≤ 122)) || (decide (48 ≤ c) && decide (c ≤ 57))
def allS (s : ByteArray) (i : Nat) : Nat → Bool
  | 0 => true
  | d + 1 => chS (bt s (i : Int)) && allS s (i + 1) d
theorem name_l0 (s : ByteArray) (hs : s.size ≤ 9223372036854775807) : ∀ (d i : Nat), i + d = s.size → Ev (fun k => right_Name.l0 k s (s.size : Int) (i : Int)) (allS s i d) := by
  intro d
  induction d with
  | zero =>
    intro i hi
    refine Ev.step (f := fun _ => some true) (fun k => ?_) (Ev.now _)
    simp only [right_Name.l0]
    rw [if_neg (by omega)]
  | succ d ih =>
    intro i hi
    have hw := w64s (i := i) (n := s.size) (by omega) hs
    have ih' := ih (i + 1) (by omega)
    refine Ev.step (f := fun k => if chS (bt s (i : Int)) = true then right_Name.l0 k s (s.size : Int) ((i + 1 : Nat) : Int) else some false) (fun k => ?_) ?_
    · simp only [right_Name.l0]
      rw [if_pos (by omega), if_pos (by omega), if_pos (by omega), hw]
      unfold chS
      generalize bt s (i : Int) = c
      by_cases h1 : c < 97
      · rw [if_pos h1, decide_eq_false (show ¬ 97 ≤ c by omega)]
        by_cases h2 : c < 48
        · rw [if_pos h2, decide_eq_false (show ¬ 48 ≤ c by omega)]; simp
        · rw [if_neg h2, decide_eq_true (show 48 ≤ c by omega)]
          by_cases h3 : c > 57
          · rw [if_pos h3, decide_eq_false (show ¬ c ≤ 57 by omega)]; simp
          · rw [if_neg h3, decide_eq_true (show c ≤ 57 by omega)]; simp
      · rw [if_neg h1, decide_eq_true (show 97 ≤ c by omega)]
        by_cases h2 : c > 122
        · rw [if_pos h2, if_neg (by omega), if_pos (by omega), decide_eq_false (show ¬ c ≤ 122 by omega), decide_eq_false (show ¬ c ≤ 57 by omega)]; simp
        · rw [if_neg h2, decide_eq_true (show c ≤ 122 by omega)]; simp
    · simp only [allS]
      refine ev_ite (fun h => ?_) (fun h => ?_)
      · rw [h]; simpa using ih'
      · rw [show chS (bt s (i : Int)) = false by simpa using h]; exact Ev.now _
theorem rname_l0 (s : ByteArray) (hs : s.size ≤ 9223372036854775807) : ∀ (d i : Nat), i + d = s.size → Ev (fun k => oculusref06_Name.l0 k s (i : Int)) (allS s i d) := by
  intro d
  induction d with
  | zero =>
    intro i hi
    refine Ev.step (f := fun _ => some true) (fun k => ?_) (Ev.now _)
    simp only [oculusref06_Name.l0]
    rw [if_neg (by omega)]
  | succ d ih =>
    intro i hi
    have hw := w64s (i := i) (n := s.size) (by omega) hs
    have ih' := ih (i + 1) (by omega)
    refine Ev.step (f := fun k => if chS (bt s (i : Int)) = true then oculusref06_Name.l0 k s ((i + 1 : Nat) : Int) else some false) (fun k => ?_) ?_
    · simp only [oculusref06_Name.l0]
      rw [if_pos (by omega), if_pos (by omega), hw]
      unfold chS oculusref06_letter.f
      generalize bt s (i : Int) = c
      by_cases h1 : c ≥ 97
      · rw [if_pos h1, decide_eq_true (show 97 ≤ c by omega)]
        simp only [Option.bind_some]
        by_cases h2 : c ≤ 122
        · rw [decide_eq_true h2]; simp
        · rw [decide_eq_false h2, if_pos (show c ≥ 48 by omega), if_neg (show ¬ c ≤ 57 by omega), decide_eq_false (show ¬ c ≤ 57 by omega)]; simp
      · rw [if_neg h1, decide_eq_false (show ¬ 97 ≤ c by omega)]
        simp only [Option.bind_some]
        by_cases h2 : c ≥ 48
        · rw [if_pos h2, decide_eq_true (show 48 ≤ c by omega)]
          by_cases h3 : c ≤ 57
          · rw [if_pos h3, decide_eq_true h3]; simp
          · rw [if_neg h3, decide_eq_false h3]; simp
        · rw [if_neg h2, decide_eq_false (show ¬ 48 ≤ c by omega)]; simp
    · simp only [allS]
      refine ev_ite (fun h => ?_) (fun h => ?_)
      · rw [h]; simpa using ih'
      · rw [show chS (bt s (i : Int)) = false by simpa using h]; exact Ev.now _
def nameS (s : ByteArray) : Bool := decide (1 ≤ s.size) && (decide (s.size ≤ 16) && (decide (97 ≤ bt s 0) && allS s 0 s.size))
theorem name_ev (s : ByteArray) (hs : s.size ≤ 9223372036854775807) : Ev (fun k => right_Name.f k s) (nameS s) := by
  unfold right_Name.f nameS
  have hj : ∀ b, Ev (fun k => right_Name.j0 k s b) (!b && allS s 0 s.size) := by
    intro b
    refine Ev.step (f := fun k => if b = true then some false else right_Name.l0 k s (s.size : Int) 0) (fun k => by simp only [right_Name.j0]) ?_
    cases b with
    | true => exact ev_pos rfl (Ev.now _)
    | false => exact ev_neg (by simp) (by simpa using name_l0 s hs s.size 0 (by omega))
  by_cases h1 : (s.size : Int) < 1
  · simp only [if_pos h1]; rw [decide_eq_false (show ¬ 1 ≤ s.size by omega)]; exact hj true
  · simp only [if_neg h1]; rw [decide_eq_true (show 1 ≤ s.size by omega)]
    by_cases h2 : (s.size : Int) > 16
    · simp only [if_pos h2]; rw [decide_eq_false (show ¬ s.size ≤ 16 by omega)]; exact hj true
    · simp only [if_neg h2]; rw [decide_eq_true (show s.size ≤ 16 by omega)]; simp only [if_pos (show (0 : Int) < (s.size : Int) by omega)]
      have := hj (decide (bt s 0 < 97))
      rw [show (!decide (bt s 0 < 97)) = decide (97 ≤ bt s 0) by rw [Bool.eq_iff_iff]; simp] at this
      simpa using this
theorem rname_ev (s : ByteArray) (hs : s.size ≤ 9223372036854775807) : Ev (fun k => oculusref06_Name.f k s) (nameS s) := by
  unfold oculusref06_Name.f nameS
  have hj : ∀ b, Ev (fun k => oculusref06_Name.j0 k s b) (!b && allS s 0 s.size) := by
    intro b
    refine Ev.step (f := fun k => if b = true then some false else oculusref06_Name.l0 k s 0) (fun k => by simp only [oculusref06_Name.j0]) ?_
    cases b with
    | true => exact ev_pos rfl (Ev.now _)
    | false => exact ev_neg (by simp) (by simpa using rname_l0 s hs s.size 0 (by omega))
  by_cases h1 : (s.size : Int) < 1
  · simp only [if_pos h1]; rw [decide_eq_false (show ¬ 1 ≤ s.size by omega)]; exact hj true
  · simp only [if_neg h1]; rw [decide_eq_true (show 1 ≤ s.size by omega)]
    by_cases h2 : (s.size : Int) > 16
    · simp only [if_pos h2]; rw [decide_eq_false (show ¬ s.size ≤ 16 by omega)]; exact hj true
    · simp only [if_neg h2]; rw [decide_eq_true (show s.size ≤ 16 by omega)]; simp only [if_pos (show (0 : Int) < (s.size : Int) by omega)]
      unfold oculusref06_letter.f
      by_cases h3 : bt s 0 ≥ 97
      · rw [if_pos h3, decide_eq_true (show 97 ≤ bt s 0 by omega)]
        simp only [Option.bind_some]
        have := hj (!decide (bt s 0 ≤ 122))
        by_cases h4 : bt s 0 ≤ 122
        · rw [decide_eq_true h4] at this ⊢; simpa using this
        · rw [decide_eq_false h4] at this ⊢
          have hz : allS s 0 s.size = false := by
            obtain ⟨n, hn⟩ : ∃ n, s.size = n + 1 := ⟨s.size - 1, by omega⟩
            rw [hn]
            simp only [allS]
            have : chS (bt s ((0 : Nat) : Int)) = false := by
              unfold chS
              rw [show ((0 : Nat) : Int) = 0 from rfl, decide_eq_false h4, decide_eq_false (show ¬ bt s 0 ≤ 57 by omega)]; simp
            rw [this]; rfl
          rw [hz]
          simpa using this
      · rw [if_neg h3, decide_eq_false (show ¬ 97 ≤ bt s 0 by omega)]
        simp only [Option.bind_some]
        simpa using hj true
def hitU (n : ByteArray) (u : Us) : Bool := decide (u.f0.toList = n.toList)
def findS (n : ByteArray) : List Us → Int × Int × Bool
  | [] => (0, 0, false)
  | u :: r => if hitU n u = true then (u.f1.f0, u.f1.f1, true) else findS n r
theorem find_l0 (n : ByteArray) (xs : List Us) (hx : xs.length ≤ 9223372036854775807) : ∀ (d i : Nat), i + d = xs.length →
    Ev (fun k => right_Find.l0 k n xs (xs.length : Int) (i : Int)) (findS n (xs.drop i)) := by
  intro d
  induction d with
  | zero =>
    intro i hi
    rw [List.drop_eq_nil_of_le (by omega)]
    refine Ev.step (f := fun _ => some (0, 0, false)) (fun k => ?_) (Ev.now _)
    simp only [right_Find.l0]
    rw [if_neg (by omega)]
  | succ d ih =>
    intro i hi
    have hlt : i < xs.length := by omega
    have hw := w64s hlt hx
    rw [List.drop_eq_getElem_cons hlt]
    refine Ev.step (f := fun k => if xs[i].f0.toList = n.toList then some (xs[i].f1.f0, xs[i].f1.f1, true) else right_Find.l0 k n xs (xs.length : Int) ((i + 1 : Nat) : Int)) (fun k => ?_) ?_
    · simp only [right_Find.l0]
      rw [if_pos (by omega), if_pos (by omega), if_pos (by omega), rdU xs i hlt, hw]
    · simp only [findS, hitU, decide_eq_true_eq]
      refine ev_ite (fun h => ?_) (fun h => ?_)
      · rw [if_pos h]; exact Ev.now _
      · rw [if_neg h]; exact ih (i + 1) (by omega)
theorem find_ev (n : ByteArray) (xs : List Us) (hx : xs.length ≤ 9223372036854775807) : Ev (fun k => right_Find.f k xs n) (findS n xs) := by
  unfold right_Find.f
  simpa using find_l0 n xs hx xs.length 0 (by omega)
def placeS (n : ByteArray) : List Us → Nat → Int
  | [], _ => -1
  | u :: r, i => if hitU n u = true then (i : Int) else placeS n r (i + 1)
theorem rfind_l0 (n : ByteArray) (xs : List Us) (hx : xs.length ≤ 9223372036854775807) : ∀ (d i : Nat), i + d = xs.length →
    Ev (fun k => oculusref06_Find.l0 k xs n (i : Int)) (placeS n (xs.drop i) i) := by
  intro d
  induction d with
  | zero =>
    intro i hi
    rw [List.drop_eq_nil_of_le (by omega)]
    refine Ev.step (f := fun _ => some (-1)) (fun k => ?_) (Ev.now _)
    simp only [oculusref06_Find.l0]
    rw [if_neg (by omega)]
  | succ d ih =>
    intro i hi
    have hlt : i < xs.length := by omega
    have hw := w64s hlt hx
    rw [List.drop_eq_getElem_cons hlt]
    refine Ev.step (f := fun k => if xs[i].f0.toList = n.toList then some (i : Int) else oculusref06_Find.l0 k xs n ((i + 1 : Nat) : Int)) (fun k => ?_) ?_
    · simp only [oculusref06_Find.l0]
      rw [if_pos (by omega), if_pos (by omega), rdU xs i hlt, hw]
    · simp only [placeS, hitU, decide_eq_true_eq]
      refine ev_ite (fun h => ?_) (fun h => ?_)
      · rw [if_pos h]; exact Ev.now _
      · rw [if_neg h]; exact ih (i + 1) (by omega)
theorem rfind_ev (n : ByteArray) (xs : List Us) (hx : xs.length ≤ 9223372036854775807) : Ev (fun k => oculusref06_Find.f k xs n) (placeS n xs 0) := by
  unfold oculusref06_Find.f
  simpa using rfind_l0 n xs hx xs.length 0 (by omega)
theorem place_find (n : ByteArray) : ∀ (l : List Us) (i : Nat), (placeS n l i = -1 ∧ findS n l = (0, 0, false) ∧ l.any (hitU n) = false) ∨
    ∃ (j : Nat) (h : j < l.length), placeS n l i = ((i + j : Nat) : Int) ∧ findS n l = (l[j].f1.f0, l[j].f1.f1, true) ∧ l.any (hitU n) = true ∧ hitU n l[j] = true ∧ (l.take j).any (hitU n) = false
  | [], i => Or.inl ⟨rfl, rfl, rfl⟩
  | u :: r, i => by
    by_cases h : hitU n u = true
    · refine Or.inr ⟨0, by simp, ?_, ?_, ?_, ?_, ?_⟩
      · simp [placeS, h]
      · simp [findS, h]
      · simp [h]
      · simpa using h
      · simp
    · have hf : hitU n u = false := by simpa using h
      rcases place_find n r (i + 1) with ⟨h1, h2, h3⟩ | ⟨j, hj, h1, h2, h3, h4, h5⟩
      · left
        simp [placeS, findS, hf, h1, h2, h3]
      · right
        refine ⟨j + 1, by simp; omega, ?_, ?_, ?_, ?_, ?_⟩
        · simp only [placeS, if_neg h, h1]; congr 1; omega
        · simp only [findS, if_neg h, h2]; simp
        · simp only [List.any_cons, h3, Bool.or_true]
        · simpa using h4
        · simp only [List.take_succ_cons, List.any_cons, hf, h5, Bool.or_false]
theorem may_eq (a0 a1 : Int) : label_May.f a0 a1 = some (decide (a0 ≥ 0) && decide (a0 ≤ 15)) := by
  unfold label_May.f
  by_cases h : a0 ≥ 0
  · rw [if_pos h, decide_eq_true h]; rfl
  · rw [if_neg h, decide_eq_false h]; rfl
theorem rmay_eq (a0 a1 : Int) : oculusref06_may.f a0 a1 = some (decide (a0 ≥ 0) && decide (a0 ≤ 15)) := by
  unfold oculusref06_may.f
  by_cases h : a0 ≥ 0
  · rw [if_pos h, decide_eq_true h]; rfl
  · rw [if_neg h, decide_eq_false h]; rfl
def mayS (a0 : Int) : Bool := decide (a0 ≥ 0) && decide (a0 ≤ 15)
def okU (u : Us) : Prop := (Lit.int .u64 u.f1.f1).wf = true ∧ u.f0.size ≤ 9223372036854775807
def userS (xs : List Us) (i : Nat) (u : Us) : Int := if 16 ≤ i then 10 else if nameS u.f0 = false then 1 else if (xs.take i).any (hitU u.f0) = true then 8 else if mayS u.f1.f0 = false then 7 else 0
def usersS (xs : List Us) : List Us → Nat → Int × Int
  | [], _ => (0, 0)
  | u :: r, i => if userS xs i u = 0 then usersS xs r (i + 1) else ((i : Int), userS xs i u)
theorem find_snd (n : ByteArray) (l : List Us) : (findS n l).2.2 = l.any (hitU n) := by
  rcases place_find n l 0 with ⟨_, h2, h3⟩ | ⟨j, hj, _, h2, h3, _⟩ <;> rw [h2, h3]
theorem users_l0 (xs : List Us) (hx : xs.length ≤ 9223372036854775807) (hu : ∀ u ∈ xs, okU u) : ∀ (d i : Nat), i + d = xs.length →
    Ev (fun k => right_Users.l0 k xs xs (xs.length : Int) (i : Int)) (usersS xs (xs.drop i) i) := by
  intro d
  induction d with
  | zero =>
    intro i hi
    rw [List.drop_eq_nil_of_le (by omega)]
    refine Ev.step (f := fun _ => some (0, 0)) (fun k => ?_) (Ev.now _)
    simp only [right_Users.l0]
    rw [if_neg (by omega)]
  | succ d ih =>
    intro i hi
    have hlt : i < xs.length := by omega
    have hw := w64s hlt hx
    have hok := hu _ (List.getElem_mem hlt)
    have ih' := ih (i + 1) (by omega)
    rw [List.drop_eq_getElem_cons hlt]
    simp only [usersS]
    refine Ev.step (f := fun k => (right_Find.f k (xs.take i) xs[i].f0).bind fun b => right_Users.j1 k xs (i : Int) b.2.2 xs (xs.length : Int) (i : Int) xs[i].f0 xs[i].f1.f0 xs[i].f1.f1) (fun k => ?_) ?_
    · simp only [right_Users.l0]
      rw [if_pos (by omega), if_pos (by omega), if_pos (by omega), if_pos (by omega), rdU xs i hlt]
      rfl
    · refine ev_bind (find_ev xs[i].f0 (xs.take i) (by simp; omega)) ?_
      rw [find_snd]
      refine Ev.step (f := fun k => if (i : Int) ≥ 16 then some ((i : Int), 10) else (right_Name.f k xs[i].f0).bind fun t => if t = true then (if (xs.take i).any (hitU xs[i].f0) = true then some ((i : Int), 8) else (label_May.f xs[i].f1.f0 xs[i].f1.f1).bind fun t2 => if t2 = true then right_Users.l0 k xs xs (xs.length : Int) ((i + 1 : Nat) : Int) else some ((i : Int), 7)) else some ((i : Int), 1)) (fun k => ?_) ?_
      · simp only [right_Users.j1, hw]
      · refine ev_ite (fun h => ?_) (fun h => ?_)
        · have e : userS xs i xs[i] = 10 := by unfold userS; rw [if_pos (by omega)]
          rw [e, if_neg (by decide)]; exact Ev.now _
        · have h16 : ¬ 16 ≤ i := by omega
          refine ev_bind (name_ev _ hok.2) ?_
          refine ev_ite (fun hn => ?_) (fun hn => ?_)
          · refine ev_ite (fun h2 => ?_) (fun h2 => ?_)
            · have e : userS xs i xs[i] = 8 := by unfold userS; rw [if_neg h16, hn, if_neg (by decide), if_pos h2]
              rw [e, if_neg (by decide)]; exact Ev.now _
            · rw [may_eq]
              simp only [Option.bind_some]
              refine ev_ite (fun hm => ?_) (fun hm => ?_)
              · have e : userS xs i xs[i] = 0 := by unfold userS; rw [if_neg h16, hn, if_neg (by decide), if_neg h2, show mayS xs[i].f1.f0 = true from hm, if_neg (by decide)]
                rw [e, if_pos rfl]; exact ih'
              · have e : userS xs i xs[i] = 7 := by unfold userS; rw [if_neg h16, hn, if_neg (by decide), if_neg h2, show mayS xs[i].f1.f0 = false by simpa [mayS] using hm, if_pos rfl]
                rw [e, if_neg (by decide)]; exact Ev.now _
          · have e : userS xs i xs[i] = 1 := by unfold userS; rw [if_neg h16, show nameS xs[i].f0 = false by simpa using hn, if_pos rfl]
            rw [e, if_neg (by decide)]; exact Ev.now _
theorem users_ev (xs : List Us) (hx : xs.length ≤ 9223372036854775807) (hu : ∀ u ∈ xs, okU u) : Ev (fun k => right_Users.f k xs) (usersS xs xs 0) := by
  unfold right_Users.f
  simpa using users_l0 xs hx hu xs.length 0 (by omega)
theorem place_own (xs : List Us) (i : Nat) (h : i < xs.length) : (placeS xs[i].f0 xs 0 = (i : Int)) ↔ (xs.take i).any (hitU xs[i].f0) = false := by
  have hself : hitU xs[i].f0 xs[i] = true := by unfold hitU; simp
  rcases place_find xs[i].f0 xs 0 with ⟨h1, h2, h3⟩ | ⟨j, hj, h1, h2, h3, h4, h5⟩
  · exfalso
    have := List.any_eq_false.1 h3 xs[i] (List.getElem_mem h)
    exact this hself
  · rw [h1, Nat.zero_add]
    constructor
    · intro e
      have : j = i := by omega
      subst this
      exact h5
    · intro e
      rcases Nat.lt_trichotomy j i with hlt | he | hgt
      · exfalso
        have := List.any_eq_false.1 e xs[j] (by rw [List.mem_take_iff_getElem]; exact ⟨j, by omega, rfl⟩)
        exact this h4
      · omega
      · exfalso
        have := List.any_eq_false.1 h5 xs[i] (by rw [List.mem_take_iff_getElem]; exact ⟨i, by omega, rfl⟩)
        exact this hself
theorem rusers_l0 (xs : List Us) (hx : xs.length ≤ 9223372036854775807) (hu : ∀ u ∈ xs, okU u) : ∀ (d i : Nat), i + d = xs.length →
    Ev (fun k => oculusref06_Users.l0 k xs (i : Int)) (usersS xs (xs.drop i) i) := by
  intro d
  induction d with
  | zero =>
    intro i hi
    rw [List.drop_eq_nil_of_le (by omega)]
    refine Ev.step (f := fun _ => some (0, 0)) (fun k => ?_) (Ev.now _)
    simp only [oculusref06_Users.l0]
    rw [if_neg (by omega)]
  | succ d ih =>
    intro i hi
    have hlt : i < xs.length := by omega
    have hw := w64s hlt hx
    have hok := hu _ (List.getElem_mem hlt)
    have ih' := ih (i + 1) (by omega)
    rw [List.drop_eq_getElem_cons hlt]
    simp only [usersS]
    have j3 : ∀ e : Int, (16 ≤ i ∨ e = userS xs i xs[i]) → Ev (fun k => oculusref06_Users.j3 k xs (i : Int) e) (if userS xs i xs[i] = 0 then usersS xs (xs.drop (i + 1)) (i + 1) else ((i : Int), userS xs i xs[i])) := by
      intro e he
      refine Ev.step (f := fun k => if (i : Int) > 15 then some ((i : Int), 10) else if e = 0 then oculusref06_Users.l0 k xs ((i + 1 : Nat) : Int) else some ((i : Int), e)) (fun k => by simp only [oculusref06_Users.j3, hw]) ?_
      refine ev_ite (fun h => ?_) (fun h => ?_)
      · have : userS xs i xs[i] = 10 := by unfold userS; rw [if_pos (by omega)]
        rw [this, if_neg (by omega)]; exact Ev.now _
      · have he' : e = userS xs i xs[i] := by rcases he with h' | h'; omega; exact h'
        rw [← he']
        refine ev_ite (fun h2 => ?_) (fun h2 => ?_)
        · rw [if_pos h2]; exact ih'
        · rw [if_neg h2]; exact Ev.now _
    have j2 : ∀ e : Int, (16 ≤ i ∨ nameS xs[i].f0 = false ∨ e = userS xs i xs[i]) → Ev (fun k => oculusref06_Users.j2 k xs (i : Int) e) (if userS xs i xs[i] = 0 then usersS xs (xs.drop (i + 1)) (i + 1) else ((i : Int), userS xs i xs[i])) := by
      intro e he
      refine Ev.step (f := fun k => (oculusref06_Name.f k xs[i].f0).bind fun t => if t = true then oculusref06_Users.j3 k xs (i : Int) e else oculusref06_Users.j3 k xs (i : Int) 1) (fun k => ?_) ?_
      · simp only [oculusref06_Users.j2]
        rw [if_pos (by omega), if_pos (by omega), rdU xs i hlt]
      · refine ev_bind (rname_ev _ hok.2) ?_
        refine ev_ite (fun h => ?_) (fun h => ?_)
        · refine j3 e ?_
          rcases he with h' | h' | h'
          · exact Or.inl h'
          · rw [h] at h'; cases h'
          · exact Or.inr h'
        · refine j3 1 ?_
          by_cases h16 : 16 ≤ i
          · exact Or.inl h16
          · right; unfold userS; rw [if_neg h16, if_pos (by simpa using h)]
    have j1 : ∀ e : Int, (e = if mayS xs[i].f1.f0 = true then 0 else 7) → Ev (fun k => oculusref06_Users.j1 k xs (i : Int) e) (if userS xs i xs[i] = 0 then usersS xs (xs.drop (i + 1)) (i + 1) else ((i : Int), userS xs i xs[i])) := by
      intro e he
      refine Ev.step (f := fun k => (oculusref06_Find.f k xs xs[i].f0).bind fun t => if t = (i : Int) then oculusref06_Users.j2 k xs (i : Int) e else oculusref06_Users.j2 k xs (i : Int) 8) (fun k => ?_) ?_
      · simp only [oculusref06_Users.j1]
        rw [if_pos (by omega), if_pos (by omega), rdU xs i hlt]
      · refine ev_bind (rfind_ev _ xs hx) ?_
        refine ev_ite (fun h => ?_) (fun h => ?_)
        · rw [place_own xs i hlt] at h
          refine j2 e ?_
          by_cases h16 : 16 ≤ i
          · exact Or.inl h16
          · cases hn : nameS xs[i].f0 with
            | false => exact Or.inr (Or.inl rfl)
            | true =>
              right; right
              unfold userS
              rw [if_neg h16, hn, if_neg (by simp), h, if_neg (by simp), he]
              cases mayS xs[i].f1.f0 <;> simp
        · rw [place_own xs i hlt] at h
          refine j2 8 ?_
          by_cases h16 : 16 ≤ i
          · exact Or.inl h16
          · cases hn : nameS xs[i].f0 with
            | false => exact Or.inr (Or.inl rfl)
            | true =>
              right; right
              unfold userS
              rw [if_neg h16, hn, if_neg (by simp), if_pos (by simpa using h)]
    refine Ev.step (f := fun k => (oculusref06_may.f xs[i].f1.f0 xs[i].f1.f1).bind fun t => if t = true then oculusref06_Users.j1 k xs (i : Int) 0 else oculusref06_Users.j1 k xs (i : Int) 7) (fun k => ?_) ?_
    · simp only [oculusref06_Users.l0]
      rw [if_pos (by omega), if_pos (by omega), rdU xs i hlt]
    · rw [rmay_eq]
      simp only [Option.bind_some]
      refine ev_ite (fun h => ?_) (fun h => ?_)
      · exact j1 0 (by rw [if_pos (show mayS xs[i].f1.f0 = true from h)])
      · exact j1 7 (by rw [if_neg (show ¬ mayS xs[i].f1.f0 = true from h)])
theorem rusers_ev (xs : List Us) (hx : xs.length ≤ 9223372036854775807) (hu : ∀ u ∈ xs, okU u) : Ev (fun k => oculusref06_Users.f k xs) (usersS xs xs 0) := by
  unfold oculusref06_Users.f
  simpa using rusers_l0 xs hx hu xs.length 0 (by omega)
def grantS (us : List Us) (i : Nat) (g : Gr) : Int := if 32 ≤ i then 10 else if us.any (hitU g.f0) = false then 11 else if (mayS g.f1.f0 && mayS g.f2.f0) = false then 7 else 0
def grantsS (us : List Us) : List Gr → Nat → Int × Int
  | [], _ => (0, 0)
  | g :: r, i => if grantS us i g = 0 then grantsS us r (i + 1) else ((i : Int), grantS us i g)
theorem grants_l0 (us : List Us) (hus : us.length ≤ 9223372036854775807) (xs : List Gr) (hx : xs.length ≤ 9223372036854775807) : ∀ (d i : Nat), i + d = xs.length →
    Ev (fun k => right_Grants.l0 k us xs (xs.length : Int) (i : Int)) (grantsS us (xs.drop i) i) := by
  intro d
  induction d with
  | zero =>
    intro i hi
    rw [List.drop_eq_nil_of_le (by omega)]
    refine Ev.step (f := fun _ => some (0, 0)) (fun k => ?_) (Ev.now _)
    simp only [right_Grants.l0]
    rw [if_neg (by omega)]
  | succ d ih =>
    intro i hi
    have hlt : i < xs.length := by omega
    have hw := w64s hlt hx
    have ih' := ih (i + 1) (by omega)
    rw [List.drop_eq_getElem_cons hlt]
    simp only [grantsS]
    refine Ev.step (f := fun k => (right_Find.f k us xs[i].f0).bind fun b => right_Grants.j1 k us (i : Int) b.2.2 xs (xs.length : Int) (i : Int) xs[i].f0 xs[i].f1.f0 xs[i].f1.f1 xs[i].f2.f0 xs[i].f2.f1) (fun k => ?_) ?_
    · simp only [right_Grants.l0]
      rw [if_pos (by omega), if_pos (by omega), if_pos (by omega), rdG xs i hlt]
    · refine ev_bind (find_ev xs[i].f0 us hus) ?_
      rw [find_snd]
      refine Ev.step (f := fun k => if (i : Int) ≥ 32 then some ((i : Int), 10) else if us.any (hitU xs[i].f0) = true then ((label_May.f xs[i].f1.f0 xs[i].f1.f1).bind fun t => if t = true then ((label_May.f xs[i].f2.f0 xs[i].f2.f1).bind fun t2 => if t2 = true then right_Grants.l0 k us xs (xs.length : Int) ((i + 1 : Nat) : Int) else some ((i : Int), 7)) else some ((i : Int), 7)) else some ((i : Int), 11)) (fun k => ?_) ?_
      · simp only [right_Grants.j1, hw]
      · refine ev_ite (fun h => ?_) (fun h => ?_)
        · have e : grantS us i xs[i] = 10 := by unfold grantS; rw [if_pos (by omega)]
          rw [e, if_neg (by decide)]; exact Ev.now _
        · have h32 : ¬ 32 ≤ i := by omega
          refine ev_ite (fun hn => ?_) (fun hn => ?_)
          · have seven : (mayS xs[i].f1.f0 && mayS xs[i].f2.f0) = false → grantS us i xs[i] = 7 := by
              intro h7; unfold grantS; rw [if_neg h32, hn, if_neg (by decide), h7, if_pos rfl]
            rw [may_eq]
            simp only [Option.bind_some]
            refine ev_ite (fun hm => ?_) (fun hm => ?_)
            · rw [may_eq]
              simp only [Option.bind_some]
              refine ev_ite (fun hm2 => ?_) (fun hm2 => ?_)
              · have e : grantS us i xs[i] = 0 := by unfold grantS; rw [if_neg h32, hn, if_neg (by decide), show mayS xs[i].f1.f0 = true from hm, show mayS xs[i].f2.f0 = true from hm2, if_neg (by decide)]
                rw [e, if_pos rfl]; exact ih'
              · rw [seven (by rw [show mayS xs[i].f2.f0 = false by simpa [mayS] using hm2, Bool.and_false]), if_neg (by decide)]; exact Ev.now _
            · rw [seven (by rw [show mayS xs[i].f1.f0 = false by simpa [mayS] using hm, Bool.false_and]), if_neg (by decide)]; exact Ev.now _
          · have e : grantS us i xs[i] = 11 := by unfold grantS; rw [if_neg h32, show us.any (hitU xs[i].f0) = false by simpa using hn, if_pos rfl]
            rw [e, if_neg (by decide)]; exact Ev.now _
theorem grants_ev (us : List Us) (hus : us.length ≤ 9223372036854775807) (xs : List Gr) (hx : xs.length ≤ 9223372036854775807) : Ev (fun k => right_Grants.f k xs us) (grantsS us xs 0) := by
  unfold right_Grants.f
  simpa using grants_l0 us hus xs hx xs.length 0 (by omega)
theorem rgrants_l0 (us : List Us) (hus : us.length ≤ 9223372036854775807) (xs : List Gr) (hx : xs.length ≤ 9223372036854775807) : ∀ (d i : Nat), i + d = xs.length →
    Ev (fun k => oculusref06_Grants.l0 k xs us (i : Int)) (grantsS us (xs.drop i) i) := by
  intro d
  induction d with
  | zero =>
    intro i hi
    rw [List.drop_eq_nil_of_le (by omega)]
    refine Ev.step (f := fun _ => some (0, 0)) (fun k => ?_) (Ev.now _)
    simp only [oculusref06_Grants.l0]
    rw [if_neg (by omega)]
  | succ d ih =>
    intro i hi
    have hlt : i < xs.length := by omega
    have hw := w64s hlt hx
    have ih' := ih (i + 1) (by omega)
    rw [List.drop_eq_getElem_cons hlt]
    simp only [grantsS]
    have j3 : ∀ e : Int, (32 ≤ i ∨ e = grantS us i xs[i]) → Ev (fun k => oculusref06_Grants.j3 k xs us (i : Int) e) (if grantS us i xs[i] = 0 then grantsS us (xs.drop (i + 1)) (i + 1) else ((i : Int), grantS us i xs[i])) := by
      intro e he
      refine Ev.step (f := fun k => if (i : Int) > 31 then some ((i : Int), 10) else if e = 0 then oculusref06_Grants.l0 k xs us ((i + 1 : Nat) : Int) else some ((i : Int), e)) (fun k => by simp only [oculusref06_Grants.j3, hw]) ?_
      refine ev_ite (fun h => ?_) (fun h => ?_)
      · have : grantS us i xs[i] = 10 := by unfold grantS; rw [if_pos (by omega)]
        rw [this, if_neg (by omega)]; exact Ev.now _
      · have he' : e = grantS us i xs[i] := by rcases he with h' | h'; omega; exact h'
        rw [← he']
        refine ev_ite (fun h2 => ?_) (fun h2 => ?_)
        · rw [if_pos h2]; exact ih'
        · rw [if_neg h2]; exact Ev.now _
    have j2 : ∀ e : Int, e = (if (mayS xs[i].f1.f0 && mayS xs[i].f2.f0) = false then 7 else 0) → Ev (fun k => oculusref06_Grants.j2 k xs us (i : Int) e) (if grantS us i xs[i] = 0 then grantsS us (xs.drop (i + 1)) (i + 1) else ((i : Int), grantS us i xs[i])) := by
      intro e he
      refine Ev.step (f := fun k => (oculusref06_Find.f k us xs[i].f0).bind fun t => if t < 0 then oculusref06_Grants.j3 k xs us (i : Int) 11 else oculusref06_Grants.j3 k xs us (i : Int) e) (fun k => ?_) ?_
      · simp only [oculusref06_Grants.j2]
        rw [if_pos (by omega), if_pos (by omega), rdG xs i hlt]
      · refine ev_bind (rfind_ev _ us hus) ?_
        rcases place_find xs[i].f0 us 0 with ⟨h1, h2, h3⟩ | ⟨j, hj, h1, h2, h3, h4, h5⟩
        · rw [h1]
          refine ev_pos (by omega) (j3 11 ?_)
          by_cases h32 : 32 ≤ i
          · exact Or.inl h32
          · right; unfold grantS; rw [if_neg h32, if_pos h3]
        · rw [h1]
          refine ev_neg (by omega) (j3 e ?_)
          by_cases h32 : 32 ≤ i
          · exact Or.inl h32
          · right; unfold grantS; rw [if_neg h32, if_neg (by rw [h3]; simp)]; exact he
    have j1 : ∀ b : Bool, b = !(mayS xs[i].f1.f0 && mayS xs[i].f2.f0) → Ev (fun k => oculusref06_Grants.j1 k xs us (i : Int) 0 b) (if grantS us i xs[i] = 0 then grantsS us (xs.drop (i + 1)) (i + 1) else ((i : Int), grantS us i xs[i])) := by
      intro b hb
      refine Ev.step (f := fun k => if b = true then oculusref06_Grants.j2 k xs us (i : Int) 7 else oculusref06_Grants.j2 k xs us (i : Int) 0) (fun k => by simp only [oculusref06_Grants.j1]) ?_
      cases hh : (mayS xs[i].f1.f0 && mayS xs[i].f2.f0) with
      | false => rw [hh] at hb; subst hb; exact ev_pos rfl (j2 7 (by rw [hh]; rfl))
      | true => rw [hh] at hb; subst hb; exact ev_neg (by simp) (j2 0 (by rw [hh]; rfl))
    refine Ev.step (f := fun k => (oculusref06_may.f xs[i].f1.f0 xs[i].f1.f1).bind fun t => if t = true then ((oculusref06_may.f xs[i].f2.f0 xs[i].f2.f1).bind fun t2 => oculusref06_Grants.j1 k xs us (i : Int) 0 (!t2)) else oculusref06_Grants.j1 k xs us (i : Int) 0 true) (fun k => ?_) ?_
    · simp only [oculusref06_Grants.l0]
      rw [if_pos (by omega), if_pos (by omega), rdG xs i hlt]
    · rw [rmay_eq, rmay_eq]
      simp only [Option.bind_some]
      refine ev_ite (fun h => ?_) (fun h => ?_)
      · exact j1 _ (by rw [show mayS xs[i].f1.f0 = true from h]; rfl)
      · exact j1 _ (by rw [show mayS xs[i].f1.f0 = false from by simpa [mayS] using h]; rfl)
theorem rgrants_ev (us : List Us) (hus : us.length ≤ 9223372036854775807) (xs : List Gr) (hx : xs.length ≤ 9223372036854775807) : Ev (fun k => oculusref06_Grants.f k xs us) (grantsS us xs 0) := by
  unfold oculusref06_Grants.f
  simpa using rgrants_l0 us hus xs hx xs.length 0 (by omega)
end Go.Proofs.YtbboanfggaknjaaDoor.X.US
/- Words of a policy's lines: without blanks and line feeds; a line, cut and split again. -/
set_option linter.unusedVariables false
set_option linter.unusedSimpArgs false
namespace Go.Proofs.YtbboanfggaknjaaDoor.X
open Go.RowKit Go.Proofs.YtbboanfggaknjaaDoorW.PrintWords Go.Proofs.YtbboanfggaknjaaDoorW.PrintLast Go.Proofs.YtbboanfggaknjaaDoorW.PrintMore
def hi7 (l : List UInt8) : Prop := ∀ b ∈ l, 33 ≤ b.toNat
def hiB (l : List UInt8) : Bool := l.all fun b => decide (33 ≤ b.toNat)
theorem hi7_of {l : List UInt8} (h : hiB l = true) : hi7 l := by
  intro b hb
  have := List.all_eq_true.1 h b hb
  exact of_decide_eq_true this
theorem hi7_app {p q : List UInt8} (h1 : hi7 p) (h2 : hi7 q) : hi7 (p ++ q) := by
  intro b hb
  rcases List.mem_append.1 hb with h | h
  · exact h1 b h
  · exact h2 b h
theorem hi7_cons {c : UInt8} {q : List UInt8} (h1 : 33 ≤ c.toNat) (h2 : hi7 q) : hi7 (c :: q) := by
  intro b hb
  rcases List.mem_cons.1 hb with h | h
  · subst h; exact h1
  · exact h2 b h
theorem hi7_nil : hi7 [] := fun b hb => by cases hb
theorem hi7_not {l : List UInt8} (h : hi7 l) {c : UInt8} (hc : c.toNat < 33) : c ∉ l := fun hm => by have := h c hm; omega
theorem let_hi : ∀ n : Fin 702, hiB (AD.letL n.val) = true := by decide +kernel
theorem dig_hi : ∀ n : Fin 1000, hiB (AD.digL n.val) = true := by decide +kernel
theorem digT_hi : ∀ n : Fin 100, hiB (digT n.val) = true := by decide +kernel
theorem name_hi (r c : Int) : hi7 (AD.nameL r c) := by
  unfold AD.nameL
  by_cases h : AD.mayI r c = true
  · rw [if_pos h]
    unfold AD.mayI at h
    have hb := of_decide_eq_true h
    exact hi7_app (hi7_of (let_hi ⟨c.toNat, by omega⟩)) (hi7_of (dig_hi ⟨r.toNat + 1, by omega⟩))
  · rw [if_neg h]; exact hi7_nil
theorem txt_hi (a b c d : Int) : hi7 (AD.txtL a b c d) := by
  unfold AD.txtL
  by_cases h : AD.mayZ a b c d = true
  · rw [if_pos h]
    by_cases h2 : a = c ∧ b = d
    · rw [if_pos h2]; exact name_hi a b
    · rw [if_neg h2]; exact hi7_app (name_hi a b) (hi7_cons (by decide) (name_hi c d))
  · rw [if_neg h]; exact hi7_nil
theorem joi_hi (c : UInt8) (hc : 33 ≤ c.toNat) : ∀ ws : List (List UInt8), (∀ w ∈ ws, hi7 w) → hi7 (joiC c ws)
  | [], _ => hi7_nil
  | [p], h => h p (by simp)
  | p :: q :: ps, h => hi7_app (h p (by simp)) (hi7_cons hc (joi_hi c hc (q :: ps) (fun w hw => h w (List.mem_cons_of_mem _ hw))))
theorem lab_hi (lv : Int) (c : Nat) : hi7 (labT lv c) := by
  unfold labT
  by_cases h : 0 ≤ lv ∧ lv ≤ 15
  · rw [if_pos h]
    by_cases h2 : lv = 15 ∧ c = full64
    · rw [if_pos h2]; exact hi7_of (by decide)
    · rw [if_neg h2]
      have hd : hi7 (digT lv.toNat) := hi7_of (digT_hi ⟨lv.toNat, by omega⟩)
      by_cases h3 : c = 0
      · rw [if_pos h3]; exact hd
      · rw [if_neg h3]
        refine hi7_app hd (hi7_cons (by decide) ?_)
        unfold txtS
        refine joi_hi 44 (by decide) _ ?_
        intro w hw
        obtain ⟨d, hd2, rfl⟩ := List.mem_map.1 hw
        exact hi7_of (digT_hi ⟨d, by have := bitsL_lt hd2; omega⟩)
  · rw [if_neg h]; exact hi7_nil
theorem allS_at (s : ByteArray) : ∀ (d i j : Nat), US.allS s i d = true → i ≤ j → j < i + d → US.chS (bt s (j : Int)) = true
  | 0, i, j, _, h1, h2 => by omega
  | d + 1, i, j, h, h1, h2 => by
    simp only [US.allS, Bool.and_eq_true] at h
    by_cases e : i = j
    · subst e; exact h.1
    · exact allS_at s d (i + 1) j h.2 (by omega) (by omega)
theorem user_hi (s : ByteArray) (h : US.nameS s = true) : hi7 (by_ s) ∧ s.size ≤ 16 := by
  unfold US.nameS at h
  simp only [Bool.and_eq_true, decide_eq_true_eq] at h
  refine ⟨?_, h.2.1⟩
  intro b hb
  obtain ⟨i, hi, rfl⟩ := List.mem_iff_getElem.1 hb
  have h1 := allS_at s s.size 0 i h.2.2.2 (Nat.zero_le _) (by rw [size_by]; omega)
  rw [bt_by s i hi] at h1
  unfold US.chS at h1
  simp only [Bool.or_eq_true, Bool.and_eq_true, decide_eq_true_eq] at h1
  omega
theorem join_joi : ∀ (ps : List (List UInt8)) (p : List UInt8), joinL [32] (p :: ps) = joiC 32 (p :: ps)
  | [], p => by simp [joinL, joiC]
  | q :: ps, p => by
    have h : q ++ ps.flatMap (fun y => [32] ++ y) = joiC 32 (q :: ps) := join_joi ps q
    show p ++ ((q :: ps).flatMap fun y => [32] ++ y) = p ++ 32 :: joiC 32 (q :: ps)
    rw [List.flatMap_cons, ← h, List.append_assoc]
    rfl
theorem split_join (p : List UInt8) (ps : List (List UInt8)) (h : ∀ q ∈ p :: ps, hi7 q) : splC 32 (joinL [32] (p :: ps)) = p :: ps := by
  rw [join_joi]
  exact splC_joiC 32 p ps fun q hq => hi7_not (h q hq) (by decide)
theorem join_nolf : ∀ (ps : List (List UInt8)) (p : List UInt8), (∀ q ∈ p :: ps, hi7 q) → (10 : UInt8) ∉ joinL [32] (p :: ps) := by
  intro ps p h
  unfold joinL
  intro hm
  rcases List.mem_append.1 hm with h1 | h1
  · exact hi7_not (h p (by simp)) (by decide) h1
  · obtain ⟨q, hq, h2⟩ := List.mem_flatMap.1 h1
    rcases List.mem_append.1 h2 with h3 | h3
    · simp at h3
    · exact hi7_not (h q (List.mem_cons_of_mem _ hq)) (by decide) h3
end Go.Proofs.YtbboanfggaknjaaDoor.X
/- Zones. -/
set_option linter.unusedVariables false
set_option linter.unusedSimpArgs false
namespace Go.Proofs.YtbboanfggaknjaaDoor.X.ZN
open Go.RowKit Go.Proofs.YtbboanfggaknjaaDoorW.PrintWords Go.Proofs.YtbboanfggaknjaaDoorW.PrintLast Go.Proofs.YtbboanfggaknjaaDoorW.PrintMore
abbrev Zn := S61
theorem straight_eq {a0 a1 a2 a3 : Int} (h : span_May.f a0 a1 a2 a3 = some true) : span_Straight.f a0 a1 a2 a3 = some (mn a0 a2, mn a1 a3, mx a0 a2, mx a1 a3) := by
  unfold span_Straight.f
  rw [h]
  rfl
theorem rdZ (xs : List Zn) (i : Nat) (h : i < xs.length) : rd_T61 xs (i : Int) = xs[i] := by
  show xs.getD (Int.toNat (i : Int)) _ = _
  rw [Int.toNat_natCast, List.getD_eq_getElem?_getD, List.getElem?_eq_getElem h]; rfl
def mayZ (a b c d : Int) : Bool := decide ((0 ≤ a ∧ a < 999 ∧ 0 ≤ b ∧ b < 702) ∧ (0 ≤ c ∧ c < 999 ∧ 0 ≤ d ∧ d < 702))
theorem addr_may_eq (a b : Int) : addr_May.f a b = some (decide (0 ≤ a ∧ a < 999 ∧ 0 ≤ b ∧ b < 702)) := by
  unfold addr_May.f
  by_cases h1 : a ≥ 0
  · rw [if_pos h1]
    by_cases h2 : a < 999
    · rw [if_pos h2]
      by_cases h3 : b ≥ 0
      · rw [if_pos h3, Option.some.injEq, decide_eq_decide]; omega
      · rw [if_neg h3, decide_eq_false (by omega)]
    · rw [if_neg h2, decide_eq_false (by omega)]
  · rw [if_neg h1, decide_eq_false (by omega)]
theorem span_may_eq (a b c d : Int) : span_May.f a b c d = some (mayZ a b c d) := by
  unfold span_May.f mayZ
  rw [addr_may_eq, Option.bind_some]
  by_cases h : 0 ≤ a ∧ a < 999 ∧ 0 ≤ b ∧ b < 702
  · rw [decide_eq_true h, if_pos rfl, addr_may_eq, Option.bind_some, Option.some.injEq, decide_eq_decide]
    exact ⟨fun g => ⟨h, g⟩, fun g => g.2⟩
  · rw [decide_eq_false h, if_neg (by simp), decide_eq_false (fun g => h g.1)]
theorem rmay_eq (a b : Int) : oculusref03_May.f a b = some (decide (0 ≤ a ∧ a < 999 ∧ 0 ≤ b ∧ b < 702)) := by
  unfold oculusref03_May.f
  by_cases h1 : a ≥ 0
  · rw [if_pos h1]
    by_cases h2 : a ≤ 998
    · rw [if_pos h2]
      by_cases h3 : b ≥ 0
      · rw [if_pos h3, Option.some.injEq, decide_eq_decide]; omega
      · rw [if_neg h3, decide_eq_false (by omega)]
    · rw [if_neg h2, decide_eq_false (by omega)]
  · rw [if_neg h1, decide_eq_false (by omega)]
theorem rspan_may_eq (a b c d : Int) : oculusref04_May.f a b c d = some (mayZ a b c d) := by
  unfold oculusref04_May.f mayZ
  rw [rmay_eq, Option.bind_some]
  by_cases h : 0 ≤ a ∧ a < 999 ∧ 0 ≤ b ∧ b < 702
  · rw [decide_eq_true h, if_pos rfl, rmay_eq, Option.bind_some, Option.some.injEq, decide_eq_decide]
    exact ⟨fun g => ⟨h, g⟩, fun g => g.2⟩
  · rw [decide_eq_false h, if_neg (by simp), decide_eq_false (fun g => h g.1)]
theorem span_str (a b c d : Int) (h : mayZ a b c d = true) : span_Straight.f a b c d = some (mn a c, mn b d, mx a c, mx b d) := straight_eq (by rw [span_may_eq, h])
def wrongZ (rows cols : Int) : Nat → List Zn → Int × Int
  | _, [] => (0, 0)
  | i, z :: l => if 32 ≤ i then ((i : Int), 10) else if ¬ (mayZ z.f0.f0.f0 z.f0.f0.f1 z.f0.f1.f0 z.f0.f1.f1 = true ∧ z.f0.f0.f0 ≤ z.f0.f1.f0 ∧ z.f0.f0.f1 ≤ z.f0.f1.f1) then ((i : Int), 1)
    else if z.f0.f1.f0 ≥ rows ∨ z.f0.f1.f1 ≥ cols then ((i : Int), 2) else if ¬ (0 ≤ z.f1.f0 ∧ z.f1.f0 ≤ 15) then ((i : Int), 7) else wrongZ rows cols (i + 1) l
theorem straight_ne (a b c d : Int) : ((!(mn a c == a) || (!(mn b d == b))) || ((!(mx a c == c) || (!(mx b d == d))))) = !(decide (a ≤ c ∧ b ≤ d)) := by
  rw [Bool.eq_iff_iff]
  simp only [Bool.or_eq_true, Bool.not_eq_true', beq_eq_false_iff_ne, decide_eq_false_iff_not, ne_eq]
  unfold mn mx
  repeat' split
  all_goals omega
theorem label_may_eq (a b : Int) : label_May.f a b = some (decide (0 ≤ a ∧ a ≤ 15)) := by
  unfold label_May.f
  by_cases h : a ≥ 0
  · rw [if_pos h, Option.some.injEq, decide_eq_decide]; omega
  · rw [if_neg h, decide_eq_false (by omega)]
theorem wrong_l0 (rows cols : Int) (xs : List Zn) (hx : xs.length ≤ 9223372036854775807) : ∀ d i, i + d = xs.length → Ev (fun k => zone_Wrong.l0 k rows cols xs (xs.length : Int) (i : Int)) (wrongZ rows cols i (xs.drop i))
  | 0, i, h => by
    rw [List.drop_eq_nil_of_le (by omega)]
    refine Ev.step (fun k => zone_Wrong.l0.eq_2 _ _ _ _ _ _) ?_
    exact ev_neg (by omega) (Ev.now _)
  | d + 1, i, h => by
    have hlt : i < xs.length := by omega
    rw [List.drop_eq_getElem_cons hlt]
    refine Ev.step (fun k => zone_Wrong.l0.eq_2 _ _ _ _ _ _) ?_
    refine ev_pos (by omega) (ev_pos (by omega) (ev_pos (by omega) ?_))
    simp only [wrongZ]
    refine ev_ite (fun g => ?_) (fun g => ?_)
    · rw [if_pos (by omega)]; exact Ev.now _
    · rw [if_neg (by omega)]
      simp only [rdZ xs i hlt]
      refine ev_bind (ev_some fun _ => span_may_eq _ _ _ _) ?_
      have j2 : ∀ b1 : Bool, b1 = decide (xs[i].f0.f1.f0 ≥ rows ∨ xs[i].f0.f1.f1 ≥ cols) → Ev (fun k => zone_Wrong.j2 k rows cols (i : Int) xs (xs.length : Int) (i : Int) b1 xs[i].f0.f0.f0 xs[i].f0.f0.f1 xs[i].f0.f1.f0 xs[i].f0.f1.f1 xs[i].f1.f0 xs[i].f1.f1)
          (if xs[i].f0.f1.f0 ≥ rows ∨ xs[i].f0.f1.f1 ≥ cols then ((i : Int), 2) else if ¬ (0 ≤ xs[i].f1.f0 ∧ xs[i].f1.f0 ≤ 15) then ((i : Int), 7) else wrongZ rows cols (i + 1) (xs.drop (i + 1))) := by
        intro b1 hb
        subst hb
        refine Ev.step (fun k => zone_Wrong.j2.eq_2 _ _ _ _ _ _ _ _ _ _ _ _ _ _) ?_
        by_cases g2 : xs[i].f0.f1.f0 ≥ rows ∨ xs[i].f0.f1.f1 ≥ cols
        · rw [if_pos g2]; exact ev_pos (decide_eq_true g2) (Ev.now _)
        · rw [if_neg g2]
          refine ev_neg (by rw [decide_eq_false g2]; simp) ?_
          refine ev_bind (ev_some fun _ => label_may_eq _ _) ?_
          by_cases g3 : 0 ≤ xs[i].f1.f0 ∧ xs[i].f1.f0 ≤ 15
          · rw [if_neg (fun n => n g3)]
            refine ev_pos (decide_eq_true g3) ?_
            simp only [w64s hlt hx]
            exact wrong_l0 rows cols xs hx d (i + 1) (by omega)
          · rw [if_pos g3]
            exact ev_neg (by rw [decide_eq_false g3]; simp) (Ev.now _)
      have j1 : ∀ b : Bool, b = !(decide (mayZ xs[i].f0.f0.f0 xs[i].f0.f0.f1 xs[i].f0.f1.f0 xs[i].f0.f1.f1 = true ∧ xs[i].f0.f0.f0 ≤ xs[i].f0.f1.f0 ∧ xs[i].f0.f0.f1 ≤ xs[i].f0.f1.f1)) → Ev (fun k => zone_Wrong.j1 k rows cols (i : Int) xs (xs.length : Int) (i : Int) b xs[i].f0.f0.f0 xs[i].f0.f0.f1 xs[i].f0.f1.f0 xs[i].f0.f1.f1 xs[i].f1.f0 xs[i].f1.f1)
          (if ¬ (mayZ xs[i].f0.f0.f0 xs[i].f0.f0.f1 xs[i].f0.f1.f0 xs[i].f0.f1.f1 = true ∧ xs[i].f0.f0.f0 ≤ xs[i].f0.f1.f0 ∧ xs[i].f0.f0.f1 ≤ xs[i].f0.f1.f1) then ((i : Int), 1) else if xs[i].f0.f1.f0 ≥ rows ∨ xs[i].f0.f1.f1 ≥ cols then ((i : Int), 2) else if ¬ (0 ≤ xs[i].f1.f0 ∧ xs[i].f1.f0 ≤ 15) then ((i : Int), 7) else wrongZ rows cols (i + 1) (xs.drop (i + 1))) := by
        intro b hb
        subst hb
        refine Ev.step (fun k => zone_Wrong.j1.eq_2 _ _ _ _ _ _ _ _ _ _ _ _ _ _) ?_
        by_cases g1 : mayZ xs[i].f0.f0.f0 xs[i].f0.f0.f1 xs[i].f0.f1.f0 xs[i].f0.f1.f1 = true ∧ xs[i].f0.f0.f0 ≤ xs[i].f0.f1.f0 ∧ xs[i].f0.f0.f1 ≤ xs[i].f0.f1.f1
        · rw [if_neg (fun n => n g1)]
          refine ev_neg (by rw [decide_eq_true g1]; simp) ?_
          by_cases g2 : xs[i].f0.f1.f0 ≥ rows
          · exact ev_pos g2 (j2 true (by rw [decide_eq_true (Or.inl g2)]))
          · exact ev_neg g2 (j2 _ (by rw [decide_eq_decide]; exact ⟨Or.inr, fun h => h.resolve_left g2⟩))
        · rw [if_pos g1]
          exact ev_pos (by rw [decide_eq_false g1]; rfl) (Ev.now _)
      cases hm : mayZ xs[i].f0.f0.f0 xs[i].f0.f0.f1 xs[i].f0.f1.f0 xs[i].f0.f1.f1 with
      | false =>
        refine ev_neg (by simp) ?_
        have := j1 true (by rw [hm]; simp)
        rw [hm] at this
        exact this
      | true =>
        refine ev_pos rfl ?_
        refine ev_bind (ev_some fun _ => span_str _ _ _ _ hm) ?_
        simp only [straight_ne]
        have := j1 _ rfl
        rw [hm] at this
        simpa using this
theorem wrong_ev (xs : List Zn) (hx : xs.length ≤ 9223372036854775807) (rows cols : Int) : Ev (fun k => zone_Wrong.f k xs rows cols) (wrongZ rows cols 0 xs) := wrong_l0 rows cols xs hx xs.length 0 (by omega)
theorem rwrong_l0 (rows cols : Int) (xs : List Zn) (hx : xs.length ≤ 9223372036854775807) : ∀ d i, i + d = xs.length → Ev (fun k => oculusref05_Wrong.l0 k xs rows cols (i : Int)) (wrongZ rows cols i (xs.drop i))
  | 0, i, h => by
    rw [List.drop_eq_nil_of_le (by omega)]
    refine Ev.step (fun k => oculusref05_Wrong.l0.eq_2 _ _ _ _ _) ?_
    exact ev_neg (by omega) (Ev.now _)
  | d + 1, i, h => by
    have hlt : i < xs.length := by omega
    rw [List.drop_eq_getElem_cons hlt]
    refine Ev.step (fun k => oculusref05_Wrong.l0.eq_2 _ _ _ _ _) ?_
    refine ev_pos (by omega) (ev_pos (by omega) ?_)
    simp only [wrongZ]
    refine ev_ite (fun g => ?_) (fun g => ?_)
    · rw [if_pos (by omega)]; exact Ev.now _
    · rw [if_neg (by omega)]
      simp only [rdZ xs i hlt]
      refine ev_bind (ev_some fun _ => rspan_may_eq _ _ _ _) ?_
      have j2 : ∀ b1 : Bool, b1 = decide (xs[i].f0.f1.f0 ≥ rows ∨ xs[i].f0.f1.f1 ≥ cols) → Ev (fun k => oculusref05_Wrong.j2 k xs rows cols (i : Int) b1 xs[i].f0.f0.f0 xs[i].f0.f0.f1 xs[i].f0.f1.f0 xs[i].f0.f1.f1 xs[i].f1.f0 xs[i].f1.f1)
          (if xs[i].f0.f1.f0 ≥ rows ∨ xs[i].f0.f1.f1 ≥ cols then ((i : Int), 2) else if ¬ (0 ≤ xs[i].f1.f0 ∧ xs[i].f1.f0 ≤ 15) then ((i : Int), 7) else wrongZ rows cols (i + 1) (xs.drop (i + 1))) := by
        intro b1 hb
        subst hb
        refine Ev.step (fun k => oculusref05_Wrong.j2.eq_2 _ _ _ _ _ _ _ _ _ _ _ _) ?_
        by_cases g2 : xs[i].f0.f1.f0 ≥ rows ∨ xs[i].f0.f1.f1 ≥ cols
        · rw [if_pos g2]; exact ev_pos (decide_eq_true g2) (Ev.now _)
        · rw [if_neg g2]
          refine ev_neg (by rw [decide_eq_false g2]; simp) ?_
          by_cases g3 : 0 ≤ xs[i].f1.f0 ∧ xs[i].f1.f0 ≤ 15
          · rw [if_neg (fun n => n g3)]
            refine ev_neg (by omega) (ev_neg (by omega) ?_)
            simp only [w64s hlt hx]
            exact rwrong_l0 rows cols xs hx d (i + 1) (by omega)
          · rw [if_pos g3]
            refine ev_ite (fun _ => Ev.now _) (fun g4 => ?_)
            exact ev_pos (by omega) (Ev.now _)
      have j1 : ∀ b : Bool, b = !(decide (mayZ xs[i].f0.f0.f0 xs[i].f0.f0.f1 xs[i].f0.f1.f0 xs[i].f0.f1.f1 = true ∧ xs[i].f0.f0.f0 ≤ xs[i].f0.f1.f0 ∧ xs[i].f0.f0.f1 ≤ xs[i].f0.f1.f1)) → Ev (fun k => oculusref05_Wrong.j1 k xs rows cols (i : Int) b xs[i].f0.f0.f0 xs[i].f0.f0.f1 xs[i].f0.f1.f0 xs[i].f0.f1.f1 xs[i].f1.f0 xs[i].f1.f1)
          (if ¬ (mayZ xs[i].f0.f0.f0 xs[i].f0.f0.f1 xs[i].f0.f1.f0 xs[i].f0.f1.f1 = true ∧ xs[i].f0.f0.f0 ≤ xs[i].f0.f1.f0 ∧ xs[i].f0.f0.f1 ≤ xs[i].f0.f1.f1) then ((i : Int), 1) else if xs[i].f0.f1.f0 ≥ rows ∨ xs[i].f0.f1.f1 ≥ cols then ((i : Int), 2) else if ¬ (0 ≤ xs[i].f1.f0 ∧ xs[i].f1.f0 ≤ 15) then ((i : Int), 7) else wrongZ rows cols (i + 1) (xs.drop (i + 1))) := by
        intro b hb
        subst hb
        refine Ev.step (fun k => oculusref05_Wrong.j1.eq_2 _ _ _ _ _ _ _ _ _ _ _ _) ?_
        by_cases g1 : mayZ xs[i].f0.f0.f0 xs[i].f0.f0.f1 xs[i].f0.f1.f0 xs[i].f0.f1.f1 = true ∧ xs[i].f0.f0.f0 ≤ xs[i].f0.f1.f0 ∧ xs[i].f0.f0.f1 ≤ xs[i].f0.f1.f1
        · rw [if_neg (fun n => n g1)]
          refine ev_neg (by rw [decide_eq_true g1]; simp) ?_
          by_cases g2 : xs[i].f0.f1.f0 ≥ rows
          · exact ev_pos g2 (j2 true (by rw [decide_eq_true (Or.inl g2)]))
          · exact ev_neg g2 (j2 _ (by rw [decide_eq_decide]; exact ⟨Or.inr, fun h => h.resolve_left g2⟩))
        · rw [if_pos g1]
          exact ev_pos (by rw [decide_eq_false g1]; rfl) (Ev.now _)
      cases hm : mayZ xs[i].f0.f0.f0 xs[i].f0.f0.f1 xs[i].f0.f1.f0 xs[i].f0.f1.f1 with
      | false =>
        refine ev_neg (by simp) ?_
        have := j1 true (by rw [hm]; simp)
        rw [hm] at this
        exact this
      | true =>
        refine ev_pos rfl ?_
        rw [hm] at j1
        by_cases g1 : xs[i].f0.f0.f0 > xs[i].f0.f1.f0
        · exact ev_pos g1 (j1 true (by rw [decide_eq_false (by omega)]; rfl))
        · refine ev_neg g1 (j1 _ ?_)
          rw [Bool.eq_iff_iff]
          simp only [decide_eq_true_eq, Bool.not_eq_true', decide_eq_false_iff_not, true_and]
          omega
theorem rwrong_ev (xs : List Zn) (hx : xs.length ≤ 9223372036854775807) (rows cols : Int) : Ev (fun k => oculusref05_Wrong.f k xs rows cols) (wrongZ rows cols 0 xs) := rwrong_l0 rows cols xs hx xs.length 0 (by omega)
end Go.Proofs.YtbboanfggaknjaaDoor.X.ZN
/- What policy.Wrong and its reference answer. -/
set_option linter.unusedVariables false
set_option linter.unusedSimpArgs false
namespace Go.Proofs.YtbboanfggaknjaaDoor.X
open Go.RowKit Go.Proofs.YtbboanfggaknjaaDoorW.PrintWords Go.Proofs.YtbboanfggaknjaaDoorW.PrintLast Go.Proofs.YtbboanfggaknjaaDoorW.PrintMore
def badDim (r c : Int) : Prop := r < 1 ∨ r > 999 ∨ c < 1 ∨ c > 702 ∨ wrap64 (r * c) > 400
instance (r c : Int) : Decidable (badDim r c) := by unfold badDim; exact inferInstance
def wrongP (r c : Int) (zs : List S61) (us : List S65) (gs : List S67) : Int × Int :=
  if badDim r c then (1, 2)
  else if (ZN.wrongZ r c 0 zs).2 = 0 then
    if (US.usersS us us 0).2 = 0 then
      if (US.grantsS us gs 0).2 = 0 then (0, 0)
      else (wrap64 (wrap64 (wrap64 (2 + (zs.length : Int)) + (us.length : Int)) + (US.grantsS us gs 0).1), (US.grantsS us gs 0).2)
    else (wrap64 (wrap64 (2 + (zs.length : Int)) + (US.usersS us us 0).1), (US.usersS us us 0).2)
  else (wrap64 (2 + (ZN.wrongZ r c 0 zs).1), (ZN.wrongZ r c 0 zs).2)
structure SmallP (zs : List S61) (us : List S65) (gs : List S67) : Prop where
  z : zs.length ≤ 9223372036854775807
  u : us.length ≤ 9223372036854775807
  g : gs.length ≤ 9223372036854775807
  ok : ∀ u ∈ us, US.okU u
theorem ev_dim {r c : Int} {f : Nat → Bool → Option (Int × Int)} {v : Int × Int} (h : ∀ b, b = decide (badDim r c) → Ev (fun k => f k b) v) :
    Ev (fun k => if r < 1 then f k true else (if r > 999 then f k true else (if c < 1 then f k true else (if c > 702 then f k true else f k (decide (wrap64 (r * c) > 400)))))) v := by
  unfold badDim at h
  refine ev_ite (fun h1 => h _ (by simp [h1])) (fun h1 => ?_)
  refine ev_ite (fun h2 => h _ (by simp [h2])) (fun h2 => ?_)
  refine ev_ite (fun h3 => h _ (by simp [h3])) (fun h3 => ?_)
  refine ev_ite (fun h4 => h _ (by simp [h4])) (fun h4 => ?_)
  exact h _ (by simp [h1, h2, h3, h4])
theorem ev_val {α : Type} {f : Nat → Option α} {v v' : α} (e : v' = v) (h : Ev f v) : Ev f v' := e ▸ h
theorem wrongP_dim {r c : Int} {zs : List S61} {us : List S65} {gs : List S67} (h : badDim r c) : wrongP r c zs us gs = (1, 2) := if_pos h
theorem wrongP_z {r c : Int} {zs : List S61} {us : List S65} {gs : List S67} (h : ¬ badDim r c) (hz : ¬ (ZN.wrongZ r c 0 zs).2 = 0) : wrongP r c zs us gs = (wrap64 (2 + (ZN.wrongZ r c 0 zs).1), (ZN.wrongZ r c 0 zs).2) := (if_neg h).trans (if_neg hz)
theorem wrongP_u {r c : Int} {zs : List S61} {us : List S65} {gs : List S67} (h : ¬ badDim r c) (hz : (ZN.wrongZ r c 0 zs).2 = 0) (hu : ¬ (US.usersS us us 0).2 = 0) : wrongP r c zs us gs = (wrap64 (wrap64 (2 + (zs.length : Int)) + (US.usersS us us 0).1), (US.usersS us us 0).2) := (if_neg h).trans ((if_pos hz).trans (if_neg hu))
theorem wrongP_g {r c : Int} {zs : List S61} {us : List S65} {gs : List S67} (h : ¬ badDim r c) (hz : (ZN.wrongZ r c 0 zs).2 = 0) (hu : (US.usersS us us 0).2 = 0) (hg : ¬ (US.grantsS us gs 0).2 = 0) : wrongP r c zs us gs = (wrap64 (wrap64 (wrap64 (2 + (zs.length : Int)) + (us.length : Int)) + (US.grantsS us gs 0).1), (US.grantsS us gs 0).2) := (if_neg h).trans ((if_pos hz).trans ((if_pos hu).trans (if_neg hg)))
theorem wrongP_ok {r c : Int} {zs : List S61} {us : List S65} {gs : List S67} (h : ¬ badDim r c) (hz : (ZN.wrongZ r c 0 zs).2 = 0) (hu : (US.usersS us us 0).2 = 0) (hg : (US.grantsS us gs 0).2 = 0) : wrongP r c zs us gs = (0, 0) := (if_neg h).trans ((if_pos hz).trans ((if_pos hu).trans (if_pos hg)))
theorem pwrong_ev (r c : Int) (zs : List S61) (us : List S65) (gs : List S67) (hs : SmallP zs us gs) : Ev (fun k => policy_Wrong.f k r c zs us gs) (wrongP r c zs us gs) := by
  unfold policy_Wrong.f
  refine ev_dim (f := fun k b => policy_Wrong.j0 k b r c zs us gs) (fun b hb => ?_)
  refine Ev.step (fun k => policy_Wrong.j0.eq_2 ..) ?_
  by_cases hd : badDim r c
  · exact ev_val (wrongP_dim hd) (ev_pos (by rw [hb]; exact decide_eq_true hd) (Ev.now _))
  · refine ev_neg (by rw [hb, decide_eq_false hd]; simp) ?_
    refine ev_bind (ZN.wrong_ev zs hs.z r c) ?_
    by_cases hz : (ZN.wrongZ r c 0 zs).2 = 0
    · refine ev_pos hz (ev_bind (US.users_ev us hs.u hs.ok) ?_)
      by_cases hu : (US.usersS us us 0).2 = 0
      · refine ev_pos hu (ev_bind (US.grants_ev us hs.u gs hs.g) ?_)
        by_cases hg : (US.grantsS us gs 0).2 = 0
        · exact ev_val (wrongP_ok hd hz hu hg) (ev_pos hg (Ev.now _))
        · exact ev_val (wrongP_g hd hz hu hg) (ev_neg hg (Ev.now _))
      · exact ev_val (wrongP_u hd hz hu) (ev_neg hu (Ev.now _))
    · exact ev_val (wrongP_z hd hz) (ev_neg hz (Ev.now _))
theorem rpwrong_ev (r c : Int) (zs : List S61) (us : List S65) (gs : List S67) (hs : SmallP zs us gs) : Ev (fun k => oculusref07_Wrong.f k r c zs us gs) (wrongP r c zs us gs) := by
  unfold oculusref07_Wrong.f
  refine ev_dim (f := fun k b => oculusref07_Wrong.j0 k b r c zs us gs) (fun b hb => ?_)
  refine Ev.step (fun k => oculusref07_Wrong.j0.eq_2 ..) ?_
  by_cases hd : badDim r c
  · exact ev_val (wrongP_dim hd) (ev_pos (by rw [hb]; exact decide_eq_true hd) (Ev.now _))
  · refine ev_neg (by rw [hb, decide_eq_false hd]; simp) ?_
    refine ev_bind (ZN.rwrong_ev zs hs.z r c) ?_
    refine ev_bind (US.rusers_ev us hs.u hs.ok) ?_
    refine ev_bind (US.rgrants_ev us hs.u gs hs.g) ?_
    by_cases hz : (ZN.wrongZ r c 0 zs).2 = 0
    · refine ev_pos hz ?_
      by_cases hu : (US.usersS us us 0).2 = 0
      · refine ev_pos hu ?_
        by_cases hg : (US.grantsS us gs 0).2 = 0
        · exact ev_val (wrongP_ok hd hz hu hg) (ev_pos hg (Ev.now _))
        · exact ev_val (wrongP_g hd hz hu hg) (ev_neg hg (Ev.now _))
      · exact ev_val (wrongP_u hd hz hu) (ev_neg hu (Ev.now _))
    · exact ev_val (wrongP_z hd hz) (ev_neg hz (Ev.now _))
end Go.Proofs.YtbboanfggaknjaaDoor.X
/- A policy's text: what policy.Text and its reference tell of one that is right. -/
set_option linter.unusedVariables false
set_option linter.unusedSimpArgs false
namespace Go.Proofs.YtbboanfggaknjaaDoor.X
open Go.RowKit Go.Proofs.YtbboanfggaknjaaDoorW.PrintWords Go.Proofs.YtbboanfggaknjaaDoorW.PrintLast Go.Proofs.YtbboanfggaknjaaDoorW.PrintMore
def gW : List UInt8 := [103, 114, 105, 100]
def zW : List UInt8 := [122, 111, 110, 101]
def uW : List UInt8 := [117, 115, 101, 114]
def rW : List UInt8 := [103, 114, 97, 110, 116]
def labZ (l : S59) : List UInt8 := labT l.f0 l.f1.toNat
def zoneL (z : S61) : List (List UInt8) := [zW, AD.txtL z.f0.f0.f0 z.f0.f0.f1 z.f0.f1.f0 z.f0.f1.f1, labZ z.f1]
def userL (u : S65) : List (List UInt8) := [uW, by_ u.f0, labZ u.f1]
def grantL (g : S67) : List (List UInt8) := [rW, by_ g.f0, labZ g.f1, labZ g.f2]
def gridL (r c : Int) : List (List UInt8) := [gW, AD.digL r.toNat, AD.digL c.toNat]
def lnT (ws : List (List UInt8)) : List UInt8 := joinL [32] ws ++ [10]
def linesT (l : List (List (List UInt8))) : List UInt8 := l.flatMap lnT
def okC (l : S59) : Prop := 0 ≤ l.f1 ∧ l.f1 < 18446744073709551616
def okN (s : ByteArray) : Prop := US.nameS s = true
structure RightP (r c : Int) (zs : List S61) (us : List S65) (gs : List S67) : Prop where
  r : 1 ≤ r ∧ r ≤ 999
  c : 1 ≤ c ∧ c ≤ 702
  z : ∀ z ∈ zs, AD.mayZ z.f0.f0.f0 z.f0.f0.f1 z.f0.f1.f0 z.f0.f1.f1 = true ∧ (0 ≤ z.f1.f0 ∧ z.f1.f0 ≤ 15) ∧ okC z.f1
  u : ∀ u ∈ us, okN u.f0 ∧ (0 ≤ u.f1.f0 ∧ u.f1.f0 ≤ 15) ∧ okC u.f1
  g : ∀ g ∈ gs, okN g.f0 ∧ (0 ≤ g.f1.f0 ∧ g.f1.f0 ≤ 15) ∧ okC g.f1 ∧ (0 ≤ g.f2.f0 ∧ g.f2.f0 ≤ 15) ∧ okC g.f2
theorem wrongZ_ok (rows cols : Int) : ∀ (zs : List S61) (i : Nat), (ZN.wrongZ rows cols i zs).2 = 0 → ∀ z ∈ zs, AD.mayZ z.f0.f0.f0 z.f0.f0.f1 z.f0.f1.f0 z.f0.f1.f1 = true ∧ (0 ≤ z.f1.f0 ∧ z.f1.f0 ≤ 15)
  | [], _, _ => by simp
  | z :: l, i, h => by
    unfold ZN.wrongZ at h
    by_cases h1 : 32 ≤ i
    · rw [if_pos h1] at h; simp at h
    rw [if_neg h1] at h
    by_cases h2 : ZN.mayZ z.f0.f0.f0 z.f0.f0.f1 z.f0.f1.f0 z.f0.f1.f1 = true ∧ z.f0.f0.f0 ≤ z.f0.f1.f0 ∧ z.f0.f0.f1 ≤ z.f0.f1.f1
    · rw [if_neg (not_not_intro h2)] at h
      by_cases h3 : z.f0.f1.f0 ≥ rows ∨ z.f0.f1.f1 ≥ cols
      · rw [if_pos h3] at h; simp at h
      rw [if_neg h3] at h
      by_cases h4 : 0 ≤ z.f1.f0 ∧ z.f1.f0 ≤ 15
      · rw [if_neg (not_not_intro h4)] at h
        intro y hy
        rcases List.mem_cons.1 hy with e | e
        · subst e; exact ⟨h2.1, h4⟩
        · exact wrongZ_ok rows cols l (i + 1) h y e
      · rw [if_pos h4] at h; simp at h
    · rw [if_pos h2] at h; simp at h
theorem usersS_ok (xs : List S65) : ∀ (us : List S65) (i : Nat), (US.usersS xs us i).2 = 0 → ∀ u ∈ us, okN u.f0 ∧ (0 ≤ u.f1.f0 ∧ u.f1.f0 ≤ 15)
  | [], _, _ => by simp
  | u :: l, i, h => by
    unfold US.usersS at h
    by_cases h1 : US.userS xs i u = 0
    · rw [if_pos h1] at h
      intro y hy
      rcases List.mem_cons.1 hy with e | e
      · subst e
        unfold US.userS at h1
        by_cases g1 : 16 ≤ i
        · rw [if_pos g1] at h1; simp at h1
        rw [if_neg g1] at h1
        by_cases g2 : US.nameS y.f0 = false
        · rw [if_pos g2] at h1; simp at h1
        rw [if_neg g2] at h1
        by_cases g3 : (xs.take i).any (US.hitU y.f0) = true
        · rw [if_pos g3] at h1; simp at h1
        rw [if_neg g3] at h1
        by_cases g4 : US.mayS y.f1.f0 = false
        · rw [if_pos g4] at h1; simp at h1
        refine ⟨by unfold okN; revert g2; cases US.nameS y.f0 <;> simp, ?_⟩
        unfold US.mayS at g4
        simp only [Bool.not_eq_false, Bool.and_eq_true, decide_eq_true_eq] at g4
        exact g4
      · exact usersS_ok xs l (i + 1) h y e
    · rw [if_neg h1] at h; exact absurd h h1
theorem grantsS_ok (us : List S65) (hu : ∀ u ∈ us, okN u.f0) : ∀ (gs : List S67) (i : Nat), (US.grantsS us gs i).2 = 0 → ∀ g ∈ gs, okN g.f0 ∧ (0 ≤ g.f1.f0 ∧ g.f1.f0 ≤ 15) ∧ (0 ≤ g.f2.f0 ∧ g.f2.f0 ≤ 15)
  | [], _, _ => by simp
  | g :: l, i, h => by
    unfold US.grantsS at h
    by_cases h1 : US.grantS us i g = 0
    · rw [if_pos h1] at h
      intro y hy
      rcases List.mem_cons.1 hy with e | e
      · subst e
        unfold US.grantS at h1
        by_cases g1 : 32 ≤ i
        · rw [if_pos g1] at h1; simp at h1
        rw [if_neg g1] at h1
        by_cases g2 : us.any (US.hitU y.f0) = false
        · rw [if_pos g2] at h1; simp at h1
        rw [if_neg g2] at h1
        by_cases g3 : (US.mayS y.f1.f0 && US.mayS y.f2.f0) = false
        · rw [if_pos g3] at h1; simp at h1
        have g4 : us.any (US.hitU y.f0) = true := by revert g2; cases us.any (US.hitU y.f0) <;> simp
        obtain ⟨u, hm, he⟩ := List.any_eq_true.1 g4
        unfold US.hitU at he
        have e1 := toList_inj.1 (of_decide_eq_true he)
        unfold US.mayS at g3
        simp only [Bool.not_eq_false, Bool.and_eq_true, decide_eq_true_eq] at g3
        exact ⟨by rw [← e1]; exact hu u hm, g3.1, g3.2⟩
      · exact grantsS_ok us hu l (i + 1) h y e
    · rw [if_neg h1] at h; exact absurd h h1
theorem right_of {r c : Int} {zs : List S61} {us : List S65} {gs : List S67} (h : (wrongP r c zs us gs).2 = 0) (hz : ∀ z ∈ zs, okC z.f1) (hu : ∀ u ∈ us, okC u.f1) (hg : ∀ g ∈ gs, okC g.f1 ∧ okC g.f2) : RightP r c zs us gs := by
  by_cases hd : badDim r c
  · rw [wrongP_dim hd] at h; simp at h
  by_cases h1 : (ZN.wrongZ r c 0 zs).2 = 0
  rotate_left
  · rw [wrongP_z hd h1] at h; exact absurd h h1
  by_cases h2 : (US.usersS us us 0).2 = 0
  rotate_left
  · rw [wrongP_u hd h1 h2] at h; exact absurd h h2
  by_cases h3 : (US.grantsS us gs 0).2 = 0
  rotate_left
  · rw [wrongP_g hd h1 h2 h3] at h; exact absurd h h3
  unfold badDim at hd
  have k2 := usersS_ok us us 0 h2
  have k3 := grantsS_ok us (fun u hm => (k2 u hm).1) gs 0 h3
  refine ⟨by omega, by omega, fun z hm => ⟨(wrongZ_ok r c zs 0 h1 z hm).1, (wrongZ_ok r c zs 0 h1 z hm).2, hz z hm⟩, fun u hm => ⟨(k2 u hm).1, (k2 u hm).2, hu u hm⟩, fun g hm => ⟨(k3 g hm).1, (k3 g hm).2.1, (hg g hm).1, (k3 g hm).2.2, (hg g hm).2⟩⟩
theorem lab_nat {l : S59} (h : okC l) : l.f1 = ((l.f1.toNat : Nat) : Int) ∧ l.f1.toNat < 18446744073709551616 := by
  unfold okC at h
  omega
theorem label_ev {l : S59} (h : okC l) : Ev (fun k => label_Text.f k l.f0 l.f1) (tx (labZ l)) := by
  obtain ⟨e, hl⟩ := lab_nat h
  have := ltext_ev l.f0 l.f1.toNat hl
  rw [← e] at this
  exact this
theorem rlabel_ev {l : S59} (h : okC l) : Ev (fun k => oculusref02_Text.f k l.f0 l.f1) (tx (labZ l)) := by
  obtain ⟨e, hl⟩ := lab_nat h
  have := rltext_ev l.f0 l.f1.toNat hl
  rw [← e] at this
  exact this
theorem lab_len (l : S59) : (labZ l).length ≤ 200 := labT_len _ _
theorem add_eq {acc : List UInt8} {ws : List (List UInt8)} (h1 : ws.length ≤ 10) (h2 : (ws.map List.length).sum ≤ 1000000) (h3 : acc.length ≤ 1000000000) : addL acc (ws.map tx) = some (acc ++ lnT ws) := by
  have e1 : (ws.map tx).map by_ = ws := by
    rw [List.map_map]
    have : by_ ∘ tx = id := by funext l; exact by_tx l
    rw [this, List.map_id]
  have e2 : sizesT (ws.map tx) = (ws.map List.length).sum := by
    unfold sizesT
    rw [List.map_map]
    have : ByteArray.size ∘ tx = List.length := by funext l; exact size_tx l
    rw [this]
  unfold addL
  rw [if_pos ⟨by rw [List.length_map]; exact h1, by rw [e2]; exact h2, h3⟩]
  unfold lineT
  rw [e1]
  rfl
theorem lnT_len3 (a b c : List UInt8) : (lnT [a, b, c]).length = a.length + b.length + c.length + 3 := by
  unfold lnT joinL
  simp only [List.flatMap_cons, List.flatMap_nil, List.length_append, List.length_cons, List.length_nil]
  omega
theorem lnT_len4 (a b c d : List UInt8) : (lnT [a, b, c, d]).length = a.length + b.length + c.length + d.length + 4 := by
  unfold lnT joinL
  simp only [List.flatMap_cons, List.flatMap_nil, List.length_append, List.length_cons, List.length_nil]
  omega
theorem linesT_cons (x : List (List UInt8)) (l : List (List (List UInt8))) : linesT (x :: l) = lnT x ++ linesT l := by unfold linesT; rw [List.flatMap_cons]
theorem zone_len (z : S61) : (lnT (zoneL z)).length ≤ 300 := by
  unfold zoneL
  rw [lnT_len3]
  have h1 := AD.txtL_len z.f0.f0.f0 z.f0.f0.f1 z.f0.f1.f0 z.f0.f1.f1
  have h2 := lab_len z.f1
  have h3 : zW.length = 4 := rfl
  omega
theorem okN_len {s : ByteArray} (h : okN s) : (by_ s).length ≤ 16 := by have := (user_hi s h).2; rw [size_by] at this; exact this
theorem user_len {u : S65} (h : okN u.f0) : (lnT (userL u)).length ≤ 300 := by
  unfold userL
  rw [lnT_len3]
  have h1 := okN_len h
  have h2 := lab_len u.f1
  have h3 : uW.length = 4 := rfl
  omega
theorem grant_len {g : S67} (h : okN g.f0) : (lnT (grantL g)).length ≤ 500 := by
  unfold grantL
  rw [lnT_len4]
  have h1 := okN_len h
  have h2 := lab_len g.f1
  have h4 := lab_len g.f2
  have h3 : rW.length = 5 := rfl
  omega
theorem ptz_ev : ∀ (l : List S61) (acc : List UInt8), (∀ z ∈ l, okC z.f1) → acc.length + 500 * l.length ≤ 100000000 → Ev (fun k => ptz k acc l) (acc ++ linesT (l.map zoneL))
  | [], acc, _, _ => by simp only [List.map_nil]; unfold linesT; simp only [List.flatMap_nil, List.append_nil]; exact Ev.now _
  | z :: l, acc, h, hl => by
    rw [List.length_cons] at hl
    refine ev_bind (AD.text_ev _ _ _ _) (ev_bind (label_ev (h z (by simp))) ?_)
    have e := add_eq (acc := acc) (ws := zoneL z) (by simp [zoneL]) (by unfold zoneL; simp only [List.map_cons, List.map_nil, List.sum_cons, List.sum_nil]; have := zone_len z; unfold zoneL at this; rw [lnT_len3] at this; omega) (by omega)
    have e2 : addL acc [⟨#[122, 111, 110, 101]⟩, tx (AD.txtL z.f0.f0.f0 z.f0.f0.f1 z.f0.f1.f0 z.f0.f1.f1), tx (labZ z.f1)] = some (acc ++ lnT (zoneL z)) := e
    rw [e2]
    refine ev_bsome ?_
    rw [List.map_cons, linesT_cons, ← List.append_assoc]
    exact ptz_ev l _ (fun y hy => h y (List.mem_cons_of_mem _ hy)) (by rw [List.length_append]; have := zone_len z; omega)
theorem ptu_ev : ∀ (l : List S65) (acc : List UInt8), (∀ z ∈ l, okN z.f0 ∧ okC z.f1) → acc.length + 500 * l.length ≤ 100000000 → Ev (fun k => ptu k acc l) (acc ++ linesT (l.map userL))
  | [], acc, _, _ => by simp only [List.map_nil]; unfold linesT; simp only [List.flatMap_nil, List.append_nil]; exact Ev.now _
  | z :: l, acc, h, hl => by
    rw [List.length_cons] at hl
    refine ev_bind (label_ev (h z (by simp)).2) ?_
    have hlen := user_len (h z (by simp)).1
    have e := add_eq (acc := acc) (ws := userL z) (by simp [userL]) (by unfold userL; simp only [List.map_cons, List.map_nil, List.sum_cons, List.sum_nil]; have := hlen; unfold userL at this; rw [lnT_len3] at this; omega) (by omega)
    have e2 : addL acc [⟨#[117, 115, 101, 114]⟩, z.f0, tx (labZ z.f1)] = some (acc ++ lnT (userL z)) := by
      have e3 : (userL z).map tx = [⟨#[117, 115, 101, 114]⟩, z.f0, tx (labZ z.f1)] := by unfold userL; simp only [List.map_cons, List.map_nil, tx_by]; rfl
      rw [← e3]; exact e
    rw [e2]
    refine ev_bsome ?_
    rw [List.map_cons, linesT_cons, ← List.append_assoc]
    exact ptu_ev l _ (fun y hy => h y (List.mem_cons_of_mem _ hy)) (by rw [List.length_append]; omega)
theorem ptg_ev : ∀ (l : List S67) (acc : List UInt8), (∀ z ∈ l, okN z.f0 ∧ okC z.f1 ∧ okC z.f2) → acc.length + 500 * l.length ≤ 100000000 → Ev (fun k => ptg k acc l) (acc ++ linesT (l.map grantL))
  | [], acc, _, _ => by simp only [List.map_nil]; unfold linesT; simp only [List.flatMap_nil, List.append_nil]; exact Ev.now _
  | z :: l, acc, h, hl => by
    rw [List.length_cons] at hl
    refine ev_bind (label_ev (h z (by simp)).2.1) (ev_bind (label_ev (h z (by simp)).2.2) ?_)
    have hlen := grant_len (h z (by simp)).1
    have e := add_eq (acc := acc) (ws := grantL z) (by simp [grantL]) (by unfold grantL; simp only [List.map_cons, List.map_nil, List.sum_cons, List.sum_nil]; have := hlen; unfold grantL at this; rw [lnT_len4] at this; omega) (by omega)
    have e2 : addL acc [⟨#[103, 114, 97, 110, 116]⟩, z.f0, tx (labZ z.f1), tx (labZ z.f2)] = some (acc ++ lnT (grantL z)) := by
      have e3 : (grantL z).map tx = [⟨#[103, 114, 97, 110, 116]⟩, z.f0, tx (labZ z.f1), tx (labZ z.f2)] := by unfold grantL; simp only [List.map_cons, List.map_nil, tx_by]; rfl
      rw [← e3]; exact e
    rw [e2]
    refine ev_bsome ?_
    rw [List.map_cons, linesT_cons, ← List.append_assoc]
    exact ptg_ev l _ (fun y hy => h y (List.mem_cons_of_mem _ hy)) (by rw [List.length_append]; omega)
theorem tx3 (acc w a b : List UInt8) : tx acc ++ tx (w ++ [32]) ++ tx a ++ bB ++ tx b ++ bN = tx (acc ++ lnT [w, a, b]) := by
  have e1 : bB = tx [32] := rfl
  have e2 : bN = tx [10] := rfl
  rw [e1, e2, tx_append, tx_append, tx_append, tx_append, tx_append]
  unfold lnT joinL
  simp [List.append_assoc]
theorem tx4 (acc w a b c : List UInt8) : tx acc ++ tx (w ++ [32]) ++ tx a ++ bB ++ tx b ++ bB ++ tx c ++ bN = tx (acc ++ lnT [w, a, b, c]) := by
  have e1 : bB = tx [32] := rfl
  have e2 : bN = tx [10] := rfl
  rw [e1, e2, tx_append, tx_append, tx_append, tx_append, tx_append, tx_append, tx_append]
  unfold lnT joinL
  simp [List.append_assoc]
theorem rtz_ev : ∀ (l : List S61) (acc : List UInt8), (∀ z ∈ l, okC z.f1) → acc.length + 500 * l.length ≤ 100000000 → Ev (fun k => rtz k (tx acc) l) (tx (acc ++ linesT (l.map zoneL)))
  | [], acc, _, _ => by simp only [List.map_nil]; unfold linesT; simp only [List.flatMap_nil, List.append_nil]; exact Ev.now _
  | z :: l, acc, h, hl => by
    rw [List.length_cons] at hl
    refine ev_bind (AD.rtext_ev _ _ _ _) (ev_bind (rlabel_ev (h z (by simp))) (ev_pos ?_ ?_))
    · rw [size_tx, size_tx, size_tx]
      have := zone_len z
      unfold zoneL at this
      rw [lnT_len3] at this
      omega
    · have e : tx acc ++ (⟨#[122, 111, 110, 101, 32]⟩ : ByteArray) ++ tx (AD.txtL z.f0.f0.f0 z.f0.f0.f1 z.f0.f1.f0 z.f0.f1.f1) ++ bB ++ tx (labZ z.f1) ++ bN = tx (acc ++ lnT (zoneL z)) := tx3 acc zW _ _
      rw [e, List.map_cons, linesT_cons, ← List.append_assoc]
      exact rtz_ev l _ (fun y hy => h y (List.mem_cons_of_mem _ hy)) (by rw [List.length_append]; have := zone_len z; omega)
theorem rtu_ev : ∀ (l : List S65) (acc : List UInt8), (∀ z ∈ l, okN z.f0 ∧ okC z.f1) → acc.length + 500 * l.length ≤ 100000000 → Ev (fun k => rtu k (tx acc) l) (tx (acc ++ linesT (l.map userL)))
  | [], acc, _, _ => by simp only [List.map_nil]; unfold linesT; simp only [List.flatMap_nil, List.append_nil]; exact Ev.now _
  | z :: l, acc, h, hl => by
    rw [List.length_cons] at hl
    have hlen := user_len (h z (by simp)).1
    refine ev_bind (rlabel_ev (h z (by simp)).2) (ev_pos ?_ ?_)
    · rw [size_tx, size_tx, size_by]
      unfold userL at hlen
      rw [lnT_len3] at hlen
      omega
    · have e : tx acc ++ (⟨#[117, 115, 101, 114, 32]⟩ : ByteArray) ++ z.f0 ++ bB ++ tx (labZ z.f1) ++ bN = tx (acc ++ lnT (userL z)) := by
        have := tx3 acc uW (by_ z.f0) (labZ z.f1)
        rw [tx_by] at this
        exact this
      rw [e, List.map_cons, linesT_cons, ← List.append_assoc]
      exact rtu_ev l _ (fun y hy => h y (List.mem_cons_of_mem _ hy)) (by rw [List.length_append]; omega)
theorem rtg_ev : ∀ (l : List S67) (acc : List UInt8), (∀ z ∈ l, okN z.f0 ∧ okC z.f1 ∧ okC z.f2) → acc.length + 500 * l.length ≤ 100000000 → Ev (fun k => rtg k (tx acc) l) (tx (acc ++ linesT (l.map grantL)))
  | [], acc, _, _ => by simp only [List.map_nil]; unfold linesT; simp only [List.flatMap_nil, List.append_nil]; exact Ev.now _
  | z :: l, acc, h, hl => by
    rw [List.length_cons] at hl
    have hlen := grant_len (h z (by simp)).1
    refine ev_bind (rlabel_ev (h z (by simp)).2.1) (ev_bind (rlabel_ev (h z (by simp)).2.2) (ev_pos ?_ ?_))
    · rw [size_tx, size_tx, size_tx, size_by]
      unfold grantL at hlen
      rw [lnT_len4] at hlen
      omega
    · have e : tx acc ++ (⟨#[103, 114, 97, 110, 116, 32]⟩ : ByteArray) ++ z.f0 ++ bB ++ tx (labZ z.f1) ++ bB ++ tx (labZ z.f2) ++ bN = tx (acc ++ lnT (grantL z)) := by
        have := tx4 acc rW (by_ z.f0) (labZ z.f1) (labZ z.f2)
        rw [tx_by] at this
        exact this
      rw [e, List.map_cons, linesT_cons, ← List.append_assoc]
      exact rtg_ev l _ (fun y hy => h y (List.mem_cons_of_mem _ hy)) (by rw [List.length_append]; omega)
end Go.Proofs.YtbboanfggaknjaaDoor.X
/- A policy's text read again. -/
set_option linter.unusedVariables false
set_option linter.unusedSimpArgs false
namespace Go.Proofs.YtbboanfggaknjaaDoor.X
open Go.RowKit Go.Proofs.YtbboanfggaknjaaDoorW.PrintWords Go.Proofs.YtbboanfggaknjaaDoorW.PrintLast Go.Proofs.YtbboanfggaknjaaDoorW.PrintMore
def textP (r c : Int) (zs : List S61) (us : List S65) (gs : List S67) : List UInt8 := lnT (gridL r c) ++ (linesT (zs.map zoneL) ++ (linesT (us.map userL) ++ linesT (gs.map grantL)))
theorem grid_len {r c : Int} (hr : 1 ≤ r ∧ r ≤ 999) (hc : 1 ≤ c ∧ c ≤ 702) : (lnT (gridL r c)).length ≤ 50 := by
  unfold gridL
  rw [lnT_len3]
  have h1 := AD.digL_len r.toNat
  have h2 := AD.digL_len c.toNat
  have h3 : gW.length = 4 := rfl
  omega
theorem linesT_len (N : Nat) : ∀ l : List (List (List UInt8)), (∀ x ∈ l, (lnT x).length ≤ N) → (linesT l).length ≤ N * l.length
  | [], _ => by simp [linesT]
  | x :: l, h => by
    rw [linesT_cons, List.length_append, List.length_cons, Nat.mul_succ]
    have h1 := h x (by simp)
    have h2 := linesT_len N l fun y hy => h y (List.mem_cons_of_mem _ hy)
    omega
structure FewP (zs : List S61) (us : List S65) (gs : List S67) : Prop where
  z : zs.length ≤ 50
  u : us.length ≤ 30
  g : gs.length ≤ 50
theorem zlines_len (zs : List S61) : (linesT (zs.map zoneL)).length ≤ 300 * zs.length := by
  have := linesT_len 300 (zs.map zoneL) (fun x hx => by obtain ⟨z, _, rfl⟩ := List.mem_map.1 hx; exact zone_len z)
  rw [List.length_map] at this
  exact this
theorem ulines_len {us : List S65} (h : ∀ u ∈ us, okN u.f0) : (linesT (us.map userL)).length ≤ 300 * us.length := by
  have := linesT_len 300 (us.map userL) (fun x hx => by obtain ⟨z, hm, rfl⟩ := List.mem_map.1 hx; exact user_len (h z hm))
  rw [List.length_map] at this
  exact this
theorem ptext_ev {r c : Int} {zs : List S61} {us : List S65} {gs : List S67} (hs : SmallP zs us gs) (hw : (wrongP r c zs us gs).2 = 0) (h : RightP r c zs us gs) (hf : FewP zs us gs) : Ev (fun k => policy_Text.f k r c zs us gs) (tx (textP r c zs us gs)) := by
  unfold policy_Text.f
  refine ev_bind (pwrong_ev r c zs us gs hs) (ev_pos hw ?_)
  have er : r = ((r.toNat : Nat) : Int) := by have := h.r; omega
  have ec : c = ((c.toNat : Nat) : Int) := by have := h.c; omega
  have e1 : strconv_Itoa.f r = some (tx (AD.digL r.toNat)) := by
    conv => lhs; rw [er]
    exact AD.itoa_eq r.toNat (by have := h.r; omega)
  have e2 : strconv_Itoa.f c = some (tx (AD.digL c.toNat)) := by
    conv => lhs; rw [ec]
    exact AD.itoa_eq c.toNat (by have := h.c; omega)
  rw [e1, e2]
  have hg := grid_len h.r h.c
  have e3 : addL [] [⟨#[103, 114, 105, 100]⟩, tx (AD.digL r.toNat), tx (AD.digL c.toNat)] = some ([] ++ lnT (gridL r c)) := by
    have := add_eq (acc := []) (ws := gridL r c) (by simp [gridL]) (by unfold gridL at hg ⊢; rw [lnT_len3] at hg; simp only [List.map_cons, List.map_nil, List.sum_cons, List.sum_nil]; omega) (by simp)
    exact this
  refine ev_bsome (ev_bsome ?_)
  rw [e3, List.nil_append]
  refine ev_bsome ?_
  have l1 := zlines_len zs
  have l2 := ulines_len fun u hu => (h.u u hu).1
  have := hf.z
  have := hf.u
  have := hf.g
  refine ev_bind (ptz_ev zs _ (fun z hz => (h.z z hz).2.2) (by omega)) ?_
  refine ev_bind (ptu_ev us _ (fun z hz => ⟨(h.u z hz).1, (h.u z hz).2.2⟩) (by rw [List.length_append]; omega)) ?_
  refine ev_bind (ptg_ev gs _ (fun z hz => ⟨(h.g z hz).1, (h.g z hz).2.2.1, (h.g z hz).2.2.2.2⟩) (by rw [List.length_append, List.length_append]; omega)) ?_
  unfold textP
  rw [← List.append_assoc, ← List.append_assoc]
  exact Ev.now _
theorem rtextP_ev {r c : Int} {zs : List S61} {us : List S65} {gs : List S67} (hs : SmallP zs us gs) (hw : (wrongP r c zs us gs).2 = 0) (h : RightP r c zs us gs) (hf : FewP zs us gs) : Ev (fun k => oculusref07_Text.f k r c zs us gs) (tx (textP r c zs us gs)) := by
  unfold oculusref07_Text.f
  refine ev_bind (rpwrong_ev r c zs us gs hs) (ev_pos hw ?_)
  have er : r = ((r.toNat : Nat) : Int) := by have := h.r; omega
  have ec : c = ((c.toNat : Nat) : Int) := by have := h.c; omega
  have e1 : Ev (fun k => oculusref01_Digits.f k r) (tx (AD.digL r.toNat)) := by
    have := AD.digits_ev r.toNat (by have := h.r; omega)
    rw [← er] at this
    exact this
  have e2 : Ev (fun k => oculusref01_Digits.f k c) (tx (AD.digL c.toNat)) := by
    have := AD.digits_ev c.toNat (by have := h.c; omega)
    rw [← ec] at this
    exact this
  have hg := grid_len h.r h.c
  refine ev_bind e1 (ev_bind e2 (ev_pos (by rw [size_tx, size_tx]; have h1 := AD.digL_len r.toNat; have h2 := AD.digL_len c.toNat; omega) ?_))
  have e3 : (⟨#[103, 114, 105, 100, 32]⟩ : ByteArray) ++ tx (AD.digL r.toNat) ++ bB ++ tx (AD.digL c.toNat) ++ bN = tx (lnT (gridL r c)) := by
    have e0 : (⟨#[103, 114, 105, 100, 32]⟩ : ByteArray) = tx [] ++ tx (gW ++ [32]) := by rw [tx_append]; rfl
    rw [e0]
    exact tx3 [] gW _ _
  rw [e3]
  have l1 := zlines_len zs
  have l2 := ulines_len fun u hu => (h.u u hu).1
  have := hf.z
  have := hf.u
  have := hf.g
  refine ev_bind (rtz_ev zs _ (fun z hz => (h.z z hz).2.2) (by omega)) ?_
  refine ev_bind (rtu_ev us _ (fun z hz => ⟨(h.u z hz).1, (h.u z hz).2.2⟩) (by rw [List.length_append]; omega)) ?_
  have := rtg_ev gs (lnT (gridL r c) ++ linesT (zs.map zoneL) ++ linesT (us.map userL)) (fun z hz => ⟨(h.g z hz).1, (h.g z hz).2.2.1, (h.g z hz).2.2.2.2⟩) (by rw [List.length_append, List.length_append]; omega)
  unfold textP
  rw [← List.append_assoc, ← List.append_assoc]
  exact this
def Ev2 {α : Type} (g : Nat → Nat → Option α) (r : α) : Prop := ∃ K, ∀ k m, K ≤ k → K ≤ m → g k m = some r
theorem Ev2.now {α : Type} (r : α) : Ev2 (fun _ _ => some r) r := ⟨0, fun _ _ _ _ => rfl⟩
theorem Ev2.of1 {α : Type} {g : Nat → Option α} {r : α} (h : Ev g r) : Ev2 (fun k _ => g k) r := by
  obtain ⟨K, hK⟩ := h
  exact ⟨K, fun k _ hk _ => hK k hk⟩
theorem Ev2.step {α : Type} {f g : Nat → Nat → Option α} {r : α} (h : ∀ k m, f k (m + 1) = g k m) (hg : Ev2 g r) : Ev2 f r := by
  obtain ⟨K, hK⟩ := hg
  refine ⟨K + 1, fun k m hk hm => ?_⟩
  cases m with
  | zero => omega
  | succ m => rw [h]; exact hK k m (by omega) (by omega)
theorem Ev2.bind {α β : Type} {g : Nat → Nat → Option α} {f : Nat → Nat → α → Option β} {a : α} {r : β} (h : Ev2 g a) (k : Ev2 (fun n m => f n m a) r) : Ev2 (fun n m => (g n m).bind (f n m)) r := by
  obtain ⟨K, hK⟩ := h
  obtain ⟨L, hL⟩ := k
  refine ⟨K + L, fun n m hn hm => ?_⟩
  show (g n m).bind (f n m) = some r
  rw [hK n m (by omega) (by omega)]
  exact hL n m (by omega) (by omega)
theorem Ev2.pos {α : Type} {c : Prop} [Decidable c] {f g : Nat → Nat → Option α} {r : α} (h : c) (h1 : Ev2 f r) : Ev2 (fun k m => if c then f k m else g k m) r := by simp only [if_pos h]; exact h1
theorem Ev2.neg {α : Type} {c : Prop} [Decidable c] {f g : Nat → Nat → Option α} {r : α} (h : ¬ c) (h1 : Ev2 g r) : Ev2 (fun k m => if c then f k m else g k m) r := by simp only [if_neg h]; exact h1
theorem Ev2.diag {α : Type} {g : Nat → Nat → Option α} {r : α} (h : Ev2 g r) : Ev (fun k => g k k) r := by
  obtain ⟨K, hK⟩ := h
  exact ⟨K, fun k hk => hK k k hk hk⟩
theorem tx_ne {l : List UInt8} (h : l ≠ []) : (tx l).toList ≠ [] := by rw [toList_by, by_tx]; exact h
theorem line_step {last : Int} {n : Nat} {p : List UInt8} {ps : List (List UInt8)} {tail : List UInt8} {r c r1 c1 kind : Int} {zs zs1 : List S61} {us us1 : List S65} {gs gs1 : List S67} {R : T7}
    (hw : ∀ q ∈ p :: ps, hi7 q) (hl : (lnT (p :: ps) ++ tail).length ≤ 1000000) (hn : n < 100000) (hb : ¬ bad7 true kind n last)
    (ha : Ev (fun k => policy_add.f k r c zs us gs ((p :: ps).map tx)) (kind, r1, c1, zs1, us1, gs1))
    (h : Ev2 (fun k m => policy_Parse.l k m kind (n + 1) (tx tail) r1 c1 zs1 us1 gs1) R) :
    Ev2 (fun k m => policy_Parse.l k m last n (tx (lnT (p :: ps) ++ tail)) r c zs us gs) R := by
  refine Ev2.step (fun k m => policy_Parse.l.eq_2 ..) ?_
  have hne : lnT (p :: ps) ++ tail ≠ [] := by
    unfold lnT
    intro e
    have := congrArg List.length e
    simp only [List.length_append, List.length_cons, List.length_nil] at this
    omega
  refine Ev2.pos (Or.inl (tx_ne hne)) (Ev2.pos hn ?_)
  have ec : strings_Cut.f (tx (lnT (p :: ps) ++ tail)) ⟨#[10]⟩ = some (tx (joinL [32] (p :: ps)), tx tail, true) := by
    have := cut_eq (tx (lnT (p :: ps) ++ tail)) 10 (by rw [size_tx]; omega)
    rw [by_tx] at this
    have e : lnT (p :: ps) ++ tail = joinL [32] (p :: ps) ++ 10 :: tail := by unfold lnT; rw [List.append_assoc]; rfl
    rw [e, cutL_app 10 tail _ (join_nolf ps p hw)] at this
    rw [e]
    exact this
  have es : strings_Split.f (tx (joinL [32] (p :: ps))) ⟨#[32]⟩ = some ((p :: ps).map tx) := by
    have h2 : (joinL [32] (p :: ps)).length < 4294967281 := by
      have : (lnT (p :: ps)).length = (joinL [32] (p :: ps)).length + 1 := by unfold lnT; rw [List.length_append]; rfl
      rw [List.length_append] at hl
      omega
    have := splitf_tx 32 (joinL [32] (p :: ps)) h2
    rw [split_join p ps hw] at this
    exact this
  rw [ec]
  refine Ev2.bind (Ev2.now _) ?_
  show Ev2 (fun k m => (strings_Split.f (tx (joinL [32] (p :: ps))) ⟨#[32]⟩).bind _) R
  rw [es]
  refine Ev2.bind (Ev2.now _) (Ev2.bind (Ev2.of1 ha) (Ev2.neg hb h))
end Go.Proofs.YtbboanfggaknjaaDoor.X
/- Each line of a policy's text is put to a policy as it was; the whole text is read as that policy. -/
set_option linter.unusedVariables false
set_option linter.unusedSimpArgs false
namespace Go.Proofs.YtbboanfggaknjaaDoor.X
open Go.RowKit Go.Proofs.YtbboanfggaknjaaDoorW.PrintWords Go.Proofs.YtbboanfggaknjaaDoorW.PrintLast Go.Proofs.YtbboanfggaknjaaDoorW.PrintMore
theorem tx_lst (l : List UInt8) : (tx l).toList = l := by rw [toList_by, by_tx]
theorem num_read {n : Int} (h : 1 ≤ n ∧ n ≤ 999) : Ev (fun k => addr_Number.f k (tx (AD.digL n.toNat))) (n - 1, true) := by
  have h1 := AD.num_dig ⟨n.toNat - 1, by omega⟩
  simp only at h1
  rw [show n.toNat - 1 + 1 = n.toNat by omega] at h1
  have h2 := AD.number_ev (AD.digL n.toNat)
  rw [h1] at h2
  rw [show n - 1 = ((n.toNat - 1 : Nat) : Int) by omega]
  exact h2
theorem lab_read {l : S59} (h : 0 ≤ l.f0 ∧ l.f0 ≤ 15) (hc : okC l) : Ev (fun k => label_Parse.f k (tx (labZ l))) (l.f0, l.f1, true) := by
  obtain ⟨e, hl⟩ := lab_nat hc
  have h1 := lparse_ev (labZ l) (by have := lab_len l; omega)
  unfold labZ at h1 ⊢
  rw [labP_txt l.f0 l.f1.toNat hl, if_pos h] at h1
  have h2 : Ev (fun k => label_Parse.f k (tx (labT l.f0 l.f1.toNat))) (l.f0, ((l.f1.toNat : Nat) : Int), true) := h1
  rw [← e] at h2
  exact h2
theorem span_read {z : S56} (h : AD.mayZ z.f0.f0 z.f0.f1 z.f1.f0 z.f1.f1 = true) : Ev (fun k => span_Parse.f k (tx (AD.txtL z.f0.f0 z.f0.f1 z.f1.f0 z.f1.f1))) (z.f0.f0, z.f0.f1, z.f1.f0, z.f1.f1, true) := by
  have h1 := AD.spparse_ev (AD.txtL z.f0.f0 z.f0.f1 z.f1.f0 z.f1.f1) (by have := AD.txtL_len z.f0.f0 z.f0.f1 z.f1.f0 z.f1.f1; omega)
  rw [AD.sp_txt, if_pos h] at h1
  exact h1
theorem grid_add {r c : Int} (hr : 1 ≤ r ∧ r ≤ 999) (hc : 1 ≤ c ∧ c ≤ 702) (r0 c0 : Int) (zs : List S61) (us : List S65) (gs : List S67) : Ev (fun k => policy_add.f k r0 c0 zs us gs ((gridL r c).map tx)) (0, r, c, zs, us, gs) := by
  unfold policy_add.f
  refine ev_pos ⟨rfl, tx_lst gW⟩ ?_
  show Ev (fun k => (addr_Number.f k (tx (AD.digL r.toNat))).bind fun a => (addr_Number.f k (tx (AD.digL c.toNat))).bind fun b => if a.2 = true ∧ b.2 = true then some (0, wrap64 (a.1 + 1), wrap64 (b.1 + 1), zs, us, gs) else some (4, r0, c0, zs, us, gs)) _
  refine ev_bind (num_read hr) (ev_bind (num_read (n := c) (by omega)) (ev_pos ⟨rfl, rfl⟩ ?_))
  have e1 : wrap64 (r - 1 + 1) = r := by rw [w64 (by omega) (by omega)]; omega
  have e2 : wrap64 (c - 1 + 1) = c := by rw [w64 (by omega) (by omega)]; omega
  show Ev (fun _ => some (0, wrap64 (r - 1 + 1), wrap64 (c - 1 + 1), zs, us, gs)) _
  rw [e1, e2]
  exact Ev.now _
theorem zone_add {z : S61} (hz : AD.mayZ z.f0.f0.f0 z.f0.f0.f1 z.f0.f1.f0 z.f0.f1.f1 = true ∧ (0 ≤ z.f1.f0 ∧ z.f1.f0 ≤ 15) ∧ okC z.f1) (r0 c0 : Int) (zs : List S61) (us : List S65) (gs : List S67) (hl : zs.length ≤ 100000) : Ev (fun k => policy_add.f k r0 c0 zs us gs ((zoneL z).map tx)) (1, r0, c0, zs ++ [z], us, gs) := by
  unfold policy_add.f
  have e0 : wrd ((zoneL z).map tx) 0 = tx zW := rfl
  refine ev_neg (fun h => by have := h.2; rw [e0, tx_lst] at this; revert this; decide) (ev_pos ⟨rfl, tx_lst zW⟩ ?_)
  exact ev_bind (span_read (z := z.f0) hz.1) (ev_bind (lab_read hz.2.1 hz.2.2) (ev_pos ⟨rfl, rfl⟩ (ev_pos hl (Ev.now _))))
theorem user_add {u : S65} (hz : okN u.f0 ∧ (0 ≤ u.f1.f0 ∧ u.f1.f0 ≤ 15) ∧ okC u.f1) (r0 c0 : Int) (zs : List S61) (us : List S65) (gs : List S67) (hl : us.length ≤ 100000) : Ev (fun k => policy_add.f k r0 c0 zs us gs ((userL u).map tx)) (2, r0, c0, zs, us ++ [u], gs) := by
  unfold policy_add.f
  have e0 : wrd ((userL u).map tx) 0 = tx uW := rfl
  have e1 : wrd ((userL u).map tx) 1 = u.f0 := tx_by u.f0
  refine ev_neg (fun h => by have := h.2; rw [e0, tx_lst] at this; revert this; decide) (ev_neg (fun h => by have := h.2; rw [e0, tx_lst] at this; revert this; decide) (ev_pos ⟨rfl, tx_lst uW⟩ ?_))
  refine ev_bind (lab_read hz.2.1 hz.2.2) (ev_pos rfl (ev_pos hl ?_))
  rw [e1]
  exact Ev.now _
theorem grant_add {u : S67} (hz : okN u.f0 ∧ (0 ≤ u.f1.f0 ∧ u.f1.f0 ≤ 15) ∧ okC u.f1 ∧ (0 ≤ u.f2.f0 ∧ u.f2.f0 ≤ 15) ∧ okC u.f2) (r0 c0 : Int) (zs : List S61) (us : List S65) (gs : List S67) (hl : gs.length ≤ 100000) : Ev (fun k => policy_add.f k r0 c0 zs us gs ((grantL u).map tx)) (3, r0, c0, zs, us, gs ++ [u]) := by
  unfold policy_add.f
  have e0 : wrd ((grantL u).map tx) 0 = tx rW := rfl
  have e1 : wrd ((grantL u).map tx) 1 = u.f0 := tx_by u.f0
  have el : ((grantL u).map tx).length = 4 := rfl
  refine ev_neg (fun h => by have := h.1; rw [el] at this; omega) (ev_neg (fun h => by have := h.1; rw [el] at this; omega) (ev_neg (fun h => by have := h.1; rw [el] at this; omega) (ev_pos ⟨rfl, tx_lst rW⟩ ?_)))
  refine ev_bind (lab_read hz.2.1 hz.2.2.1) (ev_bind (lab_read hz.2.2.2.1 hz.2.2.2.2) (ev_pos ⟨rfl, rfl⟩ (ev_pos hl ?_)))
  rw [e1]
  exact Ev.now _
theorem w_hi {w : List UInt8} (h : w = gW ∨ w = zW ∨ w = uW ∨ w = rW) : hi7 w := by
  rcases h with rfl | rfl | rfl | rfl <;> exact hi7_of (by decide)
theorem three_hi {a b c : List UInt8} (h1 : hi7 a) (h2 : hi7 b) (h3 : hi7 c) : ∀ q ∈ [a, b, c], hi7 q := by
  intro q hq
  simp only [List.mem_cons, List.not_mem_nil, or_false] at hq
  rcases hq with rfl | rfl | rfl <;> assumption
theorem four_hi {a b c d : List UInt8} (h1 : hi7 a) (h2 : hi7 b) (h3 : hi7 c) (h4 : hi7 d) : ∀ q ∈ [a, b, c, d], hi7 q := by
  intro q hq
  simp only [List.mem_cons, List.not_mem_nil, or_false] at hq
  rcases hq with rfl | rfl | rfl | rfl <;> assumption
theorem not_bad {kind last : Int} {n : Nat} (h4 : ¬ kind = 4) (hn : 0 < n) (h0 : ¬ kind = 0) (hl : last ≤ kind) : ¬ bad7 true kind n last := by
  rintro (h | h | h | h)
  · cases h
  · exact h4 h
  · exact h ⟨fun e => by omega, fun e => absurd e h0⟩
  · omega
theorem parse_zones {r c : Int} {us : List S65} {gs : List S67} {tail : List UInt8} {R : T7} : ∀ (zs2 zs1 : List S61) (n : Nat) (last : Int), (∀ z ∈ zs2, AD.mayZ z.f0.f0.f0 z.f0.f0.f1 z.f0.f1.f0 z.f0.f1.f1 = true ∧ (0 ≤ z.f1.f0 ∧ z.f1.f0 ≤ 15) ∧ okC z.f1) → 0 < n → n + zs2.length ≤ 50000 → zs1.length + zs2.length ≤ 1000 → last ≤ 1 → (linesT (zs2.map zoneL) ++ tail).length ≤ 1000000 →
    (∀ last', last' ≤ 1 → Ev2 (fun k m => policy_Parse.l k m last' (n + zs2.length) (tx tail) r c (zs1 ++ zs2) us gs) R) →
    Ev2 (fun k m => policy_Parse.l k m last n (tx (linesT (zs2.map zoneL) ++ tail)) r c zs1 us gs) R
  | [], zs1, n, last, _, _, _, _, hl, _, h => by
    have := h last hl
    rw [List.append_nil] at this
    exact this
  | z :: l, zs1, n, last, ho, hn, hb, hz, hl, hs, h => by
    rw [List.length_cons] at hb hz
    rw [List.map_cons, linesT_cons, List.append_assoc] at hs ⊢
    have hoz := ho z (by simp)
    refine line_step (three_hi (w_hi (Or.inr (Or.inl rfl))) (txt_hi _ _ _ _) (lab_hi _ _)) hs (by omega) (not_bad (by decide) hn (by decide) hl) (zone_add hoz r c zs1 us gs (by omega)) ?_
    refine parse_zones l (zs1 ++ [z]) (n + 1) 1 (fun y hy => ho y (List.mem_cons_of_mem _ hy)) (by omega) (by omega) (by rw [List.length_append, List.length_singleton]; omega) (by omega) (by rw [List.length_append] at hs; omega) ?_
    intro last' hl'
    have := h last' hl'
    rw [List.length_cons] at this
    rw [List.append_assoc, show n + 1 + l.length = n + (l.length + 1) by omega]
    exact this
theorem parse_users {r c : Int} {zs : List S61} {gs : List S67} {tail : List UInt8} {R : T7} : ∀ (zs2 zs1 : List S65) (n : Nat) (last : Int), (∀ u ∈ zs2, okN u.f0 ∧ (0 ≤ u.f1.f0 ∧ u.f1.f0 ≤ 15) ∧ okC u.f1) → 0 < n → n + zs2.length ≤ 50000 → zs1.length + zs2.length ≤ 1000 → last ≤ 2 → (linesT (zs2.map userL) ++ tail).length ≤ 1000000 →
    (∀ last', last' ≤ 2 → Ev2 (fun k m => policy_Parse.l k m last' (n + zs2.length) (tx tail) r c zs (zs1 ++ zs2) gs) R) →
    Ev2 (fun k m => policy_Parse.l k m last n (tx (linesT (zs2.map userL) ++ tail)) r c zs zs1 gs) R
  | [], zs1, n, last, _, _, _, _, hl, _, h => by
    have := h last hl
    rw [List.append_nil] at this
    exact this
  | z :: l, zs1, n, last, ho, hn, hb, hz, hl, hs, h => by
    rw [List.length_cons] at hb hz
    rw [List.map_cons, linesT_cons, List.append_assoc] at hs ⊢
    have hoz := ho z (by simp)
    refine line_step (three_hi (w_hi (Or.inr (Or.inr (Or.inl rfl)))) (user_hi _ hoz.1).1 (lab_hi _ _)) hs (by omega) (not_bad (by decide) hn (by decide) hl) (user_add hoz r c zs zs1 gs (by omega)) ?_
    refine parse_users l (zs1 ++ [z]) (n + 1) 2 (fun y hy => ho y (List.mem_cons_of_mem _ hy)) (by omega) (by omega) (by rw [List.length_append, List.length_singleton]; omega) (by omega) (by rw [List.length_append] at hs; omega) ?_
    intro last' hl'
    have := h last' hl'
    rw [List.length_cons] at this
    rw [List.append_assoc, show n + 1 + l.length = n + (l.length + 1) by omega]
    exact this
theorem parse_grants {r c : Int} {zs : List S61} {us : List S65} {tail : List UInt8} {R : T7} : ∀ (zs2 zs1 : List S67) (n : Nat) (last : Int), (∀ u ∈ zs2, okN u.f0 ∧ (0 ≤ u.f1.f0 ∧ u.f1.f0 ≤ 15) ∧ okC u.f1 ∧ (0 ≤ u.f2.f0 ∧ u.f2.f0 ≤ 15) ∧ okC u.f2) → 0 < n → n + zs2.length ≤ 50000 → zs1.length + zs2.length ≤ 1000 → last ≤ 3 → (linesT (zs2.map grantL) ++ tail).length ≤ 1000000 →
    (∀ last', last' ≤ 3 → Ev2 (fun k m => policy_Parse.l k m last' (n + zs2.length) (tx tail) r c zs us (zs1 ++ zs2)) R) →
    Ev2 (fun k m => policy_Parse.l k m last n (tx (linesT (zs2.map grantL) ++ tail)) r c zs us zs1) R
  | [], zs1, n, last, _, _, _, _, hl, _, h => by
    have := h last hl
    rw [List.append_nil] at this
    exact this
  | z :: l, zs1, n, last, ho, hn, hb, hz, hl, hs, h => by
    rw [List.length_cons] at hb hz
    rw [List.map_cons, linesT_cons, List.append_assoc] at hs ⊢
    have hoz := ho z (by simp)
    refine line_step (four_hi (w_hi (Or.inr (Or.inr (Or.inr rfl)))) (user_hi _ hoz.1).1 (lab_hi _ _) (lab_hi _ _)) hs (by omega) (not_bad (by decide) hn (by decide) hl) (grant_add hoz r c zs us zs1 (by omega)) ?_
    refine parse_grants l (zs1 ++ [z]) (n + 1) 3 (fun y hy => ho y (List.mem_cons_of_mem _ hy)) (by omega) (by omega) (by rw [List.length_append, List.length_singleton]; omega) (by omega) (by rw [List.length_append] at hs; omega) ?_
    intro last' hl'
    have := h last' hl'
    rw [List.length_cons] at this
    rw [List.append_assoc, show n + 1 + l.length = n + (l.length + 1) by omega]
    exact this
theorem parse_end {r c : Int} {zs : List S61} {us : List S65} {gs : List S67} (hs : SmallP zs us gs) (last : Int) (n : Nat) (hn : 0 < n) : Ev2 (fun k m => policy_Parse.l k m last n (tx []) r c zs us gs) (fin7 (wrongP r c zs us gs).2 (wrongP r c zs us gs).1 r c zs us gs) := by
  refine Ev2.step (fun k m => policy_Parse.l.eq_2 ..) (Ev2.neg ?_ ?_)
  · rintro (h | h)
    · exact h (tx_lst [])
    · omega
  · exact Ev2.bind (Ev2.of1 (pwrong_ev r c zs us gs hs)) (Ev2.now _)
theorem parse_text {r c : Int} {zs : List S61} {us : List S65} {gs : List S67} (hs : SmallP zs us gs) (hw : (wrongP r c zs us gs).2 = 0) (h : RightP r c zs us gs) (hf : FewP zs us gs) :
    Ev (fun k => policy_Parse.f k (tx (textP r c zs us gs))) (if ((tx (textP r c zs us gs)).size : Int) > 4000 then (3, 0, 0, 0, [], [], []) else (0, 0, r, c, zs, us, gs)) := by
  unfold policy_Parse.f
  by_cases hb : ((tx (textP r c zs us gs)).size : Int) > 4000
  · rw [if_pos hb]; exact ev_pos hb (Ev.now _)
  rw [if_neg hb]
  refine ev_neg hb (Ev2.diag (g := fun k m => policy_Parse.l k m 4 0 (tx (textP r c zs us gs)) 0 0 [] [] []) ?_)
  rw [size_tx] at hb
  have hlen : (textP r c zs us gs).length ≤ 4000 := by omega
  have h1 := hf.z
  have h2 := hf.u
  have h3 := hf.g
  unfold textP at hlen ⊢
  have l1 : (linesT (zs.map zoneL) ++ (linesT (us.map userL) ++ linesT (gs.map grantL))).length ≤ 4000 := by rw [List.length_append] at hlen; omega
  have l2 : (linesT (us.map userL) ++ linesT (gs.map grantL)).length ≤ 4000 := by rw [List.length_append] at l1; omega
  have l3 : (linesT (gs.map grantL)).length ≤ 4000 := by rw [List.length_append] at l2; omega
  refine line_step (three_hi (w_hi (Or.inl rfl)) (hi7_of (dig_hi ⟨r.toNat, by have := h.r; omega⟩)) (hi7_of (dig_hi ⟨c.toNat, by have := h.c; omega⟩))) (Nat.le_trans hlen (by decide)) (by omega) ?_ (grid_add h.r h.c 0 0 [] [] []) ?_
  · rintro (e | e | e | e)
    · cases e
    · simp at e
    · exact e ⟨fun _ => rfl, fun _ => rfl⟩
    · omega
  refine parse_zones zs [] 1 0 h.z (by omega) (by omega) (by simp; omega) (by omega) (by omega) ?_
  intro last1 hl1
  refine parse_users us [] (1 + zs.length) last1 h.u (by omega) (by omega) (by simp; omega) (by omega) (by omega) ?_
  intro last2 hl2
  have := parse_grants (r := r) (c := c) (zs := [] ++ zs) (us := [] ++ us) (tail := []) gs [] (1 + zs.length + us.length) last2 h.g (by omega) (by omega) (by simp; omega) (by omega) (by rw [List.append_nil]; omega) (R := (0, 0, r, c, zs, us, gs)) (by
    intro last3 hl3
    have := parse_end (r := r) (c := c) hs last3 (1 + zs.length + us.length + gs.length) (by omega)
    rw [hw] at this
    exact this)
  rw [List.append_nil] at this
  exact this
theorem parse_none : Ev (fun k => policy_Parse.f k ⟨#[]⟩) (1, 1, 0, 0, [], [], []) := Ev.of (fun k => policy_Parse.mono _ k) (k := 60) (by kernel_rfl)
end Go.Proofs.YtbboanfggaknjaaDoor.X
/- A policy is the same as itself. -/
set_option linter.unusedVariables false
set_option linter.unusedSimpArgs false
namespace Go.Proofs.YtbboanfggaknjaaDoor.X
open Go.RowKit Go.Proofs.YtbboanfggaknjaaDoorW.PrintWords Go.Proofs.YtbboanfggaknjaaDoorW.PrintLast Go.Proofs.YtbboanfggaknjaaDoorW.PrintMore
theorem same_l2 (r c : Int) (zs : List S61) (us : List S65) (gs : List S67) (hg : gs.length ≤ 9223372036854775807) : ∀ d i, i + d = gs.length → Ev (fun k => oculusref07_Same.l2 k (i : Int) r c zs us gs r c zs us gs) true := by
  intro d
  induction d with
  | zero =>
    intro i hi
    refine Ev.step (fun k => oculusref07_Same.l2.eq_2 ..) ?_
    exact ev_neg (by omega) (Ev.now _)
  | succ d ih =>
    intro i hi
    refine Ev.step (fun k => oculusref07_Same.l2.eq_2 ..) ?_
    have e : wrap64 ((i : Int) + 1) = ((i + 1 : Nat) : Int) := w64s (n := gs.length) (by omega) hg
    simp only [e]
    exact ev_pos (by omega) (ev_pos (by omega) (ev_pos (by omega) (ev_neg (by simp) (ih (i + 1) (by omega)))))
theorem same_l1 (r c : Int) (zs : List S61) (us : List S65) (gs : List S67) (hu : us.length ≤ 9223372036854775807) (hg : gs.length ≤ 9223372036854775807) : ∀ d i, i + d = us.length → Ev (fun k => oculusref07_Same.l1 k (i : Int) r c zs us gs r c zs us gs) true := by
  intro d
  induction d with
  | zero =>
    intro i hi
    refine Ev.step (fun k => oculusref07_Same.l1.eq_2 ..) ?_
    exact ev_neg (by omega) (same_l2 r c zs us gs hg gs.length 0 (by omega))
  | succ d ih =>
    intro i hi
    refine Ev.step (fun k => oculusref07_Same.l1.eq_2 ..) ?_
    have e : wrap64 ((i : Int) + 1) = ((i + 1 : Nat) : Int) := w64s (n := us.length) (by omega) hu
    simp only [e]
    exact ev_pos (by omega) (ev_pos (by omega) (ev_pos (by omega) (ev_neg (by simp) (ih (i + 1) (by omega)))))
theorem same_l0 (r c : Int) (zs : List S61) (us : List S65) (gs : List S67) (hz : zs.length ≤ 9223372036854775807) (hu : us.length ≤ 9223372036854775807) (hg : gs.length ≤ 9223372036854775807) : ∀ d i, i + d = zs.length → Ev (fun k => oculusref07_Same.l0 k (i : Int) r c zs us gs r c zs us gs) true := by
  intro d
  induction d with
  | zero =>
    intro i hi
    refine Ev.step (fun k => oculusref07_Same.l0.eq_2 ..) ?_
    exact ev_neg (by omega) (same_l1 r c zs us gs hu hg us.length 0 (by omega))
  | succ d ih =>
    intro i hi
    refine Ev.step (fun k => oculusref07_Same.l0.eq_2 ..) ?_
    have e : wrap64 ((i : Int) + 1) = ((i + 1 : Nat) : Int) := w64s (n := zs.length) (by omega) hz
    simp only [e]
    exact ev_pos (by omega) (ev_pos (by omega) (ev_pos (by omega) (ev_neg (by simp) (ih (i + 1) (by omega)))))
theorem same_self (r c : Int) (zs : List S61) (us : List S65) (gs : List S67) (hz : zs.length ≤ 9223372036854775807) (hu : us.length ≤ 9223372036854775807) (hg : gs.length ≤ 9223372036854775807) : Ev (fun k => oculusref07_Same.f k r c zs us gs r c zs us gs) true := by
  unfold oculusref07_Same.f
  refine ev_pos rfl (ev_pos rfl (ev_pos rfl (ev_pos rfl ?_)))
  refine Ev.step (fun k => oculusref07_Same.j0.eq_2 ..) ?_
  exact ev_neg (by simp) (same_l0 r c zs us gs hz hu hg zs.length 0 (by omega))
end Go.Proofs.YtbboanfggaknjaaDoor.X
/- The pure statement of the law PolicyTells: over numbers and lists alone. -/
set_option linter.unusedVariables false
set_option linter.unusedSimpArgs false
namespace Go.Proofs.YtbboanfggaknjaaDoor.Pure
open Go.RowKit Go.Proofs.YtbboanfggaknjaaDoor.X Go.Proofs.YtbboanfggaknjaaDoorW.PrintWords Go.Proofs.YtbboanfggaknjaaDoorW.PrintLast Go.Proofs.YtbboanfggaknjaaDoorW.PrintMore
theorem okC_of {l : S59} (h : good59 l) : okC l := by
  obtain ⟨n, e, hn⟩ := wf_nat h.2
  unfold okC
  omega
theorem PolicyTells : oculuslaw07_PolicyTells.PureX := by
  intro p ⟨_, _, ⟨hzo, hz⟩, ⟨huo, hu⟩, ⟨hgo, hg⟩⟩
  have e : reachBytes = 140737488351232 := by decide
  rw [e] at hz hu hg
  have hs : SmallP p.f2 p.f3 p.f4 := ⟨by omega, by omega, by omega, fun u hm => ⟨(huo u hm).2.2, by have := (huo u hm).1; rw [e] at this; omega⟩⟩
  apply Ev.rounds
  unfold oculuslaw07_PolicyTells.f
  by_cases hsm : p.f2.length ≤ 50 ∧ p.f3.length ≤ 30 ∧ p.f4.length ≤ 50
  · have es : oculuslaw07_small.f p.f0 p.f1 p.f2 p.f3 p.f4 = some true := by
      unfold oculuslaw07_small.f
      rw [if_pos (by omega), if_pos (by omega), decide_eq_true (by omega)]
    rw [es]
    refine ev_bsome (ev_neg (by simp) ?_)
    have hf : FewP p.f2 p.f3 p.f4 := ⟨hsm.1, hsm.2.1, hsm.2.2⟩
    by_cases hw : (wrongP p.f0 p.f1 p.f2 p.f3 p.f4).2 = 0
    · have hR := right_of hw (fun z hm => okC_of (hzo z hm).2) (fun u hm => okC_of (huo u hm).2) (fun g hm => ⟨okC_of (hgo g hm).2.1, okC_of (hgo g hm).2.2⟩)
      refine ev_bind (ptext_ev hs hw hR hf) (ev_bind (rtextP_ev hs hw hR hf) (ev_pos rfl ?_))
      refine ev_bind (parse_text hs hw hR hf) (ev_bind (rpwrong_ev _ _ _ _ _ hs) (ev_pos hw ?_))
      by_cases hb : ((tx (textP p.f0 p.f1 p.f2 p.f3 p.f4)).size : Int) > 4000
      · rw [if_pos hb]
        exact ev_pos hb (ev_pos rfl (Ev.now _))
      · rw [if_neg hb]
        exact ev_neg hb (ev_pos ⟨rfl, rfl⟩ (ev_bind (same_self p.f0 p.f1 p.f2 p.f3 p.f4 hs.z hs.u hs.g) (ev_pos rfl (Ev.now _))))
    · have t1 : Ev (fun k => policy_Text.f k p.f0 p.f1 p.f2 p.f3 p.f4) ⟨#[]⟩ := by
        unfold policy_Text.f
        exact ev_bind (pwrong_ev _ _ _ _ _ hs) (ev_neg hw (Ev.now _))
      have t2 : Ev (fun k => oculusref07_Text.f k p.f0 p.f1 p.f2 p.f3 p.f4) ⟨#[]⟩ := by
        unfold oculusref07_Text.f
        exact ev_bind (rpwrong_ev _ _ _ _ _ hs) (ev_neg hw (Ev.now _))
      refine ev_bind t1 (ev_bind t2 (ev_pos rfl (ev_bind parse_none (ev_bind (rpwrong_ev _ _ _ _ _ hs) (ev_neg hw (ev_pos ⟨tx_lst [], rfl, rfl⟩ (Ev.now _)))))))
  · have es : oculuslaw07_small.f p.f0 p.f1 p.f2 p.f3 p.f4 = some false := by
      unfold oculuslaw07_small.f
      by_cases h1 : p.f2.length ≤ 50
      · rw [if_pos (by omega)]
        by_cases h2 : p.f3.length ≤ 30
        · rw [if_pos (by omega), decide_eq_false (by omega)]
        · rw [if_neg (by omega)]
      · rw [if_neg (by omega)]
    rw [es]
    exact ev_bsome (ev_pos rfl (Ev.now _))
end Go.Proofs.YtbboanfggaknjaaDoor.Pure
/- The row of the law PolicyTells: for every input the call returns true and each argument reads afterwards as before, out of its pure statement and the contract of its function. Conditions: none beyond the given statement. -/
namespace Go.Proofs.YtbboanfggaknjaaDoor.policyTells
open Go.ChangeShapes Go.WideShapes Go.ChangeAt Go.RowKit
open Go.ChangeMaps (open_string shut_string)
open Go.Proofs.YtbboanfggaknjaaDoor.Opn Go.Proofs.YtbboanfggaknjaaDoor.X
open Go.Proofs.YtbboanfggaknjaaDoorW.PrintWords (Kd Drawn0)
set_option linter.unusedVariables false
set_option maxRecDepth 100000
theorem own : ownKnob Tryd.prog.godebug = none := by kernel_rfl
theorem laidOut : laidOutB Tryd.prog = true := by kernel_rfl
theorem tab_vars {P : Program} {W : World} {name : String} {k : IntKind} {zs : List Int} {g : Nat} {t e : TypeId} {n : Nat}
    (hg : P.globalNamed name = some g) (hty : (P.globals[g]?).map (·.type) = some t) (ht : P.underlying t = some (.array n e)) (he : P.underlying e = some (.int k)) (hce : P.cellsOf e = 1) (hct : P.cellsOf t = n) :
    ∀ (l : List (String × DataW Unit)) (ps : List MemPlace), DataW.LaidVars P W l ps → (name, Lib.tabData k zs) ∈ l → Lib.TabIs P W name k zs
  | [], _, _, hm => by simp at hm
  | (nm, d) :: rest, ps, h, hm => by
    obtain ⟨g', t', cs, fuel, p, q, hg', ht', hvar, hd, hr, _⟩ := h
    rcases List.mem_cons.1 hm with e0 | hm
    · cases e0
      obtain rfl := Option.some.inj (hg.symm.trans hg')
      obtain rfl := Option.some.inj (hty.symm.trans ht')
      unfold Lib.TabIs
      rw [hvar, ← Lib.cells_of_tab ht he hce hct hd]
    · exact tab_vars hg hty ht he hce hct rest q hr hm
theorem e_pow : (Rows.laid_internal_strconv_uint64pow10 : DataW Unit) = Lib.tabData .u64 Lib.pow10Tab := by kernel_rfl
theorem e_bru : (Rows.laid_math_bits_deBruijn64tab : DataW Unit) = Lib.tabData .u8 bru64 := by kernel_rfl
theorem tab_of_laid {W : World} (h : laidMet Tryd.prog Rows.policyTellsRow.laid W) : Tab W := by
  obtain ⟨ps, hv, _⟩ := h
  have m_pow : (("internal/strconv.uint64pow10", (Rows.laid_internal_strconv_uint64pow10 : DataW Unit)) : String × DataW Unit) ∈ Rows.policyTellsRow.laid := List.mem_cons_of_mem _ (List.mem_cons_of_mem _ (List.mem_cons_self))
  rw [e_pow] at m_pow
  have h_pow : Lib.TabIs Tryd.prog W "internal/strconv.uint64pow10" .u64 Lib.pow10Tab := tab_vars (g := 1) (t := 126) (e := 57) (n := 20) (by kernel_rfl) (by kernel_rfl) Tryd.underlying126 Tryd.underlying57 (by kernel_rfl) (by kernel_rfl) _ ps hv m_pow
  have m_bru : (("math/bits.deBruijn64tab", (Rows.laid_math_bits_deBruijn64tab : DataW Unit)) : String × DataW Unit) ∈ Rows.policyTellsRow.laid := List.mem_cons_of_mem _ (List.mem_cons_self)
  rw [e_bru] at m_bru
  have h_bru : Lib.TabIs Tryd.prog W "math/bits.deBruijn64tab" .u8 bru64 := tab_vars (g := 2) (t := 131) (e := 5) (n := 64) (by kernel_rfl) (by kernel_rfl) Tryd.underlying131 Tryd.underlying5 (by kernel_rfl) (by kernel_rfl) _ ps hv m_bru
  exact ⟨h_pow, h_bru⟩
noncomputable def laidWorld (os : Os) : World :=
  { World.holding Tryd.prog os ⟨#[], #[], []⟩ with heap := ((((((World.holding Tryd.prog os ⟨#[], #[], []⟩).heap.modify 5 (fun | .cells _ t fr => .cells #[.int .u8 0, .int .u8 1, .int .u8 28, .int .u8 2, .int .u8 29, .int .u8 14, .int .u8 24, .int .u8 3, .int .u8 30, .int .u8 22, .int .u8 20, .int .u8 15, .int .u8 25, .int .u8 17, .int .u8 4, .int .u8 8, .int .u8 31, .int .u8 27, .int .u8 13, .int .u8 23, .int .u8 21, .int .u8 19, .int .u8 16, .int .u8 7, .int .u8 26, .int .u8 12, .int .u8 18, .int .u8 6, .int .u8 11, .int .u8 5, .int .u8 10, .int .u8 9] t fr | o => o)).modify 2 (fun | .cells _ t fr => .cells #[.int .u8 0, .int .u8 1, .int .u8 56, .int .u8 2, .int .u8 57, .int .u8 49, .int .u8 28, .int .u8 3, .int .u8 61, .int .u8 58, .int .u8 42, .int .u8 50, .int .u8 38, .int .u8 29, .int .u8 17, .int .u8 4, .int .u8 62, .int .u8 47, .int .u8 59, .int .u8 36, .int .u8 45, .int .u8 43, .int .u8 51, .int .u8 22, .int .u8 53, .int .u8 39, .int .u8 33, .int .u8 30, .int .u8 24, .int .u8 18, .int .u8 12, .int .u8 5, .int .u8 63, .int .u8 55, .int .u8 48, .int .u8 27, .int .u8 60, .int .u8 41, .int .u8 37, .int .u8 16, .int .u8 46, .int .u8 35, .int .u8 44, .int .u8 21, .int .u8 52, .int .u8 32, .int .u8 23, .int .u8 11, .int .u8 54, .int .u8 26, .int .u8 40, .int .u8 15, .int .u8 34, .int .u8 20, .int .u8 31, .int .u8 10, .int .u8 25, .int .u8 14, .int .u8 19, .int .u8 9, .int .u8 13, .int .u8 8, .int .u8 7, .int .u8 6] t fr | o => o)).modify 1 (fun | .cells _ t fr => .cells #[.int .u64 1, .int .u64 10, .int .u64 100, .int .u64 1000, .int .u64 10000, .int .u64 100000, .int .u64 1000000, .int .u64 10000000, .int .u64 100000000, .int .u64 1000000000, .int .u64 10000000000, .int .u64 100000000000, .int .u64 1000000000000, .int .u64 10000000000000, .int .u64 100000000000000, .int .u64 1000000000000000, .int .u64 10000000000000000, .int .u64 100000000000000000, .int .u64 1000000000000000000, .int .u64 10000000000000000000] t fr | o => o)).modify 4 (fun | .cells _ t fr => .cells #[.int .u8 128, .int .u8 191, .int .u8 160, .int .u8 191, .int .u8 128, .int .u8 159, .int .u8 144, .int .u8 191, .int .u8 128, .int .u8 143, .int .u8 0, .int .u8 0, .int .u8 0, .int .u8 0, .int .u8 0, .int .u8 0, .int .u8 0, .int .u8 0, .int .u8 0, .int .u8 0, .int .u8 0, .int .u8 0, .int .u8 0, .int .u8 0, .int .u8 0, .int .u8 0, .int .u8 0, .int .u8 0, .int .u8 0, .int .u8 0, .int .u8 0, .int .u8 0] t fr | o => o)).modify 3 (fun | .cells _ t fr => .cells #[.int .u8 240, .int .u8 240, .int .u8 240, .int .u8 240, .int .u8 240, .int .u8 240, .int .u8 240, .int .u8 240, .int .u8 240, .int .u8 240, .int .u8 240, .int .u8 240, .int .u8 240, .int .u8 240, .int .u8 240, .int .u8 240, .int .u8 240, .int .u8 240, .int .u8 240, .int .u8 240, .int .u8 240, .int .u8 240, .int .u8 240, .int .u8 240, .int .u8 240, .int .u8 240, .int .u8 240, .int .u8 240, .int .u8 240, .int .u8 240, .int .u8 240, .int .u8 240, .int .u8 240, .int .u8 240, .int .u8 240, .int .u8 240, .int .u8 240, .int .u8 240, .int .u8 240, .int .u8 240, .int .u8 240, .int .u8 240, .int .u8 240, .int .u8 240, .int .u8 240, .int .u8 240, .int .u8 240, .int .u8 240, .int .u8 240, .int .u8 240, .int .u8 240, .int .u8 240, .int .u8 240, .int .u8 240, .int .u8 240, .int .u8 240, .int .u8 240, .int .u8 240, .int .u8 240, .int .u8 240, .int .u8 240, .int .u8 240, .int .u8 240, .int .u8 240, .int .u8 240, .int .u8 240, .int .u8 240, .int .u8 240, .int .u8 240, .int .u8 240, .int .u8 240, .int .u8 240, .int .u8 240, .int .u8 240, .int .u8 240, .int .u8 240, .int .u8 240, .int .u8 240, .int .u8 240, .int .u8 240, .int .u8 240, .int .u8 240, .int .u8 240, .int .u8 240, .int .u8 240, .int .u8 240, .int .u8 240, .int .u8 240, .int .u8 240, .int .u8 240, .int .u8 240, .int .u8 240, .int .u8 240, .int .u8 240, .int .u8 240, .int .u8 240, .int .u8 240, .int .u8 240, .int .u8 240, .int .u8 240, .int .u8 240, .int .u8 240, .int .u8 240, .int .u8 240, .int .u8 240, .int .u8 240, .int .u8 240, .int .u8 240, .int .u8 240, .int .u8 240, .int .u8 240, .int .u8 240, .int .u8 240, .int .u8 240, .int .u8 240, .int .u8 240, .int .u8 240, .int .u8 240, .int .u8 240, .int .u8 240, .int .u8 240, .int .u8 240, .int .u8 240, .int .u8 240, .int .u8 240, .int .u8 240, .int .u8 240, .int .u8 240, .int .u8 241, .int .u8 241, .int .u8 241, .int .u8 241, .int .u8 241, .int .u8 241, .int .u8 241, .int .u8 241, .int .u8 241, .int .u8 241, .int .u8 241, .int .u8 241, .int .u8 241, .int .u8 241, .int .u8 241, .int .u8 241, .int .u8 241, .int .u8 241, .int .u8 241, .int .u8 241, .int .u8 241, .int .u8 241, .int .u8 241, .int .u8 241, .int .u8 241, .int .u8 241, .int .u8 241, .int .u8 241, .int .u8 241, .int .u8 241, .int .u8 241, .int .u8 241, .int .u8 241, .int .u8 241, .int .u8 241, .int .u8 241, .int .u8 241, .int .u8 241, .int .u8 241, .int .u8 241, .int .u8 241, .int .u8 241, .int .u8 241, .int .u8 241, .int .u8 241, .int .u8 241, .int .u8 241, .int .u8 241, .int .u8 241, .int .u8 241, .int .u8 241, .int .u8 241, .int .u8 241, .int .u8 241, .int .u8 241, .int .u8 241, .int .u8 241, .int .u8 241, .int .u8 241, .int .u8 241, .int .u8 241, .int .u8 241, .int .u8 241, .int .u8 241, .int .u8 241, .int .u8 241, .int .u8 2, .int .u8 2, .int .u8 2, .int .u8 2, .int .u8 2, .int .u8 2, .int .u8 2, .int .u8 2, .int .u8 2, .int .u8 2, .int .u8 2, .int .u8 2, .int .u8 2, .int .u8 2, .int .u8 2, .int .u8 2, .int .u8 2, .int .u8 2, .int .u8 2, .int .u8 2, .int .u8 2, .int .u8 2, .int .u8 2, .int .u8 2, .int .u8 2, .int .u8 2, .int .u8 2, .int .u8 2, .int .u8 2, .int .u8 2, .int .u8 19, .int .u8 3, .int .u8 3, .int .u8 3, .int .u8 3, .int .u8 3, .int .u8 3, .int .u8 3, .int .u8 3, .int .u8 3, .int .u8 3, .int .u8 3, .int .u8 3, .int .u8 35, .int .u8 3, .int .u8 3, .int .u8 52, .int .u8 4, .int .u8 4, .int .u8 4, .int .u8 68, .int .u8 241, .int .u8 241, .int .u8 241, .int .u8 241, .int .u8 241, .int .u8 241, .int .u8 241, .int .u8 241, .int .u8 241, .int .u8 241, .int .u8 241] t fr | o => o)) }
theorem laidWorld_met (os : Os) (args : Array Value) : laidMet Tryd.prog Rows.policyTellsRow.laid ((laidWorld os).forCall (fun _ _ => 0) ⟨#[], args, []⟩).memory := laidMet_of_run' 8 (by kernel_rfl) (by kernel_rfl)
set_option maxRecDepth 100000 in
set_option maxHeartbeats 1000000 in
theorem lifted (os : Os) (started : os.Started) (H : Type) (enc : TypeId × Value → H) :
    ReturnsInHanded {} Tryd.checked os 3 .any (fun w args => (Rows.policyTellsSpec.pre enc Tryd.prog Tryd.f3 Rows.policyTellsRow.domain false w args ∧ laidMet Tryd.prog Rows.policyTellsRow.laid w) ∧ sizedMet enc Tryd.prog Tryd.f3 (OpenSpec.ofChange Rows.policyTellsSpec) false w args) (Rows.policyTellsSpec.post enc Tryd.prog Tryd.f3 false true false false) := by
  refine returnsInHanded_of_change_and (C := Tryd.checked) (X := fun w _ => laidMet Tryd.prog Rows.policyTellsRow.laid w) (fun _ _ _ hh h => h.of_heap hh) own started (by kernel_rfl) Tryd.func3
    (ChangeSpec.witness_at (enc := enc) (C := Tryd.checked) (os := os) (X := fun w _ => laidMet Tryd.prog Rows.policyTellsRow.laid w) false (laidWorld os) #[.agg #[.int .i64 0, .int .i64 0, .slice none 0 0, .slice none 0 0, .slice none 0 0]] 8 rfl (by kernel_rfl) (by kernel_rfl) (by kernel_rfl) (by kernel_rfl) (by kernel_rfl) (laidWorld_met os _)) ?_
  intro W base args ds gs before hval0 hW hcnd hsz0 hL _
  have hsz : (DataW.weightsEach Tryd.prog (Tryd.f3.params.toList ++ Rows.policyTellsSpec.plain.varTypes Tryd.prog) (ds ++ gs)).all (· ≤ reachBytes) = true := hsz0
  have hval : ∀ (j : Nat) t v, Tryd.f3.params[j]? = some t → args[j]? = some v → Value.okWide Tryd.prog W .any base t v := hval0
  have hW' := hW
  obtain ⟨p, q, hA0, hV, rfl, hfz, hnd⟩ := hW
  have hA : DataW.TrodAll enc Tryd.prog W 0 (fun _ => true) true Tryd.f3.params.toList args.toList ds p := hA0
  rw [Tryd.params3] at hA hval hsz
  obtain ⟨v0, vs0, d0, ds0, p0, q0, hargs, rfl, rfl, h0, r0⟩ := trodAll_cons hA
  obtain ⟨rfl, rfl, rfl⟩ := trodAll_nil r0
  obtain rfl : args = #[v0] := by cases args; simp_all
  obtain ⟨rfl, rfl⟩ := trodVars_none hV
  have lt0 : ∀ x ∈ p0, x.block < W.heap.size := by obtain ⟨m, hm⟩ := h0; exact DataW.trod_lt m _ _ _ hm
  have hw0 : ∀ m ∈ d0.weights Tryd.prog 26, m ≤ reachBytes := fun m hm => of_decide_eq_true (List.all_eq_true.1 hsz m (DataW.weights_mem_each (j := 0) (t := 26) rfl rfl m hm))
  obtain ⟨a0, K0, g0⟩ : ∃ a, (k26 : Kd S26).K W a v0.cells.toList ∧ (good26 a) := by
    obtain ⟨fuel, hf⟩ := h0
    exact opens26 hf hw0
  obtain ⟨cs0, rfl, _⟩ := okWide_struct Tryd.underlying26 (hval 0 26 v0 rfl rfl)
  have KO0 := k26_open K0
  obtain ⟨A0_0, c0_0, A0_1, c0_1, A0_2, c0_2, KE0, hc0_0, C0_0, hc0_1, C0_1, hc0_2, C0_2⟩ := KO0
  obtain rfl : cs0 = #[.int .i64 a0.f0, .int .i64 a0.f1, .slice A0_0 (a0.f2).length c0_0, .slice A0_1 (a0.f3).length c0_1, .slice A0_2 (a0.f4).length c0_2] := by
    have : cs0.toList = _ := KE0
    cases cs0; simp_all
  obtain ⟨k, hk⟩ := Pure.PolicyTells a0 g0
  clear hA0 hval0 hsz0 hsz
  refine (oculuslaw07_PolicyTells.calls k (a0.f0) (a0.f1) A0_0 c0_0 (a0.f2) A0_1 c0_1 (a0.f3) A0_2 c0_2 (a0.f4) true W ⟨tab_of_laid hL⟩ C0_0 hc0_0 C0_1 hc0_1 C0_2 hc0_2 hk).mono fun e W' ⟨he, bel0⟩ => ?_
  have bel : Below W.heap.size W W' := bel0
  subst he
  exact ⟨_, rfl, _, _, _, [], _, [], hW', trodAll_mk1 (shut_bool Tryd.underlying4 _), (trodAll_cons_mk (Below.trod laidOut (by kernel_rfl) (of_decide_eq_true (by kernel_rfl)) h0 bel lt0) trodAll_mk0), rfl, bel.frame _, fun h => by cases h⟩
theorem over : Rows.policyTellsRow.holds Tryd.pinned (OpenSpec.ofChange Rows.policyTellsSpec) :=
  OpenClaim.holds_of_wide 3 Tryd.f3 rfl rfl rfl rfl rfl rfl rfl ⟨rfl, rfl, rfl, rfl, rfl⟩ rfl rfl rfl rfl rfl (by kernel_rfl) Tryd.func3 (by kernel_rfl)
    (of_decide_eq_true (by kernel_rfl)) (by unfold Func.isWrapper; first | (rw [if_pos (by decide +kernel)]; kernel_rfl) | (rw [if_neg (by decide +kernel)]; exact ⟨rfl, rfl⟩))
    (fun os started H enc _ => lifted os started H enc)
theorem proved : Rows.PolicyTellsCardSaid :=
  Claim7.holds_tied_plain_at .later [] [.data, .data, .data, .data, .pinned] true (true, "b20370fb315023bea96c53067fcc5b990838f21093fb5456fd6bdaee6fe56a19") false
    over (fun _ h => by cases h) (by kernel_rfl) (fun _ h => by cases h) policyTells_row_tie rfl ⟨rfl, rfl⟩ (by kernel_rfl) rfl
    (fun f fn hf hfn => by
      obtain rfl : f = 3 := Option.some.inj ((show Tryd.prog.funcNamed "oculus/oculuslaw07.PolicyTells" = some 3 by kernel_rfl).symm.trans hf) |>.symm
      obtain rfl : fn = Tryd.f3 := (Option.some.inj (Tryd.func3.symm.trans hfn)).symm
      refine ⟨by kernel_rfl, fun j t ht => ?_⟩
      rw [Tryd.params3] at ht
      have hall : ∀ t ∈ #[(26 : TypeId)], Tryd.prog.wantsStandIn t = false := by
        intro t ht
        simp only [List.mem_toArray, List.mem_cons, List.not_mem_nil, or_false] at ht
        rcases ht with rfl
        · exact (show Tryd.prog.wantsStandIn 26 = false by kernel_rfl)
      exact hall t (Array.mem_of_getElem? ht))
    (by kernel_rfl)
end Go.Proofs.YtbboanfggaknjaaDoor.policyTells
namespace Go.Proofs.YtbboanfggaknjaaDoor
theorem policyTells_holds : Rows.PolicyTellsCardSaid := policyTells.proved
#print axioms policyTells_holds
end Go.Proofs.YtbboanfggaknjaaDoor
