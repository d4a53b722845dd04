/- The law PolicyReads: for every input the call returns true, and each argument reads afterwards as it read before: the statement Rows.PolicyReadsSaid, whole, with no condition of ours. -/
import Derived.Laws.Bits128
import Derived.Test.YtbboanfggaknjaaGreatDoorRows
import Derived.WalkKit
import Derived.ProofKit
import Derived.OpenShut
import Derived.ShutString
import Derived.ChangeOld
import Derived.Below
import Derived.SizedLaws
import Derived.Carry
import Derived.Handed
import Derived.LaidLaws
import Derived.Lib.LaidTab
import Derived.Test.YtbboanfggaknjaaGreatDoorCards
import Derived.Test.YtbboanfggaknjaaGreatDoorTie
import Derived.SevenTiedAt
import Derived.Test.YtbboanfggaknjaaGreatDoorBPolicyReads6
set_option maxHeartbeats 8000000
set_option maxRecDepth 100000
/- What the program's sets answer: their lists, texts, and what is read. -/
set_option linter.unusedVariables false
set_option linter.unusedSimpArgs false
namespace Go.Proofs.YtbboanfggaknjaaGreatDoor.X
open Go.RowKit Go.Proofs.YtbboanfggaknjaaGreatDoorW.PrintWords Go.Proofs.YtbboanfggaknjaaGreatDoorW.PrintLast Go.Proofs.YtbboanfggaknjaaGreatDoorW.PrintMore
def toI (l : List Nat) : List Int := l.map fun c : Nat => (c : Int)
theorem bitsL_le (s : Nat) : (bitsL s).length ≤ 64 := by unfold bitsL; exact Nat.le_trans (List.length_filter_le _ _) (by simp)
theorem tz_eq (s : Nat) (h : s < 18446744073709551616) : bits_TrailingZeros64.f (s : Int) = some ((Lib.ctz 64 s : Nat) : Int) := by
 unfold bits_TrailingZeros64.f
 rw [if_pos (by omega), Int.toNat_natCast]
theorem and_nat (a b : Nat) (ha : a < 18446744073709551616) (hb : b < 18446744073709551616) : Go.bits .and .u64 (a : Int) (b : Int) = ((a &&& b : Nat) : Int) := by
 rw [u64_and _ _ (by omega) (by omega) (by omega) (by omega)]; simp
theorem or_nat (a b : Nat) (ha : a < 18446744073709551616) (hb : b < 18446744073709551616) : Go.bits .or .u64 (a : Int) (b : Int) = ((a ||| b : Nat) : Int) := by
 rw [u64_or _ _ (by omega) (by omega) (by omega) (by omega)]; simp
theorem or_lt (a b : Nat) (ha : a < 18446744073709551616) (hb : b < 18446744073709551616) : a ||| b < 18446744073709551616 := Nat.or_lt_two_pow (n := 64) ha hb
theorem list_l0 : ∀ n s, s ≤ n → s < 18446744073709551616 → ∀ acc : List Int, acc.length + (bitsL s).length ≤ 64 → Ev (fun k => cats_List.l0 k (s : Int) acc) (acc ++ toI (bitsL s))
 | n, 0, _, _, acc, _ => by
  refine Ev.step (fun k => cats_List.l0.eq_2 _ _ _) ?_
  rw [show bitsL 0 = [] by kernel_rfl]
  simp only [toI, List.map_nil, List.append_nil]
  exact ev_pos rfl (Ev.now _)
 | 0, s + 1, h, _, _, _ => by omega
 | n + 1, s + 1, h, hs, acc, hl => by
  obtain ⟨e1, e2, e3⟩ := bitsL_cons (s + 1) hs (by omega)
  have hl2 : (bitsL (s + 1)).length = (bitsL ((s + 1) &&& (s + 1 - 1))).length + 1 := by rw [e1]; rfl
  refine Ev.step (fun k => cats_List.l0.eq_2 _ _ _) ?_
  refine ev_neg (by omega) ?_
  refine ev_bind (ev_some fun _ => tz_eq (s + 1) hs) (ev_pos (by omega) ?_)
  have ew : IntKind.u64.wrap (((s + 1 : Nat) : Int) - 1) = ((s + 1 - 1 : Nat) : Int) := by rw [IntKind.wrap_u64]; omega
  rw [ew, and_nat _ _ hs (by omega)]
  have := list_l0 n ((s + 1) &&& (s + 1 - 1)) (by omega) (by omega) (acc ++ [((Lib.ctz 64 (s + 1) : Nat) : Int)]) (by rw [List.length_append]; simp only [List.length_cons, List.length_nil]; omega)
  rw [e1]
  simp only [toI, List.map_cons]
  simpa [toI] using this
theorem list_ev (s : Nat) (hs : s < 18446744073709551616) : Ev (fun k => cats_List.f k (s : Int)) (toI (bitsL s)) := by
 unfold cats_List.f
 have := list_l0 s s (Nat.le_refl _) hs [] (by have := bitsL_le s; simpa using this)
 simpa using this
theorem dec_digT (n : Nat) (h : n < 100) : Lib.decDigits n = digT n := by
 unfold digT du8
 rw [Lib.decDigits]
 by_cases h1 : n < 10
 ·rw [dif_pos h1, if_pos h1]
 ·rw [dif_neg h1, if_neg h1, Lib.decDigits, dif_pos (by omega)]; rfl
theorem texG_more : ∀ (ns : List Nat) (i c : Nat), (∀ d ∈ c :: ns, d < 100) → texG (i + 1) (toI (c :: ns)) = 44 :: joiC 44 ((c :: ns).map digT)
 | [], i, c, h => by
  show [44] ++ (Lib.decDigits ((c : Int)).toNat ++ []) = 44 :: digT c
  rw [Int.toNat_natCast, dec_digT c (h c (by simp)), List.append_nil]; rfl
 | d :: ns, i, c, h => by
  show [44] ++ (Lib.decDigits ((c : Int)).toNat ++ texG (i + 1 + 1) (toI (d :: ns))) = 44 :: (digT c ++ 44 :: joiC 44 ((d :: ns).map digT))
  rw [Int.toNat_natCast, dec_digT c (h c (by simp)), texG_more ns (i + 1) d (fun x hx => h x (List.mem_cons_of_mem _ hx))]; rfl
theorem texG_zero (ns : List Nat) (h : ∀ d ∈ ns, d < 100) : texG 0 (toI ns) = joiC 44 (ns.map digT) := by
 cases ns with
 | nil => rfl
 | cons c ns =>
  cases ns with
  | nil =>
   show [] ++ (Lib.decDigits ((c : Int)).toNat ++ []) = digT c
   rw [Int.toNat_natCast, dec_digT c (h c (by simp)), List.append_nil]; rfl
  | cons d ns =>
   show [] ++ (Lib.decDigits ((c : Int)).toNat ++ texG (0 + 1) (toI (d :: ns))) = digT c ++ 44 :: joiC 44 ((d :: ns).map digT)
   rw [Int.toNat_natCast, dec_digT c (h c (by simp)), texG_more ns 0 d (fun x hx => h x (List.mem_cons_of_mem _ hx))]; rfl
theorem texG_bits (s : Nat) : texG 0 (toI (bitsL s)) = txtS s := texG_zero _ fun d hd => by have := bitsL_lt hd; omega
theorem cats_text_ev (s : Nat) (hs : s < 18446744073709551616) : Ev (fun k => cats_Text.f k (s : Int)) (tx (txtS s)) := by
 unfold cats_Text.f
 refine ev_bind (list_ev s hs) (ev_some fun _ => ?_)
 rw [if_pos, texG_bits]; rfl
 refine ⟨by unfold toI; rw [List.length_map]; have := bitsL_le s; omega, fun c hc => ?_⟩
 unfold toI at hc
 rw [List.mem_map] at hc
 obtain ⟨d, hd, rfl⟩ := hc
 have := bitsL_lt hd
 omega
theorem num_end (l : List UInt8) (x : Int) : Ev (fun k => cats_number.l0 k (tx l) x (l.length : Int) (l.length : Int)) (x, decide (x < 64)) := by
 refine Ev.step (fun k => cats_number.l0.eq_2 _ _ _ _ _) ?_
 exact ev_neg (by omega) (Ev.now _)
theorem num_step (l : List UInt8) (i : Nat) (hi : i < l.length) (hn : l.length ≤ 1000) (x : Int) (hx : 0 ≤ x ∧ x ≤ 1000) (v : Int × Bool)
  (good : 48 ≤ l[i].toNat ∧ l[i].toNat ≤ 57 → Ev (fun k => cats_number.l0 k (tx l) (x * 10 + ((l[i].toNat : Int) - 48)) (l.length : Int) ((i + 1 : Nat) : Int)) v) (bad : ¬ (48 ≤ l[i].toNat ∧ l[i].toNat ≤ 57) → v = (0, false)) :
  Ev (fun k => cats_number.l0 k (tx l) x (l.length : Int) (i : Int)) v := by
 refine Ev.step (fun k => cats_number.l0.eq_2 _ _ _ _ _) ?_
 rw [bt_tx l i hi]
 have hb := u8_lt l[i]
 refine ev_pos (by omega) (ev_pos (by omega) (ev_pos (by rw [size_tx]; omega) ?_))
 refine ev_ite (fun h => ?_) (fun h => ?_)
 ·rw [bad (by omega)]; exact Ev.now _
 ·refine ev_ite (fun h2 => ?_) (fun h2 => ?_)
  ·rw [bad (by omega)]; exact Ev.now _
  ·rw [show ((l[i].toNat : Int) - 48) % 256 = (l[i].toNat : Int) - 48 by omega, w64 (x := x * 10) (by omega) (by omega), w64 (by omega) (by omega), w64s (n := 10000) (by omega) (by omega)]
   exact good (by omega)
theorem numZ_one (a : UInt8) : numZ [a] = if 48 ≤ a.toNat ∧ a.toNat ≤ 57 then some (a.toNat - 48) else none := rfl
theorem numZ_two (a b : UInt8) : numZ [a, b] = if a.toNat ≠ 48 ∧ (48 ≤ a.toNat ∧ a.toNat ≤ 57) ∧ (48 ≤ b.toNat ∧ b.toNat ≤ 57) ∧ (a.toNat - 48) * 10 + (b.toNat - 48) < 64 then some ((a.toNat - 48) * 10 + (b.toNat - 48)) else none := rfl
theorem number_ev (w : List UInt8) (hw : w.length ≤ 4611686018427387904) : ∃ v : Int × Bool, Ev (fun k => cats_number.f k (tx w)) v ∧ (match numZ w with | some n => v = ((n : Int), true) | none => v.2 = false) := by
 unfold cats_number.f
 rw [size_tx]
 match w, hw with
 | [], _ => exact ⟨(0, false), ev_pos (by simp) (Ev.step (fun k => cats_number.j0.eq_2 _ _ _) (ev_pos rfl (Ev.now _))), rfl⟩
 | [a], _ =>
  have hb := u8_lt a
  have key : ∀ v : Int × Bool, (48 ≤ a.toNat ∧ a.toNat ≤ 57 → v = ((a.toNat : Int) - 48, true)) → (¬ (48 ≤ a.toNat ∧ a.toNat ≤ 57) → v = (0, false)) → Ev (fun k => if (([a] : List UInt8).length : Int) < 1 then cats_number.j0 k (tx [a]) true else if (([a] : List UInt8).length : Int) > 2 then cats_number.j0 k (tx [a]) true else if (([a] : List UInt8).length : Int) = 2 then (if 0 < (([a] : List UInt8).length : Int) then cats_number.j0 k (tx [a]) (bt (tx [a]) 0 == 48) else none) else cats_number.j0 k (tx [a]) false) v := by
   intro v h1 h2
   refine ev_neg (by simp) (ev_neg (by simp) (ev_neg (by simp) ?_))
   refine Ev.step (fun k => cats_number.j0.eq_2 _ _ _) (ev_neg (by simp) ?_)
   rw [size_tx]
   refine num_step [a] 0 (by simp) (by simp) 0 (by omega) v (fun g => ?_) (fun g => h2 g)
   have g' : 48 ≤ a.toNat ∧ a.toNat ≤ 57 := g
   rw [h1 g']
   have := num_end [a] ((a.toNat : Int) - 48)
   rw [decide_eq_true (by omega)] at this
   simpa using this
  by_cases g : 48 ≤ a.toNat ∧ a.toNat ≤ 57
  ·refine ⟨_, key _ (fun _ => rfl) (fun h => absurd g h), ?_⟩
   rw [numZ_one]
   rw [if_pos g]
   show ((a.toNat : Int) - 48, true) = (((a.toNat - 48 : Nat) : Int), true)
   congr 1
   omega
  ·refine ⟨_, key _ (fun h => absurd h g) (fun _ => rfl), ?_⟩
   rw [numZ_one]
   rw [if_neg g]
 | [a, b], _ =>
  have hb := u8_lt a
  have hb2 := u8_lt b
  have key : ∀ v : Int × Bool, (a.toNat = 48 → v = (0, false)) → (a.toNat ≠ 48 → 48 ≤ a.toNat ∧ a.toNat ≤ 57 → 48 ≤ b.toNat ∧ b.toNat ≤ 57 → v = (((a.toNat : Int) - 48) * 10 + ((b.toNat : Int) - 48), decide (((a.toNat : Int) - 48) * 10 + ((b.toNat : Int) - 48) < 64))) → (¬ (48 ≤ a.toNat ∧ a.toNat ≤ 57) → v = (0, false)) → (¬ (48 ≤ b.toNat ∧ b.toNat ≤ 57) → v = (0, false)) → Ev (fun k => if (([a, b] : List UInt8).length : Int) < 1 then cats_number.j0 k (tx [a, b]) true else if (([a, b] : List UInt8).length : Int) > 2 then cats_number.j0 k (tx [a, b]) true else if (([a, b] : List UInt8).length : Int) = 2 then (if 0 < (([a, b] : List UInt8).length : Int) then cats_number.j0 k (tx [a, b]) (bt (tx [a, b]) 0 == 48) else none) else cats_number.j0 k (tx [a, b]) false) v := by
   intro v h0 h1 h2 h3
   refine ev_neg (by simp) (ev_neg (by simp) (ev_pos (by simp) (ev_pos (by simp) ?_)))
   refine Ev.step (fun k => cats_number.j0.eq_2 _ _ _) ?_
   rw [bt_tx0]
   refine ev_ite (fun g => ?_) (fun g => ?_)
   ·rw [beq_iff_eq] at g
    rw [h0 (by omega)]; exact Ev.now _
   ·rw [beq_iff_eq] at g
    rw [size_tx]
    refine num_step [a, b] 0 (by simp) (by simp) 0 (by omega) v (fun g1 => ?_) (fun g1 => h2 g1)
    have g1' : 48 ≤ a.toNat ∧ a.toNat ≤ 57 := g1
    refine num_step [a, b] 1 (by simp) (by simp) _ (by show 0 ≤ 0 * 10 + ((a.toNat : Int) - 48) ∧ 0 * 10 + ((a.toNat : Int) - 48) ≤ 1000; omega) v (fun g2 => ?_) (fun g2 => h3 g2)
    have g2' : 48 ≤ b.toNat ∧ b.toNat ≤ 57 := g2
    rw [h1 (by omega) g1' g2']
    have := num_end [a, b] ((0 * 10 + ((a.toNat : Int) - 48)) * 10 + ((b.toNat : Int) - 48))
    rw [show (0 * 10 + ((a.toNat : Int) - 48)) * 10 + ((b.toNat : Int) - 48) = ((a.toNat : Int) - 48) * 10 + ((b.toNat : Int) - 48) by omega] at this
    simpa using this
  by_cases g0 : a.toNat = 48
  ·refine ⟨(0, false), key _ (fun _ => rfl) (fun h => absurd g0 h) (fun h => rfl) (fun h => rfl), ?_⟩
   rw [numZ_two]
   rw [if_neg (by omega)]
  ·by_cases g : (48 ≤ a.toNat ∧ a.toNat ≤ 57) ∧ (48 ≤ b.toNat ∧ b.toNat ≤ 57)
   ·refine ⟨_, key _ (fun h => absurd h g0) (fun _ _ _ => rfl) (fun h => absurd g.1 h) (fun h => absurd g.2 h), ?_⟩
    rw [numZ_two]
    by_cases g2 : (a.toNat - 48) * 10 + (b.toNat - 48) < 64
    ·rw [if_pos ⟨g0, g.1, g.2, g2⟩]
     show (_, decide _) = ((((a.toNat - 48) * 10 + (b.toNat - 48) : Nat) : Int), true)
     rw [decide_eq_true (by omega)]
     congr 1
     omega
    ·rw [if_neg (fun h => g2 h.2.2.2)]
     exact decide_eq_false (by omega)
   ·refine ⟨(0, false), key _ (fun h => absurd h g0) (fun _ h1 h2 => absurd ⟨h1, h2⟩ g) (fun h => rfl) (fun h => rfl), ?_⟩
    rw [numZ_two]
    rw [if_neg (fun h => g ⟨h.2.1, h.2.2.1⟩)]
 | a :: b :: c :: l, hw =>
  refine ⟨(0, false), ev_neg (by simp; omega) (ev_pos (by simp; omega) (Ev.step (fun k => cats_number.j0.eq_2 _ _ _) (ev_pos rfl (Ev.now _)))), ?_⟩
  rfl
def resP : Option Nat → Int × Bool
 | some y => ((y : Int), true)
 | none => (0, false)
theorem shr_nat (s c : Nat) (h : c ≤ 64) : shr .u64 (s : Int) (c : Int) = ((s / 2 ^ c : Nat) : Int) := by
 unfold shr
 rw [Int.toNat_natCast, Nat.min_eq_left (show c ≤ IntKind.u64.bits from h)]
 rw [Int.natCast_ediv, Int.natCast_pow]
 rfl
theorem shl_one (c : Nat) (h : c < 64) : shl .u64 1 (c : Int) = ((2 ^ c : Nat) : Int) := by
 unfold shl
 rw [Int.toNat_natCast, Nat.min_eq_left (show c ≤ IntKind.u64.bits from Nat.le_of_lt h), Int.one_mul]
 have hp := pow_lt64 (i := c) (by omega)
 have e : (2 : Int) ^ c = ((2 ^ c : Nat) : Int) := (Int.natCast_pow 2 c).symm
 rw [e, IntKind.wrap_u64]
 generalize 2 ^ c = q at *
 omega
theorem uw (c : Nat) (h : c < 18446744073709551616) : IntKind.u64.wrap (c : Int) = (c : Int) := by rw [IntKind.wrap_u64]; omega
theorem rd_tx (ws : List (List UInt8)) (i : Nat) (h : i < ws.length) : rdOf ByteArray.empty (ws.map tx) (i : Int) = tx ws[i] := by
 unfold rdOf
 rw [Int.toNat_natCast, List.getD_eq_getElem?_getD, List.getElem?_map, List.getElem?_eq_getElem h]; rfl
theorem parse_l0 (ws : List (List UInt8)) (hl : ws.length ≤ 4611686018427387904) (hp : ∀ w ∈ ws, w.length ≤ 4611686018427387904) : ∀ (n i : Nat), i + n = ws.length → ∀ s : Nat, s < 18446744073709551616 → Ev (fun k => cats_Parse.l0 k (s : Int) (ws.map tx) (ws.length : Int) (i : Int)) (resP (parC s (ws.drop i)))
 | 0, i, hi, s, hs => by
  rw [List.drop_eq_nil_of_le (by omega)]
  refine Ev.step (fun k => cats_Parse.l0.eq_2 _ _ _ _ _) ?_
  exact ev_neg (by omega) (Ev.now _)
 | n + 1, i, hi, s, hs => by
  have h : i < ws.length := by omega
  rw [List.drop_eq_getElem_cons h, parC]
  refine Ev.step (fun k => cats_Parse.l0.eq_2 _ _ _ _ _) ?_
  refine ev_pos (by omega) (ev_pos (by omega) (ev_pos (by rw [List.length_map]; omega) ?_))
  rw [rd_tx ws i h]
  obtain ⟨v, hv, hz⟩ := number_ev ws[i] (hp _ (List.getElem_mem h))
  refine ev_bind hv ?_
  cases hq : numZ ws[i] with
  | none =>
   rw [hq] at hz
   have hz' : v.2 = false := hz
   refine ev_neg (by rw [hz']; simp) (Ev.now _)
  | some c =>
   rw [hq] at hz
   have hz' : v = ((c : Int), true) := hz
   subst hz'
   have hc := (numZ_back _ _ hq).1
   refine ev_pos rfl ?_
   show Ev (fun k => if 0 ≤ IntKind.u64.wrap (c : Int) then (if shr .u64 (s : Int) (IntKind.u64.wrap (c : Int)) = 0 then cats_Parse.l0 k (Go.bits .or .u64 (s : Int) (shl .u64 1 (IntKind.u64.wrap (c : Int)))) (ws.map tx) (ws.length : Int) (wrap64 ((i : Int) + 1)) else some (0, false)) else none) (resP (if s / 2 ^ c = 0 then parC (s ||| 2 ^ c) (ws.drop (i + 1)) else none))
   rw [uw c (by omega), shr_nat s c (by omega), shl_one c hc, or_nat s (2 ^ c) hs (pow_lt64 (by omega)), w64s (n := 9223372036854775807) (by omega) (by omega)]
   refine ev_pos (by omega) ?_
   by_cases g : s / 2 ^ c = 0
   ·rw [if_pos g]
    refine ev_pos (by omega) ?_
    exact parse_l0 ws hl hp n (i + 1) (by omega) _ (or_lt _ _ hs (pow_lt64 (by omega)))
   ·rw [if_neg g]
    exact ev_neg (by omega) (Ev.now _)
theorem splitB_tx (c : UInt8) (t : List UInt8) : Lib.splitB (tx [c]) 0 (Lib.countB (tx t) (tx [c])) (tx t) = (splC c t).map tx := by
 have h := Lib.splitB_data (tx [c]) 0 (Lib.countB (tx t) (tx [c])) (tx t)
 have e : (Lib.splitB (tx [c]) 0 (Lib.countB (tx t) (tx [c])) (tx t)).map by_ = splC c t := h.trans (split_one c t)
 rw [← e, List.map_map]
 have : (tx ∘ by_) = id := by funext s; exact tx_by s
 rw [this, List.map_id]
theorem splitf_tx (c : UInt8) (t : List UInt8) (h : t.length < 4294967281) : strings_Split.f (tx t) (tx [c]) = some ((splC c t).map tx) := by
 unfold strings_Split.f
 rw [if_pos ⟨by rw [size_tx]; rfl, by rw [size_tx]; exact h⟩, splitB_tx]
theorem tx_nil (t : List UInt8) : ((tx t).toList = ([] : List UInt8)) ↔ t = [] := by rw [toList_by, by_tx]
theorem cats_parse_ev (t : List UInt8) (h : t.length < 4294967281) : Ev (fun k => cats_Parse.f k (tx t)) (resP (parT t)) := by
 unfold cats_Parse.f parT
 by_cases h0 : t = []
 ·rw [if_pos h0]
  exact ev_pos ((tx_nil t).2 h0) (Ev.now _)
 ·rw [if_neg h0]
  refine ev_neg (fun e => h0 ((tx_nil t).1 e)) ?_
  refine ev_bind (ev_some fun _ => splitf_tx 44 t h) ?_
  have hl := splC_length 44 t
  have := parse_l0 (splC 44 t) (by omega) (fun w hw => by have := splC_piece 44 t w hw; omega) (splC 44 t).length 0 (by omega) 0 (by omega)
  rw [List.length_map]
  simpa using this
end Go.Proofs.YtbboanfggaknjaaGreatDoor.X
/- What the reference's sets answer; the rest of the program's; that the statements live. -/
set_option linter.unusedVariables false
set_option linter.unusedSimpArgs false
namespace Go.Proofs.YtbboanfggaknjaaGreatDoor.X
open Go.RowKit Go.Proofs.YtbboanfggaknjaaGreatDoorW.PrintWords Go.Proofs.YtbboanfggaknjaaGreatDoorW.PrintLast Go.Proofs.YtbboanfggaknjaaGreatDoorW.PrintMore
theorem sn1 (a : Nat) : strOfNums [(a : Int)] = tx [du8 a] := rfl
theorem tdiv10 (c : Nat) : Int.tdiv (c : Int) 10 = ((c / 10 : Nat) : Int) := by rw [Int.tdiv_eq_ediv_of_nonneg (by omega)]; omega
theorem tmod10 (c : Nat) : Int.tmod (c : Int) 10 = ((c % 10 : Nat) : Int) := by rw [Int.tmod_eq_emod_of_nonneg (by omega)]; omega
theorem wn (x : Int) (n : Nat) (h : x = (n : Int)) (hn : n < 256) : wrap64 x % 256 = (n : Int) := by rw [w64 (by omega) (by omega)]; omega
theorem digits_l0_zero (l : List UInt8) : Ev (fun k => oculusref01_Digits.l0 k 0 (tx l)) (tx l) := by
 refine Ev.step (fun k => oculusref01_Digits.l0.eq_2 _ _ _) ?_
 exact ev_neg (by omega) (Ev.now _)
theorem digits_ev (n : Nat) (h : n < 100) : Ev (fun k => oculusref01_Digits.f k (n : Int)) (tx (digT n)) := by
 unfold oculusref01_Digits.f
 have e2 : wrap64 (48 + Int.tmod (n : Int) 10) % 256 = ((48 + n % 10 : Nat) : Int) := by rw [tmod10]; exact wn _ _ (by omega) (by omega)
 rw [e2, sn1, tdiv10, w64 (by omega) (by omega)]
 unfold digT
 by_cases h1 : n < 10
 ·rw [if_pos h1, show n / 10 = 0 by omega, show n % 10 = n by omega]
  exact digits_l0_zero _
 ·rw [if_neg h1]
  refine Ev.step (fun k => oculusref01_Digits.l0.eq_2 _ _ _) ?_
  refine ev_pos (by omega) (ev_bsome ?_)
  have e3 : wrap64 (48 + Int.tmod ((n / 10 : Nat) : Int) 10) % 256 = ((48 + n / 10 : Nat) : Int) := by rw [tmod10]; exact wn _ _ (by omega) (by omega)
  rw [e3, sn1, tdiv10, w64 (by omega) (by omega)]
  refine ev_pos (by rw [size_tx, size_tx]; simp) ?_
  rw [tx_append, show n / 10 / 10 = 0 by omega]
  exact digits_l0_zero _
theorem rlist_l0 (s : Nat) (hs : s < 18446744073709551616) : ∀ (n i : Nat), i + n = 64 → Ev (fun k => oculusref01_List.l0 k (s : Int) (toI ((List.range i).filter fun j => s.testBit j)) (i : Int)) (toI (bitsL s))
 | 0, i, hi => by
  obtain rfl : i = 64 := by omega
  refine Ev.step (fun k => oculusref01_List.l0.eq_2 _ _ _ _) ?_
  exact ev_neg (by omega) (Ev.now _)
 | n + 1, i, hi => by
  have ih := rlist_l0 s hs n (i + 1) (by omega)
  have hlen : ((List.range i).filter fun j => s.testBit j).length ≤ i := Nat.le_trans (List.length_filter_le _ _) (by simp)
  refine Ev.step (fun k => oculusref01_List.l0.eq_2 _ _ _ _) ?_
  refine ev_pos (by omega) (ev_bind (bit_ev s i hs) ?_)
  rw [bitS_nat s i (by omega), w64s (n := 64) (by omega) (by omega)]
  rw [List.range_succ, List.filter_append] at ih
  refine ev_ite (fun g => ?_) (fun g => ?_)
  ·refine ev_pos (by unfold toI; rw [List.length_map]; omega) ?_
   have e : [i].filter (fun j => s.testBit j) = [i] := by rw [List.filter_cons, if_pos g]; rfl
   rw [e] at ih
   simpa [toI] using ih
  ·have e : [i].filter (fun j => s.testBit j) = [] := by rw [List.filter_cons, if_neg g]; rfl
   rw [e, List.append_nil] at ih
   exact ih
theorem rlist_ev (s : Nat) (hs : s < 18446744073709551616) : Ev (fun k => oculusref01_List.f k (s : Int)) (toI (bitsL s)) := by
 unfold oculusref01_List.f
 exact rlist_l0 s hs 64 0 (by omega)
theorem rd_toI (l : List Nat) (i : Nat) (h : i < l.length) : rd (toI l) (i : Int) = ((l[i] : Nat) : Int) := by
 unfold rd toI
 rw [Int.toNat_natCast, List.getD_eq_getElem?_getD, List.getElem?_map, List.getElem?_eq_getElem h]; rfl
theorem texG_at (l : List Nat) (hc : ∀ c ∈ l, c < 100) (i : Nat) (h : i < l.length) : texG i (toI (l.drop i)) = (if i = 0 then [] else [44]) ++ (digT l[i] ++ texG (i + 1) (toI (l.drop (i + 1)))) := by
 rw [List.drop_eq_getElem_cons h]
 show (if i = 0 then [] else [44]) ++ (Lib.decDigits (((l[i] : Nat) : Int)).toNat ++ texG (i + 1) (toI (l.drop (i + 1)))) = _
 rw [Int.toNat_natCast, dec_digT _ (hc _ (List.getElem_mem h))]
theorem rtext_l0 (l : List Nat) (hc : ∀ c ∈ l, c < 100) (hl : l.length ≤ 64) (q : List UInt8) : ∀ (n i : Nat), i + n = l.length → ∀ acc : List UInt8, acc.length ≤ 3 * i → acc ++ texG i (toI (l.drop i)) = q → Ev (fun k => oculusref01_Text.l0 k (tx acc) (toI l) (i : Int)) (tx q)
 | 0, i, hi, acc, ha, hq => by
  rw [List.drop_eq_nil_of_le (by omega)] at hq
  have hq' : acc = q := by rw [← hq]; show _ = acc ++ texG i []; rw [texG]; simp
  subst hq'
  refine Ev.step (fun k => oculusref01_Text.l0.eq_2 _ _ _ _) ?_
  exact ev_neg (by unfold toI; rw [List.length_map]; omega) (Ev.now _)
 | n + 1, i, hi, acc, ha, hq => by
  have h : i < l.length := by omega
  rw [texG_at l hc i h] at hq
  have hd := digT_len l[i]
  refine Ev.step (fun k => oculusref01_Text.l0.eq_2 _ _ _ _) ?_
  refine ev_pos (by unfold toI; rw [List.length_map]; omega) ?_
  rw [rd_toI l i h, w64s (n := 1000) (by omega) (by omega)]
  refine ev_ite (fun g => ?_) (fun g => ?_)
  ·rw [if_neg (by omega)] at hq
   have e0 : tx acc ++ (⟨#[44]⟩ : ByteArray) = tx (acc ++ [44]) := by rw [show (⟨#[44]⟩ : ByteArray) = tx [44] from rfl, tx_append]
   rw [e0]
   refine ev_pos (by rw [size_tx]; omega) (ev_pos (by omega) ?_)
   refine ev_bind (digits_ev l[i] (hc _ (List.getElem_mem h))) ?_
   refine ev_pos (by rw [size_tx, size_tx, List.length_append]; simp; omega) ?_
   rw [tx_append]
   refine rtext_l0 l hc hl q n (i + 1) (by omega) _ (by rw [List.length_append, List.length_append]; simp; omega) ?_
   rw [← hq]; simp
  ·rw [if_pos (by omega)] at hq
   refine ev_pos (by omega) ?_
   refine ev_bind (digits_ev l[i] (hc _ (List.getElem_mem h))) ?_
   refine ev_pos (by rw [size_tx, size_tx]; omega) ?_
   rw [tx_append]
   refine rtext_l0 l hc hl q n (i + 1) (by omega) _ (by rw [List.length_append]; omega) ?_
   rw [← hq]; simp
theorem rtext_ev (s : Nat) (hs : s < 18446744073709551616) : Ev (fun k => oculusref01_Text.f k (s : Int)) (tx (txtS s)) := by
 unfold oculusref01_Text.f
 refine ev_bind (rlist_ev s hs) ?_
 have := rtext_l0 (bitsL s) (fun c hc => by have := bitsL_lt hc; omega) (bitsL_le s) (txtS s) (bitsL s).length 0 (by omega) [] (by simp) (by rw [List.drop_zero, List.nil_append]; exact texG_bits s)
 exact this
theorem join_l0 (a b : Nat) (ha : a < 18446744073709551616) (hb : b < 18446744073709551616) : ∀ (d i : Nat), i + d = 64 → Ev (fun k => oculusref01_Join.l0 k (a : Int) (b : Int) (((a ||| b) % 2 ^ i : Nat) : Int) (i : Int)) ((a ||| b : Nat) : Int) := by
 have hab : a ||| b < 2 ^ 64 := or_lt a b ha hb
 intro d
 induction d with
 | zero =>
  intro i hi
  obtain rfl : i = 64 := by omega
  refine Ev.step (fun k => oculusref01_Join.l0.eq_2 ..) ?_
  rw [Nat.mod_eq_of_lt hab]
  exact ev_neg (by omega) (Ev.now _)
 | succ d ih =>
  intro i hi
  have hmod := mod_pow_succ (a ||| b) i
  have hp := pow_lt64 (i := i) (by omega)
  have hlt : (a ||| b) % 2 ^ (i + 1) < 18446744073709551616 := Nat.lt_of_le_of_lt (Nat.mod_le _ _) hab
  have ih' := ih (i + 1) (by omega)
  rw [Nat.testBit_or] at hmod
  have key : (a.testBit i || b.testBit i) = true → IntKind.u64.wrap ((((a ||| b) % 2 ^ i : Nat) : Int) + ((2 ^ i : Nat) : Int)) = (((a ||| b) % 2 ^ (i + 1) : Nat) : Int) := by
   intro h
   rw [h] at hmod
   simp only [Bool.toNat_true, Nat.mul_one] at hmod
   rw [IntKind.wrap_u64]
   omega
  refine Ev.step (fun k => oculusref01_Join.l0.eq_2 ..) ?_
  refine ev_pos (by omega) (ev_bind (bit_ev a i ha) ?_)
  rw [bitS_nat a i (by omega), w64s (n := 64) (by omega) (by omega)]
  refine ev_ite (fun h1 => ?_) (fun h1 => ?_)
  ·refine ev_bind (one_ev i (by omega)) ?_
   rw [key (by rw [h1]; rfl)]
   exact ih'
  ·refine ev_bind (bit_ev b i hb) ?_
   rw [bitS_nat b i (by omega)]
   refine ev_ite (fun h2 => ?_) (fun h2 => ?_)
   ·refine ev_bind (one_ev i (by omega)) ?_
    rw [key (by rw [h2, Bool.or_true])]
    exact ih'
   ·have e : (((a ||| b) % 2 ^ i : Nat) : Int) = (((a ||| b) % 2 ^ (i + 1) : Nat) : Int) := by
     simp [h1, h2] at hmod
     rw [hmod]
    rw [e]
    exact ih'
theorem join_ev (a b : Nat) (ha : a < 18446744073709551616) (hb : b < 18446744073709551616) : Ev (fun k => oculusref01_Join.f k (a : Int) (b : Int)) ((a ||| b : Nat) : Int) := by
 unfold oculusref01_Join.f
 have := join_l0 a b ha hb 64 0 (by omega)
 simpa [Nat.mod_one] using this
def finR (t : List UInt8) (y : Nat) : Int × Bool := if txtS y = t then ((y : Int), true) else (0, false)
theorem putS_lt (s : Nat) (n : Int) (hs : s < 18446744073709551616) : putS s n < 18446744073709551616 := by
 unfold putS
 split
 ·rename_i h
  exact or_lt _ _ hs (pow_lt64 (by omega))
 ·exact hs
theorem tx_eq (s t : List UInt8) : ((tx s).toList = (tx t).toList) ↔ s = t := by rw [toList_by, toList_by, by_tx, by_tx]
theorem rp_put (t : List UInt8) (i : Nat) (s : Nat) (hs : s < 18446744073709551616) (n : Int) (hn : -1 ≤ n ∧ n ≤ 1000) (hi : i ≤ 281474976710657) (v : Int × Bool) (h : Ev (fun k => oculusref01_Parse.l0 k (tx t) ((putS s n : Nat) : Int) (-1) ((i + 1 : Nat) : Int)) v) :
  Ev (fun k => oculusref01_Parse.j1 k (tx t) (s : Int) n (i : Int) false) v := by
 refine Ev.step (fun k => oculusref01_Parse.j1.eq_2 ..) (ev_neg (by simp) ?_)
 unfold putS at h
 refine ev_ite (fun g => ?_) (fun g => ?_)
 ·refine Ev.step (fun k => oculusref01_Parse.j2.eq_2 ..) ?_
  rw [w64s (n := 281474976710700) (by omega) (by omega)]
  refine ev_ite (fun g2 => ?_) (fun g2 => ?_)
  ·rw [decide_eq_true_eq] at g2
   rw [if_pos ⟨g, g2⟩] at h
   obtain ⟨m, rfl⟩ : ∃ m : Nat, n = (m : Int) := ⟨n.toNat, by omega⟩
   rw [Int.toNat_natCast] at h
   exact ev_bind (one_ev m (by omega)) (ev_bind (join_ev s (2 ^ m) hs (pow_lt64 (by omega))) h)
  ·rw [decide_eq_true_eq] at g2
   rw [if_neg (fun k => g2 k.2)] at h
   exact h
 ·refine Ev.step (fun k => oculusref01_Parse.j2.eq_2 ..) ?_
  rw [w64s (n := 281474976710700) (by omega) (by omega)]
  rw [if_neg (fun k => g k.1)] at h
  exact ev_neg (by simp) h
theorem rp_end (t : List UInt8) (ht : t.length ≤ 281474976710656) (y : Nat) (hy : y < 18446744073709551616) (n : Int) : Ev (fun k => oculusref01_Parse.l0 k (tx t) (y : Int) n ((t.length + 1 : Nat) : Int)) (finR t y) := by
 refine Ev.step (fun k => oculusref01_Parse.l0.eq_2 ..) ?_
 rw [size_tx]
 refine ev_neg (by omega) (ev_bind (rtext_ev y hy) ?_)
 unfold finR
 refine ev_ite (fun g => ?_) (fun g => ?_)
 ·rw [if_pos ((tx_eq _ _).1 g)]; exact Ev.now _
 ·rw [if_neg (fun e => g ((tx_eq _ _).2 e))]; exact Ev.now _
theorem scanL_lt : ∀ (l : List UInt8) (s : Nat) (n : Int), s < 18446744073709551616 → scanL s n l < 18446744073709551616
 | [], s, n, h => putS_lt s n h
 | c :: l, s, n, h => by
  unfold scanL
  split
  ·exact scanL_lt l _ _ h
  ·exact scanL_lt l _ _ (putS_lt s n h)
theorem rp_l0 (t : List UInt8) (ht : t.length ≤ 281474976710656) : ∀ (m i : Nat), i + m = t.length → ∀ (s : Nat) (n : Int), s < 18446744073709551616 → (-1 ≤ n ∧ n ≤ 1000) → Ev (fun k => oculusref01_Parse.l0 k (tx t) (s : Int) n (i : Int)) (finR t (scanL s n (t.drop i)))
 | 0, i, hi, s, n, hs, hn => by
  rw [List.drop_eq_nil_of_le (by omega), scanL]
  refine Ev.step (fun k => oculusref01_Parse.l0.eq_2 ..) ?_
  rw [size_tx]
  refine ev_pos (by omega) (ev_neg (by omega) ?_)
  refine rp_put t i s hs n hn (by omega) _ ?_
  obtain rfl : i = t.length := by omega
  exact rp_end t ht _ (putS_lt s n hs) _
 | m + 1, i, hi, s, n, hs, hn => by
  have h : i < t.length := by omega
  have hb := u8_lt t[i]
  rw [List.drop_eq_getElem_cons h, scanL]
  refine Ev.step (fun k => oculusref01_Parse.l0.eq_2 ..) ?_
  rw [size_tx, bt_tx t i h]
  refine ev_pos (by omega) (ev_pos (by omega) (ev_pos (by omega) ?_))
  have dig : (48 ≤ t[i].toNat ∧ t[i].toNat ≤ 57) ∧ n < 100 → Ev (fun k => oculusref01_Parse.j1 k (tx t) (s : Int) n (i : Int) true) (finR t (scanL s ((if n < 0 then 0 else n) * 10 + (t[i].toNat : Int) - 48) (t.drop (i + 1)))) := by
   intro g
   refine Ev.step (fun k => oculusref01_Parse.j1.eq_2 ..) (ev_pos rfl ?_)
   rw [size_tx, bt_tx t i h]
   refine ev_pos (by omega) (ev_pos (by omega) ?_)
   have e : mx n 0 = if n < 0 then 0 else n := rfl
   rw [e]
   have hz : 0 ≤ (if n < 0 then 0 else n) ∧ (if n < 0 then (0 : Int) else n) < 100 := by split <;> omega
   generalize (if n < 0 then (0 : Int) else n) = z at *
   rw [w64 (x := z * 10) (by omega) (by omega), w64 (x := (t[i].toNat : Int)) (by omega) (by omega), w64 (x := z * 10 + (t[i].toNat : Int)) (by omega) (by omega), w64 (x := z * 10 + (t[i].toNat : Int) - 48) (by omega) (by omega), w64s (n := 281474976710700) (by omega) (by omega)]
   exact rp_l0 t ht m (i + 1) (by omega) s _ hs (by omega)
  have sep : Ev (fun k => oculusref01_Parse.j1 k (tx t) (s : Int) n (i : Int) false) (finR t (scanL (putS s n) (-1) (t.drop (i + 1)))) := by
   refine rp_put t i s hs n hn (by omega) _ ?_
   exact rp_l0 t ht m (i + 1) (by omega) _ (-1) (putS_lt s n hs) (by omega)
  refine ev_ite (fun g1 => ?_) (fun g1 => ?_)
  ·refine ev_ite (fun g2 => ?_) (fun g2 => ?_)
   ·by_cases g3 : n < 100
    ·rw [decide_eq_true g3, if_pos ⟨⟨by omega, by omega⟩, g3⟩]
     exact dig ⟨⟨by omega, by omega⟩, g3⟩
    ·rw [decide_eq_false g3, if_neg (fun k => g3 k.2)]
     exact sep
   ·rw [if_neg (fun k => g2 (by omega))]
    exact sep
  ·rw [if_neg (fun k => g1 (by omega))]
   exact sep
theorem rparse_ev (t : List UInt8) (ht : t.length ≤ 281474976710656) : Ev (fun k => oculusref01_Parse.f k (tx t)) (resP (parT t)) := by
 unfold oculusref01_Parse.f
 have := rp_l0 t ht t.length 0 (by omega) 0 (-1) (by omega) (by omega)
 rw [List.drop_zero] at this
 have hlt := scanL_lt t 0 (-1) (by omega)
 have e : finR t (scanL 0 (-1) t) = resP (parT t) := by
  unfold finR
  cases hp : parT t with
  | none =>
   rw [if_neg]
   ·rfl
   ·intro h
    have := par_txt _ hlt
    rw [h, hp] at this
    cases this
  | some y =>
   obtain ⟨h1, h2⟩ := par_back t y hp
   have hs := scan_txt y h2
   rw [h1] at hs
   rw [hs, if_pos h1]
   rfl
 rw [← e]
 exact this
end Go.Proofs.YtbboanfggaknjaaGreatDoor.X
/- What the program's labels and the reference's answer: told, and read. -/
set_option linter.unusedVariables false
set_option linter.unusedSimpArgs false
namespace Go.Proofs.YtbboanfggaknjaaGreatDoor.X
open Go.RowKit Go.Proofs.YtbboanfggaknjaaGreatDoorW.PrintWords Go.Proofs.YtbboanfggaknjaaGreatDoorW.PrintLast Go.Proofs.YtbboanfggaknjaaGreatDoorW.PrintMore
theorem lmay_eq (lv c : Int) : label_May.f lv c = some (mayL lv) := by
 unfold label_May.f mayL
 by_cases h : lv ≥ 0
 ·rw [if_pos h, Option.some.injEq, decide_eq_decide]; omega
 ·rw [if_neg h, decide_eq_false (by omega)]
theorem itoa_dig (n : Nat) (h : n < 100) : strconv_Itoa.f (n : Int) = some (tx (digT n)) := by
 unfold strconv_Itoa.f
 rw [if_pos (by omega)]
 unfold Lib.itoa
 rw [if_neg (by omega), Int.toNat_natCast, dec_digT n h]; rfl
theorem ltext_ev (lv : Int) (c : Nat) (hc : c < 18446744073709551616) : Ev (fun k => label_Text.f k lv (c : Int)) (tx (labT lv c)) := by
 unfold label_Text.f labT
 refine ev_bind (ev_some fun _ => lmay_eq lv c) ?_
 by_cases h : 0 ≤ lv ∧ lv ≤ 15
 ·rw [if_pos h]
  refine ev_pos (decide_eq_true h) (ev_bind (ev_some fun _ => rfl) ?_)
  obtain ⟨n, rfl⟩ : ∃ n : Nat, lv = (n : Int) := ⟨lv.toNat, by omega⟩
  rw [Int.toNat_natCast]
  refine Ev.step (fun k => label_Text.j0.eq_2 ..) ?_
  by_cases ht : (n : Int) = 15 ∧ c = full64
  ·rw [if_pos ht]
   refine ev_pos ?_ (Ev.now _)
   rw [ht.1, ht.2]; rfl
  ·rw [if_neg ht]
   refine ev_neg ?_ ?_
   ·intro e
    simp only [Bool.and_eq_true, beq_iff_eq] at e
    exact ht ⟨e.1, by unfold full64; omega⟩
   ·refine ev_ite (fun h0 => ?_) (fun h0 => ?_)
    ·rw [if_pos (by omega)]
     exact ev_bind (ev_some fun _ => itoa_dig n (by omega)) (Ev.now _)
    ·rw [if_neg (by omega)]
     have h1 := digT_len n
     have h2 := txtS_len c
     refine ev_bind (ev_some fun _ => itoa_dig n (by omega)) (ev_pos (by rw [size_tx]; omega) ?_)
     refine ev_bind (cats_text_ev c hc) ?_
     have e0 : tx (digT n) ++ (⟨#[58]⟩ : ByteArray) = tx (digT n ++ [58]) := by rw [show (⟨#[58]⟩ : ByteArray) = tx [58] from rfl, tx_append]
     rw [e0]
     refine ev_pos (by rw [size_tx, size_tx, List.length_append]; simp; omega) ?_
     rw [tx_append, List.append_assoc]
     exact Ev.now _
 ·rw [if_neg h]
  exact ev_neg (by unfold mayL; rw [decide_eq_false h]; simp) (Ev.now _)
def resL : Option (Int × Nat) → Int × Int × Bool
 | some (lv, c) => (lv, (c : Int), true)
 | none => (0, 0, false)
def levI (h : List UInt8) (i : Nat) : Int := if levZ h < (i : Int) then levZ h else -1
theorem levZ_ge (h : List UInt8) : -1 ≤ levZ h ∧ levZ h < 16 := by
 rcases levZ_back h with e | ⟨n, h1, h2, _⟩ <;> omega
theorem top_iff (l : List UInt8) : ((tx l).toList = ([116, 111, 112] : List UInt8)) ↔ l = topL := by rw [toList_by, by_tx]; exact Iff.rfl
theorem lparse_l0 (h rest : List UInt8) (more : Bool) (hr : rest.length < 4294967281) : ∀ (m i : Nat), i + m = 16 →
  Ev (fun k => label_Parse.l0 k (tx h) (tx rest) more (i : Int) (levI h i) 0) (resL (match parT rest with
   | none => none
   | some s => if levZ h < 0 ∨ more ≠ decide (s ≠ 0) ∨ (levZ h = 15 ∧ s = full64) then none else some (levZ h, s)))
 | 0, i, hi => by
  have hz := levZ_ge h
  have e : levI h i = levZ h := by unfold levI; rw [if_pos (by omega)]
  rw [e]
  refine Ev.step (fun k => label_Parse.l0.eq_2 ..) (ev_neg (by omega) ?_)
  refine ev_bind (cats_parse_ev rest hr) ?_
  have j1t : ∀ (a b : Int), Ev (fun k => label_Parse.j1 k true a b) (0, 0, false) := fun a b => Ev.step (fun k => label_Parse.j1.eq_2 ..) (ev_pos rfl (Ev.now _))
  cases hp : parT rest with
  | none => exact ev_neg (by simp [resP]) (j1t _ _)
  | some s =>
   refine ev_pos rfl ?_
   show Ev (fun k => if levZ h < 0 then label_Parse.j1 k true (levZ h) (s : Int) else if (more != ((s : Int) != 0)) = true then label_Parse.j1 k true (levZ h) (s : Int) else (label_Top.f).bind fun bt111 => label_Parse.j1 k (levZ h == bt111.1 && ((s : Int) == bt111.2)) (levZ h) (s : Int)) (resL (if levZ h < 0 ∨ more ≠ decide (s ≠ 0) ∨ (levZ h = 15 ∧ s = full64) then none else some (levZ h, s)))
   have hd : ((s : Int) != 0) = decide (s ≠ 0) := by
    rw [Bool.eq_iff_iff, bne_iff_ne, decide_eq_true_eq]; omega
   refine ev_ite (fun g => ?_) (fun g => ?_)
   ·rw [if_pos (Or.inl g)]; exact j1t _ _
   ·refine ev_ite (fun g2 => ?_) (fun g2 => ?_)
    ·rw [hd, bne_iff_ne] at g2
     rw [if_pos (Or.inr (Or.inl g2))]; exact j1t _ _
    ·rw [hd, bne_iff_ne] at g2
     refine ev_bind (ev_some fun _ => rfl) ?_
     refine Ev.step (fun k => label_Parse.j1.eq_2 ..) ?_
     refine ev_ite (fun g3 => ?_) (fun g3 => ?_)
     ·simp only [Bool.and_eq_true, beq_iff_eq] at g3
      rw [if_pos (Or.inr (Or.inr ⟨g3.1, by unfold full64; omega⟩))]
      exact Ev.now _
     ·rw [if_neg]
      ·exact Ev.now _
      ·rintro (k | k | k)
       ·exact g k
       ·exact g2 k
       ·exact g3 (by simp only [Bool.and_eq_true, beq_iff_eq]; exact ⟨k.1, by rw [k.2]; rfl⟩)
 | m + 1, i, hi => by
  have ih := lparse_l0 h rest more hr m (i + 1) (by omega)
  have hz := levZ_ge h
  refine Ev.step (fun k => label_Parse.l0.eq_2 ..) (ev_pos (by omega) ?_)
  refine ev_bind (ev_some fun _ => itoa_dig i (by omega)) ?_
  rw [w64s (n := 1000) (by omega) (by omega)]
  have hq := levZ_eq h i (by omega)
  refine ev_ite (fun g => ?_) (fun g => ?_)
  ·have g' := hq.1 ((tx_eq _ _).1 g)
   have e : levI h (i + 1) = (i : Int) := by unfold levI; rw [if_pos (by omega), g']
   rw [e] at ih
   exact ih
  ·have g' : ¬ levZ h = (i : Int) := fun k => g ((tx_eq _ _).2 (hq.2 k))
   have e : levI h (i + 1) = levI h i := by
    unfold levI
    by_cases k : levZ h < (i : Int)
    ·rw [if_pos k, if_pos (by omega)]
    ·rw [if_neg k, if_neg (by omega)]
   rw [e] at ih
   exact ih
theorem lparse_ev (t : List UInt8) (ht : t.length ≤ 5000) : Ev (fun k => label_Parse.f k (tx t)) (resL (labP t)) := by
 unfold label_Parse.f labP
 refine ev_ite (fun g => ?_) (fun g => ?_)
 ·rw [if_pos ((top_iff t).1 g)]
  exact ev_bind (ev_some fun _ => rfl) (Ev.now _)
 ·rw [if_neg (fun e => g ((top_iff t).2 e))]
  have hc := cutL_length 58 t
  have e := cut_eq (tx t) 58 (by rw [size_tx]; omega)
  rw [by_tx] at e
  refine ev_bind (ev_some fun _ => e) ?_
  have := lparse_l0 (cutL 58 t).1 (cutL 58 t).2.1 (cutL 58 t).2.2 (by omega) 16 0 (by omega)
  have e2 : levI (cutL 58 t).1 0 = -1 := by
   have := levZ_ge (cutL 58 t).1
   unfold levI; split <;> omega
  rw [e2] at this
  exact this
theorem every_l0 : ∀ (m i : Nat), i + m = 64 → Ev (fun k => oculusref02_Every.l0 k ((2 ^ i - 1 : Nat) : Int) (i : Int)) ((full64 : Nat) : Int)
 | 0, i, hi => by
  obtain rfl : i = 64 := by omega
  refine Ev.step (fun k => oculusref02_Every.l0.eq_2 ..) (ev_neg (by omega) ?_)
  exact Ev.now _
 | m + 1, i, hi => by
  have hp := pow_lt64 (i := i) (by omega)
  have h1 : 1 ≤ 2 ^ i := Nat.two_pow_pos i
  have hs : 2 ^ (i + 1) = 2 ^ i * 2 := Nat.pow_succ ..
  have hle : 2 ^ (i + 1) ≤ 2 ^ 64 := Nat.pow_le_pow_right (by omega) (by omega)
  refine Ev.step (fun k => oculusref02_Every.l0.eq_2 ..) (ev_pos (by omega) ?_)
  have e : IntKind.u64.wrap (IntKind.u64.wrap (((2 ^ i - 1 : Nat) : Int) * 2) + 1) = ((2 ^ (i + 1) - 1 : Nat) : Int) := by
   rw [hs] at hle ⊢
   generalize 2 ^ i = q at *
   rw [IntKind.wrap_u64, IntKind.wrap_u64]
   omega
  rw [e, w64s (n := 1000) (by omega) (by omega)]
  exact every_l0 m (i + 1) (by omega)
theorem rtop_ev : Ev (fun k => oculusref02_Top.f k) (15, ((full64 : Nat) : Int)) := by
 unfold oculusref02_Top.f oculusref02_Every.f
 exact ev_bind (every_l0 64 0 (by omega)) (Ev.now _)
theorem rltext_ev (lv : Int) (c : Nat) (hc : c < 18446744073709551616) : Ev (fun k => oculusref02_Text.f k lv (c : Int)) (tx (labT lv c)) := by
 unfold oculusref02_Text.f labT
 have j0t : Ev (fun k => oculusref02_Text.j0 k true lv (c : Int)) (tx []) := Ev.step (fun k => oculusref02_Text.j0.eq_2 ..) (ev_pos rfl (Ev.now _))
 refine ev_ite (fun g => ?_) (fun g => ?_)
 ·rw [if_neg (by omega)]; exact j0t
 ·by_cases g2 : lv > 15
  ·rw [if_neg (by omega), decide_eq_true g2]; exact j0t
  ·rw [if_pos (by omega), decide_eq_false g2]
   obtain ⟨n, rfl⟩ : ∃ n : Nat, lv = (n : Int) := ⟨lv.toNat, by omega⟩
   rw [Int.toNat_natCast]
   refine Ev.step (fun k => oculusref02_Text.j0.eq_2 ..) (ev_neg (by simp) (ev_bind rtop_ev ?_))
   refine Ev.step (fun k => oculusref02_Text.j1.eq_2 ..) ?_
   by_cases ht : (n : Int) = 15 ∧ c = full64
   ·rw [if_pos ht]
    refine ev_pos ?_ (Ev.now _)
    rw [ht.1, ht.2]; rfl
   ·rw [if_neg ht]
    refine ev_neg ?_ ?_
    ·intro e
     simp only [Bool.and_eq_true, beq_iff_eq] at e
     exact ht ⟨e.1, by omega⟩
    ·refine ev_bind (digits_ev n (by omega)) ?_
     refine ev_ite (fun h0 => ?_) (fun h0 => ?_)
     ·rw [if_pos (by omega)]; exact Ev.now _
     ·rw [if_neg (by omega)]
      have h1 := digT_len n
      have h2 := txtS_len c
      refine ev_pos (by rw [size_tx]; omega) (ev_bind (rtext_ev c hc) ?_)
      have e0 : tx (digT n) ++ (⟨#[58]⟩ : ByteArray) = tx (digT n ++ [58]) := by rw [show (⟨#[58]⟩ : ByteArray) = tx [58] from rfl, tx_append]
      rw [e0]
      refine ev_pos (by rw [size_tx, size_tx, List.length_append]; simp; omega) ?_
      rw [tx_append, List.append_assoc]
      exact Ev.now _
theorem rlp_l0 (t : List UInt8) (ht : t.length ≤ 281474976710656) (hnt : t ≠ topL) : ∀ (m n : Nat), n + m = 16 → (∀ j : Nat, j < n → ∀ c, labP t ≠ some ((j : Int), c)) → Ev (fun k => oculusref02_Parse.l0 k (tx t) (n : Int)) (resL (labP t))
 | 0, n, hn, hno => by
  refine Ev.step (fun k => oculusref02_Parse.l0.eq_2 ..) (ev_neg (by omega) ?_)
  cases hp : labP t with
  | none => exact Ev.now _
  | some x =>
   obtain ⟨lv, c⟩ := x
   obtain ⟨_, h2, _⟩ := labP_back t lv c hp
   refine absurd ?_ (hno lv.toNat (by omega) c)
   rw [hp]
   congr 2
   omega
 | m + 1, n, hn, hno => by
  have hd := digT_len n
  -- what stands behind this level
  have hnext : (∀ c, labP t ≠ some ((n : Int), c)) → Ev (fun k => oculusref02_Parse.l0 k (tx t) (wrap64 ((n : Int) + 1))) (resL (labP t)) := by
   intro h
   rw [w64s (n := 1000) (by omega) (by omega)]
   refine rlp_l0 t ht hnt m (n + 1) (by omega) (fun j hj c => ?_)
   by_cases e : j = n
   ·rw [e]; exact h c
   ·exact hno j (by omega) c
  have hform : ∀ c, labP t = some ((n : Int), c) → c < 18446744073709551616 ∧ labT (n : Int) c = t ∧ ((c = 0 ∧ digT n = t) ∨ (c ≠ 0 ∧ t = digT n ++ 58 :: txtS c)) := by
   intro c hp
   obtain ⟨h1, h2, h3⟩ := labP_back t n c hp
   refine ⟨h3, h1, ?_⟩
   unfold labT at h1
   rw [if_pos h2, Int.toNat_natCast] at h1
   by_cases ht : (n : Int) = 15 ∧ c = full64
   ·rw [if_pos ht] at h1; exact absurd h1.symm hnt
   ·rw [if_neg ht] at h1
    by_cases h0 : c = 0
    ·rw [if_pos h0] at h1; exact Or.inl ⟨h0, h1⟩
    ·rw [if_neg h0] at h1; exact Or.inr ⟨h0, h1.symm⟩
  refine Ev.step (fun k => oculusref02_Parse.l0.eq_2 ..) (ev_pos (by omega) (ev_bind (digits_ev n (by omega)) ?_))
  refine ev_ite (fun g => ?_) (fun g => ?_)
  ·have g' := (tx_eq _ _).1 g
   have : labP t = some ((n : Int), 0) := by
    have h := labP_txt (n : Int) 0 (by omega)
    rw [if_pos (by omega)] at h
    unfold labT at h
    rw [if_pos (by omega), if_neg (fun k => absurd k.2 (by decide)), if_pos rfl, Int.toNat_natCast, ← g'] at h
    exact h
   rw [this]
   exact Ev.now _
  ·have g' : t ≠ digT n := fun e => g ((tx_eq _ _).2 e)
   rw [size_tx, size_tx]
   refine ev_ite (fun g2 => ?_) (fun g2 => ?_)
   ·refine Ev.step (fun k => oculusref02_Parse.j1.eq_2 ..) (ev_pos rfl (hnext fun c hp => ?_))
    obtain ⟨_, _, h⟩ := hform c hp
    rcases h with ⟨_, h⟩ | ⟨_, h⟩
    ·exact g' h.symm
    ·rw [h, List.length_append, List.length_cons] at g2; omega
   ·have ew : wrap64 (((digT n).length : Int) + 1) = (((digT n).length + 1 : Nat) : Int) := by rw [w64 (by omega) (by omega)]; omega
    rw [ew]
    have e0 : tx (digT n) ++ (⟨#[58]⟩ : ByteArray) = tx (digT n ++ [58]) := by rw [show (⟨#[58]⟩ : ByteArray) = tx [58] from rfl, tx_append]
    refine ev_pos (by omega) (ev_pos (by omega) (ev_pos (by omega) ?_))
    rw [e0, Int.toNat_natCast, ext_head, by_tx]
    refine Ev.step (fun k => oculusref02_Parse.j1.eq_2 ..) ?_
    refine ev_ite (fun g3 => ?_) (fun g3 => ?_)
    ·rw [bne_iff_ne, ne_eq, tx_eq] at g3
     refine hnext fun c hp => ?_
     obtain ⟨_, _, h⟩ := hform c hp
     rcases h with ⟨_, h⟩ | ⟨_, h⟩
     ·exact g' h.symm
     ·refine g3 ?_
      rw [h, List.take_append, List.take_of_length_le (by omega), show (digT n).length + 1 - (digT n).length = 1 by omega]
      rfl
    ·have g4 : t.take ((digT n).length + 1) = digT n ++ [58] := by
      rw [bne_iff_ne, ne_eq, tx_eq] at g3
      exact Decidable.not_not.1 g3
     have ht2 : t = digT n ++ 58 :: t.drop ((digT n).length + 1) := by
      conv => lhs; rw [← List.take_append_drop ((digT n).length + 1) t]
      rw [g4, List.append_assoc]; rfl
     rw [size_tx, size_tx, ew]
     refine ev_pos (by omega) (ev_pos (by omega) ?_)
     rw [Int.toNat_natCast]
     have e5 : (tx t).extract ((digT n).length + 1) t.length = tx (t.drop ((digT n).length + 1)) := by
      have := ext_tail (tx t) ((digT n).length + 1)
      rw [size_tx, by_tx] at this
      exact this
     rw [e5]
     have hrl : (t.drop ((digT n).length + 1)).length ≤ 281474976710656 := by rw [List.length_drop]; omega
     refine ev_bind (rparse_ev _ hrl) ?_
     have hcase : ∀ c, labP t = some ((n : Int), c) → parT (t.drop ((digT n).length + 1)) = some c ∧ labT (n : Int) c = t := by
      intro c hp
      obtain ⟨h3, h1, h⟩ := hform c hp
      rcases h with ⟨_, h⟩ | ⟨_, h⟩
      ·exact absurd h.symm g'
      ·refine ⟨?_, h1⟩
       have : t.drop ((digT n).length + 1) = txtS c := by
        rw [h, ← List.drop_drop, List.drop_left]; rfl
       rw [this, par_txt c h3]
     cases hq : parT (t.drop ((digT n).length + 1)) with
     | none =>
      refine ev_neg (by simp [resP]) (hnext fun c hp => ?_)
      have := (hcase c hp).1
      rw [hq] at this
      cases this
     | some s =>
      obtain ⟨_, hs⟩ := par_back _ s hq
      refine ev_pos rfl (ev_bind (rltext_ev (n : Int) s hs) ?_)
      refine ev_ite (fun g5 => ?_) (fun g5 => ?_)
      ·have g6 := (tx_eq _ _).1 g5
       have : labP t = some ((n : Int), s) := by
        have h := labP_txt (n : Int) s hs
        rw [if_pos (by omega), g6] at h
        exact h
       rw [this]
       exact Ev.now _
      ·refine hnext fun c hp => ?_
       obtain ⟨h1, h2⟩ := hcase c hp
       rw [hq] at h1
       obtain rfl := Option.some.inj h1
       exact g5 ((tx_eq _ _).2 h2)
theorem rlparse_ev (t : List UInt8) (ht : t.length ≤ 281474976710656) : Ev (fun k => oculusref02_Parse.f k (tx t)) (resL (labP t)) := by
 unfold oculusref02_Parse.f
 refine ev_ite (fun g => ?_) (fun g => ?_)
 ·have g' := (top_iff t).1 g
  have : labP t = some (15, full64) := by unfold labP; rw [if_pos g']
  rw [this]
  exact ev_bind rtop_ev (Ev.now _)
 ·exact rlp_l0 t ht (fun e => g ((top_iff t).2 e)) 16 0 (by omega) (fun j hj => by omega)
end Go.Proofs.YtbboanfggaknjaaGreatDoor.X
/- Users and grants. -/
set_option linter.unusedVariables false
set_option linter.unusedSimpArgs false
namespace Go.Proofs.YtbboanfggaknjaaGreatDoor.X.US
open Go.RowKit Go.Proofs.YtbboanfggaknjaaGreatDoorW.PrintWords Go.Proofs.YtbboanfggaknjaaGreatDoorW.PrintLast Go.Proofs.YtbboanfggaknjaaGreatDoorW.PrintMore
abbrev Gr := S64
abbrev Us := S62
theorem rdG (xs : List Gr) (i : Nat) (h : i < xs.length) : rd_T64 xs (i : Int) = xs[i] := by
 simp [rd_T64, List.getD_eq_getElem?_getD, h]
theorem rdU (xs : List Us) (i : Nat) (h : i < xs.length) : rd_T62 xs (i : Int) = xs[i] := by
 simp [rd_T62, List.getD_eq_getElem?_getD, h]
def chS (c : Int) : Bool := (decide (97 ≤ c) && decide (c ≤ 122)) || (decide (48 ≤ c) && decide (c ≤ 57))
def allS (s : ByteArray) (i : Nat) : Nat → Bool
 | 0 => true
 | d + 1 => chS (bt s (i : Int)) && allS s (i + 1) d
theorem name_l0 (s : ByteArray) (hs : s.size ≤ 9223372036854775807) : ∀ (d i : Nat), i + d = s.size → Ev (fun k => right_Name.l0 k s (s.size : Int) (i : Int)) (allS s i d) := by
 intro d
 induction d with
 | zero =>
  intro i hi
  refine Ev.step (f := fun _ => some true) (fun k => ?_) (Ev.now _)
  simp only [right_Name.l0]
  rw [if_neg (by omega)]
 | succ d ih =>
  intro i hi
  have hw := w64s (i := i) (n := s.size) (by omega) hs
  have ih' := ih (i + 1) (by omega)
  refine Ev.step (f := fun k => if chS (bt s (i : Int)) = true then right_Name.l0 k s (s.size : Int) ((i + 1 : Nat) : Int) else some false) (fun k => ?_) ?_
  ·simp only [right_Name.l0]
   rw [if_pos (by omega), if_pos (by omega), if_pos (by omega), hw]
   unfold chS
   generalize bt s (i : Int) = c
   by_cases h1 : c < 97
   ·rw [if_pos h1, decide_eq_false (show ¬ 97 ≤ c by omega)]
    by_cases h2 : c < 48
    ·rw [if_pos h2, decide_eq_false (show ¬ 48 ≤ c by omega)]; simp
    ·rw [if_neg h2, decide_eq_true (show 48 ≤ c by omega)]
     by_cases h3 : c > 57
     ·rw [if_pos h3, decide_eq_false (show ¬ c ≤ 57 by omega)]; simp
     ·rw [if_neg h3, decide_eq_true (show c ≤ 57 by omega)]; simp
   ·rw [if_neg h1, decide_eq_true (show 97 ≤ c by omega)]
    by_cases h2 : c > 122
    ·rw [if_pos h2, if_neg (by omega), if_pos (by omega), decide_eq_false (show ¬ c ≤ 122 by omega), decide_eq_false (show ¬ c ≤ 57 by omega)]; simp
    ·rw [if_neg h2, decide_eq_true (show c ≤ 122 by omega)]; simp
  ·simp only [allS]
   refine ev_ite (fun h => ?_) (fun h => ?_)
   ·rw [h]; simpa using ih'
   ·rw [show chS (bt s (i : Int)) = false by simpa using h]; exact Ev.now _
theorem rname_l0 (s : ByteArray) (hs : s.size ≤ 9223372036854775807) : ∀ (d i : Nat), i + d = s.size → Ev (fun k => oculusref06_Name.l0 k s (i : Int)) (allS s i d) := by
 intro d
 induction d with
 | zero =>
  intro i hi
  refine Ev.step (f := fun _ => some true) (fun k => ?_) (Ev.now _)
  simp only [oculusref06_Name.l0]
  rw [if_neg (by omega)]
 | succ d ih =>
  intro i hi
  have hw := w64s (i := i) (n := s.size) (by omega) hs
  have ih' := ih (i + 1) (by omega)
  refine Ev.step (f := fun k => if chS (bt s (i : Int)) = true then oculusref06_Name.l0 k s ((i + 1 : Nat) : Int) else some false) (fun k => ?_) ?_
  ·simp only [oculusref06_Name.l0]
   rw [if_pos (by omega), if_pos (by omega), hw]
   unfold chS oculusref06_letter.f
   generalize bt s (i : Int) = c
   by_cases h1 : c ≥ 97
   ·rw [if_pos h1, decide_eq_true (show 97 ≤ c by omega)]
    simp only [Option.bind_some]
    by_cases h2 : c ≤ 122
    ·rw [decide_eq_true h2]; simp
    ·rw [decide_eq_false h2, if_pos (show c ≥ 48 by omega), if_neg (show ¬ c ≤ 57 by omega), decide_eq_false (show ¬ c ≤ 57 by omega)]; simp
   ·rw [if_neg h1, decide_eq_false (show ¬ 97 ≤ c by omega)]
    simp only [Option.bind_some]
    by_cases h2 : c ≥ 48
    ·rw [if_pos h2, decide_eq_true (show 48 ≤ c by omega)]
     by_cases h3 : c ≤ 57
     ·rw [if_pos h3, decide_eq_true h3]; simp
     ·rw [if_neg h3, decide_eq_false h3]; simp
    ·rw [if_neg h2, decide_eq_false (show ¬ 48 ≤ c by omega)]; simp
  ·simp only [allS]
   refine ev_ite (fun h => ?_) (fun h => ?_)
   ·rw [h]; simpa using ih'
   ·rw [show chS (bt s (i : Int)) = false by simpa using h]; exact Ev.now _
def nameS (s : ByteArray) : Bool := decide (1 ≤ s.size) && (decide (s.size ≤ 16) && (decide (97 ≤ bt s 0) && allS s 0 s.size))
theorem name_ev (s : ByteArray) (hs : s.size ≤ 9223372036854775807) : Ev (fun k => right_Name.f k s) (nameS s) := by
 unfold right_Name.f nameS
 have hj : ∀ b, Ev (fun k => right_Name.j0 k s b) (!b && allS s 0 s.size) := by
  intro b
  refine Ev.step (f := fun k => if b = true then some false else right_Name.l0 k s (s.size : Int) 0) (fun k => by simp only [right_Name.j0]) ?_
  cases b with
  | true => exact ev_pos rfl (Ev.now _)
  | false => exact ev_neg (by simp) (by simpa using name_l0 s hs s.size 0 (by omega))
 by_cases h1 : (s.size : Int) < 1
 ·simp only [if_pos h1]; rw [decide_eq_false (show ¬ 1 ≤ s.size by omega)]; exact hj true
 ·simp only [if_neg h1]; rw [decide_eq_true (show 1 ≤ s.size by omega)]
  by_cases h2 : (s.size : Int) > 16
  ·simp only [if_pos h2]; rw [decide_eq_false (show ¬ s.size ≤ 16 by omega)]; exact hj true
  ·simp only [if_neg h2]; rw [decide_eq_true (show s.size ≤ 16 by omega)]; simp only [if_pos (show (0 : Int) < (s.size : Int) by omega)]
   have := hj (decide (bt s 0 < 97))
   rw [show (!decide (bt s 0 < 97)) = decide (97 ≤ bt s 0) by rw [Bool.eq_iff_iff]; simp] at this
   simpa using this
theorem rname_ev (s : ByteArray) (hs : s.size ≤ 9223372036854775807) : Ev (fun k => oculusref06_Name.f k s) (nameS s) := by
 unfold oculusref06_Name.f nameS
 have hj : ∀ b, Ev (fun k => oculusref06_Name.j0 k s b) (!b && allS s 0 s.size) := by
  intro b
  refine Ev.step (f := fun k => if b = true then some false else oculusref06_Name.l0 k s 0) (fun k => by simp only [oculusref06_Name.j0]) ?_
  cases b with
  | true => exact ev_pos rfl (Ev.now _)
  | false => exact ev_neg (by simp) (by simpa using rname_l0 s hs s.size 0 (by omega))
 by_cases h1 : (s.size : Int) < 1
 ·simp only [if_pos h1]; rw [decide_eq_false (show ¬ 1 ≤ s.size by omega)]; exact hj true
 ·simp only [if_neg h1]; rw [decide_eq_true (show 1 ≤ s.size by omega)]
  by_cases h2 : (s.size : Int) > 16
  ·simp only [if_pos h2]; rw [decide_eq_false (show ¬ s.size ≤ 16 by omega)]; exact hj true
  ·simp only [if_neg h2]; rw [decide_eq_true (show s.size ≤ 16 by omega)]; simp only [if_pos (show (0 : Int) < (s.size : Int) by omega)]
   unfold oculusref06_letter.f
   by_cases h3 : bt s 0 ≥ 97
   ·rw [if_pos h3, decide_eq_true (show 97 ≤ bt s 0 by omega)]
    simp only [Option.bind_some]
    have := hj (!decide (bt s 0 ≤ 122))
    by_cases h4 : bt s 0 ≤ 122
    ·rw [decide_eq_true h4] at this ⊢; simpa using this
    ·rw [decide_eq_false h4] at this ⊢
     have hz : allS s 0 s.size = false := by
      obtain ⟨n, hn⟩ : ∃ n, s.size = n + 1 := ⟨s.size - 1, by omega⟩
      rw [hn]
      simp only [allS]
      have : chS (bt s ((0 : Nat) : Int)) = false := by
       unfold chS
       rw [show ((0 : Nat) : Int) = 0 from rfl, decide_eq_false h4, decide_eq_false (show ¬ bt s 0 ≤ 57 by omega)]; simp
      rw [this]; rfl
     rw [hz]
     simpa using this
   ·rw [if_neg h3, decide_eq_false (show ¬ 97 ≤ bt s 0 by omega)]
    simp only [Option.bind_some]
    simpa using hj true
def hitU (n : ByteArray) (u : Us) : Bool := decide (u.f0.toList = n.toList)
def findS (n : ByteArray) : List Us → Int × Int × Bool
 | [] => (0, 0, false)
 | u :: r => if hitU n u = true then (u.f1.f0, u.f1.f1, true) else findS n r
theorem find_l0 (n : ByteArray) (xs : List Us) (hx : xs.length ≤ 9223372036854775807) : ∀ (d i : Nat), i + d = xs.length →
  Ev (fun k => right_Find.l0 k n xs (xs.length : Int) (i : Int)) (findS n (xs.drop i)) := by
 intro d
 induction d with
 | zero =>
  intro i hi
  rw [List.drop_eq_nil_of_le (by omega)]
  refine Ev.step (f := fun _ => some (0, 0, false)) (fun k => ?_) (Ev.now _)
  simp only [right_Find.l0]
  rw [if_neg (by omega)]
 | succ d ih =>
  intro i hi
  have hlt : i < xs.length := by omega
  have hw := w64s hlt hx
  rw [List.drop_eq_getElem_cons hlt]
  refine Ev.step (f := fun k => if xs[i].f0.toList = n.toList then some (xs[i].f1.f0, xs[i].f1.f1, true) else right_Find.l0 k n xs (xs.length : Int) ((i + 1 : Nat) : Int)) (fun k => ?_) ?_
  ·simp only [right_Find.l0]
   rw [if_pos (by omega), if_pos (by omega), if_pos (by omega), rdU xs i hlt, hw]
  ·simp only [findS, hitU, decide_eq_true_eq]
   refine ev_ite (fun h => ?_) (fun h => ?_)
   ·rw [if_pos h]; exact Ev.now _
   ·rw [if_neg h]; exact ih (i + 1) (by omega)
theorem find_ev (n : ByteArray) (xs : List Us) (hx : xs.length ≤ 9223372036854775807) : Ev (fun k => right_Find.f k xs n) (findS n xs) := by
 unfold right_Find.f
 simpa using find_l0 n xs hx xs.length 0 (by omega)
def placeS (n : ByteArray) : List Us → Nat → Int
 | [], _ => -1
 | u :: r, i => if hitU n u = true then (i : Int) else placeS n r (i + 1)
theorem rfind_l0 (n : ByteArray) (xs : List Us) (hx : xs.length ≤ 9223372036854775807) : ∀ (d i : Nat), i + d = xs.length →
  Ev (fun k => oculusref06_Find.l0 k xs n (i : Int)) (placeS n (xs.drop i) i) := by
 intro d
 induction d with
 | zero =>
  intro i hi
  rw [List.drop_eq_nil_of_le (by omega)]
  refine Ev.step (f := fun _ => some (-1)) (fun k => ?_) (Ev.now _)
  simp only [oculusref06_Find.l0]
  rw [if_neg (by omega)]
 | succ d ih =>
  intro i hi
  have hlt : i < xs.length := by omega
  have hw := w64s hlt hx
  rw [List.drop_eq_getElem_cons hlt]
  refine Ev.step (f := fun k => if xs[i].f0.toList = n.toList then some (i : Int) else oculusref06_Find.l0 k xs n ((i + 1 : Nat) : Int)) (fun k => ?_) ?_
  ·simp only [oculusref06_Find.l0]
   rw [if_pos (by omega), if_pos (by omega), rdU xs i hlt, hw]
  ·simp only [placeS, hitU, decide_eq_true_eq]
   refine ev_ite (fun h => ?_) (fun h => ?_)
   ·rw [if_pos h]; exact Ev.now _
   ·rw [if_neg h]; exact ih (i + 1) (by omega)
theorem rfind_ev (n : ByteArray) (xs : List Us) (hx : xs.length ≤ 9223372036854775807) : Ev (fun k => oculusref06_Find.f k xs n) (placeS n xs 0) := by
 unfold oculusref06_Find.f
 simpa using rfind_l0 n xs hx xs.length 0 (by omega)
theorem place_find (n : ByteArray) : ∀ (l : List Us) (i : Nat), (placeS n l i = -1 ∧ findS n l = (0, 0, false) ∧ l.any (hitU n) = false) ∨
  ∃ (j : Nat) (h : j < l.length), placeS n l i = ((i + j : Nat) : Int) ∧ findS n l = (l[j].f1.f0, l[j].f1.f1, true) ∧ l.any (hitU n) = true ∧ hitU n l[j] = true ∧ (l.take j).any (hitU n) = false
 | [], i => Or.inl ⟨rfl, rfl, rfl⟩
 | u :: r, i => by
  by_cases h : hitU n u = true
  ·refine Or.inr ⟨0, by simp, ?_, ?_, ?_, ?_, ?_⟩
   ·simp [placeS, h]
   ·simp [findS, h]
   ·simp [h]
   ·simpa using h
   ·simp
  ·have hf : hitU n u = false := by simpa using h
   rcases place_find n r (i + 1) with ⟨h1, h2, h3⟩ | ⟨j, hj, h1, h2, h3, h4, h5⟩
   ·left
    simp [placeS, findS, hf, h1, h2, h3]
   ·right
    refine ⟨j + 1, by simp; omega, ?_, ?_, ?_, ?_, ?_⟩
    ·simp only [placeS, if_neg h, h1]; congr 1; omega
    ·simp only [findS, if_neg h, h2]; simp
    ·simp only [List.any_cons, h3, Bool.or_true]
    ·simpa using h4
    ·simp only [List.take_succ_cons, List.any_cons, hf, h5, Bool.or_false]
theorem may_eq (a0 a1 : Int) : label_May.f a0 a1 = some (decide (a0 ≥ 0) && decide (a0 ≤ 15)) := by
 unfold label_May.f
 by_cases h : a0 ≥ 0
 ·rw [if_pos h, decide_eq_true h]; rfl
 ·rw [if_neg h, decide_eq_false h]; rfl
theorem rmay_eq (a0 a1 : Int) : oculusref06_may.f a0 a1 = some (decide (a0 ≥ 0) && decide (a0 ≤ 15)) := by
 unfold oculusref06_may.f
 by_cases h : a0 ≥ 0
 ·rw [if_pos h, decide_eq_true h]; rfl
 ·rw [if_neg h, decide_eq_false h]; rfl
def mayS (a0 : Int) : Bool := decide (a0 ≥ 0) && decide (a0 ≤ 15)
def okU (u : Us) : Prop := (Lit.int .u64 u.f1.f1).wf = true ∧ u.f0.size ≤ 9223372036854775807
def userS (xs : List Us) (i : Nat) (u : Us) : Int := if 16 ≤ i then 10 else if nameS u.f0 = false then 1 else if (xs.take i).any (hitU u.f0) = true then 8 else if mayS u.f1.f0 = false then 7 else 0
def usersS (xs : List Us) : List Us → Nat → Int × Int
 | [], _ => (0, 0)
 | u :: r, i => if userS xs i u = 0 then usersS xs r (i + 1) else ((i : Int), userS xs i u)
theorem find_snd (n : ByteArray) (l : List Us) : (findS n l).2.2 = l.any (hitU n) := by
 rcases place_find n l 0 with ⟨_, h2, h3⟩ | ⟨j, hj, _, h2, h3, _⟩ <;> rw [h2, h3]
theorem users_l0 (xs : List Us) (hx : xs.length ≤ 9223372036854775807) (hu : ∀ u ∈ xs, okU u) : ∀ (d i : Nat), i + d = xs.length →
  Ev (fun k => right_Users.l0 k xs xs (xs.length : Int) (i : Int)) (usersS xs (xs.drop i) i) := by
 intro d
 induction d with
 | zero =>
  intro i hi
  rw [List.drop_eq_nil_of_le (by omega)]
  refine Ev.step (f := fun _ => some (0, 0)) (fun k => ?_) (Ev.now _)
  simp only [right_Users.l0]
  rw [if_neg (by omega)]
 | succ d ih =>
  intro i hi
  have hlt : i < xs.length := by omega
  have hw := w64s hlt hx
  have hok := hu _ (List.getElem_mem hlt)
  have ih' := ih (i + 1) (by omega)
  rw [List.drop_eq_getElem_cons hlt]
  simp only [usersS]
  refine Ev.step (f := fun k => (right_Find.f k (xs.take i) xs[i].f0).bind fun b => right_Users.j1 k xs (i : Int) b.2.2 xs (xs.length : Int) (i : Int) xs[i].f0 xs[i].f1.f0 xs[i].f1.f1) (fun k => ?_) ?_
  ·simp only [right_Users.l0]
   rw [if_pos (by omega), if_pos (by omega), if_pos (by omega), if_pos (by omega), rdU xs i hlt]
   rfl
  ·refine ev_bind (find_ev xs[i].f0 (xs.take i) (by simp; omega)) ?_
   rw [find_snd]
   refine Ev.step (f := fun k => if (i : Int) ≥ 16 then some ((i : Int), 10) else (right_Name.f k xs[i].f0).bind fun t => if t = true then (if (xs.take i).any (hitU xs[i].f0) = true then some ((i : Int), 8) else (label_May.f xs[i].f1.f0 xs[i].f1.f1).bind fun t2 => if t2 = true then right_Users.l0 k xs xs (xs.length : Int) ((i + 1 : Nat) : Int) else some ((i : Int), 7)) else some ((i : Int), 1)) (fun k => ?_) ?_
   ·simp only [right_Users.j1, hw]
   ·refine ev_ite (fun h => ?_) (fun h => ?_)
    ·have e : userS xs i xs[i] = 10 := by unfold userS; rw [if_pos (by omega)]
     rw [e, if_neg (by decide)]; exact Ev.now _
    ·have h16 : ¬ 16 ≤ i := by omega
     refine ev_bind (name_ev _ hok.2) ?_
     refine ev_ite (fun hn => ?_) (fun hn => ?_)
     ·refine ev_ite (fun h2 => ?_) (fun h2 => ?_)
      ·have e : userS xs i xs[i] = 8 := by unfold userS; rw [if_neg h16, hn, if_neg (by decide), if_pos h2]
       rw [e, if_neg (by decide)]; exact Ev.now _
      ·rw [may_eq]
       simp only [Option.bind_some]
       refine ev_ite (fun hm => ?_) (fun hm => ?_)
       ·have e : userS xs i xs[i] = 0 := by unfold userS; rw [if_neg h16, hn, if_neg (by decide), if_neg h2, show mayS xs[i].f1.f0 = true from hm, if_neg (by decide)]
        rw [e, if_pos rfl]; exact ih'
       ·have e : userS xs i xs[i] = 7 := by unfold userS; rw [if_neg h16, hn, if_neg (by decide), if_neg h2, show mayS xs[i].f1.f0 = false by simpa [mayS] using hm, if_pos rfl]
        rw [e, if_neg (by decide)]; exact Ev.now _
     ·have e : userS xs i xs[i] = 1 := by unfold userS; rw [if_neg h16, show nameS xs[i].f0 = false by simpa using hn, if_pos rfl]
      rw [e, if_neg (by decide)]; exact Ev.now _
theorem users_ev (xs : List Us) (hx : xs.length ≤ 9223372036854775807) (hu : ∀ u ∈ xs, okU u) : Ev (fun k => right_Users.f k xs) (usersS xs xs 0) := by
 unfold right_Users.f
 simpa using users_l0 xs hx hu xs.length 0 (by omega)
theorem place_own (xs : List Us) (i : Nat) (h : i < xs.length) : (placeS xs[i].f0 xs 0 = (i : Int)) ↔ (xs.take i).any (hitU xs[i].f0) = false := by
 have hself : hitU xs[i].f0 xs[i] = true := by unfold hitU; simp
 rcases place_find xs[i].f0 xs 0 with ⟨h1, h2, h3⟩ | ⟨j, hj, h1, h2, h3, h4, h5⟩
 ·exfalso
  have := List.any_eq_false.1 h3 xs[i] (List.getElem_mem h)
  exact this hself
 ·rw [h1, Nat.zero_add]
  constructor
  ·intro e
   have : j = i := by omega
   subst this
   exact h5
  ·intro e
   rcases Nat.lt_trichotomy j i with hlt | he | hgt
   ·exfalso
    have := List.any_eq_false.1 e xs[j] (by rw [List.mem_take_iff_getElem]; exact ⟨j, by omega, rfl⟩)
    exact this h4
   ·omega
   ·exfalso
    have := List.any_eq_false.1 h5 xs[i] (by rw [List.mem_take_iff_getElem]; exact ⟨i, by omega, rfl⟩)
    exact this hself
theorem rusers_l0 (xs : List Us) (hx : xs.length ≤ 9223372036854775807) (hu : ∀ u ∈ xs, okU u) : ∀ (d i : Nat), i + d = xs.length →
  Ev (fun k => oculusref06_Users.l0 k xs (i : Int)) (usersS xs (xs.drop i) i) := by
 intro d
 induction d with
 | zero =>
  intro i hi
  rw [List.drop_eq_nil_of_le (by omega)]
  refine Ev.step (f := fun _ => some (0, 0)) (fun k => ?_) (Ev.now _)
  simp only [oculusref06_Users.l0]
  rw [if_neg (by omega)]
 | succ d ih =>
  intro i hi
  have hlt : i < xs.length := by omega
  have hw := w64s hlt hx
  have hok := hu _ (List.getElem_mem hlt)
  have ih' := ih (i + 1) (by omega)
  rw [List.drop_eq_getElem_cons hlt]
  simp only [usersS]
  have j3 : ∀ e : Int, (16 ≤ i ∨ e = userS xs i xs[i]) → Ev (fun k => oculusref06_Users.j3 k xs (i : Int) e) (if userS xs i xs[i] = 0 then usersS xs (xs.drop (i + 1)) (i + 1) else ((i : Int), userS xs i xs[i])) := by
   intro e he
   refine Ev.step (f := fun k => if (i : Int) > 15 then some ((i : Int), 10) else if e = 0 then oculusref06_Users.l0 k xs ((i + 1 : Nat) : Int) else some ((i : Int), e)) (fun k => by simp only [oculusref06_Users.j3, hw]) ?_
   refine ev_ite (fun h => ?_) (fun h => ?_)
   ·have : userS xs i xs[i] = 10 := by unfold userS; rw [if_pos (by omega)]
    rw [this, if_neg (by omega)]; exact Ev.now _
   ·have he' : e = userS xs i xs[i] := by rcases he with h' | h'; omega; exact h'
    rw [← he']
    refine ev_ite (fun h2 => ?_) (fun h2 => ?_)
    ·rw [if_pos h2]; exact ih'
    ·rw [if_neg h2]; exact Ev.now _
  have j2 : ∀ e : Int, (16 ≤ i ∨ nameS xs[i].f0 = false ∨ e = userS xs i xs[i]) → Ev (fun k => oculusref06_Users.j2 k xs (i : Int) e) (if userS xs i xs[i] = 0 then usersS xs (xs.drop (i + 1)) (i + 1) else ((i : Int), userS xs i xs[i])) := by
   intro e he
   refine Ev.step (f := fun k => (oculusref06_Name.f k xs[i].f0).bind fun t => if t = true then oculusref06_Users.j3 k xs (i : Int) e else oculusref06_Users.j3 k xs (i : Int) 1) (fun k => ?_) ?_
   ·simp only [oculusref06_Users.j2]
    rw [if_pos (by omega), if_pos (by omega), rdU xs i hlt]
   ·refine ev_bind (rname_ev _ hok.2) ?_
    refine ev_ite (fun h => ?_) (fun h => ?_)
    ·refine j3 e ?_
     rcases he with h' | h' | h'
     ·exact Or.inl h'
     ·rw [h] at h'; cases h'
     ·exact Or.inr h'
    ·refine j3 1 ?_
     by_cases h16 : 16 ≤ i
     ·exact Or.inl h16
     ·right; unfold userS; rw [if_neg h16, if_pos (by simpa using h)]
  have j1 : ∀ e : Int, (e = if mayS xs[i].f1.f0 = true then 0 else 7) → Ev (fun k => oculusref06_Users.j1 k xs (i : Int) e) (if userS xs i xs[i] = 0 then usersS xs (xs.drop (i + 1)) (i + 1) else ((i : Int), userS xs i xs[i])) := by
   intro e he
   refine Ev.step (f := fun k => (oculusref06_Find.f k xs xs[i].f0).bind fun t => if t = (i : Int) then oculusref06_Users.j2 k xs (i : Int) e else oculusref06_Users.j2 k xs (i : Int) 8) (fun k => ?_) ?_
   ·simp only [oculusref06_Users.j1]
    rw [if_pos (by omega), if_pos (by omega), rdU xs i hlt]
   ·refine ev_bind (rfind_ev _ xs hx) ?_
    refine ev_ite (fun h => ?_) (fun h => ?_)
    ·rw [place_own xs i hlt] at h
     refine j2 e ?_
     by_cases h16 : 16 ≤ i
     ·exact Or.inl h16
     ·cases hn : nameS xs[i].f0 with
      | false => exact Or.inr (Or.inl rfl)
      | true =>
       right; right
       unfold userS
       rw [if_neg h16, hn, if_neg (by simp), h, if_neg (by simp), he]
       cases mayS xs[i].f1.f0 <;> simp
    ·rw [place_own xs i hlt] at h
     refine j2 8 ?_
     by_cases h16 : 16 ≤ i
     ·exact Or.inl h16
     ·cases hn : nameS xs[i].f0 with
      | false => exact Or.inr (Or.inl rfl)
      | true =>
       right; right
       unfold userS
       rw [if_neg h16, hn, if_neg (by simp), if_pos (by simpa using h)]
  refine Ev.step (f := fun k => (oculusref06_may.f xs[i].f1.f0 xs[i].f1.f1).bind fun t => if t = true then oculusref06_Users.j1 k xs (i : Int) 0 else oculusref06_Users.j1 k xs (i : Int) 7) (fun k => ?_) ?_
  ·simp only [oculusref06_Users.l0]
   rw [if_pos (by omega), if_pos (by omega), rdU xs i hlt]
  ·rw [rmay_eq]
   simp only [Option.bind_some]
   refine ev_ite (fun h => ?_) (fun h => ?_)
   ·exact j1 0 (by rw [if_pos (show mayS xs[i].f1.f0 = true from h)])
   ·exact j1 7 (by rw [if_neg (show ¬ mayS xs[i].f1.f0 = true from h)])
theorem rusers_ev (xs : List Us) (hx : xs.length ≤ 9223372036854775807) (hu : ∀ u ∈ xs, okU u) : Ev (fun k => oculusref06_Users.f k xs) (usersS xs xs 0) := by
 unfold oculusref06_Users.f
 simpa using rusers_l0 xs hx hu xs.length 0 (by omega)
def grantS (us : List Us) (i : Nat) (g : Gr) : Int := if 32 ≤ i then 10 else if us.any (hitU g.f0) = false then 11 else if (mayS g.f1.f0 && mayS g.f2.f0) = false then 7 else 0
def grantsS (us : List Us) : List Gr → Nat → Int × Int
 | [], _ => (0, 0)
 | g :: r, i => if grantS us i g = 0 then grantsS us r (i + 1) else ((i : Int), grantS us i g)
theorem grants_l0 (us : List Us) (hus : us.length ≤ 9223372036854775807) (xs : List Gr) (hx : xs.length ≤ 9223372036854775807) : ∀ (d i : Nat), i + d = xs.length →
  Ev (fun k => right_Grants.l0 k us xs (xs.length : Int) (i : Int)) (grantsS us (xs.drop i) i) := by
 intro d
 induction d with
 | zero =>
  intro i hi
  rw [List.drop_eq_nil_of_le (by omega)]
  refine Ev.step (f := fun _ => some (0, 0)) (fun k => ?_) (Ev.now _)
  simp only [right_Grants.l0]
  rw [if_neg (by omega)]
 | succ d ih =>
  intro i hi
  have hlt : i < xs.length := by omega
  have hw := w64s hlt hx
  have ih' := ih (i + 1) (by omega)
  rw [List.drop_eq_getElem_cons hlt]
  simp only [grantsS]
  refine Ev.step (f := fun k => (right_Find.f k us xs[i].f0).bind fun b => right_Grants.j1 k us (i : Int) b.2.2 xs (xs.length : Int) (i : Int) xs[i].f0 xs[i].f1.f0 xs[i].f1.f1 xs[i].f2.f0 xs[i].f2.f1) (fun k => ?_) ?_
  ·simp only [right_Grants.l0]
   rw [if_pos (by omega), if_pos (by omega), if_pos (by omega), rdG xs i hlt]
  ·refine ev_bind (find_ev xs[i].f0 us hus) ?_
   rw [find_snd]
   refine Ev.step (f := fun k => if (i : Int) ≥ 32 then some ((i : Int), 10) else if us.any (hitU xs[i].f0) = true then ((label_May.f xs[i].f1.f0 xs[i].f1.f1).bind fun t => if t = true then ((label_May.f xs[i].f2.f0 xs[i].f2.f1).bind fun t2 => if t2 = true then right_Grants.l0 k us xs (xs.length : Int) ((i + 1 : Nat) : Int) else some ((i : Int), 7)) else some ((i : Int), 7)) else some ((i : Int), 11)) (fun k => ?_) ?_
   ·simp only [right_Grants.j1, hw]
   ·refine ev_ite (fun h => ?_) (fun h => ?_)
    ·have e : grantS us i xs[i] = 10 := by unfold grantS; rw [if_pos (by omega)]
     rw [e, if_neg (by decide)]; exact Ev.now _
    ·have h32 : ¬ 32 ≤ i := by omega
     refine ev_ite (fun hn => ?_) (fun hn => ?_)
     ·have seven : (mayS xs[i].f1.f0 && mayS xs[i].f2.f0) = false → grantS us i xs[i] = 7 := by
       intro h7; unfold grantS; rw [if_neg h32, hn, if_neg (by decide), h7, if_pos rfl]
      rw [may_eq]
      simp only [Option.bind_some]
      refine ev_ite (fun hm => ?_) (fun hm => ?_)
      ·rw [may_eq]
       simp only [Option.bind_some]
       refine ev_ite (fun hm2 => ?_) (fun hm2 => ?_)
       ·have e : grantS us i xs[i] = 0 := by unfold grantS; rw [if_neg h32, hn, if_neg (by decide), show mayS xs[i].f1.f0 = true from hm, show mayS xs[i].f2.f0 = true from hm2, if_neg (by decide)]
        rw [e, if_pos rfl]; exact ih'
       ·rw [seven (by rw [show mayS xs[i].f2.f0 = false by simpa [mayS] using hm2, Bool.and_false]), if_neg (by decide)]; exact Ev.now _
      ·rw [seven (by rw [show mayS xs[i].f1.f0 = false by simpa [mayS] using hm, Bool.false_and]), if_neg (by decide)]; exact Ev.now _
     ·have e : grantS us i xs[i] = 11 := by unfold grantS; rw [if_neg h32, show us.any (hitU xs[i].f0) = false by simpa using hn, if_pos rfl]
      rw [e, if_neg (by decide)]; exact Ev.now _
theorem grants_ev (us : List Us) (hus : us.length ≤ 9223372036854775807) (xs : List Gr) (hx : xs.length ≤ 9223372036854775807) : Ev (fun k => right_Grants.f k xs us) (grantsS us xs 0) := by
 unfold right_Grants.f
 simpa using grants_l0 us hus xs hx xs.length 0 (by omega)
theorem rgrants_l0 (us : List Us) (hus : us.length ≤ 9223372036854775807) (xs : List Gr) (hx : xs.length ≤ 9223372036854775807) : ∀ (d i : Nat), i + d = xs.length →
  Ev (fun k => oculusref06_Grants.l0 k xs us (i : Int)) (grantsS us (xs.drop i) i) := by
 intro d
 induction d with
 | zero =>
  intro i hi
  rw [List.drop_eq_nil_of_le (by omega)]
  refine Ev.step (f := fun _ => some (0, 0)) (fun k => ?_) (Ev.now _)
  simp only [oculusref06_Grants.l0]
  rw [if_neg (by omega)]
 | succ d ih =>
  intro i hi
  have hlt : i < xs.length := by omega
  have hw := w64s hlt hx
  have ih' := ih (i + 1) (by omega)
  rw [List.drop_eq_getElem_cons hlt]
  simp only [grantsS]
  have j3 : ∀ e : Int, (32 ≤ i ∨ e = grantS us i xs[i]) → Ev (fun k => oculusref06_Grants.j3 k xs us (i : Int) e) (if grantS us i xs[i] = 0 then grantsS us (xs.drop (i + 1)) (i + 1) else ((i : Int), grantS us i xs[i])) := by
   intro e he
   refine Ev.step (f := fun k => if (i : Int) > 31 then some ((i : Int), 10) else if e = 0 then oculusref06_Grants.l0 k xs us ((i + 1 : Nat) : Int) else some ((i : Int), e)) (fun k => by simp only [oculusref06_Grants.j3, hw]) ?_
   refine ev_ite (fun h => ?_) (fun h => ?_)
   ·have : grantS us i xs[i] = 10 := by unfold grantS; rw [if_pos (by omega)]
    rw [this, if_neg (by omega)]; exact Ev.now _
   ·have he' : e = grantS us i xs[i] := by rcases he with h' | h'; omega; exact h'
    rw [← he']
    refine ev_ite (fun h2 => ?_) (fun h2 => ?_)
    ·rw [if_pos h2]; exact ih'
    ·rw [if_neg h2]; exact Ev.now _
  have j2 : ∀ e : Int, e = (if (mayS xs[i].f1.f0 && mayS xs[i].f2.f0) = false then 7 else 0) → Ev (fun k => oculusref06_Grants.j2 k xs us (i : Int) e) (if grantS us i xs[i] = 0 then grantsS us (xs.drop (i + 1)) (i + 1) else ((i : Int), grantS us i xs[i])) := by
   intro e he
   refine Ev.step (f := fun k => (oculusref06_Find.f k us xs[i].f0).bind fun t => if t < 0 then oculusref06_Grants.j3 k xs us (i : Int) 11 else oculusref06_Grants.j3 k xs us (i : Int) e) (fun k => ?_) ?_
   ·simp only [oculusref06_Grants.j2]
    rw [if_pos (by omega), if_pos (by omega), rdG xs i hlt]
   ·refine ev_bind (rfind_ev _ us hus) ?_
    rcases place_find xs[i].f0 us 0 with ⟨h1, h2, h3⟩ | ⟨j, hj, h1, h2, h3, h4, h5⟩
    ·rw [h1]
     refine ev_pos (by omega) (j3 11 ?_)
     by_cases h32 : 32 ≤ i
     ·exact Or.inl h32
     ·right; unfold grantS; rw [if_neg h32, if_pos h3]
    ·rw [h1]
     refine ev_neg (by omega) (j3 e ?_)
     by_cases h32 : 32 ≤ i
     ·exact Or.inl h32
     ·right; unfold grantS; rw [if_neg h32, if_neg (by rw [h3]; simp)]; exact he
  have j1 : ∀ b : Bool, b = !(mayS xs[i].f1.f0 && mayS xs[i].f2.f0) → Ev (fun k => oculusref06_Grants.j1 k xs us (i : Int) 0 b) (if grantS us i xs[i] = 0 then grantsS us (xs.drop (i + 1)) (i + 1) else ((i : Int), grantS us i xs[i])) := by
   intro b hb
   refine Ev.step (f := fun k => if b = true then oculusref06_Grants.j2 k xs us (i : Int) 7 else oculusref06_Grants.j2 k xs us (i : Int) 0) (fun k => by simp only [oculusref06_Grants.j1]) ?_
   cases hh : (mayS xs[i].f1.f0 && mayS xs[i].f2.f0) with
   | false => rw [hh] at hb; subst hb; exact ev_pos rfl (j2 7 (by rw [hh]; rfl))
   | true => rw [hh] at hb; subst hb; exact ev_neg (by simp) (j2 0 (by rw [hh]; rfl))
  refine Ev.step (f := fun k => (oculusref06_may.f xs[i].f1.f0 xs[i].f1.f1).bind fun t => if t = true then ((oculusref06_may.f xs[i].f2.f0 xs[i].f2.f1).bind fun t2 => oculusref06_Grants.j1 k xs us (i : Int) 0 (!t2)) else oculusref06_Grants.j1 k xs us (i : Int) 0 true) (fun k => ?_) ?_
  ·simp only [oculusref06_Grants.l0]
   rw [if_pos (by omega), if_pos (by omega), rdG xs i hlt]
  ·rw [rmay_eq, rmay_eq]
   simp only [Option.bind_some]
   refine ev_ite (fun h => ?_) (fun h => ?_)
   ·exact j1 _ (by rw [show mayS xs[i].f1.f0 = true from h]; rfl)
   ·exact j1 _ (by rw [show mayS xs[i].f1.f0 = false from by simpa [mayS] using h]; rfl)
theorem rgrants_ev (us : List Us) (hus : us.length ≤ 9223372036854775807) (xs : List Gr) (hx : xs.length ≤ 9223372036854775807) : Ev (fun k => oculusref06_Grants.f k xs us) (grantsS us xs 0) := by
 unfold oculusref06_Grants.f
 simpa using rgrants_l0 us hus xs hx xs.length 0 (by omega)
end Go.Proofs.YtbboanfggaknjaaGreatDoor.X.US
/- Words of a policy's lines: without blanks and line feeds; a line, cut and split again. -/
set_option linter.unusedVariables false
set_option linter.unusedSimpArgs false
namespace Go.Proofs.YtbboanfggaknjaaGreatDoor.X
open Go.RowKit Go.Proofs.YtbboanfggaknjaaGreatDoorW.PrintWords Go.Proofs.YtbboanfggaknjaaGreatDoorW.PrintLast Go.Proofs.YtbboanfggaknjaaGreatDoorW.PrintMore
def hi7 (l : List UInt8) : Prop := ∀ b ∈ l, 33 ≤ b.toNat
theorem allS_at (s : ByteArray) : ∀ (d i j : Nat), US.allS s i d = true → i ≤ j → j < i + d → US.chS (bt s (j : Int)) = true
 | 0, i, j, _, h1, h2 => by omega
 | d + 1, i, j, h, h1, h2 => by
  simp only [US.allS, Bool.and_eq_true] at h
  by_cases e : i = j
  ·subst e; exact h.1
  ·exact allS_at s d (i + 1) j h.2 (by omega) (by omega)
theorem user_hi (s : ByteArray) (h : US.nameS s = true) : hi7 (by_ s) ∧ s.size ≤ 16 := by
 unfold US.nameS at h
 simp only [Bool.and_eq_true, decide_eq_true_eq] at h
 refine ⟨?_, h.2.1⟩
 intro b hb
 obtain ⟨i, hi, rfl⟩ := List.mem_iff_getElem.1 hb
 have h1 := allS_at s s.size 0 i h.2.2.2 (Nat.zero_le _) (by rw [size_by]; omega)
 rw [bt_by s i hi] at h1
 unfold US.chS at h1
 simp only [Bool.or_eq_true, Bool.and_eq_true, decide_eq_true_eq] at h1
 omega
theorem join_joi : ∀ (ps : List (List UInt8)) (p : List UInt8), joinL [32] (p :: ps) = joiC 32 (p :: ps)
 | [], p => by simp [joinL, joiC]
 | q :: ps, p => by
  have h : q ++ ps.flatMap (fun y => [32] ++ y) = joiC 32 (q :: ps) := join_joi ps q
  show p ++ ((q :: ps).flatMap fun y => [32] ++ y) = p ++ 32 :: joiC 32 (q :: ps)
  rw [List.flatMap_cons, ← h, List.append_assoc]
  rfl
end Go.Proofs.YtbboanfggaknjaaGreatDoor.X
/- Zones. -/
set_option linter.unusedVariables false
set_option linter.unusedSimpArgs false
namespace Go.Proofs.YtbboanfggaknjaaGreatDoor.X.ZN
open Go.RowKit Go.Proofs.YtbboanfggaknjaaGreatDoorW.PrintWords Go.Proofs.YtbboanfggaknjaaGreatDoorW.PrintLast Go.Proofs.YtbboanfggaknjaaGreatDoorW.PrintMore
abbrev Zn := S60
theorem straight_eq {a0 a1 a2 a3 : Int} (h : span_May.f a0 a1 a2 a3 = some true) : span_Straight.f a0 a1 a2 a3 = some (mn a0 a2, mn a1 a3, mx a0 a2, mx a1 a3) := by
 unfold span_Straight.f
 rw [h]
 rfl
theorem rdZ (xs : List Zn) (i : Nat) (h : i < xs.length) : rd_T60 xs (i : Int) = xs[i] := by
 show xs.getD (Int.toNat (i : Int)) _ = _
 rw [Int.toNat_natCast, List.getD_eq_getElem?_getD, List.getElem?_eq_getElem h]; rfl
def mayZ (a b c d : Int) : Bool := decide ((0 ≤ a ∧ a < 999 ∧ 0 ≤ b ∧ b < 702) ∧ (0 ≤ c ∧ c < 999 ∧ 0 ≤ d ∧ d < 702))
theorem addr_may_eq (a b : Int) : addr_May.f a b = some (decide (0 ≤ a ∧ a < 999 ∧ 0 ≤ b ∧ b < 702)) := by
 unfold addr_May.f
 by_cases h1 : a ≥ 0
 ·rw [if_pos h1]
  by_cases h2 : a < 999
  ·rw [if_pos h2]
   by_cases h3 : b ≥ 0
   ·rw [if_pos h3, Option.some.injEq, decide_eq_decide]; omega
   ·rw [if_neg h3, decide_eq_false (by omega)]
  ·rw [if_neg h2, decide_eq_false (by omega)]
 ·rw [if_neg h1, decide_eq_false (by omega)]
theorem span_may_eq (a b c d : Int) : span_May.f a b c d = some (mayZ a b c d) := by
 unfold span_May.f mayZ
 rw [addr_may_eq, Option.bind_some]
 by_cases h : 0 ≤ a ∧ a < 999 ∧ 0 ≤ b ∧ b < 702
 ·rw [decide_eq_true h, if_pos rfl, addr_may_eq, Option.bind_some, Option.some.injEq, decide_eq_decide]
  exact ⟨fun g => ⟨h, g⟩, fun g => g.2⟩
 ·rw [decide_eq_false h, if_neg (by simp), decide_eq_false (fun g => h g.1)]
theorem rmay_eq (a b : Int) : oculusref03_May.f a b = some (decide (0 ≤ a ∧ a < 999 ∧ 0 ≤ b ∧ b < 702)) := by
 unfold oculusref03_May.f
 by_cases h1 : a ≥ 0
 ·rw [if_pos h1]
  by_cases h2 : a ≤ 998
  ·rw [if_pos h2]
   by_cases h3 : b ≥ 0
   ·rw [if_pos h3, Option.some.injEq, decide_eq_decide]; omega
   ·rw [if_neg h3, decide_eq_false (by omega)]
  ·rw [if_neg h2, decide_eq_false (by omega)]
 ·rw [if_neg h1, decide_eq_false (by omega)]
theorem rspan_may_eq (a b c d : Int) : oculusref04_May.f a b c d = some (mayZ a b c d) := by
 unfold oculusref04_May.f mayZ
 rw [rmay_eq, Option.bind_some]
 by_cases h : 0 ≤ a ∧ a < 999 ∧ 0 ≤ b ∧ b < 702
 ·rw [decide_eq_true h, if_pos rfl, rmay_eq, Option.bind_some, Option.some.injEq, decide_eq_decide]
  exact ⟨fun g => ⟨h, g⟩, fun g => g.2⟩
 ·rw [decide_eq_false h, if_neg (by simp), decide_eq_false (fun g => h g.1)]
theorem span_str (a b c d : Int) (h : mayZ a b c d = true) : span_Straight.f a b c d = some (mn a c, mn b d, mx a c, mx b d) := straight_eq (by rw [span_may_eq, h])
def wrongZ (rows cols : Int) : Nat → List Zn → Int × Int
 | _, [] => (0, 0)
 | i, z :: l => if 32 ≤ i then ((i : Int), 10) else if ¬ (mayZ z.f0.f0.f0 z.f0.f0.f1 z.f0.f1.f0 z.f0.f1.f1 = true ∧ z.f0.f0.f0 ≤ z.f0.f1.f0 ∧ z.f0.f0.f1 ≤ z.f0.f1.f1) then ((i : Int), 1)
  else if z.f0.f1.f0 ≥ rows ∨ z.f0.f1.f1 ≥ cols then ((i : Int), 2) else if ¬ (0 ≤ z.f1.f0 ∧ z.f1.f0 ≤ 15) then ((i : Int), 7) else wrongZ rows cols (i + 1) l
theorem straight_ne (a b c d : Int) : ((!(mn a c == a) || (!(mn b d == b))) || ((!(mx a c == c) || (!(mx b d == d))))) = !(decide (a ≤ c ∧ b ≤ d)) := by
 rw [Bool.eq_iff_iff]
 simp only [Bool.or_eq_true, Bool.not_eq_true', beq_eq_false_iff_ne, decide_eq_false_iff_not, ne_eq]
 unfold mn mx
 repeat' split
 all_goals omega
theorem label_may_eq (a b : Int) : label_May.f a b = some (decide (0 ≤ a ∧ a ≤ 15)) := by
 unfold label_May.f
 by_cases h : a ≥ 0
 ·rw [if_pos h, Option.some.injEq, decide_eq_decide]; omega
 ·rw [if_neg h, decide_eq_false (by omega)]
theorem wrong_l0 (rows cols : Int) (xs : List Zn) (hx : xs.length ≤ 9223372036854775807) : ∀ d i, i + d = xs.length → Ev (fun k => zone_Wrong.l0 k rows cols xs (xs.length : Int) (i : Int)) (wrongZ rows cols i (xs.drop i))
 | 0, i, h => by
  rw [List.drop_eq_nil_of_le (by omega)]
  refine Ev.step (fun k => zone_Wrong.l0.eq_2 _ _ _ _ _ _) ?_
  exact ev_neg (by omega) (Ev.now _)
 | d + 1, i, h => by
  have hlt : i < xs.length := by omega
  rw [List.drop_eq_getElem_cons hlt]
  refine Ev.step (fun k => zone_Wrong.l0.eq_2 _ _ _ _ _ _) ?_
  refine ev_pos (by omega) (ev_pos (by omega) (ev_pos (by omega) ?_))
  simp only [wrongZ]
  refine ev_ite (fun g => ?_) (fun g => ?_)
  ·rw [if_pos (by omega)]; exact Ev.now _
  ·rw [if_neg (by omega)]
   simp only [rdZ xs i hlt]
   refine ev_bind (ev_some fun _ => span_may_eq _ _ _ _) ?_
   have j2 : ∀ b1 : Bool, b1 = decide (xs[i].f0.f1.f0 ≥ rows ∨ xs[i].f0.f1.f1 ≥ cols) → Ev (fun k => zone_Wrong.j2 k rows cols (i : Int) xs (xs.length : Int) (i : Int) b1 xs[i].f0.f0.f0 xs[i].f0.f0.f1 xs[i].f0.f1.f0 xs[i].f0.f1.f1 xs[i].f1.f0 xs[i].f1.f1)
     (if xs[i].f0.f1.f0 ≥ rows ∨ xs[i].f0.f1.f1 ≥ cols then ((i : Int), 2) else if ¬ (0 ≤ xs[i].f1.f0 ∧ xs[i].f1.f0 ≤ 15) then ((i : Int), 7) else wrongZ rows cols (i + 1) (xs.drop (i + 1))) := by
    intro b1 hb
    subst hb
    refine Ev.step (fun k => zone_Wrong.j2.eq_2 _ _ _ _ _ _ _ _ _ _ _ _ _ _) ?_
    by_cases g2 : xs[i].f0.f1.f0 ≥ rows ∨ xs[i].f0.f1.f1 ≥ cols
    ·rw [if_pos g2]; exact ev_pos (decide_eq_true g2) (Ev.now _)
    ·rw [if_neg g2]
     refine ev_neg (by rw [decide_eq_false g2]; simp) ?_
     refine ev_bind (ev_some fun _ => label_may_eq _ _) ?_
     by_cases g3 : 0 ≤ xs[i].f1.f0 ∧ xs[i].f1.f0 ≤ 15
     ·rw [if_neg (fun n => n g3)]
      refine ev_pos (decide_eq_true g3) ?_
      simp only [w64s hlt hx]
      exact wrong_l0 rows cols xs hx d (i + 1) (by omega)
     ·rw [if_pos g3]
      exact ev_neg (by rw [decide_eq_false g3]; simp) (Ev.now _)
   have j1 : ∀ b : Bool, b = !(decide (mayZ xs[i].f0.f0.f0 xs[i].f0.f0.f1 xs[i].f0.f1.f0 xs[i].f0.f1.f1 = true ∧ xs[i].f0.f0.f0 ≤ xs[i].f0.f1.f0 ∧ xs[i].f0.f0.f1 ≤ xs[i].f0.f1.f1)) → Ev (fun k => zone_Wrong.j1 k rows cols (i : Int) xs (xs.length : Int) (i : Int) b xs[i].f0.f0.f0 xs[i].f0.f0.f1 xs[i].f0.f1.f0 xs[i].f0.f1.f1 xs[i].f1.f0 xs[i].f1.f1)
     (if ¬ (mayZ xs[i].f0.f0.f0 xs[i].f0.f0.f1 xs[i].f0.f1.f0 xs[i].f0.f1.f1 = true ∧ xs[i].f0.f0.f0 ≤ xs[i].f0.f1.f0 ∧ xs[i].f0.f0.f1 ≤ xs[i].f0.f1.f1) then ((i : Int), 1) else if xs[i].f0.f1.f0 ≥ rows ∨ xs[i].f0.f1.f1 ≥ cols then ((i : Int), 2) else if ¬ (0 ≤ xs[i].f1.f0 ∧ xs[i].f1.f0 ≤ 15) then ((i : Int), 7) else wrongZ rows cols (i + 1) (xs.drop (i + 1))) := by
    intro b hb
    subst hb
    refine Ev.step (fun k => zone_Wrong.j1.eq_2 _ _ _ _ _ _ _ _ _ _ _ _ _ _) ?_
    by_cases g1 : mayZ xs[i].f0.f0.f0 xs[i].f0.f0.f1 xs[i].f0.f1.f0 xs[i].f0.f1.f1 = true ∧ xs[i].f0.f0.f0 ≤ xs[i].f0.f1.f0 ∧ xs[i].f0.f0.f1 ≤ xs[i].f0.f1.f1
    ·rw [if_neg (fun n => n g1)]
     refine ev_neg (by rw [decide_eq_true g1]; simp) ?_
     by_cases g2 : xs[i].f0.f1.f0 ≥ rows
     ·exact ev_pos g2 (j2 true (by rw [decide_eq_true (Or.inl g2)]))
     ·exact ev_neg g2 (j2 _ (by rw [decide_eq_decide]; exact ⟨Or.inr, fun h => h.resolve_left g2⟩))
    ·rw [if_pos g1]
     exact ev_pos (by rw [decide_eq_false g1]; rfl) (Ev.now _)
   cases hm : mayZ xs[i].f0.f0.f0 xs[i].f0.f0.f1 xs[i].f0.f1.f0 xs[i].f0.f1.f1 with
   | false =>
    refine ev_neg (by simp) ?_
    have := j1 true (by rw [hm]; simp)
    rw [hm] at this
    exact this
   | true =>
    refine ev_pos rfl ?_
    refine ev_bind (ev_some fun _ => span_str _ _ _ _ hm) ?_
    simp only [straight_ne]
    have := j1 _ rfl
    rw [hm] at this
    simpa using this
theorem wrong_ev (xs : List Zn) (hx : xs.length ≤ 9223372036854775807) (rows cols : Int) : Ev (fun k => zone_Wrong.f k xs rows cols) (wrongZ rows cols 0 xs) := wrong_l0 rows cols xs hx xs.length 0 (by omega)
theorem rwrong_l0 (rows cols : Int) (xs : List Zn) (hx : xs.length ≤ 9223372036854775807) : ∀ d i, i + d = xs.length → Ev (fun k => oculusref05_Wrong.l0 k xs rows cols (i : Int)) (wrongZ rows cols i (xs.drop i))
 | 0, i, h => by
  rw [List.drop_eq_nil_of_le (by omega)]
  refine Ev.step (fun k => oculusref05_Wrong.l0.eq_2 _ _ _ _ _) ?_
  exact ev_neg (by omega) (Ev.now _)
 | d + 1, i, h => by
  have hlt : i < xs.length := by omega
  rw [List.drop_eq_getElem_cons hlt]
  refine Ev.step (fun k => oculusref05_Wrong.l0.eq_2 _ _ _ _ _) ?_
  refine ev_pos (by omega) (ev_pos (by omega) ?_)
  simp only [wrongZ]
  refine ev_ite (fun g => ?_) (fun g => ?_)
  ·rw [if_pos (by omega)]; exact Ev.now _
  ·rw [if_neg (by omega)]
   simp only [rdZ xs i hlt]
   refine ev_bind (ev_some fun _ => rspan_may_eq _ _ _ _) ?_
   have j2 : ∀ b1 : Bool, b1 = decide (xs[i].f0.f1.f0 ≥ rows ∨ xs[i].f0.f1.f1 ≥ cols) → Ev (fun k => oculusref05_Wrong.j2 k xs rows cols (i : Int) b1 xs[i].f0.f0.f0 xs[i].f0.f0.f1 xs[i].f0.f1.f0 xs[i].f0.f1.f1 xs[i].f1.f0 xs[i].f1.f1)
     (if xs[i].f0.f1.f0 ≥ rows ∨ xs[i].f0.f1.f1 ≥ cols then ((i : Int), 2) else if ¬ (0 ≤ xs[i].f1.f0 ∧ xs[i].f1.f0 ≤ 15) then ((i : Int), 7) else wrongZ rows cols (i + 1) (xs.drop (i + 1))) := by
    intro b1 hb
    subst hb
    refine Ev.step (fun k => oculusref05_Wrong.j2.eq_2 _ _ _ _ _ _ _ _ _ _ _ _) ?_
    by_cases g2 : xs[i].f0.f1.f0 ≥ rows ∨ xs[i].f0.f1.f1 ≥ cols
    ·rw [if_pos g2]; exact ev_pos (decide_eq_true g2) (Ev.now _)
    ·rw [if_neg g2]
     refine ev_neg (by rw [decide_eq_false g2]; simp) ?_
     by_cases g3 : 0 ≤ xs[i].f1.f0 ∧ xs[i].f1.f0 ≤ 15
     ·rw [if_neg (fun n => n g3)]
      refine ev_neg (by omega) (ev_neg (by omega) ?_)
      simp only [w64s hlt hx]
      exact rwrong_l0 rows cols xs hx d (i + 1) (by omega)
     ·rw [if_pos g3]
      refine ev_ite (fun _ => Ev.now _) (fun g4 => ?_)
      exact ev_pos (by omega) (Ev.now _)
   have j1 : ∀ b : Bool, b = !(decide (mayZ xs[i].f0.f0.f0 xs[i].f0.f0.f1 xs[i].f0.f1.f0 xs[i].f0.f1.f1 = true ∧ xs[i].f0.f0.f0 ≤ xs[i].f0.f1.f0 ∧ xs[i].f0.f0.f1 ≤ xs[i].f0.f1.f1)) → Ev (fun k => oculusref05_Wrong.j1 k xs rows cols (i : Int) b xs[i].f0.f0.f0 xs[i].f0.f0.f1 xs[i].f0.f1.f0 xs[i].f0.f1.f1 xs[i].f1.f0 xs[i].f1.f1)
     (if ¬ (mayZ xs[i].f0.f0.f0 xs[i].f0.f0.f1 xs[i].f0.f1.f0 xs[i].f0.f1.f1 = true ∧ xs[i].f0.f0.f0 ≤ xs[i].f0.f1.f0 ∧ xs[i].f0.f0.f1 ≤ xs[i].f0.f1.f1) then ((i : Int), 1) else if xs[i].f0.f1.f0 ≥ rows ∨ xs[i].f0.f1.f1 ≥ cols then ((i : Int), 2) else if ¬ (0 ≤ xs[i].f1.f0 ∧ xs[i].f1.f0 ≤ 15) then ((i : Int), 7) else wrongZ rows cols (i + 1) (xs.drop (i + 1))) := by
    intro b hb
    subst hb
    refine Ev.step (fun k => oculusref05_Wrong.j1.eq_2 _ _ _ _ _ _ _ _ _ _ _ _) ?_
    by_cases g1 : mayZ xs[i].f0.f0.f0 xs[i].f0.f0.f1 xs[i].f0.f1.f0 xs[i].f0.f1.f1 = true ∧ xs[i].f0.f0.f0 ≤ xs[i].f0.f1.f0 ∧ xs[i].f0.f0.f1 ≤ xs[i].f0.f1.f1
    ·rw [if_neg (fun n => n g1)]
     refine ev_neg (by rw [decide_eq_true g1]; simp) ?_
     by_cases g2 : xs[i].f0.f1.f0 ≥ rows
     ·exact ev_pos g2 (j2 true (by rw [decide_eq_true (Or.inl g2)]))
     ·exact ev_neg g2 (j2 _ (by rw [decide_eq_decide]; exact ⟨Or.inr, fun h => h.resolve_left g2⟩))
    ·rw [if_pos g1]
     exact ev_pos (by rw [decide_eq_false g1]; rfl) (Ev.now _)
   cases hm : mayZ xs[i].f0.f0.f0 xs[i].f0.f0.f1 xs[i].f0.f1.f0 xs[i].f0.f1.f1 with
   | false =>
    refine ev_neg (by simp) ?_
    have := j1 true (by rw [hm]; simp)
    rw [hm] at this
    exact this
   | true =>
    refine ev_pos rfl ?_
    rw [hm] at j1
    by_cases g1 : xs[i].f0.f0.f0 > xs[i].f0.f1.f0
    ·exact ev_pos g1 (j1 true (by rw [decide_eq_false (by omega)]; rfl))
    ·refine ev_neg g1 (j1 _ ?_)
     rw [Bool.eq_iff_iff]
     simp only [decide_eq_true_eq, Bool.not_eq_true', decide_eq_false_iff_not, true_and]
     omega
theorem rwrong_ev (xs : List Zn) (hx : xs.length ≤ 9223372036854775807) (rows cols : Int) : Ev (fun k => oculusref05_Wrong.f k xs rows cols) (wrongZ rows cols 0 xs) := rwrong_l0 rows cols xs hx xs.length 0 (by omega)
end Go.Proofs.YtbboanfggaknjaaGreatDoor.X.ZN
/- What policy.Wrong and its reference answer. -/
set_option linter.unusedVariables false
set_option linter.unusedSimpArgs false
namespace Go.Proofs.YtbboanfggaknjaaGreatDoor.X
open Go.RowKit Go.Proofs.YtbboanfggaknjaaGreatDoorW.PrintWords Go.Proofs.YtbboanfggaknjaaGreatDoorW.PrintLast Go.Proofs.YtbboanfggaknjaaGreatDoorW.PrintMore
def badDim (r c : Int) : Prop := r < 1 ∨ r > 999 ∨ c < 1 ∨ c > 702 ∨ wrap64 (r * c) > 400
instance (r c : Int) : Decidable (badDim r c) := by unfold badDim; exact inferInstance
def wrongP (r c : Int) (zs : List S60) (us : List S62) (gs : List S64) : Int × Int :=
 if badDim r c then (1, 2)
 else if (ZN.wrongZ r c 0 zs).2 = 0 then
  if (US.usersS us us 0).2 = 0 then
   if (US.grantsS us gs 0).2 = 0 then (0, 0)
   else (wrap64 (wrap64 (wrap64 (2 + (zs.length : Int)) + (us.length : Int)) + (US.grantsS us gs 0).1), (US.grantsS us gs 0).2)
  else (wrap64 (wrap64 (2 + (zs.length : Int)) + (US.usersS us us 0).1), (US.usersS us us 0).2)
 else (wrap64 (2 + (ZN.wrongZ r c 0 zs).1), (ZN.wrongZ r c 0 zs).2)
structure SmallP (zs : List S60) (us : List S62) (gs : List S64) : Prop where
 z : zs.length ≤ 9223372036854775807
 u : us.length ≤ 9223372036854775807
 g : gs.length ≤ 9223372036854775807
 ok : ∀ u ∈ us, US.okU u
theorem ev_dim {r c : Int} {f : Nat → Bool → Option (Int × Int)} {v : Int × Int} (h : ∀ b, b = decide (badDim r c) → Ev (fun k => f k b) v) :
  Ev (fun k => if r < 1 then f k true else (if r > 999 then f k true else (if c < 1 then f k true else (if c > 702 then f k true else f k (decide (wrap64 (r * c) > 400)))))) v := by
 unfold badDim at h
 refine ev_ite (fun h1 => h _ (by simp [h1])) (fun h1 => ?_)
 refine ev_ite (fun h2 => h _ (by simp [h2])) (fun h2 => ?_)
 refine ev_ite (fun h3 => h _ (by simp [h3])) (fun h3 => ?_)
 refine ev_ite (fun h4 => h _ (by simp [h4])) (fun h4 => ?_)
 exact h _ (by simp [h1, h2, h3, h4])
theorem ev_val {α : Type} {f : Nat → Option α} {v v' : α} (e : v' = v) (h : Ev f v) : Ev f v' := e ▸ h
theorem wrongP_dim {r c : Int} {zs : List S60} {us : List S62} {gs : List S64} (h : badDim r c) : wrongP r c zs us gs = (1, 2) := if_pos h
theorem wrongP_z {r c : Int} {zs : List S60} {us : List S62} {gs : List S64} (h : ¬ badDim r c) (hz : ¬ (ZN.wrongZ r c 0 zs).2 = 0) : wrongP r c zs us gs = (wrap64 (2 + (ZN.wrongZ r c 0 zs).1), (ZN.wrongZ r c 0 zs).2) := (if_neg h).trans (if_neg hz)
theorem wrongP_u {r c : Int} {zs : List S60} {us : List S62} {gs : List S64} (h : ¬ badDim r c) (hz : (ZN.wrongZ r c 0 zs).2 = 0) (hu : ¬ (US.usersS us us 0).2 = 0) : wrongP r c zs us gs = (wrap64 (wrap64 (2 + (zs.length : Int)) + (US.usersS us us 0).1), (US.usersS us us 0).2) := (if_neg h).trans ((if_pos hz).trans (if_neg hu))
theorem wrongP_g {r c : Int} {zs : List S60} {us : List S62} {gs : List S64} (h : ¬ badDim r c) (hz : (ZN.wrongZ r c 0 zs).2 = 0) (hu : (US.usersS us us 0).2 = 0) (hg : ¬ (US.grantsS us gs 0).2 = 0) : wrongP r c zs us gs = (wrap64 (wrap64 (wrap64 (2 + (zs.length : Int)) + (us.length : Int)) + (US.grantsS us gs 0).1), (US.grantsS us gs 0).2) := (if_neg h).trans ((if_pos hz).trans ((if_pos hu).trans (if_neg hg)))
theorem wrongP_ok {r c : Int} {zs : List S60} {us : List S62} {gs : List S64} (h : ¬ badDim r c) (hz : (ZN.wrongZ r c 0 zs).2 = 0) (hu : (US.usersS us us 0).2 = 0) (hg : (US.grantsS us gs 0).2 = 0) : wrongP r c zs us gs = (0, 0) := (if_neg h).trans ((if_pos hz).trans ((if_pos hu).trans (if_pos hg)))
theorem pwrong_ev (r c : Int) (zs : List S60) (us : List S62) (gs : List S64) (hs : SmallP zs us gs) : Ev (fun k => policy_Wrong.f k r c zs us gs) (wrongP r c zs us gs) := by
 unfold policy_Wrong.f
 refine ev_dim (f := fun k b => policy_Wrong.j0 k b r c zs us gs) (fun b hb => ?_)
 refine Ev.step (fun k => policy_Wrong.j0.eq_2 ..) ?_
 by_cases hd : badDim r c
 ·exact ev_val (wrongP_dim hd) (ev_pos (by rw [hb]; exact decide_eq_true hd) (Ev.now _))
 ·refine ev_neg (by rw [hb, decide_eq_false hd]; simp) ?_
  refine ev_bind (ZN.wrong_ev zs hs.z r c) ?_
  by_cases hz : (ZN.wrongZ r c 0 zs).2 = 0
  ·refine ev_pos hz (ev_bind (US.users_ev us hs.u hs.ok) ?_)
   by_cases hu : (US.usersS us us 0).2 = 0
   ·refine ev_pos hu (ev_bind (US.grants_ev us hs.u gs hs.g) ?_)
    by_cases hg : (US.grantsS us gs 0).2 = 0
    ·exact ev_val (wrongP_ok hd hz hu hg) (ev_pos hg (Ev.now _))
    ·exact ev_val (wrongP_g hd hz hu hg) (ev_neg hg (Ev.now _))
   ·exact ev_val (wrongP_u hd hz hu) (ev_neg hu (Ev.now _))
  ·exact ev_val (wrongP_z hd hz) (ev_neg hz (Ev.now _))
theorem rpwrong_ev (r c : Int) (zs : List S60) (us : List S62) (gs : List S64) (hs : SmallP zs us gs) : Ev (fun k => oculusref07_Wrong.f k r c zs us gs) (wrongP r c zs us gs) := by
 unfold oculusref07_Wrong.f
 refine ev_dim (f := fun k b => oculusref07_Wrong.j0 k b r c zs us gs) (fun b hb => ?_)
 refine Ev.step (fun k => oculusref07_Wrong.j0.eq_2 ..) ?_
 by_cases hd : badDim r c
 ·exact ev_val (wrongP_dim hd) (ev_pos (by rw [hb]; exact decide_eq_true hd) (Ev.now _))
 ·refine ev_neg (by rw [hb, decide_eq_false hd]; simp) ?_
  refine ev_bind (ZN.rwrong_ev zs hs.z r c) ?_
  refine ev_bind (US.rusers_ev us hs.u hs.ok) ?_
  refine ev_bind (US.rgrants_ev us hs.u gs hs.g) ?_
  by_cases hz : (ZN.wrongZ r c 0 zs).2 = 0
  ·refine ev_pos hz ?_
   by_cases hu : (US.usersS us us 0).2 = 0
   ·refine ev_pos hu ?_
    by_cases hg : (US.grantsS us gs 0).2 = 0
    ·exact ev_val (wrongP_ok hd hz hu hg) (ev_pos hg (Ev.now _))
    ·exact ev_val (wrongP_g hd hz hu hg) (ev_neg hg (Ev.now _))
   ·exact ev_val (wrongP_u hd hz hu) (ev_neg hu (Ev.now _))
  ·exact ev_val (wrongP_z hd hz) (ev_neg hz (Ev.now _))
end Go.Proofs.YtbboanfggaknjaaGreatDoor.X
/- A policy's text: what policy.Text and its reference tell of one that is right. -/
set_option linter.unusedVariables false
set_option linter.unusedSimpArgs false
namespace Go.Proofs.YtbboanfggaknjaaGreatDoor.X
open Go.RowKit Go.Proofs.YtbboanfggaknjaaGreatDoorW.PrintWords Go.Proofs.YtbboanfggaknjaaGreatDoorW.PrintLast Go.Proofs.YtbboanfggaknjaaGreatDoorW.PrintMore
def gW : List UInt8 := [103, 114, 105, 100]
def zW : List UInt8 := [122, 111, 110, 101]
def uW : List UInt8 := [117, 115, 101, 114]
def rW : List UInt8 := [103, 114, 97, 110, 116]
def labZ (l : S58) : List UInt8 := labT l.f0 l.f1.toNat
def zoneL (z : S60) : List (List UInt8) := [zW, AD.txtL z.f0.f0.f0 z.f0.f0.f1 z.f0.f1.f0 z.f0.f1.f1, labZ z.f1]
def userL (u : S62) : List (List UInt8) := [uW, by_ u.f0, labZ u.f1]
def grantL (g : S64) : List (List UInt8) := [rW, by_ g.f0, labZ g.f1, labZ g.f2]
def gridL (r c : Int) : List (List UInt8) := [gW, AD.digL r.toNat, AD.digL c.toNat]
def lnT (ws : List (List UInt8)) : List UInt8 := joinL [32] ws ++ [10]
def linesT (l : List (List (List UInt8))) : List UInt8 := l.flatMap lnT
def okC (l : S58) : Prop := 0 ≤ l.f1 ∧ l.f1 < 18446744073709551616
def okN (s : ByteArray) : Prop := US.nameS s = true
structure RightP (r c : Int) (zs : List S60) (us : List S62) (gs : List S64) : Prop where
 r : 1 ≤ r ∧ r ≤ 999
 c : 1 ≤ c ∧ c ≤ 702
 z : ∀ z ∈ zs, AD.mayZ z.f0.f0.f0 z.f0.f0.f1 z.f0.f1.f0 z.f0.f1.f1 = true ∧ (0 ≤ z.f1.f0 ∧ z.f1.f0 ≤ 15) ∧ okC z.f1
 u : ∀ u ∈ us, okN u.f0 ∧ (0 ≤ u.f1.f0 ∧ u.f1.f0 ≤ 15) ∧ okC u.f1
 g : ∀ g ∈ gs, okN g.f0 ∧ (0 ≤ g.f1.f0 ∧ g.f1.f0 ≤ 15) ∧ okC g.f1 ∧ (0 ≤ g.f2.f0 ∧ g.f2.f0 ≤ 15) ∧ okC g.f2
theorem wrongZ_ok (rows cols : Int) : ∀ (zs : List S60) (i : Nat), (ZN.wrongZ rows cols i zs).2 = 0 → ∀ z ∈ zs, AD.mayZ z.f0.f0.f0 z.f0.f0.f1 z.f0.f1.f0 z.f0.f1.f1 = true ∧ (0 ≤ z.f1.f0 ∧ z.f1.f0 ≤ 15)
 | [], _, _ => by simp
 | z :: l, i, h => by
  unfold ZN.wrongZ at h
  by_cases h1 : 32 ≤ i
  ·rw [if_pos h1] at h; simp at h
  rw [if_neg h1] at h
  by_cases h2 : ZN.mayZ z.f0.f0.f0 z.f0.f0.f1 z.f0.f1.f0 z.f0.f1.f1 = true ∧ z.f0.f0.f0 ≤ z.f0.f1.f0 ∧ z.f0.f0.f1 ≤ z.f0.f1.f1
  ·rw [if_neg (not_not_intro h2)] at h
   by_cases h3 : z.f0.f1.f0 ≥ rows ∨ z.f0.f1.f1 ≥ cols
   ·rw [if_pos h3] at h; simp at h
   rw [if_neg h3] at h
   by_cases h4 : 0 ≤ z.f1.f0 ∧ z.f1.f0 ≤ 15
   ·rw [if_neg (not_not_intro h4)] at h
    intro y hy
    rcases List.mem_cons.1 hy with e | e
    ·subst e; exact ⟨h2.1, h4⟩
    ·exact wrongZ_ok rows cols l (i + 1) h y e
   ·rw [if_pos h4] at h; simp at h
  ·rw [if_pos h2] at h; simp at h
theorem usersS_ok (xs : List S62) : ∀ (us : List S62) (i : Nat), (US.usersS xs us i).2 = 0 → ∀ u ∈ us, okN u.f0 ∧ (0 ≤ u.f1.f0 ∧ u.f1.f0 ≤ 15)
 | [], _, _ => by simp
 | u :: l, i, h => by
  unfold US.usersS at h
  by_cases h1 : US.userS xs i u = 0
  ·rw [if_pos h1] at h
   intro y hy
   rcases List.mem_cons.1 hy with e | e
   ·subst e
    unfold US.userS at h1
    by_cases g1 : 16 ≤ i
    ·rw [if_pos g1] at h1; simp at h1
    rw [if_neg g1] at h1
    by_cases g2 : US.nameS y.f0 = false
    ·rw [if_pos g2] at h1; simp at h1
    rw [if_neg g2] at h1
    by_cases g3 : (xs.take i).any (US.hitU y.f0) = true
    ·rw [if_pos g3] at h1; simp at h1
    rw [if_neg g3] at h1
    by_cases g4 : US.mayS y.f1.f0 = false
    ·rw [if_pos g4] at h1; simp at h1
    refine ⟨by unfold okN; revert g2; cases US.nameS y.f0 <;> simp, ?_⟩
    unfold US.mayS at g4
    simp only [Bool.not_eq_false, Bool.and_eq_true, decide_eq_true_eq] at g4
    exact g4
   ·exact usersS_ok xs l (i + 1) h y e
  ·rw [if_neg h1] at h; exact absurd h h1
theorem grantsS_ok (us : List S62) (hu : ∀ u ∈ us, okN u.f0) : ∀ (gs : List S64) (i : Nat), (US.grantsS us gs i).2 = 0 → ∀ g ∈ gs, okN g.f0 ∧ (0 ≤ g.f1.f0 ∧ g.f1.f0 ≤ 15) ∧ (0 ≤ g.f2.f0 ∧ g.f2.f0 ≤ 15)
 | [], _, _ => by simp
 | g :: l, i, h => by
  unfold US.grantsS at h
  by_cases h1 : US.grantS us i g = 0
  ·rw [if_pos h1] at h
   intro y hy
   rcases List.mem_cons.1 hy with e | e
   ·subst e
    unfold US.grantS at h1
    by_cases g1 : 32 ≤ i
    ·rw [if_pos g1] at h1; simp at h1
    rw [if_neg g1] at h1
    by_cases g2 : us.any (US.hitU y.f0) = false
    ·rw [if_pos g2] at h1; simp at h1
    rw [if_neg g2] at h1
    by_cases g3 : (US.mayS y.f1.f0 && US.mayS y.f2.f0) = false
    ·rw [if_pos g3] at h1; simp at h1
    have g4 : us.any (US.hitU y.f0) = true := by revert g2; cases us.any (US.hitU y.f0) <;> simp
    obtain ⟨u, hm, he⟩ := List.any_eq_true.1 g4
    unfold US.hitU at he
    have e1 := toList_inj.1 (of_decide_eq_true he)
    unfold US.mayS at g3
    simp only [Bool.not_eq_false, Bool.and_eq_true, decide_eq_true_eq] at g3
    exact ⟨by rw [← e1]; exact hu u hm, g3.1, g3.2⟩
   ·exact grantsS_ok us hu l (i + 1) h y e
  ·rw [if_neg h1] at h; exact absurd h h1
theorem right_of {r c : Int} {zs : List S60} {us : List S62} {gs : List S64} (h : (wrongP r c zs us gs).2 = 0) (hz : ∀ z ∈ zs, okC z.f1) (hu : ∀ u ∈ us, okC u.f1) (hg : ∀ g ∈ gs, okC g.f1 ∧ okC g.f2) : RightP r c zs us gs := by
 by_cases hd : badDim r c
 ·rw [wrongP_dim hd] at h; simp at h
 by_cases h1 : (ZN.wrongZ r c 0 zs).2 = 0
 rotate_left
 ·rw [wrongP_z hd h1] at h; exact absurd h h1
 by_cases h2 : (US.usersS us us 0).2 = 0
 rotate_left
 ·rw [wrongP_u hd h1 h2] at h; exact absurd h h2
 by_cases h3 : (US.grantsS us gs 0).2 = 0
 rotate_left
 ·rw [wrongP_g hd h1 h2 h3] at h; exact absurd h h3
 unfold badDim at hd
 have k2 := usersS_ok us us 0 h2
 have k3 := grantsS_ok us (fun u hm => (k2 u hm).1) gs 0 h3
 refine ⟨by omega, by omega, fun z hm => ⟨(wrongZ_ok r c zs 0 h1 z hm).1, (wrongZ_ok r c zs 0 h1 z hm).2, hz z hm⟩, fun u hm => ⟨(k2 u hm).1, (k2 u hm).2, hu u hm⟩, fun g hm => ⟨(k3 g hm).1, (k3 g hm).2.1, (hg g hm).1, (k3 g hm).2.2, (hg g hm).2⟩⟩
theorem lab_nat {l : S58} (h : okC l) : l.f1 = ((l.f1.toNat : Nat) : Int) ∧ l.f1.toNat < 18446744073709551616 := by
 unfold okC at h
 omega
theorem label_ev {l : S58} (h : okC l) : Ev (fun k => label_Text.f k l.f0 l.f1) (tx (labZ l)) := by
 obtain ⟨e, hl⟩ := lab_nat h
 have := ltext_ev l.f0 l.f1.toNat hl
 rw [← e] at this
 exact this
theorem lab_len (l : S58) : (labZ l).length ≤ 200 := labT_len _ _
theorem add_eq {acc : List UInt8} {ws : List (List UInt8)} (h1 : ws.length ≤ 10) (h2 : (ws.map List.length).sum ≤ 1000000) (h3 : acc.length ≤ 1000000000) : addL acc (ws.map tx) = some (acc ++ lnT ws) := by
 have e1 : (ws.map tx).map by_ = ws := by
  rw [List.map_map]
  have : by_ ∘ tx = id := by funext l; exact by_tx l
  rw [this, List.map_id]
 have e2 : sizesT (ws.map tx) = (ws.map List.length).sum := by
  unfold sizesT
  rw [List.map_map]
  have : ByteArray.size ∘ tx = List.length := by funext l; exact size_tx l
  rw [this]
 unfold addL
 rw [if_pos ⟨by rw [List.length_map]; exact h1, by rw [e2]; exact h2, h3⟩]
 unfold lineT
 rw [e1]
 rfl
theorem lnT_len3 (a b c : List UInt8) : (lnT [a, b, c]).length = a.length + b.length + c.length + 3 := by
 unfold lnT joinL
 simp only [List.flatMap_cons, List.flatMap_nil, List.length_append, List.length_cons, List.length_nil]
 omega
theorem lnT_len4 (a b c d : List UInt8) : (lnT [a, b, c, d]).length = a.length + b.length + c.length + d.length + 4 := by
 unfold lnT joinL
 simp only [List.flatMap_cons, List.flatMap_nil, List.length_append, List.length_cons, List.length_nil]
 omega
theorem linesT_cons (x : List (List UInt8)) (l : List (List (List UInt8))) : linesT (x :: l) = lnT x ++ linesT l := by unfold linesT; rw [List.flatMap_cons]
theorem zone_len (z : S60) : (lnT (zoneL z)).length ≤ 300 := by
 unfold zoneL
 rw [lnT_len3]
 have h1 := AD.txtL_len z.f0.f0.f0 z.f0.f0.f1 z.f0.f1.f0 z.f0.f1.f1
 have h2 := lab_len z.f1
 have h3 : zW.length = 4 := rfl
 omega
theorem okN_len {s : ByteArray} (h : okN s) : (by_ s).length ≤ 16 := by have := (user_hi s h).2; rw [size_by] at this; exact this
theorem user_len {u : S62} (h : okN u.f0) : (lnT (userL u)).length ≤ 300 := by
 unfold userL
 rw [lnT_len3]
 have h1 := okN_len h
 have h2 := lab_len u.f1
 have h3 : uW.length = 4 := rfl
 omega
theorem grant_len {g : S64} (h : okN g.f0) : (lnT (grantL g)).length ≤ 500 := by
 unfold grantL
 rw [lnT_len4]
 have h1 := okN_len h
 have h2 := lab_len g.f1
 have h4 := lab_len g.f2
 have h3 : rW.length = 5 := rfl
 omega
theorem ptz_ev : ∀ (l : List S60) (acc : List UInt8), (∀ z ∈ l, okC z.f1) → acc.length + 500 * l.length ≤ 100000000 → Ev (fun k => ptz k acc l) (acc ++ linesT (l.map zoneL))
 | [], acc, _, _ => by simp only [List.map_nil]; unfold linesT; simp only [List.flatMap_nil, List.append_nil]; exact Ev.now _
 | z :: l, acc, h, hl => by
  rw [List.length_cons] at hl
  refine ev_bind (AD.text_ev _ _ _ _) (ev_bind (label_ev (h z (by simp))) ?_)
  have e := add_eq (acc := acc) (ws := zoneL z) (by simp [zoneL]) (by unfold zoneL; simp only [List.map_cons, List.map_nil, List.sum_cons, List.sum_nil]; have := zone_len z; unfold zoneL at this; rw [lnT_len3] at this; omega) (by omega)
  have e2 : addL acc [⟨#[122, 111, 110, 101]⟩, tx (AD.txtL z.f0.f0.f0 z.f0.f0.f1 z.f0.f1.f0 z.f0.f1.f1), tx (labZ z.f1)] = some (acc ++ lnT (zoneL z)) := e
  rw [e2]
  refine ev_bsome ?_
  rw [List.map_cons, linesT_cons, ← List.append_assoc]
  exact ptz_ev l _ (fun y hy => h y (List.mem_cons_of_mem _ hy)) (by rw [List.length_append]; have := zone_len z; omega)
theorem ptu_ev : ∀ (l : List S62) (acc : List UInt8), (∀ z ∈ l, okN z.f0 ∧ okC z.f1) → acc.length + 500 * l.length ≤ 100000000 → Ev (fun k => ptu k acc l) (acc ++ linesT (l.map userL))
 | [], acc, _, _ => by simp only [List.map_nil]; unfold linesT; simp only [List.flatMap_nil, List.append_nil]; exact Ev.now _
 | z :: l, acc, h, hl => by
  rw [List.length_cons] at hl
  refine ev_bind (label_ev (h z (by simp)).2) ?_
  have hlen := user_len (h z (by simp)).1
  have e := add_eq (acc := acc) (ws := userL z) (by simp [userL]) (by unfold userL; simp only [List.map_cons, List.map_nil, List.sum_cons, List.sum_nil]; have := hlen; unfold userL at this; rw [lnT_len3] at this; omega) (by omega)
  have e2 : addL acc [⟨#[117, 115, 101, 114]⟩, z.f0, tx (labZ z.f1)] = some (acc ++ lnT (userL z)) := by
   have e3 : (userL z).map tx = [⟨#[117, 115, 101, 114]⟩, z.f0, tx (labZ z.f1)] := by unfold userL; simp only [List.map_cons, List.map_nil, tx_by]; rfl
   rw [← e3]; exact e
  rw [e2]
  refine ev_bsome ?_
  rw [List.map_cons, linesT_cons, ← List.append_assoc]
  exact ptu_ev l _ (fun y hy => h y (List.mem_cons_of_mem _ hy)) (by rw [List.length_append]; omega)
theorem ptg_ev : ∀ (l : List S64) (acc : List UInt8), (∀ z ∈ l, okN z.f0 ∧ okC z.f1 ∧ okC z.f2) → acc.length + 500 * l.length ≤ 100000000 → Ev (fun k => ptg k acc l) (acc ++ linesT (l.map grantL))
 | [], acc, _, _ => by simp only [List.map_nil]; unfold linesT; simp only [List.flatMap_nil, List.append_nil]; exact Ev.now _
 | z :: l, acc, h, hl => by
  rw [List.length_cons] at hl
  refine ev_bind (label_ev (h z (by simp)).2.1) (ev_bind (label_ev (h z (by simp)).2.2) ?_)
  have hlen := grant_len (h z (by simp)).1
  have e := add_eq (acc := acc) (ws := grantL z) (by simp [grantL]) (by unfold grantL; simp only [List.map_cons, List.map_nil, List.sum_cons, List.sum_nil]; have := hlen; unfold grantL at this; rw [lnT_len4] at this; omega) (by omega)
  have e2 : addL acc [⟨#[103, 114, 97, 110, 116]⟩, z.f0, tx (labZ z.f1), tx (labZ z.f2)] = some (acc ++ lnT (grantL z)) := by
   have e3 : (grantL z).map tx = [⟨#[103, 114, 97, 110, 116]⟩, z.f0, tx (labZ z.f1), tx (labZ z.f2)] := by unfold grantL; simp only [List.map_cons, List.map_nil, tx_by]; rfl
   rw [← e3]; exact e
  rw [e2]
  refine ev_bsome ?_
  rw [List.map_cons, linesT_cons, ← List.append_assoc]
  exact ptg_ev l _ (fun y hy => h y (List.mem_cons_of_mem _ hy)) (by rw [List.length_append]; omega)
end Go.Proofs.YtbboanfggaknjaaGreatDoor.X
/- A policy's text read again. -/
set_option linter.unusedVariables false
set_option linter.unusedSimpArgs false
namespace Go.Proofs.YtbboanfggaknjaaGreatDoor.X
open Go.RowKit Go.Proofs.YtbboanfggaknjaaGreatDoorW.PrintWords Go.Proofs.YtbboanfggaknjaaGreatDoorW.PrintLast Go.Proofs.YtbboanfggaknjaaGreatDoorW.PrintMore
def textP (r c : Int) (zs : List S60) (us : List S62) (gs : List S64) : List UInt8 := lnT (gridL r c) ++ (linesT (zs.map zoneL) ++ (linesT (us.map userL) ++ linesT (gs.map grantL)))
theorem grid_len {r c : Int} (hr : 1 ≤ r ∧ r ≤ 999) (hc : 1 ≤ c ∧ c ≤ 702) : (lnT (gridL r c)).length ≤ 50 := by
 unfold gridL
 rw [lnT_len3]
 have h1 := AD.digL_len r.toNat
 have h2 := AD.digL_len c.toNat
 have h3 : gW.length = 4 := rfl
 omega
theorem linesT_len (N : Nat) : ∀ l : List (List (List UInt8)), (∀ x ∈ l, (lnT x).length ≤ N) → (linesT l).length ≤ N * l.length
 | [], _ => by simp [linesT]
 | x :: l, h => by
  rw [linesT_cons, List.length_append, List.length_cons, Nat.mul_succ]
  have h1 := h x (by simp)
  have h2 := linesT_len N l fun y hy => h y (List.mem_cons_of_mem _ hy)
  omega
structure FewP (zs : List S60) (us : List S62) (gs : List S64) : Prop where
 z : zs.length ≤ 50
 u : us.length ≤ 30
 g : gs.length ≤ 50
theorem zlines_len (zs : List S60) : (linesT (zs.map zoneL)).length ≤ 300 * zs.length := by
 have := linesT_len 300 (zs.map zoneL) (fun x hx => by obtain ⟨z, _, rfl⟩ := List.mem_map.1 hx; exact zone_len z)
 rw [List.length_map] at this
 exact this
theorem ulines_len {us : List S62} (h : ∀ u ∈ us, okN u.f0) : (linesT (us.map userL)).length ≤ 300 * us.length := by
 have := linesT_len 300 (us.map userL) (fun x hx => by obtain ⟨z, hm, rfl⟩ := List.mem_map.1 hx; exact user_len (h z hm))
 rw [List.length_map] at this
 exact this
theorem ptext_ev {r c : Int} {zs : List S60} {us : List S62} {gs : List S64} (hs : SmallP zs us gs) (hw : (wrongP r c zs us gs).2 = 0) (h : RightP r c zs us gs) (hf : FewP zs us gs) : Ev (fun k => policy_Text.f k r c zs us gs) (tx (textP r c zs us gs)) := by
 unfold policy_Text.f
 refine ev_bind (pwrong_ev r c zs us gs hs) (ev_pos hw ?_)
 have er : r = ((r.toNat : Nat) : Int) := by have := h.r; omega
 have ec : c = ((c.toNat : Nat) : Int) := by have := h.c; omega
 have e1 : strconv_Itoa.f r = some (tx (AD.digL r.toNat)) := by
  conv => lhs; rw [er]
  exact AD.itoa_eq r.toNat (by have := h.r; omega)
 have e2 : strconv_Itoa.f c = some (tx (AD.digL c.toNat)) := by
  conv => lhs; rw [ec]
  exact AD.itoa_eq c.toNat (by have := h.c; omega)
 rw [e1, e2]
 have hg := grid_len h.r h.c
 have e3 : addL [] [⟨#[103, 114, 105, 100]⟩, tx (AD.digL r.toNat), tx (AD.digL c.toNat)] = some ([] ++ lnT (gridL r c)) := by
  have := add_eq (acc := []) (ws := gridL r c) (by simp [gridL]) (by unfold gridL at hg ⊢; rw [lnT_len3] at hg; simp only [List.map_cons, List.map_nil, List.sum_cons, List.sum_nil]; omega) (by simp)
  exact this
 refine ev_bsome (ev_bsome ?_)
 rw [e3, List.nil_append]
 refine ev_bsome ?_
 have l1 := zlines_len zs
 have l2 := ulines_len fun u hu => (h.u u hu).1
 have := hf.z
 have := hf.u
 have := hf.g
 refine ev_bind (ptz_ev zs _ (fun z hz => (h.z z hz).2.2) (by omega)) ?_
 refine ev_bind (ptu_ev us _ (fun z hz => ⟨(h.u z hz).1, (h.u z hz).2.2⟩) (by rw [List.length_append]; omega)) ?_
 refine ev_bind (ptg_ev gs _ (fun z hz => ⟨(h.g z hz).1, (h.g z hz).2.2.1, (h.g z hz).2.2.2.2⟩) (by rw [List.length_append, List.length_append]; omega)) ?_
 unfold textP
 rw [← List.append_assoc, ← List.append_assoc]
 exact Ev.now _
def Ev2 {α : Type} (g : Nat → Nat → Option α) (r : α) : Prop := ∃ K, ∀ k m, K ≤ k → K ≤ m → g k m = some r
theorem Ev2.now {α : Type} (r : α) : Ev2 (fun _ _ => some r) r := ⟨0, fun _ _ _ _ => rfl⟩
theorem Ev2.of1 {α : Type} {g : Nat → Option α} {r : α} (h : Ev g r) : Ev2 (fun k _ => g k) r := by
 obtain ⟨K, hK⟩ := h
 exact ⟨K, fun k _ hk _ => hK k hk⟩
theorem Ev2.step {α : Type} {f g : Nat → Nat → Option α} {r : α} (h : ∀ k m, f k (m + 1) = g k m) (hg : Ev2 g r) : Ev2 f r := by
 obtain ⟨K, hK⟩ := hg
 refine ⟨K + 1, fun k m hk hm => ?_⟩
 cases m with
 | zero => omega
 | succ m => rw [h]; exact hK k m (by omega) (by omega)
theorem Ev2.bind {α β : Type} {g : Nat → Nat → Option α} {f : Nat → Nat → α → Option β} {a : α} {r : β} (h : Ev2 g a) (k : Ev2 (fun n m => f n m a) r) : Ev2 (fun n m => (g n m).bind (f n m)) r := by
 obtain ⟨K, hK⟩ := h
 obtain ⟨L, hL⟩ := k
 refine ⟨K + L, fun n m hn hm => ?_⟩
 show (g n m).bind (f n m) = some r
 rw [hK n m (by omega) (by omega)]
 exact hL n m (by omega) (by omega)
theorem Ev2.pos {α : Type} {c : Prop} [Decidable c] {f g : Nat → Nat → Option α} {r : α} (h : c) (h1 : Ev2 f r) : Ev2 (fun k m => if c then f k m else g k m) r := by simp only [if_pos h]; exact h1
theorem Ev2.neg {α : Type} {c : Prop} [Decidable c] {f g : Nat → Nat → Option α} {r : α} (h : ¬ c) (h1 : Ev2 g r) : Ev2 (fun k m => if c then f k m else g k m) r := by simp only [if_neg h]; exact h1
theorem Ev2.diag {α : Type} {g : Nat → Nat → Option α} {r : α} (h : Ev2 g r) : Ev (fun k => g k k) r := by
 obtain ⟨K, hK⟩ := h
 exact ⟨K, fun k hk => hK k k hk hk⟩
theorem tx_ne {l : List UInt8} (h : l ≠ []) : (tx l).toList ≠ [] := by rw [toList_by, by_tx]; exact h
end Go.Proofs.YtbboanfggaknjaaGreatDoor.X
/- Each line of a policy's text is put to a policy as it was; the whole text is read as that policy. -/
set_option linter.unusedVariables false
set_option linter.unusedSimpArgs false
namespace Go.Proofs.YtbboanfggaknjaaGreatDoor.X
open Go.RowKit Go.Proofs.YtbboanfggaknjaaGreatDoorW.PrintWords Go.Proofs.YtbboanfggaknjaaGreatDoorW.PrintLast Go.Proofs.YtbboanfggaknjaaGreatDoorW.PrintMore
theorem tx_lst (l : List UInt8) : (tx l).toList = l := by rw [toList_by, by_tx]
theorem parse_end {r c : Int} {zs : List S60} {us : List S62} {gs : List S64} (hs : SmallP zs us gs) (last : Int) (n : Nat) (hn : 0 < n) : Ev2 (fun k m => policy_Parse.l k m last n (tx []) r c zs us gs) (fin7 (wrongP r c zs us gs).2 (wrongP r c zs us gs).1 r c zs us gs) := by
 refine Ev2.step (fun k m => policy_Parse.l.eq_2 ..) (Ev2.neg ?_ ?_)
 ·rintro (h | h)
  ·exact h (tx_lst [])
  ·omega
 ·exact Ev2.bind (Ev2.of1 (pwrong_ev r c zs us gs hs)) (Ev2.now _)
end Go.Proofs.YtbboanfggaknjaaGreatDoor.X
/- Words and lines of a text: plain answers. -/
set_option linter.unusedVariables false
set_option linter.unusedSimpArgs false
namespace Go.Proofs.YtbboanfggaknjaaGreatDoor.X
open Go.RowKit Go.Proofs.YtbboanfggaknjaaGreatDoorW.PrintWords Go.Proofs.YtbboanfggaknjaaGreatDoorW.PrintLast Go.Proofs.YtbboanfggaknjaaGreatDoorW.PrintMore
theorem words_l0 (t : List UInt8) (ht : t.length ≤ 5000) : ∀ (d i : Nat), i + d = t.length → ∀ (acc : List ByteArray) (s : Nat), s ≤ i → acc.length ≤ i → 
  Ev (fun k => oculusref07_Words.l0 k (tx t) acc (s : Int) (i : Int)) (acc ++ (match splC 32 (t.drop i) with | [] => [] | p :: ps => ((t.drop s).take (i - s) ++ p) :: ps).map tx)
 | 0, i, hi, acc, s, hs, ha => by
  refine Ev.step (fun k => oculusref07_Words.l0.eq_2 _ _ _ _ _) ?_
  have e : t.drop i = [] := List.drop_eq_nil_of_le (by omega)
  refine ev_pos (by rw [size_tx]; omega) (ev_pos (by rw [size_tx]; omega) (ev_pos (by omega) (ev_pos (by omega) (ev_pos (by omega) ?_))))
  refine Ev.step (fun k => oculusref07_Words.l0.eq_2 _ _ _ _ _) ?_
  have e2 : wrap64 ((i : Int) + 1) = ((i + 1 : Nat) : Int) := w64s (n := 10000) (by omega) (by omega)
  simp only [e2]
  refine ev_neg (by rw [size_tx]; omega) ?_
  rw [e]
  have e3 : (tx t).extract (s : Int).toNat (i : Int).toNat = tx ((t.drop s).take (i - s)) := by rw [ext_mid, by_tx]; rfl
  rw [e3]
  simp only [splC, List.map_cons, List.map_nil, List.append_nil]
  exact Ev.now _
 | d + 1, i, hi, acc, s, hs, ha => by
  refine Ev.step (fun k => oculusref07_Words.l0.eq_2 _ _ _ _ _) ?_
  have hlt : i < t.length := by omega
  have e2 : wrap64 ((i : Int) + 1) = ((i + 1 : Nat) : Int) := w64s (n := 10000) (by omega) (by omega)
  have hdr : t.drop i = t[i] :: t.drop (i + 1) := List.drop_eq_getElem_cons hlt
  refine ev_pos (by rw [size_tx]; omega) (ev_neg (by rw [size_tx]; omega) (ev_pos (by omega) (ev_pos (by rw [size_tx]; omega) ?_)))
  rw [bt_tx t i hlt]
  simp only [e2]
  by_cases hb : t[i] = 32
  ·refine ev_pos (by rw [hb]; rfl) (ev_pos (by omega) (ev_pos (by omega) (ev_pos (by omega) ?_)))
   have h := words_l0 t ht d (i + 1) (by omega) (acc ++ [(tx t).extract (s : Int).toNat (i : Int).toNat]) (i + 1) (Nat.le_refl _) (by simp; omega)
   have e3 : (tx t).extract (s : Int).toNat (i : Int).toNat = tx ((t.drop s).take (i - s)) := by rw [ext_mid, by_tx]; rfl
   rw [hdr, hb, splC_cons_eq]
   refine Ev.congr (fun _ => rfl) ?_
   rw [e3] at h ⊢
   obtain ⟨p, ps, hp⟩ := splC_ne 32 (t.drop (i + 1))
   rw [hp] at h ⊢
   simp only [Nat.sub_self, List.take_zero, List.nil_append, List.map_cons, List.append_assoc, List.cons_append, List.append_nil] at h ⊢
   exact h
  ·refine ev_neg (fun h => hb (u8_inj (by have h9 : ((t[i].toNat : Int)) = 32 := h; show t[i].toNat = 32; omega))) ?_
   have h := words_l0 t ht d (i + 1) (by omega) acc s (by omega) (by omega)
   obtain ⟨p, ps, hp⟩ := splC_ne 32 (t.drop (i + 1))
   rw [hdr, splC_cons_ne hb hp]
   rw [hp] at h
   have e4 : (t.drop s).take (i + 1 - s) ++ p = (t.drop s).take (i - s) ++ t[i] :: p := by
    rw [show i + 1 - s = (i - s) + 1 by omega, List.take_succ_eq_append_getElem (by simp; omega), List.append_assoc]
    congr 1
    simp only [List.getElem_drop, List.singleton_append]
    congr 2
    omega
   dsimp only at h ⊢
   rw [e4] at h
   exact h
theorem words_ev (t : List UInt8) (ht : t.length ≤ 5000) : Ev (fun k => oculusref07_Words.f k (tx t)) ((splC 32 t).map tx) := by
 have h := words_l0 t ht t.length 0 (by omega) [] 0 (Nat.le_refl _) (Nat.le_refl _)
 obtain ⟨p, ps, hp⟩ := splC_ne 32 t
 rw [List.drop_zero, hp] at h
 rw [hp]
 have h2 : Ev (fun k => oculusref07_Words.l0 k (tx t) [] 0 0) ((p :: ps).map tx) := by simpa using h
 exact h2
def lns : List UInt8 → List (List UInt8)
 | [] => []
 | b :: l => if b = 10 then [10] :: lns l else match lns l with | [] => [[b]] | p :: ps => (b :: p) :: ps
theorem lns_cut (l : List UInt8) (h : l ≠ []) : lns l = if (cutL 10 l).2.2 = true then ((cutL 10 l).1 ++ [10]) :: lns (cutL 10 l).2.1 else [l] := by
 induction l with
 | nil => exact absurd rfl h
 | cons b l ih =>
  by_cases hb : b = 10
  ·simp [lns, cutL, hb]
  ·by_cases hl : l = []
   ·subst hl; simp [lns, cutL, hb]
   ·have := ih hl
    simp only [lns, if_neg hb, cutL]
    rw [this]
    by_cases hc : (cutL 10 l).2.2 = true
    ·simp [hc]
    ·simp [hc]
def lnsR (t : List UInt8) (s i : Nat) : List (List UInt8) := match lns (t.drop i) with | [] => (if s < i then [(t.drop s).take (i - s)] else if t = [] then [[]] else []) | p :: ps => ((t.drop s).take (i - s) ++ p) :: ps
theorem lines_l0 (t : List UInt8) (ht : t.length ≤ 5000) : ∀ (d i : Nat), i + d = t.length → ∀ (acc : List ByteArray) (s : Nat), s ≤ i → acc.length ≤ i →
  Ev (fun k => oculusref07_Lines.l0 k (tx t) acc (s : Int) (i : Int)) (acc ++ (lnsR t s i).map tx)
 | 0, i, hi, acc, s, hs, ha => by
  refine Ev.step (fun k => oculusref07_Lines.l0.eq_2 _ _ _ _ _) ?_
  have e : t.drop i = [] := List.drop_eq_nil_of_le (by omega)
  refine ev_neg (by rw [size_tx]; omega) ?_
  unfold lnsR
  rw [e]
  have e3 : (tx t).extract (s : Int).toNat (tx t).size = tx ((t.drop s).take (i - s)) := by rw [ext_mid, by_tx, size_tx, show i = t.length by omega]; rfl
  rw [e3]
  by_cases h : s < i
  ·refine ev_pos (by rw [size_tx]; omega) (ev_pos (by omega) (ev_pos (by rw [size_tx]; omega) (ev_pos (by omega) ?_)))
   simp only [lns, if_pos h, List.map_cons, List.map_nil]
   exact Ev.now _
  ·refine ev_neg (by rw [size_tx]; omega) ?_
   by_cases h2 : t = []
   ·refine ev_pos (by rw [size_tx, h2]; rfl) (ev_pos (by omega) (ev_pos (by rw [size_tx]; omega) (ev_pos (by omega) ?_)))
    simp only [lns, if_neg h, if_pos h2, List.map_cons, List.map_nil]
    subst h2
    rw [List.drop_nil, List.take_nil]
    exact Ev.now _
   ·refine ev_neg (by rw [size_tx]; intro h3; exact h2 (List.eq_nil_of_length_eq_zero (by omega))) ?_
    simp only [lns, if_neg h, if_neg h2, List.map_nil, List.append_nil]
    exact Ev.now _
 | d + 1, i, hi, acc, s, hs, ha => by
  refine Ev.step (fun k => oculusref07_Lines.l0.eq_2 _ _ _ _ _) ?_
  have hlt : i < t.length := by omega
  have e2 : wrap64 ((i : Int) + 1) = ((i + 1 : Nat) : Int) := w64s (n := 10000) (by omega) (by omega)
  have hdr : t.drop i = t[i] :: t.drop (i + 1) := List.drop_eq_getElem_cons hlt
  refine ev_pos (by rw [size_tx]; omega) (ev_pos (by omega) ?_)
  rw [bt_tx t i hlt]
  simp only [e2]
  have ht2 : (t.drop s).take (i + 1 - s) = (t.drop s).take (i - s) ++ [t[i]] := by
   rw [show i + 1 - s = (i - s) + 1 by omega, List.take_succ_eq_append_getElem (by simp; omega)]
   congr 1
   simp only [List.getElem_drop]
   congr 2
   omega
  by_cases hb : t[i] = 10
  ·refine ev_pos (by rw [hb]; rfl) (ev_pos (by omega) (ev_pos (by omega) (ev_pos (by rw [size_tx]; omega) (ev_pos (by omega) ?_))))
   have h := lines_l0 t ht d (i + 1) (by omega) (acc ++ [(tx t).extract (s : Int).toNat ((i + 1 : Nat) : Int).toNat]) (i + 1) (Nat.le_refl _) (by simp; omega)
   have e3 : (tx t).extract (s : Int).toNat ((i + 1 : Nat) : Int).toNat = tx ((t.drop s).take (i + 1 - s)) := by rw [ext_mid, by_tx]; rfl
   have e4 : lnsR t s i = ((t.drop s).take (i + 1 - s)) :: lnsR t (i + 1) (i + 1) := by
    unfold lnsR
    rw [hdr, hb]
    simp only [lns, if_true]
    rw [ht2, hb]
    cases lns (t.drop (i + 1)) with
    | nil => simp only [Nat.lt_irrefl, if_false]; rw [if_neg (by intro e; rw [e] at hlt; simp at hlt)]
    | cons p ps => simp
   rw [e4]
   rw [e3] at h ⊢
   simpa using h
  ·refine ev_neg (fun h => hb (u8_inj (by have h9 : ((t[i].toNat : Int)) = 10 := h; show t[i].toNat = 10; omega))) ?_
   have h := lines_l0 t ht d (i + 1) (by omega) acc s (by omega) (by omega)
   have e4 : lnsR t s i = lnsR t s (i + 1) := by
    unfold lnsR
    rw [hdr]
    simp only [lns, if_neg hb]
    rw [ht2]
    cases lns (t.drop (i + 1)) with
    | nil => simp only [if_pos (show s < i + 1 by omega)]
    | cons p ps => simp
   rw [e4]
   exact h
def lines0 (t : List UInt8) : List (List UInt8) := if t = [] then [[]] else lns t
theorem lines_ev (t : List UInt8) (ht : t.length ≤ 5000) : Ev (fun k => oculusref07_Lines.f k (tx t)) ((lines0 t).map tx) := by
 have h := lines_l0 t ht t.length 0 (by omega) [] 0 (Nat.le_refl _) (Nat.le_refl _)
 have e : lnsR t 0 0 = lines0 t := by
  unfold lnsR lines0
  rw [List.drop_zero]
  by_cases h0 : t = []
  ·subst h0; simp [lns]
  ·rw [if_neg h0]
   have := lns_cut t h0
   cases hl : lns t with
   | nil => rw [hl] at this; by_cases hc : (cutL 10 t).2.2 = true <;> simp [hc] at this
   | cons p ps => simp [h0]
 rw [e] at h
 show Ev (fun k => oculusref07_Lines.l0 k (tx t) [] 0 0) _
 simpa using h
end Go.Proofs.YtbboanfggaknjaaGreatDoor.X
/- One line of a policy, read by the code and by the reference. -/
set_option linter.unusedVariables false
set_option linter.unusedSimpArgs false
namespace Go.Proofs.YtbboanfggaknjaaGreatDoor.X
open Go.RowKit Go.Proofs.YtbboanfggaknjaaGreatDoorW.PrintWords Go.Proofs.YtbboanfggaknjaaGreatDoorW.PrintLast Go.Proofs.YtbboanfggaknjaaGreatDoorW.PrintMore
theorem srch_back (f : Nat → List UInt8) (t : List UInt8) : ∀ d i n, AD.srch f t d i = (n, true) → ∃ j : Nat, n = (j : Int) ∧ j < i + d ∧ f j = t
 | 0, i, n, h => by simp [AD.srch] at h
 | d + 1, i, n, h => by
  simp only [AD.srch] at h
  by_cases hf : f i = t
  ·rw [if_pos hf] at h
   simp only [Prod.mk.injEq, and_true] at h
   exact ⟨i, h.symm, by omega, hf⟩
  ·rw [if_neg hf] at h
   obtain ⟨j, h1, h2, h3⟩ := srch_back f t d (i + 1) n h
   exact ⟨j, h1, by omega, h3⟩
theorem num_back {t : List UInt8} (h : (AD.numS t).2 = true) : ∃ j : Nat, (AD.numS t).1 = (j : Int) ∧ j < 999 ∧ AD.digL (j + 1) = t := by
 have h2 : AD.numS t = ((AD.numS t).1, true) := Prod.ext rfl h
 rw [← AD.srch_num] at h2
 obtain ⟨j, h3, h4, h5⟩ := srch_back _ t 999 0 _ h2
 rw [AD.srch_num] at h3
 exact ⟨j, h3, by omega, h5⟩
theorem lab_back {t : List UInt8} (h : (resL (labP t)).2.2 = true) : okC ⟨(resL (labP t)).1, (resL (labP t)).2.1⟩ ∧ labZ ⟨(resL (labP t)).1, (resL (labP t)).2.1⟩ = t := by
 cases hp : labP t with
 | none => rw [hp] at h; cases h
 | some y =>
  obtain ⟨lv, c⟩ := y
  obtain ⟨h2, _, h3⟩ := labP_back t lv c hp
  refine ⟨⟨by show (0 : Int) ≤ (c : Int); omega, by show (c : Int) < _; omega⟩, ?_⟩
  unfold labZ
  show labT lv ((c : Int)).toNat = t
  rw [Int.toNat_natCast]
  exact h2
theorem span_back {t : List UInt8} (h : (AD.spP t).2.2.2.2 = true) : AD.txtL (AD.spP t).1 (AD.spP t).2.1 (AD.spP t).2.2.1 (AD.spP t).2.2.2.1 = t := AD.sp_back (l := t) (by rw [← h])
theorem spl_len (c : UInt8) : ∀ l : List UInt8, ∀ q ∈ splC c l, q.length ≤ l.length
 | [], q, h => by simp [splC] at h; simp [h]
 | b :: l, q, h => by
  by_cases hb : b = c
  ·subst hb
   rw [splC_cons_eq] at h
   rcases List.mem_cons.1 h with rfl | h
   ·simp
   ·have := spl_len b l q h; simp; omega
  ·obtain ⟨p, ps, hp⟩ := splC_ne c l
   rw [splC_cons_ne hb hp] at h
   have hh := spl_len c l
   rw [hp] at hh
   rcases List.mem_cons.1 h with rfl | h
   ·have := hh p (by simp); simp; omega
   ·have := hh q (List.mem_cons_of_mem _ h); simp; omega
theorem spl_join (l : List UInt8) : l = joinL [32] (splC 32 l) := by
 obtain ⟨p, ps, hp⟩ := splC_ne 32 l
 rw [hp, join_joi, ← hp, joiC_splC]
def Told7 (q : List UInt8) (kp : Int) (r c : Int) (zs : List S60) (us : List S62) (gs : List S64) (P : Int × Int × List S60 × List S62 × List S64) : Prop :=
 (kp = 0 ∧ ∃ rp cp, P = (rp, cp, zs, us, gs) ∧ q = joinL [32] (gridL rp cp)) ∨
 (kp = 1 ∧ ∃ z, P = (r, c, zs ++ [z], us, gs) ∧ okC z.f1 ∧ q = joinL [32] (zoneL z)) ∨
 (kp = 2 ∧ ∃ u, P = (r, c, zs, us ++ [u], gs) ∧ okC u.f1 ∧ u.f0.size ≤ 5000 ∧ q = joinL [32] (userL u)) ∨
 (kp = 3 ∧ ∃ g, P = (r, c, zs, us, gs ++ [g]) ∧ okC g.f1 ∧ okC g.f2 ∧ q = joinL [32] (grantL g))
theorem line_in (q : List UInt8) : ¬ noLF (tx (q ++ [10])) ∧ cutLF (tx (q ++ [10])) = tx q := by
 have hs : (tx (q ++ [10])).size = q.length + 1 := by rw [size_tx, List.length_append]; rfl
 constructor
 ·rintro (h | h)
  ·omega
  ·apply h
   have := bt_tx (q ++ [10]) q.length (by simp)
   rw [hs, show ((q.length + 1 : Nat) : Int) - 1 = (q.length : Int) by omega, this]
   simp
 ·unfold cutLF
  rw [hs, ext_mid, by_tx]
  congr 1
  simp
def Both7 (q : List UInt8) (r c : Int) (zs : List S60) (us : List S62) (gs : List S64) : Prop :=
 ∃ P R : T6, Ev (fun k => policy_add.f k r c zs us gs ((splC 32 q).map tx)) P ∧ Ev (fun k => oculusref07_line.f k r c zs us gs (tx (q ++ [10]))) R ∧ ((P.1 = 4 ∧ R.1 = 0) ∨ (R.1 = P.1 + 1 ∧ R.2 = P.2 ∧ (0 ≤ P.1 ∧ P.1 ≤ 3) ∧ Told7 q P.1 r c zs us gs P.2))
theorem line_both (q : List UInt8) (hq : q.length ≤ 4000) (r c : Int) (zs : List S60) (us : List S62) (gs : List S64) (hz : zs.length ≤ 100000) (hu : us.length ≤ 100000) (hg : gs.length ≤ 100000) : Both7 q r c zs us gs := by
 have hw := words_ev q (by omega)
 have hl := spl_len 32 q
 have hj := spl_join q
 obtain ⟨hn, hc⟩ := line_in q
 unfold Both7 policy_add.f oculusref07_line.f
 rw [hc]
 generalize splC 32 q = ws at hw hl hj
 have go : ∀ {α : Type} {f : Nat → List ByteArray → Option α} {g : Nat → Option α} {v : α}, Ev (fun k => f k (ws.map tx)) v → Ev (fun k => if noLF (tx (q ++ [10])) then g k else (oculusref07_Words.f k (tx q)).bind (f k)) v := fun h => ev_neg hn (ev_bind hw h)
 have lenw : (ws.map tx).length = ws.length := List.length_map ..
 by_cases k1 : (ws.map tx).length = 3 ∧ (wrd (ws.map tx) 0).toList = [103, 114, 105, 100]
 ·obtain ⟨a, b, d, rfl⟩ : ∃ a b d, ws = [a, b, d] := by
   have := k1.1; rw [lenw] at this
   match ws, this with
   | [a, b, d], _ => exact ⟨a, b, d, rfl⟩
  have ha : a = gW := by have := k1.2; rw [show wrd ([a, b, d].map tx) 0 = tx a from rfl, tx_lst] at this; exact this
  subst ha
  by_cases hb : (AD.numS b).2 = true ∧ (AD.numS d).2 = true
  ·refine ⟨_, _, ev_pos k1 (ev_bind (AD.number_ev b) (ev_bind (AD.number_ev d) (ev_pos hb (Ev.now _)))), go (ev_pos k1 (ev_bind (AD.rnum_ev b) (ev_bind (AD.rnum_ev d) (Ev.now _)))), Or.inr ⟨?_, rfl, ⟨by show (0 : Int) ≤ (0 : Int); decide, by show (0 : Int) ≤ 3; decide⟩, Or.inl ⟨rfl, _, _, rfl, ?_⟩⟩⟩
   ·show (if (AD.numS b).2 = true ∧ (AD.numS d).2 = true then (1 : Int) else 0) = 0 + 1
    rw [if_pos hb]; rfl
   ·obtain ⟨i, h1, h2, h3⟩ := num_back hb.1
    obtain ⟨j, h4, h5, h6⟩ := num_back hb.2
    rw [hj, h1, h4, w64s (n := 10000) (by omega) (by omega), w64s (n := 10000) (by omega) (by omega)]
    unfold gridL
    rw [Int.toNat_natCast, Int.toNat_natCast, h3, h6]
  ·refine ⟨_, _, ev_pos k1 (ev_bind (AD.number_ev b) (ev_bind (AD.number_ev d) (ev_neg hb (Ev.now _)))), go (ev_pos k1 (ev_bind (AD.rnum_ev b) (ev_bind (AD.rnum_ev d) (Ev.now _)))), Or.inl ⟨rfl, ?_⟩⟩
   exact if_neg hb
 by_cases k2 : (ws.map tx).length = 3 ∧ (wrd (ws.map tx) 0).toList = [122, 111, 110, 101]
 ·obtain ⟨a, b, d, rfl⟩ : ∃ a b d, ws = [a, b, d] := by
   have := k2.1; rw [lenw] at this
   match ws, this with
   | [a, b, d], _ => exact ⟨a, b, d, rfl⟩
  have ha : a = zW := by have := k2.2; rw [show wrd ([a, b, d].map tx) 0 = tx a from rfl, tx_lst] at this; exact this
  subst ha
  have lb : b.length ≤ 4000 := Nat.le_trans (hl b (by simp)) hq
  have ld : d.length ≤ 4000 := Nat.le_trans (hl d (by simp)) hq
  by_cases hb : (AD.spP b).2.2.2.2 = true ∧ (resL (labP d)).2.2 = true
  ·refine ⟨_, _, ev_neg k1 (ev_pos k2 (ev_bind (AD.spparse_ev b (by omega)) (ev_bind (lparse_ev d (by omega)) (ev_pos hb (ev_pos hz (Ev.now _)))))), go (ev_neg k1 (ev_pos k2 (ev_bind (AD.rspparse_ev b (by omega)) (ev_bind (rlparse_ev d (by omega)) (ev_pos hz (Ev.now _)))))), Or.inr ⟨?_, rfl, ⟨by show (0 : Int) ≤ (1 : Int); decide, by show (1 : Int) ≤ 3; decide⟩, Or.inr (Or.inl ⟨rfl, _, rfl, (lab_back hb.2).1, ?_⟩)⟩⟩
   ·show (if (AD.spP b).2.2.2.2 = true ∧ (resL (labP d)).2.2 = true then (2 : Int) else 0) = 1 + 1
    rw [if_pos hb]; rfl
   ·unfold zoneL
    have e1 := span_back hb.1
    have e2 := (lab_back hb.2).2
    simp only at e1 e2 ⊢
    rw [e1, e2]
    exact hj
  ·refine ⟨_, _, ev_neg k1 (ev_pos k2 (ev_bind (AD.spparse_ev b (by omega)) (ev_bind (lparse_ev d (by omega)) (ev_neg hb (Ev.now _))))), go (ev_neg k1 (ev_pos k2 (ev_bind (AD.rspparse_ev b (by omega)) (ev_bind (rlparse_ev d (by omega)) (ev_pos hz (Ev.now _)))))), Or.inl ⟨rfl, ?_⟩⟩
   exact if_neg hb
 by_cases k3 : (ws.map tx).length = 3 ∧ (wrd (ws.map tx) 0).toList = [117, 115, 101, 114]
 ·obtain ⟨a, b, d, rfl⟩ : ∃ a b d, ws = [a, b, d] := by
   have := k3.1; rw [lenw] at this
   match ws, this with
   | [a, b, d], _ => exact ⟨a, b, d, rfl⟩
  have ha : a = uW := by have := k3.2; rw [show wrd ([a, b, d].map tx) 0 = tx a from rfl, tx_lst] at this; exact this
  subst ha
  have lb : b.length ≤ 4000 := Nat.le_trans (hl b (by simp)) hq
  have ld : d.length ≤ 4000 := Nat.le_trans (hl d (by simp)) hq
  by_cases hb : (resL (labP d)).2.2 = true
  ·refine ⟨_, _, ev_neg k1 (ev_neg k2 (ev_pos k3 (ev_bind (lparse_ev d (by omega)) (ev_pos hb (ev_pos hu (Ev.now _)))))), go (ev_neg k1 (ev_neg k2 (ev_pos k3 (ev_bind (rlparse_ev d (by omega)) (ev_pos hu (Ev.now _)))))), Or.inr ⟨?_, rfl, ⟨by show (0 : Int) ≤ (2 : Int); decide, by show (2 : Int) ≤ 3; decide⟩, Or.inr (Or.inr (Or.inl ⟨rfl, _, rfl, (lab_back hb).1, ?_, ?_⟩))⟩⟩
   ·show (if (resL (labP d)).2.2 = true then (3 : Int) else 0) = 2 + 1
    rw [if_pos hb]; rfl
   ·show (tx b).size ≤ 5000
    rw [size_tx]; omega
   ·unfold userL
    have e2 := (lab_back hb).2
    simp only at e2 ⊢
    rw [e2, show by_ (wrd ([uW, b, d].map tx) 1) = b from by_tx b]
    exact hj
  ·refine ⟨_, _, ev_neg k1 (ev_neg k2 (ev_pos k3 (ev_bind (lparse_ev d (by omega)) (ev_neg hb (Ev.now _))))), go (ev_neg k1 (ev_neg k2 (ev_pos k3 (ev_bind (rlparse_ev d (by omega)) (ev_pos hu (Ev.now _)))))), Or.inl ⟨rfl, ?_⟩⟩
   exact if_neg hb
 by_cases k4 : (ws.map tx).length = 4 ∧ (wrd (ws.map tx) 0).toList = [103, 114, 97, 110, 116]
 ·obtain ⟨a, b, d, e, rfl⟩ : ∃ a b d e, ws = [a, b, d, e] := by
   have := k4.1; rw [lenw] at this
   match ws, this with
   | [a, b, d, e], _ => exact ⟨a, b, d, e, rfl⟩
  have ha : a = rW := by have := k4.2; rw [show wrd ([a, b, d, e].map tx) 0 = tx a from rfl, tx_lst] at this; exact this
  subst ha
  have lb : b.length ≤ 4000 := Nat.le_trans (hl b (by simp)) hq
  have ld : d.length ≤ 4000 := Nat.le_trans (hl d (by simp)) hq
  have le : e.length ≤ 4000 := Nat.le_trans (hl e (by simp)) hq
  by_cases hb : (resL (labP d)).2.2 = true ∧ (resL (labP e)).2.2 = true
  ·refine ⟨_, _, ev_neg k1 (ev_neg k2 (ev_neg k3 (ev_pos k4 (ev_bind (lparse_ev d (by omega)) (ev_bind (lparse_ev e (by omega)) (ev_pos hb (ev_pos hg (Ev.now _)))))))), go (ev_neg k1 (ev_neg k2 (ev_neg k3 (ev_pos k4 (ev_bind (rlparse_ev d (by omega)) (ev_bind (rlparse_ev e (by omega)) (ev_pos hg (Ev.now _)))))))), Or.inr ⟨?_, rfl, ⟨by show (0 : Int) ≤ (3 : Int); decide, by show (3 : Int) ≤ 3; decide⟩, Or.inr (Or.inr (Or.inr ⟨rfl, _, rfl, (lab_back hb.1).1, (lab_back hb.2).1, ?_⟩))⟩⟩
   ·show (if (resL (labP d)).2.2 = true ∧ (resL (labP e)).2.2 = true then (4 : Int) else 0) = 3 + 1
    rw [if_pos hb]; rfl
   ·unfold grantL
    have e1 := (lab_back hb.1).2
    have e2 := (lab_back hb.2).2
    simp only at e1 e2 ⊢
    rw [e1, e2, show by_ (wrd ([rW, b, d, e].map tx) 1) = b from by_tx b]
    exact hj
  ·refine ⟨_, _, ev_neg k1 (ev_neg k2 (ev_neg k3 (ev_pos k4 (ev_bind (lparse_ev d (by omega)) (ev_bind (lparse_ev e (by omega)) (ev_neg hb (Ev.now _))))))), go (ev_neg k1 (ev_neg k2 (ev_neg k3 (ev_pos k4 (ev_bind (rlparse_ev d (by omega)) (ev_bind (rlparse_ev e (by omega)) (ev_pos hg (Ev.now _)))))))), Or.inl ⟨rfl, ?_⟩⟩
   exact if_neg hb
 exact ⟨_, _, ev_neg k1 (ev_neg k2 (ev_neg k3 (ev_neg k4 (Ev.now _)))), go (ev_neg k1 (ev_neg k2 (ev_neg k3 (ev_neg k4 (Ev.now _))))), Or.inl ⟨rfl, rfl⟩⟩
end Go.Proofs.YtbboanfggaknjaaGreatDoor.X
/- A policy's text, read by the code and by the reference. -/
set_option linter.unusedVariables false
set_option linter.unusedSimpArgs false
namespace Go.Proofs.YtbboanfggaknjaaGreatDoor.X
open Go.RowKit Go.Proofs.YtbboanfggaknjaaGreatDoorW.PrintWords Go.Proofs.YtbboanfggaknjaaGreatDoorW.PrintLast Go.Proofs.YtbboanfggaknjaaGreatDoorW.PrintMore
def none7 (n : Nat) : T7 := (1, ((n : Int) + 1), 0, 0, [], [], [])
theorem ref_step {s : ByteArray} {t : List ByteArray} {last : Int} {n : Nat} {r c : Int} {zs : List S60} {us : List S62} {gs : List S64} {R6 : T6} {v : T7} (h1 : s.size ≤ 100000) (h2 : n < 100000)
  (hline : Ev (fun k => oculusref07_line.f k r c zs us gs s) R6) (hb : rbad7 R6.1 n last → v = none7 n)
  (hk : ¬ rbad7 R6.1 n last → Ev (fun k => oculusref07_Parse.l k t R6.1 (n + 1) R6.2.1 R6.2.2.1 R6.2.2.2.1 R6.2.2.2.2.1 R6.2.2.2.2.2) v) :
  Ev (fun k => oculusref07_Parse.l k (s :: t) last n r c zs us gs) v := by
 show Ev (fun k => if s.size ≤ 100000 then if n < 100000 then (oculusref07_line.f k r c zs us gs s).bind fun R =>
   if rbad7 R.1 n last then some (1, ((n : Int) + 1), 0, 0, [], [], []) else oculusref07_Parse.l k t R.1 (n + 1) R.2.1 R.2.2.1 R.2.2.2.1 R.2.2.2.2.1 R.2.2.2.2.2 else none else none) v
 refine ev_pos h1 (ev_pos h2 (ev_bind hline (ev_ite (fun h => ?_) hk)))
 rw [hb h]
 exact Ev.now _
theorem pol_step {rest : List UInt8} {last : Int} {n : Nat} {r c : Int} {zs : List S60} {us : List S62} {gs : List S64} {P6 : T6} {v : T7} (hne : rest ≠ [] ∨ n = 0) (hn : n < 100000) (hl : rest.length ≤ 5000)
  (ha : Ev (fun k => policy_add.f k r c zs us gs ((splC 32 (cutL 10 rest).1).map tx)) P6) (hb : bad7 (cutL 10 rest).2.2 P6.1 n last → v = none7 n)
  (hk : ¬ bad7 (cutL 10 rest).2.2 P6.1 n last → Ev2 (fun k m => policy_Parse.l k m P6.1 (n + 1) (tx (cutL 10 rest).2.1) P6.2.1 P6.2.2.1 P6.2.2.2.1 P6.2.2.2.2.1 P6.2.2.2.2.2) v) :
  Ev2 (fun k m => policy_Parse.l k m last n (tx rest) r c zs us gs) v := by
 refine Ev2.step (fun k m => policy_Parse.l.eq_2 ..) ?_
 refine Ev2.pos (hne.imp (fun h => tx_ne h) id) (Ev2.pos hn ?_)
 have ec : strings_Cut.f (tx rest) ⟨#[10]⟩ = some (tx (cutL 10 rest).1, tx (cutL 10 rest).2.1, (cutL 10 rest).2.2) := by
  have := cut_eq (tx rest) 10 (by rw [size_tx]; omega)
  rw [by_tx] at this
  exact this
 have es : strings_Split.f (tx (cutL 10 rest).1) ⟨#[32]⟩ = some ((splC 32 (cutL 10 rest).1).map tx) := splitf_tx 32 _ (by have := (cutL_length 10 rest).1; omega)
 rw [ec]
 refine Ev2.bind (Ev2.now _) ?_
 show Ev2 (fun k m => (strings_Split.f (tx (cutL 10 rest).1) ⟨#[32]⟩).bind _) v
 rw [es]
 refine Ev2.bind (Ev2.now _) (Ev2.bind (Ev2.of1 ha) ?_)
 by_cases h : bad7 (cutL 10 rest).2.2 P6.1 n last
 ·refine Ev2.pos h ?_
  rw [hb h]
  exact Ev2.now _
 ·exact Ev2.neg h (hk h)
theorem cut_in (l : List UInt8) : ((cutL 10 l).2.2 = true → l = (cutL 10 l).1 ++ 10 :: (cutL 10 l).2.1) ∧ ((cutL 10 l).2.2 = false → (10 : UInt8) ∉ l) := by
 induction l with
 | nil => simp [cutL]
 | cons b l ih =>
  by_cases hb : b = 10
  ·simp [cutL, hb]
  ·simp only [cutL, if_neg hb]
   refine ⟨fun h => ?_, fun h => ?_⟩
   ·have := ih.1 h; simpa using this
   ·intro hm
    rcases List.mem_cons.1 hm with h2 | h2
    ·exact hb h2.symm
    ·exact ih.2 h h2
theorem no_lf {l : List UInt8} (h : (10 : UInt8) ∉ l) : noLF (tx l) := by
 by_cases h0 : l = []
 ·subst h0; exact Or.inl rfl
 ·have hp : 0 < l.length := List.length_pos_iff.2 h0
  refine Or.inr ?_
  rw [size_tx, show ((l.length : Nat) : Int) - 1 = ((l.length - 1 : Nat) : Int) by omega, bt_tx l (l.length - 1) (by omega)]
  intro e
  apply h
  have : l[l.length - 1] = 10 := u8_inj (by show (l[l.length - 1]).toNat = 10; omega)
  rw [← this]
  exact List.getElem_mem _
theorem bad_iff {kp lp lr : Int} {n : Nat} (hk : 0 ≤ kp ∧ kp ≤ 3) (h : (n = 0 ∧ lr = 0) ∨ (0 < n ∧ lr = lp + 1)) : bad7 true kp n lp ↔ rbad7 (kp + 1) n lr := by
 unfold bad7 rbad7
 simp only [Bool.true_eq_false, false_or]
 rcases h with ⟨h1, h2⟩ | ⟨h1, h2⟩
 ·subst h1 h2; omega
 ·subst h2; omega
structure Inv7 (last : Int) (zs : List S60) (us : List S62) (gs : List S64) : Prop where
 l : 0 ≤ last ∧ last ≤ 3
 z0 : last < 1 → zs = []
 u0 : last < 2 → us = []
 g0 : last < 3 → gs = []
structure Ok7 (zs : List S60) (us : List S62) (gs : List S64) : Prop where
 z : ∀ z ∈ zs, okC z.f1
 u : ∀ u ∈ us, okC u.f1 ∧ u.f0.size ≤ 5000
 g : ∀ g ∈ gs, okC g.f1 ∧ okC g.f2
 n : zs.length + us.length + gs.length ≤ 5000
theorem Ok7.small {zs : List S60} {us : List S62} {gs : List S64} (h : Ok7 zs us gs) : SmallP zs us gs :=
 ⟨by have := h.n; omega, by have := h.n; omega, by have := h.n; omega, fun u hm => ⟨wf_of_u64 (h.u u hm).1.1 (h.u u hm).1.2, by have := (h.u u hm).2; omega⟩⟩
def Fine7 (R : T7) (s : List UInt8) : Prop := Ok7 R.2.2.2.2.1 R.2.2.2.2.2.1 R.2.2.2.2.2.2 ∧ (R.1 = 0 → (wrongP R.2.2.1 R.2.2.2.1 R.2.2.2.2.1 R.2.2.2.2.2.1 R.2.2.2.2.2.2).2 = 0 ∧ s = textP R.2.2.1 R.2.2.2.1 R.2.2.2.2.1 R.2.2.2.2.2.1 R.2.2.2.2.2.2)
theorem ok_nil : Ok7 [] [] [] := ⟨by simp, by simp, by simp, by simp⟩
theorem fine_none (n : Nat) (s : List UInt8) : Fine7 (none7 n) s := ⟨ok_nil, fun h => by cases h⟩
theorem linesT_snoc (l : List (List (List UInt8))) (x : List (List UInt8)) : linesT (l ++ [x]) = linesT l ++ lnT x := by unfold linesT; simp
theorem lnT_of {q : List UInt8} {ws : List (List UInt8)} (h : q = joinL [32] ws) (tl : List UInt8) : q ++ 10 :: tl = lnT ws ++ tl := by unfold lnT; rw [h, List.append_assoc]; rfl
theorem told_step {q tl so : List UInt8} {n : Nat} {lp kp r c rp cp : Int} {zs zp : List S60} {us up : List S62} {gs gp : List S64} (hT : Told7 q kp r c zs us gs (rp, cp, zp, up, gp)) (hb : ¬ bad7 true kp n lp) (hcnt : zs.length + us.length + gs.length ≤ n) (hok : Ok7 zs us gs)
  (h : (n = 0 ∧ so = []) ∨ (0 < n ∧ Inv7 lp zs us gs ∧ so = textP r c zs us gs)) (hn : n + 1 ≤ 5000) : Inv7 kp zp up gp ∧ Ok7 zp up gp ∧ zp.length + up.length + gp.length ≤ n + 1 ∧ so ++ (q ++ 10 :: tl) = textP rp cp zp up gp ++ tl := by
 have hb2 : (n = 0 ↔ kp = 0) ∧ (0 < n → lp ≤ kp) := by
  unfold bad7 at hb
  simp only [Bool.true_eq_false, false_or, not_or, not_and, Int.not_lt, Classical.not_not] at hb
  exact ⟨hb.2.1, hb.2.2⟩
 obtain ⟨hb3, hb4⟩ := hb2
 rcases hT with ⟨rfl, a, b, e, hq⟩ | ⟨rfl, z, e, hz, hq⟩ | ⟨rfl, z, e, hz, hs, hq⟩ | ⟨rfl, z, e, hz, hs, hq⟩
 ·simp only [Prod.mk.injEq] at e
  obtain ⟨rfl, rfl, rfl, rfl, rfl⟩ := e
  have h0 : n = 0 := hb3.2 rfl
  have hso : so = [] := by rcases h with h | h; exact h.2; omega
  have z0 : zp = [] := List.eq_nil_of_length_eq_zero (by omega)
  have u0 : up = [] := List.eq_nil_of_length_eq_zero (by omega)
  have g0 : gp = [] := List.eq_nil_of_length_eq_zero (by omega)
  subst z0 u0 g0 hso
  refine ⟨⟨by omega, fun _ => rfl, fun _ => rfl, fun _ => rfl⟩, hok, by simp, ?_⟩
  rw [lnT_of hq]
  simp [textP, linesT]
 ·simp only [Prod.mk.injEq] at e
  obtain ⟨rfl, rfl, rfl, rfl, rfl⟩ := e
  have h0 : 0 < n := by omega
  obtain ⟨_, hI, hso⟩ := h.resolve_left (by omega)
  have hl := hb4 h0
  have u0 := hI.u0 (by omega)
  have g0 := hI.g0 (by omega)
  subst u0 g0 hso
  refine ⟨⟨by omega, fun h => by omega, fun _ => rfl, fun _ => rfl⟩, ⟨fun y hy => ?_, by simp, by simp, by simp at hcnt ⊢; omega⟩, by simp at hcnt ⊢; omega, ?_⟩
  ·rcases List.mem_append.1 hy with h1 | h1
   ·exact hok.z y h1
   ·rw [List.mem_singleton.1 h1]; exact hz
  ·rw [lnT_of hq]
   simp [textP, linesT_snoc, List.append_assoc, linesT]
 ·simp only [Prod.mk.injEq] at e
  obtain ⟨rfl, rfl, rfl, rfl, rfl⟩ := e
  have h0 : 0 < n := by omega
  obtain ⟨_, hI, hso⟩ := h.resolve_left (by omega)
  have hl := hb4 h0
  have g0 := hI.g0 (by omega)
  subst g0 hso
  refine ⟨⟨by omega, fun h => by omega, fun h => by omega, fun _ => rfl⟩, ⟨hok.z, fun y hy => ?_, by simp, by simp at hcnt ⊢; omega⟩, by simp at hcnt ⊢; omega, ?_⟩
  ·rcases List.mem_append.1 hy with h1 | h1
   ·exact hok.u y h1
   ·rw [List.mem_singleton.1 h1]; exact ⟨hz, hs⟩
  ·rw [lnT_of hq]
   simp [textP, linesT_snoc, List.append_assoc, linesT]
 ·simp only [Prod.mk.injEq] at e
  obtain ⟨rfl, rfl, rfl, rfl, rfl⟩ := e
  have h0 : 0 < n := by omega
  obtain ⟨_, hI, hso⟩ := h.resolve_left (by omega)
  subst hso
  refine ⟨⟨by omega, fun h => by omega, fun h => by omega, fun h => by omega⟩, ⟨hok.z, hok.u, fun y hy => ?_, by simp at hcnt ⊢; omega⟩, by simp at hcnt ⊢; omega, ?_⟩
  ·rcases List.mem_append.1 hy with h1 | h1
   ·exact hok.g y h1
   ·rw [List.mem_singleton.1 h1]; exact ⟨hz, hs⟩
  ·rw [lnT_of hq]
   simp [textP, linesT_snoc, List.append_assoc]
theorem both_parse (N : Nat) : ∀ (rest : List UInt8), rest.length = N → ∀ (n : Nat) (lp lr : Int) (r c : Int) (zs : List S60) (us : List S62) (gs : List S64) (so : List UInt8), n + rest.length ≤ 4000 → zs.length + us.length + gs.length ≤ n → Ok7 zs us gs →
  ((n = 0 ∧ lr = 0 ∧ so = []) ∨ (0 < n ∧ lr = lp + 1 ∧ Inv7 lp zs us gs ∧ so = textP r c zs us gs)) →
  ∃ R : T7, Ev2 (fun k m => policy_Parse.l k m lp n (tx rest) r c zs us gs) R ∧ Ev (fun k => oculusref07_Parse.l k ((if n = 0 then lines0 rest else lns rest).map tx) lr n r c zs us gs) R ∧ Fine7 R (so ++ rest) := by
 induction N using Nat.strongRecOn with
 | ind N ih =>
  intro rest hN n lp lr r c zs us gs so hb hcnt hok h
  by_cases hA : rest = [] ∧ 0 < n
  ·obtain ⟨rfl, hn⟩ := hA
   obtain ⟨_, hlr, hI, hso⟩ := h.resolve_left (by omega)
   refine ⟨fin7 (wrongP r c zs us gs).2 (wrongP r c zs us gs).1 r c zs us gs, parse_end hok.small lp n hn, ?_, ?_⟩
   ·rw [if_neg (by omega)]
    show Ev (fun k => (oculusref07_Wrong.f k r c zs us gs).bind fun e => some (fin7 e.2 e.1 r c zs us gs)) _
    exact ev_bind (rpwrong_ev r c zs us gs hok.small) (Ev.now _)
   ·unfold fin7
    by_cases he : (wrongP r c zs us gs).2 = 0
    ·rw [if_pos he]; exact ⟨hok, fun _ => ⟨he, by rw [List.append_nil]; exact hso⟩⟩
    ·rw [if_neg he]; exact ⟨ok_nil, fun h => absurd h he⟩
  ·have hne : rest ≠ [] ∨ n = 0 := by
    by_cases h0 : rest = []
    ·exact Or.inr (by have : ¬ 0 < n := fun h => hA ⟨h0, h⟩; omega)
    ·exact Or.inl h0
   have hL : (if n = 0 then lines0 rest else lns rest) = if (cutL 10 rest).2.2 = true then ((cutL 10 rest).1 ++ [10]) :: lns (cutL 10 rest).2.1 else [rest] := by
    by_cases h0 : rest = []
    ·subst h0
     rw [if_pos (hne.resolve_left (by simp))]
     simp [lines0, cutL]
    ·have := lns_cut rest h0
     unfold lines0
     rw [if_neg h0, ite_self]
     exact this
   have hlen := cutL_length 10 rest
   obtain ⟨P, R, hP, hR, hk⟩ := line_both (cutL 10 rest).1 (by omega) r c zs us gs (by omega) (by omega) (by omega)
   rw [hL]
   cases he : (cutL 10 rest).2.2 with
   | false =>
    refine ⟨none7 n, pol_step hne (by omega) (by omega) hP (fun _ => rfl) (fun h => absurd (Or.inl he) h), ?_, fine_none _ _⟩
    rw [if_neg (by simp)]
    refine ref_step (R6 := (0, r, c, zs, us, gs)) (t := []) (by rw [size_tx]; omega) (by omega) ?_ (fun _ => rfl) (fun h => absurd (Or.inl rfl) h)
    unfold oculusref07_line.f
    exact ev_pos (no_lf ((cut_in rest).2 he)) (Ev.now _)
   | true =>
    rw [if_pos rfl]
    have hrest := (cut_in rest).1 he
    have hdl : (cutL 10 rest).1.length + (cutL 10 rest).2.1.length + 1 = rest.length := by
     have := congrArg List.length hrest
     simp only [List.length_append, List.length_cons] at this
     omega
    have hsz : (tx ((cutL 10 rest).1 ++ [10])).size ≤ 100000 := by rw [size_tx, List.length_append, List.length_singleton]; omega
    rcases hk with ⟨k4, k0⟩ | ⟨hk1, hk2, hk3, hT⟩
    ·exact ⟨none7 n, pol_step hne (by omega) (by omega) hP (fun _ => rfl) (fun h => absurd (Or.inr (Or.inl k4)) h), ref_step hsz (by omega) hR (fun _ => rfl) (fun h => absurd (Or.inl k0) h), fine_none _ _⟩
    ·obtain ⟨kp, rp, cp, zp, up, gp⟩ := P
     obtain ⟨kr, R2⟩ := R
     simp only at hk1 hk2 hk3 hT
     subst hk1 hk2
     have hbi := bad_iff (n := n) (lp := lp) (lr := lr) hk3 (h.imp (fun x => ⟨x.1, x.2.1⟩) (fun x => ⟨x.1, x.2.1⟩))
     by_cases hbad : bad7 true kp n lp
     ·exact ⟨none7 n, pol_step hne (by omega) (by omega) hP (fun _ => rfl) (fun h => absurd (by rw [he]; exact hbad) h), ref_step hsz (by omega) hR (fun _ => rfl) (fun h => absurd (hbi.1 hbad) h), fine_none _ _⟩
     ·obtain ⟨i1, i2, i3, i4⟩ := told_step (tl := (cutL 10 rest).2.1) hT hbad hcnt hok (h.imp (fun x => ⟨x.1, x.2.2⟩) (fun x => ⟨x.1, x.2.2⟩)) (by omega)
      obtain ⟨V, V1, V2, V3⟩ := ih (cutL 10 rest).2.1.length (by omega) (cutL 10 rest).2.1 rfl (n + 1) kp (kp + 1) rp cp zp up gp (textP rp cp zp up gp) (by omega) i3 i2 (Or.inr ⟨by omega, rfl, i1, rfl⟩)
      rw [if_neg (by omega)] at V2
      refine ⟨V, pol_step hne (by omega) (by omega) hP (fun h => absurd (by rw [he] at h; exact h) hbad) (fun _ => V1), ref_step hsz (by omega) hR (fun h => absurd (hbi.2 h) hbad) (fun _ => V2), ?_⟩
      rw [← hrest] at i4
      rw [i4]
      exact V3
end Go.Proofs.YtbboanfggaknjaaGreatDoor.X
/- A policy is the same as itself. -/
set_option linter.unusedVariables false
set_option linter.unusedSimpArgs false
namespace Go.Proofs.YtbboanfggaknjaaGreatDoor.X
open Go.RowKit Go.Proofs.YtbboanfggaknjaaGreatDoorW.PrintWords Go.Proofs.YtbboanfggaknjaaGreatDoorW.PrintLast Go.Proofs.YtbboanfggaknjaaGreatDoorW.PrintMore
theorem same_l2 (r c : Int) (zs : List S60) (us : List S62) (gs : List S64) (hg : gs.length ≤ 9223372036854775807) : ∀ d i, i + d = gs.length → Ev (fun k => oculusref07_Same.l2 k (i : Int) r c zs us gs r c zs us gs) true := by
 intro d
 induction d with
 | zero =>
  intro i hi
  refine Ev.step (fun k => oculusref07_Same.l2.eq_2 ..) ?_
  exact ev_neg (by omega) (Ev.now _)
 | succ d ih =>
  intro i hi
  refine Ev.step (fun k => oculusref07_Same.l2.eq_2 ..) ?_
  have e : wrap64 ((i : Int) + 1) = ((i + 1 : Nat) : Int) := w64s (n := gs.length) (by omega) hg
  simp only [e]
  exact ev_pos (by omega) (ev_pos (by omega) (ev_pos (by omega) (ev_neg (by simp) (ih (i + 1) (by omega)))))
theorem same_l1 (r c : Int) (zs : List S60) (us : List S62) (gs : List S64) (hu : us.length ≤ 9223372036854775807) (hg : gs.length ≤ 9223372036854775807) : ∀ d i, i + d = us.length → Ev (fun k => oculusref07_Same.l1 k (i : Int) r c zs us gs r c zs us gs) true := by
 intro d
 induction d with
 | zero =>
  intro i hi
  refine Ev.step (fun k => oculusref07_Same.l1.eq_2 ..) ?_
  exact ev_neg (by omega) (same_l2 r c zs us gs hg gs.length 0 (by omega))
 | succ d ih =>
  intro i hi
  refine Ev.step (fun k => oculusref07_Same.l1.eq_2 ..) ?_
  have e : wrap64 ((i : Int) + 1) = ((i + 1 : Nat) : Int) := w64s (n := us.length) (by omega) hu
  simp only [e]
  exact ev_pos (by omega) (ev_pos (by omega) (ev_pos (by omega) (ev_neg (by simp) (ih (i + 1) (by omega)))))
theorem same_l0 (r c : Int) (zs : List S60) (us : List S62) (gs : List S64) (hz : zs.length ≤ 9223372036854775807) (hu : us.length ≤ 9223372036854775807) (hg : gs.length ≤ 9223372036854775807) : ∀ d i, i + d = zs.length → Ev (fun k => oculusref07_Same.l0 k (i : Int) r c zs us gs r c zs us gs) true := by
 intro d
 induction d with
 | zero =>
  intro i hi
  refine Ev.step (fun k => oculusref07_Same.l0.eq_2 ..) ?_
  exact ev_neg (by omega) (same_l1 r c zs us gs hu hg us.length 0 (by omega))
 | succ d ih =>
  intro i hi
  refine Ev.step (fun k => oculusref07_Same.l0.eq_2 ..) ?_
  have e : wrap64 ((i : Int) + 1) = ((i + 1 : Nat) : Int) := w64s (n := zs.length) (by omega) hz
  simp only [e]
  exact ev_pos (by omega) (ev_pos (by omega) (ev_pos (by omega) (ev_neg (by simp) (ih (i + 1) (by omega)))))
theorem same_self (r c : Int) (zs : List S60) (us : List S62) (gs : List S64) (hz : zs.length ≤ 9223372036854775807) (hu : us.length ≤ 9223372036854775807) (hg : gs.length ≤ 9223372036854775807) : Ev (fun k => oculusref07_Same.f k r c zs us gs r c zs us gs) true := by
 unfold oculusref07_Same.f
 refine ev_pos rfl (ev_pos rfl (ev_pos rfl (ev_pos rfl ?_)))
 refine Ev.step (fun k => oculusref07_Same.j0.eq_2 ..) ?_
 exact ev_neg (by simp) (same_l0 r c zs us gs hz hu hg zs.length 0 (by omega))
end Go.Proofs.YtbboanfggaknjaaGreatDoor.X
/- The pure statement of the law PolicyReads: over numbers and lists alone. -/
set_option linter.unusedVariables false
set_option linter.unusedSimpArgs false
namespace Go.Proofs.YtbboanfggaknjaaGreatDoor.Pure
open Go.RowKit Go.Proofs.YtbboanfggaknjaaGreatDoor.X Go.Proofs.YtbboanfggaknjaaGreatDoorW.PrintWords Go.Proofs.YtbboanfggaknjaaGreatDoorW.PrintLast Go.Proofs.YtbboanfggaknjaaGreatDoorW.PrintMore
theorem few_z (r c : Int) : ∀ (zs : List S60) (i : Nat), (ZN.wrongZ r c i zs).2 = 0 → i ≤ 32 → i + zs.length ≤ 32
 | [], i, _, hi => by simpa using hi
 | z :: l, i, h, hi => by
  unfold ZN.wrongZ at h
  by_cases h1 : 32 ≤ i
  ·rw [if_pos h1] at h; simp at h
  ·rw [if_neg h1] at h
   have h9 : (ZN.wrongZ r c (i + 1) l).2 = 0 := by
    split at h
    ·simp at h
    ·split at h
     ·simp at h
     ·split at h
      ·simp at h
      ·exact h
   have := few_z r c l (i + 1) h9 (by omega)
   rw [List.length_cons]; omega
theorem few_u (xs : List S62) : ∀ (us : List S62) (i : Nat), (US.usersS xs us i).2 = 0 → i ≤ 16 → i + us.length ≤ 16
 | [], i, _, hi => by simpa using hi
 | u :: l, i, h, hi => by
  unfold US.usersS at h
  by_cases h1 : US.userS xs i u = 0
  ·rw [if_pos h1] at h
   have h2 : i < 16 := by
    unfold US.userS at h1
    refine Classical.byContradiction fun h3 => ?_
    rw [if_pos (by omega)] at h1
    simp at h1
   have := few_u xs l (i + 1) h (by omega)
   rw [List.length_cons]; omega
  ·rw [if_neg h1] at h; exact absurd h h1
theorem few_g (us : List S62) : ∀ (gs : List S64) (i : Nat), (US.grantsS us gs i).2 = 0 → i ≤ 32 → i + gs.length ≤ 32
 | [], i, _, hi => by simpa using hi
 | u :: l, i, h, hi => by
  unfold US.grantsS at h
  by_cases h1 : US.grantS us i u = 0
  ·rw [if_pos h1] at h
   have h2 : i < 32 := by
    unfold US.grantS at h1
    refine Classical.byContradiction fun h3 => ?_
    rw [if_pos (by omega)] at h1
    simp at h1
   have := few_g us l (i + 1) h (by omega)
   rw [List.length_cons]; omega
  ·rw [if_neg h1] at h; exact absurd h h1
theorem few_of {r c : Int} {zs : List S60} {us : List S62} {gs : List S64} (h : (wrongP r c zs us gs).2 = 0) : FewP zs us gs := by
 by_cases hd : badDim r c
 ·rw [wrongP_dim hd] at h; simp at h
 by_cases h1 : (ZN.wrongZ r c 0 zs).2 = 0
 ·by_cases h2 : (US.usersS us us 0).2 = 0
  ·by_cases h3 : (US.grantsS us gs 0).2 = 0
   ·have a1 := few_z r c zs 0 h1 (by omega)
    have a2 := few_u us us 0 h2 (by omega)
    have a3 := few_g us gs 0 h3 (by omega)
    exact ⟨by omega, by omega, by omega⟩
   ·rw [wrongP_g hd h1 h2 h3] at h; exact absurd h h3
  ·rw [wrongP_u hd h1 h2] at h; exact absurd h h2
 ·rw [wrongP_z hd h1] at h; exact absurd h h1
theorem PolicyReads : oculuslaw07_PolicyReads.PureX := by
 intro a0 _
 apply Ev.rounds
 obtain ⟨l, rfl⟩ : ∃ l, a0 = tx l := ⟨by_ a0, (tx_by a0).symm⟩
 unfold oculuslaw07_PolicyReads.f
 refine ev_ite (fun _ => Ev.now _) (fun hs => ?_)
 by_cases hb : ((tx l).size : Int) > 4000
 ·have p1 : Ev (fun k => policy_Parse.f k (tx l)) (3, 0, 0, 0, [], [], []) := by unfold policy_Parse.f; exact ev_pos hb (Ev.now _)
  have p2 : Ev (fun k => oculusref07_Parse.f k (tx l)) (3, 0, 0, 0, [], [], []) := by unfold oculusref07_Parse.f; exact ev_pos hb (Ev.now _)
  exact ev_bind p1 (ev_bind p2 (ev_bind (same_self 0 0 [] [] [] (by simp) (by simp) (by simp)) (ev_pos ⟨rfl, rfl, rfl⟩ (ev_neg (by simp) (Ev.now _)))))
 ·have hl : l.length ≤ 4000 := by rw [size_tx] at hb; omega
  obtain ⟨R, R1, R2, R3⟩ := both_parse l.length l rfl 0 4 0 0 0 [] [] [] [] (by omega) (by simp) ok_nil (Or.inl ⟨rfl, rfl, rfl⟩)
  rw [if_pos rfl] at R2
  rw [List.nil_append] at R3
  have p1 : Ev (fun k => policy_Parse.f k (tx l)) R := by
   unfold policy_Parse.f
   exact ev_neg hb (Ev2.diag (g := fun k m => policy_Parse.l k m 4 0 (tx l) 0 0 [] [] []) R1)
  have p2 : Ev (fun k => oculusref07_Parse.f k (tx l)) R := by
   unfold oculusref07_Parse.f
   exact ev_neg hb (ev_bind (lines_ev l (by omega)) R2)
  have hsm := R3.1.small
  refine ev_bind p1 (ev_bind p2 (ev_bind (same_self _ _ _ _ _ hsm.z hsm.u hsm.g) (ev_pos ⟨rfl, rfl, rfl⟩ ?_)))
  refine ev_ite (fun h0 => ?_) (fun _ => Ev.now _)
  obtain ⟨hw, ht⟩ := R3.2 h0
  have hR := right_of hw R3.1.z (fun u hm => (R3.1.u u hm).1) R3.1.g
  refine ev_bind (ptext_ev hsm hw hR (few_of hw)) (ev_pos ?_ (Ev.now _))
  rw [← ht]
end Go.Proofs.YtbboanfggaknjaaGreatDoor.Pure
/- The row of the law PolicyReads: for every input the call returns true and each argument reads afterwards as before, out of its pure statement and the contract of its function. Conditions: none beyond the given statement. -/
namespace Go.Proofs.YtbboanfggaknjaaGreatDoor.policyReads
open Go.ChangeShapes Go.WideShapes Go.ChangeAt Go.RowKit
open Go.ChangeMaps (open_string shut_string)
open Go.Proofs.YtbboanfggaknjaaGreatDoor.Opn Go.Proofs.YtbboanfggaknjaaGreatDoor.X
open Go.Proofs.YtbboanfggaknjaaGreatDoorW.PrintWords (Kd Drawn0)
set_option linter.unusedVariables false
set_option maxRecDepth 100000
theorem own : ownKnob Tryz.prog.godebug = none := by kernel_rfl
theorem laidOut : laidOutB Tryz.prog = true := by kernel_rfl
theorem tab_vars {P : Program} {W : World} {name : String} {k : IntKind} {zs : List Int} {g : Nat} {t e : TypeId} {n : Nat}
  (hg : P.globalNamed name = some g) (hty : (P.globals[g]?).map (·.type) = some t) (ht : P.underlying t = some (.array n e)) (he : P.underlying e = some (.int k)) (hce : P.cellsOf e = 1) (hct : P.cellsOf t = n) :
  ∀ (l : List (String × DataW Unit)) (ps : List MemPlace), DataW.LaidVars P W l ps → (name, Lib.tabData k zs) ∈ l → Lib.TabIs P W name k zs
 | [], _, _, hm => by simp at hm
 | (nm, d) :: rest, ps, h, hm => by
  obtain ⟨g', t', cs, fuel, p, q, hg', ht', hvar, hd, hr, _⟩ := h
  rcases List.mem_cons.1 hm with e0 | hm
  ·cases e0
   obtain rfl := Option.some.inj (hg.symm.trans hg')
   obtain rfl := Option.some.inj (hty.symm.trans ht')
   unfold Lib.TabIs
   rw [hvar, ← Lib.cells_of_tab ht he hce hct hd]
  ·exact tab_vars hg hty ht he hce hct rest q hr hm
theorem e_pow : (Rows.laid_internal_strconv_uint64pow10 : DataW Unit) = Lib.tabData .u64 Lib.pow10Tab := by kernel_rfl
theorem e_bru : (Rows.laid_math_bits_deBruijn64tab : DataW Unit) = Lib.tabData .u8 bru64 := by kernel_rfl
theorem tab_of_laid {W : World} (h : laidMet Tryz.prog Rows.policyReadsRow.laid W) : Tab W := by
 obtain ⟨ps, hv, _⟩ := h
 have m_pow : (("internal/strconv.uint64pow10", (Rows.laid_internal_strconv_uint64pow10 : DataW Unit)) : String × DataW Unit) ∈ Rows.policyReadsRow.laid := List.mem_cons_of_mem _ (List.mem_cons_of_mem _ (List.mem_cons_self))
 rw [e_pow] at m_pow
 have h_pow : Lib.TabIs Tryz.prog W "internal/strconv.uint64pow10" .u64 Lib.pow10Tab := tab_vars (g := 1) (t := 151) (e := 56) (n := 20) (by kernel_rfl) (by kernel_rfl) Tryz.underlying151 Tryz.underlying56 (by kernel_rfl) (by kernel_rfl) _ ps hv m_pow
 have m_bru : (("math/bits.deBruijn64tab", (Rows.laid_math_bits_deBruijn64tab : DataW Unit)) : String × DataW Unit) ∈ Rows.policyReadsRow.laid := List.mem_cons_of_mem _ (List.mem_cons_self)
 rw [e_bru] at m_bru
 have h_bru : Lib.TabIs Tryz.prog W "math/bits.deBruijn64tab" .u8 bru64 := tab_vars (g := 2) (t := 155) (e := 5) (n := 64) (by kernel_rfl) (by kernel_rfl) Tryz.underlying155 Tryz.underlying5 (by kernel_rfl) (by kernel_rfl) _ ps hv m_bru
 exact ⟨h_pow, h_bru⟩
noncomputable def laidWorld (os : Os) : World :=
 { World.holding Tryz.prog os ⟨#[], #[], []⟩ with heap := ((((((World.holding Tryz.prog os ⟨#[], #[], []⟩).heap.modify 5 (fun | .cells _ t fr => .cells #[.int .u8 0, .int .u8 1, .int .u8 28, .int .u8 2, .int .u8 29, .int .u8 14, .int .u8 24, .int .u8 3, .int .u8 30, .int .u8 22, .int .u8 20, .int .u8 15, .int .u8 25, .int .u8 17, .int .u8 4, .int .u8 8, .int .u8 31, .int .u8 27, .int .u8 13, .int .u8 23, .int .u8 21, .int .u8 19, .int .u8 16, .int .u8 7, .int .u8 26, .int .u8 12, .int .u8 18, .int .u8 6, .int .u8 11, .int .u8 5, .int .u8 10, .int .u8 9] t fr | o => o)).modify 2 (fun | .cells _ t fr => .cells #[.int .u8 0, .int .u8 1, .int .u8 56, .int .u8 2, .int .u8 57, .int .u8 49, .int .u8 28, .int .u8 3, .int .u8 61, .int .u8 58, .int .u8 42, .int .u8 50, .int .u8 38, .int .u8 29, .int .u8 17, .int .u8 4, .int .u8 62, .int .u8 47, .int .u8 59, .int .u8 36, .int .u8 45, .int .u8 43, .int .u8 51, .int .u8 22, .int .u8 53, .int .u8 39, .int .u8 33, .int .u8 30, .int .u8 24, .int .u8 18, .int .u8 12, .int .u8 5, .int .u8 63, .int .u8 55, .int .u8 48, .int .u8 27, .int .u8 60, .int .u8 41, .int .u8 37, .int .u8 16, .int .u8 46, .int .u8 35, .int .u8 44, .int .u8 21, .int .u8 52, .int .u8 32, .int .u8 23, .int .u8 11, .int .u8 54, .int .u8 26, .int .u8 40, .int .u8 15, .int .u8 34, .int .u8 20, .int .u8 31, .int .u8 10, .int .u8 25, .int .u8 14, .int .u8 19, .int .u8 9, .int .u8 13, .int .u8 8, .int .u8 7, .int .u8 6] t fr | o => o)).modify 1 (fun | .cells _ t fr => .cells #[.int .u64 1, .int .u64 10, .int .u64 100, .int .u64 1000, .int .u64 10000, .int .u64 100000, .int .u64 1000000, .int .u64 10000000, .int .u64 100000000, .int .u64 1000000000, .int .u64 10000000000, .int .u64 100000000000, .int .u64 1000000000000, .int .u64 10000000000000, .int .u64 100000000000000, .int .u64 1000000000000000, .int .u64 10000000000000000, .int .u64 100000000000000000, .int .u64 1000000000000000000, .int .u64 10000000000000000000] t fr | o => o)).modify 4 (fun | .cells _ t fr => .cells #[.int .u8 128, .int .u8 191, .int .u8 160, .int .u8 191, .int .u8 128, .int .u8 159, .int .u8 144, .int .u8 191, .int .u8 128, .int .u8 143, .int .u8 0, .int .u8 0, .int .u8 0, .int .u8 0, .int .u8 0, .int .u8 0, .int .u8 0, .int .u8 0, .int .u8 0, .int .u8 0, .int .u8 0, .int .u8 0, .int .u8 0, .int .u8 0, .int .u8 0, .int .u8 0, .int .u8 0, .int .u8 0, .int .u8 0, .int .u8 0, .int .u8 0, .int .u8 0] t fr | o => o)).modify 3 (fun | .cells _ t fr => .cells #[.int .u8 240, .int .u8 240, .int .u8 240, .int .u8 240, .int .u8 240, .int .u8 240, .int .u8 240, .int .u8 240, .int .u8 240, .int .u8 240, .int .u8 240, .int .u8 240, .int .u8 240, .int .u8 240, .int .u8 240, .int .u8 240, .int .u8 240, .int .u8 240, .int .u8 240, .int .u8 240, .int .u8 240, .int .u8 240, .int .u8 240, .int .u8 240, .int .u8 240, .int .u8 240, .int .u8 240, .int .u8 240, .int .u8 240, .int .u8 240, .int .u8 240, .int .u8 240, .int .u8 240, .int .u8 240, .int .u8 240, .int .u8 240, .int .u8 240, .int .u8 240, .int .u8 240, .int .u8 240, .int .u8 240, .int .u8 240, .int .u8 240, .int .u8 240, .int .u8 240, .int .u8 240, .int .u8 240, .int .u8 240, .int .u8 240, .int .u8 240, .int .u8 240, .int .u8 240, .int .u8 240, .int .u8 240, .int .u8 240, .int .u8 240, .int .u8 240, .int .u8 240, .int .u8 240, .int .u8 240, .int .u8 240, .int .u8 240, .int .u8 240, .int .u8 240, .int .u8 240, .int .u8 240, .int .u8 240, .int .u8 240, .int .u8 240, .int .u8 240, .int .u8 240, .int .u8 240, .int .u8 240, .int .u8 240, .int .u8 240, .int .u8 240, .int .u8 240, .int .u8 240, .int .u8 240, .int .u8 240, .int .u8 240, .int .u8 240, .int .u8 240, .int .u8 240, .int .u8 240, .int .u8 240, .int .u8 240, .int .u8 240, .int .u8 240, .int .u8 240, .int .u8 240, .int .u8 240, .int .u8 240, .int .u8 240, .int .u8 240, .int .u8 240, .int .u8 240, .int .u8 240, .int .u8 240, .int .u8 240, .int .u8 240, .int .u8 240, .int .u8 240, .int .u8 240, .int .u8 240, .int .u8 240, .int .u8 240, .int .u8 240, .int .u8 240, .int .u8 240, .int .u8 240, .int .u8 240, .int .u8 240, .int .u8 240, .int .u8 240, .int .u8 240, .int .u8 240, .int .u8 240, .int .u8 240, .int .u8 240, .int .u8 240, .int .u8 240, .int .u8 240, .int .u8 240, .int .u8 240, .int .u8 240, .int .u8 240, .int .u8 240, .int .u8 241, .int .u8 241, .int .u8 241, .int .u8 241, .int .u8 241, .int .u8 241, .int .u8 241, .int .u8 241, .int .u8 241, .int .u8 241, .int .u8 241, .int .u8 241, .int .u8 241, .int .u8 241, .int .u8 241, .int .u8 241, .int .u8 241, .int .u8 241, .int .u8 241, .int .u8 241, .int .u8 241, .int .u8 241, .int .u8 241, .int .u8 241, .int .u8 241, .int .u8 241, .int .u8 241, .int .u8 241, .int .u8 241, .int .u8 241, .int .u8 241, .int .u8 241, .int .u8 241, .int .u8 241, .int .u8 241, .int .u8 241, .int .u8 241, .int .u8 241, .int .u8 241, .int .u8 241, .int .u8 241, .int .u8 241, .int .u8 241, .int .u8 241, .int .u8 241, .int .u8 241, .int .u8 241, .int .u8 241, .int .u8 241, .int .u8 241, .int .u8 241, .int .u8 241, .int .u8 241, .int .u8 241, .int .u8 241, .int .u8 241, .int .u8 241, .int .u8 241, .int .u8 241, .int .u8 241, .int .u8 241, .int .u8 241, .int .u8 241, .int .u8 241, .int .u8 241, .int .u8 241, .int .u8 2, .int .u8 2, .int .u8 2, .int .u8 2, .int .u8 2, .int .u8 2, .int .u8 2, .int .u8 2, .int .u8 2, .int .u8 2, .int .u8 2, .int .u8 2, .int .u8 2, .int .u8 2, .int .u8 2, .int .u8 2, .int .u8 2, .int .u8 2, .int .u8 2, .int .u8 2, .int .u8 2, .int .u8 2, .int .u8 2, .int .u8 2, .int .u8 2, .int .u8 2, .int .u8 2, .int .u8 2, .int .u8 2, .int .u8 2, .int .u8 19, .int .u8 3, .int .u8 3, .int .u8 3, .int .u8 3, .int .u8 3, .int .u8 3, .int .u8 3, .int .u8 3, .int .u8 3, .int .u8 3, .int .u8 3, .int .u8 3, .int .u8 35, .int .u8 3, .int .u8 3, .int .u8 52, .int .u8 4, .int .u8 4, .int .u8 4, .int .u8 68, .int .u8 241, .int .u8 241, .int .u8 241, .int .u8 241, .int .u8 241, .int .u8 241, .int .u8 241, .int .u8 241, .int .u8 241, .int .u8 241, .int .u8 241] t fr | o => o)) }
theorem laidWorld_met (os : Os) (args : Array Value) : laidMet Tryz.prog Rows.policyReadsRow.laid ((laidWorld os).forCall (fun _ _ => 0) ⟨#[], args, []⟩).memory := laidMet_of_run' 8 (by kernel_rfl) (by kernel_rfl)
theorem lifted (os : Os) (started : os.Started) (H : Type) (enc : TypeId × Value → H) :
  ReturnsInHanded {} Tryz.checked os 3 .any (fun w args => (Rows.policyReadsSpec.pre enc Tryz.prog Tryz.f3 Rows.policyReadsRow.domain false w args ∧ laidMet Tryz.prog Rows.policyReadsRow.laid w) ∧ sizedMet enc Tryz.prog Tryz.f3 (OpenSpec.ofChange Rows.policyReadsSpec) false w args) (Rows.policyReadsSpec.post enc Tryz.prog Tryz.f3 false true false false) := by
 refine returnsInHanded_of_change_and (C := Tryz.checked) (X := fun w _ => laidMet Tryz.prog Rows.policyReadsRow.laid w) (fun _ _ _ hh h => h.of_heap hh) own started (by kernel_rfl) Tryz.func3
  (ChangeSpec.witness_at (enc := enc) (C := Tryz.checked) (os := os) (X := fun w _ => laidMet Tryz.prog Rows.policyReadsRow.laid w) false (laidWorld os) #[.string ByteArray.empty] 8 rfl (by kernel_rfl) (by kernel_rfl) (by kernel_rfl) (by kernel_rfl) (by kernel_rfl) (laidWorld_met os _)) ?_
 intro W base args ds gs before hval0 hW hcnd hsz0 hL _
 have hsz : (DataW.weightsEach Tryz.prog (Tryz.f3.params.toList ++ Rows.policyReadsSpec.plain.varTypes Tryz.prog) (ds ++ gs)).all (· ≤ reachBytes) = true := hsz0
 have hval : ∀ (j : Nat) t v, Tryz.f3.params[j]? = some t → args[j]? = some v → Value.okWide Tryz.prog W .any base t v := hval0
 have hW' := hW
 obtain ⟨p, q, hA0, hV, rfl, hfz, hnd⟩ := hW
 have hA : DataW.TrodAll enc Tryz.prog W 0 (fun _ => true) true Tryz.f3.params.toList args.toList ds p := hA0
 rw [Tryz.params3] at hA hval hsz
 obtain ⟨v0, vs0, d0, ds0, p0, q0, hargs, rfl, rfl, h0, r0⟩ := trodAll_cons hA
 obtain ⟨rfl, rfl, rfl⟩ := trodAll_nil r0
 obtain rfl : args = #[v0] := by cases args; simp_all
 obtain ⟨rfl, rfl⟩ := trodVars_none hV
 have lt0 : ∀ x ∈ p0, x.block < W.heap.size := by obtain ⟨m, hm⟩ := h0; exact DataW.trod_lt m _ _ _ hm
 have hw0 : ∀ m ∈ d0.weights Tryz.prog 9, m ≤ reachBytes := fun m hm => of_decide_eq_true (List.all_eq_true.1 hsz m (DataW.weights_mem_each (j := 0) (t := 9) rfl rfl m hm))
 obtain ⟨a0, K0, g0⟩ : ∃ a, (Kd.string : Kd ByteArray).K W a v0.cells.toList ∧ (a.size ≤ reachBytes) := by
  obtain ⟨fuel, hf⟩ := h0
  exact (opens_string Tryz.underlying9) hf hw0
 obtain rfl : v0 = .string a0 := by
  obtain ⟨x, rfl, _⟩ := open_string Tryz.underlying9 (hval 0 9 v0 rfl rfl) h0
  have := K0
  simpa [Kd.string, Kd.scalar, Value.cells] using this
 obtain ⟨k, hk⟩ := Pure.PolicyReads a0 g0
 clear hA0 hval0 hsz0 hsz
 refine (oculuslaw07_PolicyReads.calls k _ true W ⟨tab_of_laid hL⟩ hk).mono fun e W' ⟨he, bel0⟩ => ?_
 have bel : Below W.heap.size W W' := bel0
 subst he
 exact ⟨_, rfl, _, _, _, [], _, [], hW', trodAll_mk1 (shut_bool Tryz.underlying4 _), (trodAll_cons_mk (Below.trod laidOut (by kernel_rfl) (of_decide_eq_true (by kernel_rfl)) h0 bel lt0) trodAll_mk0), rfl, bel.frame _, fun h => by cases h⟩
theorem over : Rows.policyReadsRow.holds Tryz.pinned (OpenSpec.ofChange Rows.policyReadsSpec) :=
 OpenClaim.holds_of_wide 3 Tryz.f3 rfl rfl rfl rfl rfl rfl rfl ⟨rfl, rfl, rfl, rfl, rfl⟩ rfl rfl rfl rfl rfl (by kernel_rfl) Tryz.func3 (by kernel_rfl)
  (of_decide_eq_true (by kernel_rfl)) (by unfold Func.isWrapper; first | (rw [if_pos (by decide +kernel)]; kernel_rfl) | (rw [if_neg (by decide +kernel)]; exact ⟨rfl, rfl⟩))
  (fun os started H enc _ => lifted os started H enc)
theorem proved : Rows.PolicyReadsCardSaid :=
 Claim7.holds_tied_plain_at .later [] [.data, .data, .data, .data, .pinned] true (true, "f351eabb49413a63f7cea86464b5642697918b139d7ff693ebcadcd4dc045ee3") false
  over (fun _ h => by cases h) (by kernel_rfl) (fun _ h => by cases h) policyReads_row_tie rfl ⟨rfl, rfl⟩ (by kernel_rfl) rfl
  (fun f fn hf hfn => by
   obtain rfl : f = 3 := Option.some.inj ((show Tryz.prog.funcNamed "oculus/oculuslaw07.PolicyReads" = some 3 by kernel_rfl).symm.trans hf) |>.symm
   obtain rfl : fn = Tryz.f3 := (Option.some.inj (Tryz.func3.symm.trans hfn)).symm
   refine ⟨by kernel_rfl, fun j t ht => ?_⟩
   rw [Tryz.params3] at ht
   have hall : ∀ t ∈ #[(9 : TypeId)], Tryz.prog.wantsStandIn t = false := by
    intro t ht
    simp only [List.mem_toArray, List.mem_cons, List.not_mem_nil, or_false] at ht
    rcases ht with rfl
    ·exact (show Tryz.prog.wantsStandIn 9 = false by kernel_rfl)
   exact hall t (Array.mem_of_getElem? ht))
  (by kernel_rfl)
end Go.Proofs.YtbboanfggaknjaaGreatDoor.policyReads
namespace Go.Proofs.YtbboanfggaknjaaGreatDoor
theorem policyReads_holds : Rows.PolicyReadsCardSaid := policyReads.proved
#print axioms policyReads_holds
end Go.Proofs.YtbboanfggaknjaaGreatDoor
