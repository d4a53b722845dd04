/- The law CommandBack: for every input the call returns true, and each argument reads afterwards as it read before: the statement Rows.CommandBackSaid, whole, with no condition of ours. -/
import Derived.Test.YtajoebfkkknjhaaDoorRows
import Derived.WalkKit
import Derived.ProofKit
import Derived.OpenShut
import Derived.ShutString
import Derived.ChangeOld
import Derived.Below
import Derived.SizedLaws
import Derived.Carry
import Derived.Handed
import Derived.LaidLaws
import Derived.Lib.LaidTab
import Derived.Test.YtajoebfkkknjhaaDoorCards
import Derived.Test.YtajoebfkkknjhaaDoorTie
import Derived.SevenTiedAt
import Derived.Test.YtajoebfkkknjhaaDoorBCommandBack6
set_option maxHeartbeats 8000000
set_option maxRecDepth 100000
/- What the program's labels and the reference's answer: told, and read. -/
set_option linter.unusedVariables false
set_option linter.unusedSimpArgs false
namespace Go.Proofs.YtajoebfkkknjhaaDoor.X
open Go.RowKit Go.Proofs.YtajoebfkkknjhaaDoorW.PrintWords Go.Proofs.YtajoebfkkknjhaaDoorW.PrintLast Go.Proofs.YtajoebfkkknjhaaDoorW.PrintMore
theorem lmay_eq (lv c : Int) : label_May.f lv c = some (mayL lv) := by
 unfold label_May.f mayL
 by_cases h : lv ≥ 0
 ·rw [if_pos h, Option.some.injEq, decide_eq_decide]; omega
 ·rw [if_neg h, decide_eq_false (by omega)]
theorem itoa_dig (n : Nat) (h : n < 100) : strconv_Itoa.f (n : Int) = some (tx (digT n)) := by
 unfold strconv_Itoa.f
 rw [if_pos (by omega)]
 unfold Lib.itoa
 rw [if_neg (by omega), Int.toNat_natCast, dec_digT n h]; rfl
theorem ltext_ev (lv : Int) (c : Nat) (hc : c < 18446744073709551616) : Ev (fun k => label_Text.f k lv (c : Int)) (tx (labT lv c)) := by
 unfold label_Text.f labT
 refine ev_bind (ev_some fun _ => lmay_eq lv c) ?_
 by_cases h : 0 ≤ lv ∧ lv ≤ 15
 ·rw [if_pos h]
  refine ev_pos (decide_eq_true h) (ev_bind (ev_some fun _ => rfl) ?_)
  obtain ⟨n, rfl⟩ : ∃ n : Nat, lv = (n : Int) := ⟨lv.toNat, by omega⟩
  rw [Int.toNat_natCast]
  refine Ev.step (fun k => label_Text.j0.eq_2 ..) ?_
  by_cases ht : (n : Int) = 15 ∧ c = full64
  ·rw [if_pos ht]
   refine ev_pos ?_ (Ev.now _)
   rw [ht.1, ht.2]; rfl
  ·rw [if_neg ht]
   refine ev_neg ?_ ?_
   ·intro e
    simp only [Bool.and_eq_true, beq_iff_eq] at e
    exact ht ⟨e.1, by unfold full64; omega⟩
   ·refine ev_ite (fun h0 => ?_) (fun h0 => ?_)
    ·rw [if_pos (by omega)]
     exact ev_bind (ev_some fun _ => itoa_dig n (by omega)) (Ev.now _)
    ·rw [if_neg (by omega)]
     have h1 := digT_len n
     have h2 := txtS_len c
     refine ev_bind (ev_some fun _ => itoa_dig n (by omega)) (ev_pos (by rw [size_tx]; omega) ?_)
     refine ev_bind (cats_text_ev c hc) ?_
     have e0 : tx (digT n) ++ (⟨#[58]⟩ : ByteArray) = tx (digT n ++ [58]) := by rw [show (⟨#[58]⟩ : ByteArray) = tx [58] from rfl, tx_append]
     rw [e0]
     refine ev_pos (by rw [size_tx, size_tx, List.length_append]; simp; omega) ?_
     rw [tx_append, List.append_assoc]
     exact Ev.now _
 ·rw [if_neg h]
  exact ev_neg (by unfold mayL; rw [decide_eq_false h]; simp) (Ev.now _)
def resL : Option (Int × Nat) → Int × Int × Bool
 | some (lv, c) => (lv, (c : Int), true)
 | none => (0, 0, false)
def levI (h : List UInt8) (i : Nat) : Int := if levZ h < (i : Int) then levZ h else -1
theorem levZ_ge (h : List UInt8) : -1 ≤ levZ h ∧ levZ h < 16 := by
 rcases levZ_back h with e | ⟨n, h1, h2, _⟩ <;> omega
theorem top_iff (l : List UInt8) : ((tx l).toList = ([116, 111, 112] : List UInt8)) ↔ l = topL := by rw [toList_by, by_tx]; exact Iff.rfl
theorem lparse_l0 (h rest : List UInt8) (more : Bool) (hr : rest.length < 4294967281) : ∀ (m i : Nat), i + m = 16 →
  Ev (fun k => label_Parse.l0 k (tx h) (tx rest) more (i : Int) (levI h i) 0) (resL (match parT rest with
   | none => none
   | some s => if levZ h < 0 ∨ more ≠ decide (s ≠ 0) ∨ (levZ h = 15 ∧ s = full64) then none else some (levZ h, s)))
 | 0, i, hi => by
  have hz := levZ_ge h
  have e : levI h i = levZ h := by unfold levI; rw [if_pos (by omega)]
  rw [e]
  refine Ev.step (fun k => label_Parse.l0.eq_2 ..) (ev_neg (by omega) ?_)
  refine ev_bind (cats_parse_ev rest hr) ?_
  have j1t : ∀ (a b : Int), Ev (fun k => label_Parse.j1 k true a b) (0, 0, false) := fun a b => Ev.step (fun k => label_Parse.j1.eq_2 ..) (ev_pos rfl (Ev.now _))
  cases hp : parT rest with
  | none => exact ev_neg (by simp [resP]) (j1t _ _)
  | some s =>
   refine ev_pos rfl ?_
   show Ev (fun k => if levZ h < 0 then label_Parse.j1 k true (levZ h) (s : Int) else if (more != ((s : Int) != 0)) = true then label_Parse.j1 k true (levZ h) (s : Int) else (label_Top.f).bind fun bt111 => label_Parse.j1 k (levZ h == bt111.1 && ((s : Int) == bt111.2)) (levZ h) (s : Int)) (resL (if levZ h < 0 ∨ more ≠ decide (s ≠ 0) ∨ (levZ h = 15 ∧ s = full64) then none else some (levZ h, s)))
   have hd : ((s : Int) != 0) = decide (s ≠ 0) := by
    rw [Bool.eq_iff_iff, bne_iff_ne, decide_eq_true_eq]; omega
   refine ev_ite (fun g => ?_) (fun g => ?_)
   ·rw [if_pos (Or.inl g)]; exact j1t _ _
   ·refine ev_ite (fun g2 => ?_) (fun g2 => ?_)
    ·rw [hd, bne_iff_ne] at g2
     rw [if_pos (Or.inr (Or.inl g2))]; exact j1t _ _
    ·rw [hd, bne_iff_ne] at g2
     refine ev_bind (ev_some fun _ => rfl) ?_
     refine Ev.step (fun k => label_Parse.j1.eq_2 ..) ?_
     refine ev_ite (fun g3 => ?_) (fun g3 => ?_)
     ·simp only [Bool.and_eq_true, beq_iff_eq] at g3
      rw [if_pos (Or.inr (Or.inr ⟨g3.1, by unfold full64; omega⟩))]
      exact Ev.now _
     ·rw [if_neg]
      ·exact Ev.now _
      ·rintro (k | k | k)
       ·exact g k
       ·exact g2 k
       ·exact g3 (by simp only [Bool.and_eq_true, beq_iff_eq]; exact ⟨k.1, by rw [k.2]; rfl⟩)
 | m + 1, i, hi => by
  have ih := lparse_l0 h rest more hr m (i + 1) (by omega)
  have hz := levZ_ge h
  refine Ev.step (fun k => label_Parse.l0.eq_2 ..) (ev_pos (by omega) ?_)
  refine ev_bind (ev_some fun _ => itoa_dig i (by omega)) ?_
  rw [w64s (n := 1000) (by omega) (by omega)]
  have hq := levZ_eq h i (by omega)
  refine ev_ite (fun g => ?_) (fun g => ?_)
  ·have g' := hq.1 ((tx_eq _ _).1 g)
   have e : levI h (i + 1) = (i : Int) := by unfold levI; rw [if_pos (by omega), g']
   rw [e] at ih
   exact ih
  ·have g' : ¬ levZ h = (i : Int) := fun k => g ((tx_eq _ _).2 (hq.2 k))
   have e : levI h (i + 1) = levI h i := by
    unfold levI
    by_cases k : levZ h < (i : Int)
    ·rw [if_pos k, if_pos (by omega)]
    ·rw [if_neg k, if_neg (by omega)]
   rw [e] at ih
   exact ih
theorem lparse_ev (t : List UInt8) (ht : t.length ≤ 1000) : Ev (fun k => label_Parse.f k (tx t)) (resL (labP t)) := by
 unfold label_Parse.f labP
 refine ev_ite (fun g => ?_) (fun g => ?_)
 ·rw [if_pos ((top_iff t).1 g)]
  exact ev_bind (ev_some fun _ => rfl) (Ev.now _)
 ·rw [if_neg (fun e => g ((top_iff t).2 e))]
  have hc := cutL_length 58 t
  have e := cut_eq (tx t) 58 (by rw [size_tx]; omega)
  rw [by_tx] at e
  refine ev_bind (ev_some fun _ => e) ?_
  have := lparse_l0 (cutL 58 t).1 (cutL 58 t).2.1 (cutL 58 t).2.2 (by omega) 16 0 (by omega)
  have e2 : levI (cutL 58 t).1 0 = -1 := by
   have := levZ_ge (cutL 58 t).1
   unfold levI; split <;> omega
  rw [e2] at this
  exact this
theorem every_l0 : ∀ (m i : Nat), i + m = 64 → Ev (fun k => oculusref02_Every.l0 k ((2 ^ i - 1 : Nat) : Int) (i : Int)) ((full64 : Nat) : Int)
 | 0, i, hi => by
  obtain rfl : i = 64 := by omega
  refine Ev.step (fun k => oculusref02_Every.l0.eq_2 ..) (ev_neg (by omega) ?_)
  exact Ev.now _
 | m + 1, i, hi => by
  have hp := pow_lt64 (i := i) (by omega)
  have h1 : 1 ≤ 2 ^ i := Nat.two_pow_pos i
  have hs : 2 ^ (i + 1) = 2 ^ i * 2 := Nat.pow_succ ..
  have hle : 2 ^ (i + 1) ≤ 2 ^ 64 := Nat.pow_le_pow_right (by omega) (by omega)
  refine Ev.step (fun k => oculusref02_Every.l0.eq_2 ..) (ev_pos (by omega) ?_)
  have e : IntKind.u64.wrap (IntKind.u64.wrap (((2 ^ i - 1 : Nat) : Int) * 2) + 1) = ((2 ^ (i + 1) - 1 : Nat) : Int) := by
   rw [hs] at hle ⊢
   generalize 2 ^ i = q at *
   rw [IntKind.wrap_u64, IntKind.wrap_u64]
   omega
  rw [e, w64s (n := 1000) (by omega) (by omega)]
  exact every_l0 m (i + 1) (by omega)
theorem rtop_ev : Ev (fun k => oculusref02_Top.f k) (15, ((full64 : Nat) : Int)) := by
 unfold oculusref02_Top.f oculusref02_Every.f
 exact ev_bind (every_l0 64 0 (by omega)) (Ev.now _)
theorem rltext_ev (lv : Int) (c : Nat) (hc : c < 18446744073709551616) : Ev (fun k => oculusref02_Text.f k lv (c : Int)) (tx (labT lv c)) := by
 unfold oculusref02_Text.f labT
 have j0t : Ev (fun k => oculusref02_Text.j0 k true lv (c : Int)) (tx []) := Ev.step (fun k => oculusref02_Text.j0.eq_2 ..) (ev_pos rfl (Ev.now _))
 refine ev_ite (fun g => ?_) (fun g => ?_)
 ·rw [if_neg (by omega)]; exact j0t
 ·by_cases g2 : lv > 15
  ·rw [if_neg (by omega), decide_eq_true g2]; exact j0t
  ·rw [if_pos (by omega), decide_eq_false g2]
   obtain ⟨n, rfl⟩ : ∃ n : Nat, lv = (n : Int) := ⟨lv.toNat, by omega⟩
   rw [Int.toNat_natCast]
   refine Ev.step (fun k => oculusref02_Text.j0.eq_2 ..) (ev_neg (by simp) (ev_bind rtop_ev ?_))
   refine Ev.step (fun k => oculusref02_Text.j1.eq_2 ..) ?_
   by_cases ht : (n : Int) = 15 ∧ c = full64
   ·rw [if_pos ht]
    refine ev_pos ?_ (Ev.now _)
    rw [ht.1, ht.2]; rfl
   ·rw [if_neg ht]
    refine ev_neg ?_ ?_
    ·intro e
     simp only [Bool.and_eq_true, beq_iff_eq] at e
     exact ht ⟨e.1, by omega⟩
    ·refine ev_bind (digits_ev n (by omega)) ?_
     refine ev_ite (fun h0 => ?_) (fun h0 => ?_)
     ·rw [if_pos (by omega)]; exact Ev.now _
     ·rw [if_neg (by omega)]
      have h1 := digT_len n
      have h2 := txtS_len c
      refine ev_pos (by rw [size_tx]; omega) (ev_bind (rtext_ev c hc) ?_)
      have e0 : tx (digT n) ++ (⟨#[58]⟩ : ByteArray) = tx (digT n ++ [58]) := by rw [show (⟨#[58]⟩ : ByteArray) = tx [58] from rfl, tx_append]
      rw [e0]
      refine ev_pos (by rw [size_tx, size_tx, List.length_append]; simp; omega) ?_
      rw [tx_append, List.append_assoc]
      exact Ev.now _
theorem rlp_l0 (t : List UInt8) (ht : t.length ≤ 281474976710656) (hnt : t ≠ topL) : ∀ (m n : Nat), n + m = 16 → (∀ j : Nat, j < n → ∀ c, labP t ≠ some ((j : Int), c)) → Ev (fun k => oculusref02_Parse.l0 k (tx t) (n : Int)) (resL (labP t))
 | 0, n, hn, hno => by
  refine Ev.step (fun k => oculusref02_Parse.l0.eq_2 ..) (ev_neg (by omega) ?_)
  cases hp : labP t with
  | none => exact Ev.now _
  | some x =>
   obtain ⟨lv, c⟩ := x
   obtain ⟨_, h2, _⟩ := labP_back t lv c hp
   refine absurd ?_ (hno lv.toNat (by omega) c)
   rw [hp]
   congr 2
   omega
 | m + 1, n, hn, hno => by
  have hd := digT_len n
  -- what stands behind this level
  have hnext : (∀ c, labP t ≠ some ((n : Int), c)) → Ev (fun k => oculusref02_Parse.l0 k (tx t) (wrap64 ((n : Int) + 1))) (resL (labP t)) := by
   intro h
   rw [w64s (n := 1000) (by omega) (by omega)]
   refine rlp_l0 t ht hnt m (n + 1) (by omega) (fun j hj c => ?_)
   by_cases e : j = n
   ·rw [e]; exact h c
   ·exact hno j (by omega) c
  have hform : ∀ c, labP t = some ((n : Int), c) → c < 18446744073709551616 ∧ labT (n : Int) c = t ∧ ((c = 0 ∧ digT n = t) ∨ (c ≠ 0 ∧ t = digT n ++ 58 :: txtS c)) := by
   intro c hp
   obtain ⟨h1, h2, h3⟩ := labP_back t n c hp
   refine ⟨h3, h1, ?_⟩
   unfold labT at h1
   rw [if_pos h2, Int.toNat_natCast] at h1
   by_cases ht : (n : Int) = 15 ∧ c = full64
   ·rw [if_pos ht] at h1; exact absurd h1.symm hnt
   ·rw [if_neg ht] at h1
    by_cases h0 : c = 0
    ·rw [if_pos h0] at h1; exact Or.inl ⟨h0, h1⟩
    ·rw [if_neg h0] at h1; exact Or.inr ⟨h0, h1.symm⟩
  refine Ev.step (fun k => oculusref02_Parse.l0.eq_2 ..) (ev_pos (by omega) (ev_bind (digits_ev n (by omega)) ?_))
  refine ev_ite (fun g => ?_) (fun g => ?_)
  ·have g' := (tx_eq _ _).1 g
   have : labP t = some ((n : Int), 0) := by
    have h := labP_txt (n : Int) 0 (by omega)
    rw [if_pos (by omega)] at h
    unfold labT at h
    rw [if_pos (by omega), if_neg (fun k => absurd k.2 (by decide)), if_pos rfl, Int.toNat_natCast, ← g'] at h
    exact h
   rw [this]
   exact Ev.now _
  ·have g' : t ≠ digT n := fun e => g ((tx_eq _ _).2 e)
   rw [size_tx, size_tx]
   refine ev_ite (fun g2 => ?_) (fun g2 => ?_)
   ·refine Ev.step (fun k => oculusref02_Parse.j1.eq_2 ..) (ev_pos rfl (hnext fun c hp => ?_))
    obtain ⟨_, _, h⟩ := hform c hp
    rcases h with ⟨_, h⟩ | ⟨_, h⟩
    ·exact g' h.symm
    ·rw [h, List.length_append, List.length_cons] at g2; omega
   ·have ew : wrap64 (((digT n).length : Int) + 1) = (((digT n).length + 1 : Nat) : Int) := by rw [w64 (by omega) (by omega)]; omega
    rw [ew]
    have e0 : tx (digT n) ++ (⟨#[58]⟩ : ByteArray) = tx (digT n ++ [58]) := by rw [show (⟨#[58]⟩ : ByteArray) = tx [58] from rfl, tx_append]
    refine ev_pos (by omega) (ev_pos (by omega) (ev_pos (by omega) ?_))
    rw [e0, Int.toNat_natCast, ext_head, by_tx]
    refine Ev.step (fun k => oculusref02_Parse.j1.eq_2 ..) ?_
    refine ev_ite (fun g3 => ?_) (fun g3 => ?_)
    ·rw [bne_iff_ne, ne_eq, tx_eq] at g3
     refine hnext fun c hp => ?_
     obtain ⟨_, _, h⟩ := hform c hp
     rcases h with ⟨_, h⟩ | ⟨_, h⟩
     ·exact g' h.symm
     ·refine g3 ?_
      rw [h, List.take_append, List.take_of_length_le (by omega), show (digT n).length + 1 - (digT n).length = 1 by omega]
      rfl
    ·have g4 : t.take ((digT n).length + 1) = digT n ++ [58] := by
      rw [bne_iff_ne, ne_eq, tx_eq] at g3
      exact Decidable.not_not.1 g3
     have ht2 : t = digT n ++ 58 :: t.drop ((digT n).length + 1) := by
      conv => lhs; rw [← List.take_append_drop ((digT n).length + 1) t]
      rw [g4, List.append_assoc]; rfl
     rw [size_tx, size_tx, ew]
     refine ev_pos (by omega) (ev_pos (by omega) ?_)
     rw [Int.toNat_natCast]
     have e5 : (tx t).extract ((digT n).length + 1) t.length = tx (t.drop ((digT n).length + 1)) := by
      have := ext_tail (tx t) ((digT n).length + 1)
      rw [size_tx, by_tx] at this
      exact this
     rw [e5]
     have hrl : (t.drop ((digT n).length + 1)).length ≤ 281474976710656 := by rw [List.length_drop]; omega
     refine ev_bind (rparse_ev _ hrl) ?_
     have hcase : ∀ c, labP t = some ((n : Int), c) → parT (t.drop ((digT n).length + 1)) = some c ∧ labT (n : Int) c = t := by
      intro c hp
      obtain ⟨h3, h1, h⟩ := hform c hp
      rcases h with ⟨_, h⟩ | ⟨_, h⟩
      ·exact absurd h.symm g'
      ·refine ⟨?_, h1⟩
       have : t.drop ((digT n).length + 1) = txtS c := by
        rw [h, ← List.drop_drop, List.drop_left]; rfl
       rw [this, par_txt c h3]
     cases hq : parT (t.drop ((digT n).length + 1)) with
     | none =>
      refine ev_neg (by simp [resP]) (hnext fun c hp => ?_)
      have := (hcase c hp).1
      rw [hq] at this
      cases this
     | some s =>
      obtain ⟨_, hs⟩ := par_back _ s hq
      refine ev_pos rfl (ev_bind (rltext_ev (n : Int) s hs) ?_)
      refine ev_ite (fun g5 => ?_) (fun g5 => ?_)
      ·have g6 := (tx_eq _ _).1 g5
       have : labP t = some ((n : Int), s) := by
        have h := labP_txt (n : Int) s hs
        rw [if_pos (by omega), g6] at h
        exact h
       rw [this]
       exact Ev.now _
      ·refine hnext fun c hp => ?_
       obtain ⟨h1, h2⟩ := hcase c hp
       rw [hq] at h1
       obtain rfl := Option.some.inj h1
       exact g5 ((tx_eq _ _).2 h2)
theorem rlparse_ev (t : List UInt8) (ht : t.length ≤ 281474976710656) : Ev (fun k => oculusref02_Parse.f k (tx t)) (resL (labP t)) := by
 unfold oculusref02_Parse.f
 refine ev_ite (fun g => ?_) (fun g => ?_)
 ·have g' := (top_iff t).1 g
  have : labP t = some (15, full64) := by unfold labP; rw [if_pos g']
  rw [this]
  exact ev_bind rtop_ev (Ev.now _)
 ·exact rlp_l0 t ht (fun e => g ((top_iff t).2 e)) 16 0 (by omega) (fun j hj => by omega)
end Go.Proofs.YtajoebfkkknjhaaDoor.X
/- What addr and its reference answer: letters, numbers, names. -/
set_option linter.unusedVariables false
set_option linter.unusedSimpArgs false
namespace Go.Proofs.YtajoebfkkknjhaaDoor.X.AD
open Go.RowKit Go.Proofs.YtajoebfkkknjhaaDoorW.PrintWords Go.Proofs.YtajoebfkkknjhaaDoorW.PrintLast Go.Proofs.YtajoebfkkknjhaaDoorW.PrintMore
def u8 (n : Nat) : UInt8 := UInt8.ofNat n
def letL (c : Nat) : List UInt8 := if c < 26 then [u8 (65 + c)] else [u8 (64 + c / 26), u8 (65 + c % 26)]
def digL (n : Nat) : List UInt8 := if n < 10 then [u8 (48 + n)] else if n < 100 then [u8 (48 + n / 10), u8 (48 + n % 10)] else [u8 (48 + n / 100), u8 (48 + n / 10 % 10), u8 (48 + n % 10)]
theorem itoa_digL (n : Nat) (h : n < 1000) : Lib.itoa (n : Int) = digL n := by
 unfold Lib.itoa digL u8
 rw [if_neg (by omega), Int.toNat_natCast]
 by_cases h1 : n < 10
 ·rw [if_pos h1, Lib.decDigits, dif_pos h1]
 ·rw [if_neg h1, Lib.decDigits, dif_neg h1]
  by_cases h2 : n < 100
  ·rw [if_pos h2, Lib.decDigits, dif_pos (by omega)]; rfl
  ·rw [if_neg h2, Lib.decDigits, dif_neg (by omega), Lib.decDigits, dif_pos (by omega)]
   rw [Nat.div_div_eq_div_mul]; rfl
theorem itoa_eq (n : Nat) (h : n < 1000) : strconv_Itoa.f (n : Int) = some (tx (digL n)) := by
 unfold strconv_Itoa.f
 rw [if_pos (by omega), itoa_digL n h]; rfl
theorem sn1 (a : Nat) : strOfNums [(a : Int)] = tx [u8 a] := rfl
theorem sn2 (a b : Nat) : strOfNums [(a : Int), (b : Int)] = tx [u8 a, u8 b] := rfl
theorem tdiv26 (c : Nat) : Int.tdiv (c : Int) 26 = ((c / 26 : Nat) : Int) := by rw [Int.tdiv_eq_ediv_of_nonneg (by omega)]; omega
theorem tmod26 (c : Nat) : Int.tmod (c : Int) 26 = ((c % 26 : Nat) : Int) := by rw [Int.tmod_eq_emod_of_nonneg (by omega)]; omega
theorem tdiv10 (c : Nat) : Int.tdiv (c : Int) 10 = ((c / 10 : Nat) : Int) := by rw [Int.tdiv_eq_ediv_of_nonneg (by omega)]; omega
theorem tmod10 (c : Nat) : Int.tmod (c : Int) 10 = ((c % 10 : Nat) : Int) := by rw [Int.tmod_eq_emod_of_nonneg (by omega)]; omega
theorem wn (x : Int) (n : Nat) (h : x = (n : Int)) (hn : n < 256) : wrap64 x % 256 = (n : Int) := by rw [w64 (by omega) (by omega)]; omega
def ltrI (c : Int) : List UInt8 := if c < 0 ∨ c ≥ 702 then [] else letL c.toNat
theorem letters_ev (c : Int) : Ev (fun k => addr_Letters.f k c) (tx (ltrI c)) := by
 unfold addr_Letters.f ltrI
 by_cases h : c < 0 ∨ c ≥ 702
 ·rw [if_pos h]
  have hj : Ev (fun k => addr_Letters.j0 k c true) (tx []) := by
   refine Ev.step (fun k => addr_Letters.j0.eq_2 _ _ _) ?_
   exact ev_pos rfl (Ev.now _)
  refine ev_ite (fun _ => hj) (fun h1 => ?_)
  rw [decide_eq_true (by omega)]
  exact hj
 ·rw [if_neg h]
  refine ev_neg (by omega) ?_
  rw [decide_eq_false (by omega)]
  refine Ev.step (fun k => addr_Letters.j0.eq_2 _ _ _) ?_
  refine ev_neg (by simp) ?_
  obtain ⟨n, rfl⟩ : ∃ n : Nat, c = (n : Int) := ⟨c.toNat, by omega⟩
  rw [Int.toNat_natCast]
  unfold letL
  refine ev_ite (fun h1 => ev_some fun _ => ?_) (fun h1 => ev_some fun _ => ?_)
  ·rw [if_pos (by omega), wn _ (65 + n) (by omega) (by omega), sn1]
  ·have e1 : wrap64 (wrap64 (65 + wrap64 (((n / 26 : Nat) : Int))) - 1) % 256 = ((64 + n / 26 : Nat) : Int) := by
    rw [w64 (x := ((n / 26 : Nat) : Int)) (by omega) (by omega), w64 (x := 65 + ((n / 26 : Nat) : Int)) (by omega) (by omega)]
    exact wn _ _ (by omega) (by omega)
   have e2 : wrap64 (65 + ((n % 26 : Nat) : Int)) % 256 = ((65 + n % 26 : Nat) : Int) := wn _ _ (by omega) (by omega)
   rw [if_neg (by omega), tdiv26, tmod26, e1, e2, sn2]
theorem rletters_ev (c : Int) : Ev (fun k => oculusref03_Letters.f k c) (tx (ltrI c)) := by
 unfold oculusref03_Letters.f ltrI
 by_cases h : c < 0 ∨ c ≥ 702
 ·rw [if_pos h]
  have hj : Ev (fun k => oculusref03_Letters.j0 k c true) (tx []) := by
   refine Ev.step (fun k => oculusref03_Letters.j0.eq_2 _ _ _) ?_
   exact ev_pos rfl (Ev.now _)
  refine ev_ite (fun _ => hj) (fun h1 => ?_)
  rw [decide_eq_true (by omega)]
  exact hj
 ·rw [if_neg h]
  refine ev_neg (by omega) ?_
  rw [decide_eq_false (by omega)]
  refine Ev.step (fun k => oculusref03_Letters.j0.eq_2 _ _ _) ?_
  refine ev_neg (by simp) ?_
  obtain ⟨n, rfl⟩ : ∃ n : Nat, c = (n : Int) := ⟨c.toNat, by omega⟩
  rw [Int.toNat_natCast]
  unfold letL
  refine ev_ite (fun h1 => ev_some fun _ => ?_) (fun h1 => ev_some fun _ => ?_)
  ·rw [if_pos (by omega), wn _ (65 + n) (by omega) (by omega), sn1]
  ·have e1 : wrap64 (64 + wrap64 (((n / 26 : Nat) : Int))) % 256 = ((64 + n / 26 : Nat) : Int) := by
    rw [w64 (x := ((n / 26 : Nat) : Int)) (by omega) (by omega)]
    exact wn _ _ (by omega) (by omega)
   have e2 : wrap64 (65 + ((n % 26 : Nat) : Int)) % 256 = ((65 + n % 26 : Nat) : Int) := wn _ _ (by omega) (by omega)
   rw [if_neg (by omega), tdiv26, tmod26, e1, e2, sn2]
theorem digits_l0_zero (l : List UInt8) : Ev (fun k => oculusref01_Digits.l0 k 0 (tx l)) (tx l) := by
 refine Ev.step (fun k => oculusref01_Digits.l0.eq_2 _ _ _) ?_
 exact ev_neg (by omega) (Ev.now _)
theorem digits_l0_more (n : Nat) (h0 : 0 < n) (h : n < 1000) (l q : List UInt8) (hl : l.length < 10) (hn : Ev (fun k => oculusref01_Digits.l0 k ((n / 10 : Nat) : Int) (tx (u8 (48 + n % 10) :: l))) (tx q)) : Ev (fun k => oculusref01_Digits.l0 k (n : Int) (tx l)) (tx q) := by
 refine Ev.step (fun k => oculusref01_Digits.l0.eq_2 _ _ _) ?_
 refine ev_pos (by omega) (ev_bsome ?_)
 have e2 : wrap64 (48 + Int.tmod (n : Int) 10) % 256 = ((48 + n % 10 : Nat) : Int) := by rw [tmod10]; exact wn _ _ (by omega) (by omega)
 rw [e2, sn1, tdiv10, w64 (by omega) (by omega)]
 refine ev_pos (by rw [size_tx, size_tx]; simp; omega) ?_
 rw [tx_append]
 exact hn
theorem digits_ev (n : Nat) (h : n < 1000) : Ev (fun k => oculusref01_Digits.f k (n : Int)) (tx (digL n)) := by
 unfold oculusref01_Digits.f
 have e2 : wrap64 (48 + Int.tmod (n : Int) 10) % 256 = ((48 + n % 10 : Nat) : Int) := by rw [tmod10]; exact wn _ _ (by omega) (by omega)
 rw [e2, sn1, tdiv10, w64 (by omega) (by omega)]
 unfold digL
 by_cases h1 : n < 10
 ·rw [if_pos h1, show n / 10 = 0 by omega, show n % 10 = n by omega]
  exact digits_l0_zero _
 ·rw [if_neg h1]
  by_cases h2 : n < 100
  ·rw [if_pos h2]
   refine digits_l0_more _ (by omega) (by omega) _ _ (by simp) ?_
   rw [show n / 10 / 10 = 0 by omega, show n / 10 % 10 = n / 10 by omega]
   exact digits_l0_zero _
  ·rw [if_neg h2]
   refine digits_l0_more _ (by omega) (by omega) _ _ (by simp) ?_
   refine digits_l0_more _ (by omega) (by omega) _ _ (by simp) ?_
   rw [show n / 10 / 10 / 10 = 0 by omega, show n / 10 / 10 % 10 = n / 100 by omega]
   exact digits_l0_zero _
def mayI (r c : Int) : Bool := decide (0 ≤ r ∧ r < 999 ∧ 0 ≤ c ∧ c < 702)
theorem amay_eq (a b : Int) : addr_May.f a b = some (mayI a b) := by
 unfold addr_May.f mayI
 by_cases h1 : a ≥ 0
 ·rw [if_pos h1]
  by_cases h2 : a < 999
  ·rw [if_pos h2]
   by_cases h3 : b ≥ 0
   ·rw [if_pos h3, Option.some.injEq, decide_eq_decide]; omega
   ·rw [if_neg h3, decide_eq_false (by omega)]
  ·rw [if_neg h2, decide_eq_false (by omega)]
 ·rw [if_neg h1, decide_eq_false (by omega)]
theorem rmay_eq (a b : Int) : oculusref03_May.f a b = some (mayI a b) := by
 unfold oculusref03_May.f mayI
 by_cases h1 : a ≥ 0
 ·rw [if_pos h1]
  by_cases h2 : a ≤ 998
  ·rw [if_pos h2]
   by_cases h3 : b ≥ 0
   ·rw [if_pos h3, Option.some.injEq, decide_eq_decide]; omega
   ·rw [if_neg h3, decide_eq_false (by omega)]
  ·rw [if_neg h2, decide_eq_false (by omega)]
 ·rw [if_neg h1, decide_eq_false (by omega)]
def nameL (r c : Int) : List UInt8 := if mayI r c = true then letL c.toNat ++ digL (r.toNat + 1) else []
theorem letL_len (n : Nat) : (letL n).length ≤ 2 := by unfold letL; split <;> simp
theorem digL_len (n : Nat) : (digL n).length ≤ 3 := by unfold digL; (repeat' split) <;> simp
theorem name_ev (r c : Int) : Ev (fun k => addr_Name.f k r c) (tx (nameL r c)) := by
 unfold addr_Name.f nameL
 refine ev_bind (ev_some fun _ => amay_eq r c) ?_
 by_cases h : mayI r c = true
 ·rw [if_pos h]
  refine ev_pos h ?_
  unfold mayI at h
  have hb := of_decide_eq_true h
  have hl := letters_ev c
  unfold ltrI at hl
  rw [if_neg (by omega)] at hl
  refine ev_bind hl ?_
  have e : wrap64 (r + 1) = ((r.toNat + 1 : Nat) : Int) := by rw [w64 (by omega) (by omega)]; omega
  rw [e, itoa_eq _ (by omega)]
  refine ev_bsome ?_
  have h1 := letL_len c.toNat
  have h2 := digL_len (r.toNat + 1)
  refine ev_pos (by rw [size_tx, size_tx]; omega) (ev_some fun _ => by rw [tx_append])
 ·rw [if_neg h]; exact ev_neg h (Ev.now _)
theorem rname_ev (r c : Int) : Ev (fun k => oculusref03_Name.f k r c) (tx (nameL r c)) := by
 unfold oculusref03_Name.f nameL
 refine ev_bind (ev_some fun _ => rmay_eq r c) ?_
 by_cases h : mayI r c = true
 ·rw [if_pos h]
  refine ev_pos h ?_
  unfold mayI at h
  have hb := of_decide_eq_true h
  have hl := rletters_ev c
  unfold ltrI at hl
  rw [if_neg (by omega)] at hl
  refine ev_bind hl ?_
  have e : wrap64 (r + 1) = ((r.toNat + 1 : Nat) : Int) := by rw [w64 (by omega) (by omega)]; omega
  rw [e]
  refine ev_bind (digits_ev _ (by omega)) ?_
  have h1 := letL_len c.toNat
  have h2 := digL_len (r.toNat + 1)
  refine ev_pos (by rw [size_tx, size_tx]; omega) (ev_some fun _ => by rw [tx_append])
 ·rw [if_neg h]; exact ev_neg h (Ev.now _)
end Go.Proofs.YtajoebfkkknjhaaDoor.X.AD
/- What addr.Column, Number, Parse and their reference answer. -/
set_option linter.unusedVariables false
set_option linter.unusedSimpArgs false
namespace Go.Proofs.YtajoebfkkknjhaaDoor.X.AD
open Go.RowKit Go.Proofs.YtajoebfkkknjhaaDoorW.PrintWords Go.Proofs.YtajoebfkkknjhaaDoorW.PrintLast Go.Proofs.YtajoebfkkknjhaaDoorW.PrintMore
def isU (b : UInt8) : Bool := decide (65 ≤ b.toNat ∧ b.toNat ≤ 90)
def isD (b : UInt8) : Bool := decide (48 ≤ b.toNat ∧ b.toNat ≤ 57)
def colF : Int → List UInt8 → Int × Bool
 | n, [] => (n - 1, true)
 | n, b :: l => if isU b = true then colF (n * 26 + ((b.toNat : Int) - 65) + 1) l else (0, false)
def colS (l : List UInt8) : Int × Bool := if l.length < 1 ∨ l.length > 2 then (0, false) else colF 0 l
def numF : Int → List UInt8 → Int × Bool
 | n, [] => (n - 1, true)
 | n, b :: l => if isD b = true then numF (n * 10 + ((b.toNat : Int) - 48)) l else (0, false)
def numS (l : List UInt8) : Int × Bool := if l.length < 1 ∨ l.length > 3 ∨ l.head? = some 48 then (0, false) else numF 0 l
theorem col_l0 (l : List UInt8) (hl : l.length ≤ 2) : ∀ d i n, i + d = l.length → 0 ≤ n → ((i = 0 → n = 0) ∧ (i = 1 → n ≤ 26) ∧ n ≤ 1000) → Ev (fun k => addr_Column.l0 k (tx l) n (l.length : Int) (i : Int)) (colF n (l.drop i))
 | 0, i, n, h, h0, h1 => by
  rw [List.drop_eq_nil_of_le (by omega)]
  refine Ev.step (fun k => addr_Column.l0.eq_2 _ _ _ _ _) ?_
  refine ev_neg (by omega) ?_
  rw [w64 (by omega) (by omega)]
  exact Ev.now _
 | d + 1, i, n, h, h0, h1 => by
  have hlt : i < l.length := by omega
  have hz := size_tx l
  have hb := bt_tx l i hlt
  have hu := u8_lt l[i]
  rw [List.drop_eq_getElem_cons hlt]
  refine Ev.step (fun k => addr_Column.l0.eq_2 _ _ _ _ _) ?_
  refine ev_pos (by omega) (ev_pos (by omega) (ev_pos (by omega) ?_))
  simp only [hb, colF]
  by_cases g1 : ((l[i]).toNat : Int) < 65
  ·rw [if_neg (by unfold isU; simp; omega)]; exact ev_pos g1 (Ev.now _)
  ·refine ev_neg g1 ?_
   by_cases g2 : ((l[i]).toNat : Int) > 90
   ·rw [if_neg (by unfold isU; simp; omega)]; exact ev_pos g2 (Ev.now _)
   ·rw [if_pos (by unfold isU; simp; omega)]
    refine ev_neg g2 ?_
    rw [w64s (n := 100) (by omega) (by omega)]
    rw [show (((l[i]).toNat : Int) - 65) % 256 = ((l[i]).toNat : Int) - 65 by omega, w64 (x := n * 26) (by omega) (by omega), w64 (x := n * 26 + (((l[i]).toNat : Int) - 65)) (by omega) (by omega), w64 (by omega) (by omega)]
    exact col_l0 l hl d (i + 1) _ (by omega) (by omega) (by
     rcases (by omega : i = 0 ∨ i = 1) with rfl | rfl
     ·have := h1.1 rfl; omega
     ·have := h1.2.1 rfl; omega)
theorem column_ev (l : List UInt8) : Ev (fun k => addr_Column.f k (tx l)) (colS l) := by
 have hz := size_tx l
 unfold addr_Column.f colS
 have hj : Ev (fun k => addr_Column.j0 k (tx l) true) (0, false) := by
  refine Ev.step (fun k => addr_Column.j0.eq_2 _ _ _) ?_
  exact ev_pos rfl (Ev.now _)
 by_cases h : l.length < 1 ∨ l.length > 2
 ·rw [if_pos h]
  refine ev_ite (fun _ => hj) (fun g => ?_)
  rw [decide_eq_true (by omega)]
  exact hj
 ·rw [if_neg h]
  refine ev_neg (by omega) ?_
  rw [decide_eq_false (by omega)]
  refine Ev.step (fun k => addr_Column.j0.eq_2 _ _ _) ?_
  refine ev_neg (by simp) ?_
  rw [hz]
  exact col_l0 l (by omega) l.length 0 0 (by omega) (by omega) (by omega)
theorem num_l0 (l : List UInt8) (hl : l.length ≤ 3) : ∀ d i n, i + d = l.length → 0 ≤ n → ((i = 0 → n = 0) ∧ (i = 1 → n ≤ 9) ∧ (i = 2 → n ≤ 99) ∧ n ≤ 999) → Ev (fun k => addr_Number.l0 k (tx l) n (l.length : Int) (i : Int)) (numF n (l.drop i))
 | 0, i, n, h, h0, h1 => by
  rw [List.drop_eq_nil_of_le (by omega)]
  refine Ev.step (fun k => addr_Number.l0.eq_2 _ _ _ _ _) ?_
  refine ev_neg (by omega) ?_
  rw [w64 (by omega) (by omega)]
  exact Ev.now _
 | d + 1, i, n, h, h0, h1 => by
  have hlt : i < l.length := by omega
  have hz := size_tx l
  have hb := bt_tx l i hlt
  have hu := u8_lt l[i]
  rw [List.drop_eq_getElem_cons hlt]
  refine Ev.step (fun k => addr_Number.l0.eq_2 _ _ _ _ _) ?_
  refine ev_pos (by omega) (ev_pos (by omega) (ev_pos (by omega) ?_))
  simp only [hb, numF]
  by_cases g1 : ((l[i]).toNat : Int) < 48
  ·rw [if_neg (by unfold isD; simp; omega)]; exact ev_pos g1 (Ev.now _)
  ·refine ev_neg g1 ?_
   by_cases g2 : ((l[i]).toNat : Int) > 57
   ·rw [if_neg (by unfold isD; simp; omega)]; exact ev_pos g2 (Ev.now _)
   ·rw [if_pos (by unfold isD; simp; omega)]
    refine ev_neg g2 ?_
    rw [w64s (n := 100) (by omega) (by omega)]
    rw [show (((l[i]).toNat : Int) - 48) % 256 = ((l[i]).toNat : Int) - 48 by omega, w64 (x := n * 10) (by omega) (by omega), w64 (by omega) (by omega)]
    exact num_l0 l hl d (i + 1) _ (by omega) (by omega) (by
     rcases (by omega : i = 0 ∨ i = 1 ∨ i = 2) with rfl | rfl | rfl
     ·have := h1.1 rfl; omega
     ·have := h1.2.1 rfl; omega
     ·have := h1.2.2.1 rfl; omega)
theorem number_ev (l : List UInt8) : Ev (fun k => addr_Number.f k (tx l)) (numS l) := by
 have hz := size_tx l
 unfold addr_Number.f numS
 have hj : Ev (fun k => addr_Number.j0 k (tx l) true) (0, false) := by
  refine Ev.step (fun k => addr_Number.j0.eq_2 _ _ _) ?_
  exact ev_pos rfl (Ev.now _)
 by_cases h1 : l.length < 1
 ·rw [if_pos (Or.inl h1)]; exact ev_pos (by omega) hj
 ·refine ev_neg (by omega) ?_
  by_cases h2 : l.length > 3
  ·rw [if_pos (Or.inr (Or.inl h2))]; exact ev_pos (by omega) hj
  ·refine ev_neg (by omega) (ev_pos (by omega) ?_)
   obtain ⟨b, m, rfl⟩ : ∃ b m, l = b :: m := by cases l with | nil => simp at h1 | cons b m => exact ⟨b, m, rfl⟩
   have hb0 : bt (tx (b :: m)) 0 = (b.toNat : Int) := bt_tx0 b m
   rw [hb0]
   by_cases h3 : b = 48
   ·subst h3
    rw [if_pos (Or.inr (Or.inr (by rfl : (48 :: m : List UInt8).head? = some 48)))]
    exact hj
   ·have hne : (((b.toNat : Int)) == 48) = false := by
     rw [beq_eq_false_iff_ne]
     intro e
     exact h3 (u8_inj (by show b.toNat = 48; omega))
    rw [if_neg (by rintro (hh | hh | hh); exact h1 hh; exact h2 hh; exact h3 (Option.some.inj hh)), hne]
    refine Ev.step (fun k => addr_Number.j0.eq_2 _ _ _) ?_
    refine ev_neg (by simp) ?_
    rw [hz]
    exact num_l0 (b :: m) (by omega) (b :: m).length 0 0 (by omega) (by omega) (by omega)
def parS (l : List UInt8) : Int × Int × Bool :=
 if (colS (l.takeWhile isU)).2 = true then (if (numS (l.dropWhile isU)).2 = true then ((numS (l.dropWhile isU)).1, (colS (l.takeWhile isU)).1, true) else (0, 0, false)) else (0, 0, false)
theorem parse_j1 (a r : List UInt8) : Ev (fun k => addr_Parse.j1 k (tx (a ++ r)) (a.length : Int)) (if (colS a).2 = true then (if (numS r).2 = true then ((numS r).1, (colS a).1, true) else (0, 0, false)) else (0, 0, false)) := by
 have hz := size_tx (a ++ r)
 rw [List.length_append] at hz
 refine Ev.step (fun k => addr_Parse.j1.eq_2 _ _ _) ?_
 refine ev_pos (by omega) (ev_pos (by omega) ?_)
 rw [Int.toNat_natCast, ext_head, ext_tail, by_tx, List.take_left' rfl, List.drop_left' rfl]
 refine ev_bind (column_ev a) (ev_bind (number_ev r) ?_)
 refine ev_ite (fun h1 => ev_ite (fun h2 => ?_) (fun h2 => ?_)) (fun h1 => ?_)
 ·rw [if_pos h1, if_pos h2]; exact Ev.now _
 ·rw [if_pos h1, if_neg h2]; exact Ev.now _
 ·rw [if_neg h1]; exact Ev.now _
theorem parse_l0 (a r : List UInt8) (ha : ∀ x ∈ a, isU x = true) (hr : ∀ b m, r = b :: m → isU b = false) (hl : a.length + r.length ≤ 1000) : ∀ d i, i + d = a.length → Ev (fun k => addr_Parse.l0 k (tx (a ++ r)) (i : Int)) (if (colS a).2 = true then (if (numS r).2 = true then ((numS r).1, (colS a).1, true) else (0, 0, false)) else (0, 0, false))
 | 0, i, h => by
  have hz := size_tx (a ++ r)
  rw [List.length_append] at hz
  have hi : i = a.length := by omega
  subst hi
  refine Ev.step (fun k => addr_Parse.l0.eq_2 _ _ _) ?_
  cases r with
  | nil =>
   have hz' : (tx (a ++ [])).size = a.length := by rw [size_tx, List.append_nil]
   exact ev_neg (by omega) (parse_j1 a [])
  | cons b m =>
   have hb : bt (tx (a ++ b :: m)) (a.length : Int) = (b.toNat : Int) := by
    rw [bt_tx _ a.length (by simp)]
    simp
   have hu := hr b m rfl
   unfold isU at hu
   rw [decide_eq_false_iff_not] at hu
   refine ev_pos (by simp at hz; omega) (ev_pos (by omega) ?_)
   rw [hb]
   refine ev_ite (fun g1 => ?_) (fun _ => parse_j1 a (b :: m))
   exact ev_neg (by omega) (parse_j1 a (b :: m))
 | d + 1, i, h => by
  have hz := size_tx (a ++ r)
  rw [List.length_append] at hz
  have hlt : i < a.length := by omega
  have hb : bt (tx (a ++ r)) (i : Int) = ((a[i]).toNat : Int) := by
   rw [bt_tx _ i (by simp; omega), List.getElem_append_left hlt]
  have hu := ha _ (List.getElem_mem hlt)
  unfold isU at hu
  rw [decide_eq_true_eq] at hu
  refine Ev.step (fun k => addr_Parse.l0.eq_2 _ _ _) ?_
  refine ev_pos (by omega) (ev_pos (by omega) ?_)
  rw [hb, w64s (n := 10000) (by omega) (by omega)]
  exact ev_pos (by omega) (ev_pos (by omega) (parse_l0 a r ha hr hl d (i + 1) (by omega)))
theorem parse_ev (l : List UInt8) (hl : l.length ≤ 1000) : Ev (fun k => addr_Parse.f k (tx l)) (parS l) := by
 unfold addr_Parse.f parS
 have e : l.takeWhile isU ++ l.dropWhile isU = l := List.takeWhile_append_dropWhile
 have hlen := congrArg List.length e
 rw [List.length_append] at hlen
 have := parse_l0 (l.takeWhile isU) (l.dropWhile isU) (fun x hx => by
   have := List.all_takeWhile (l := l) (p := isU)
   exact List.all_eq_true.1 this x hx) (fun b m hbm => by
   cases hb : isU b with
   | false => rfl
   | true =>
    have hh := List.head?_dropWhile_not isU l
    rw [hbm] at hh
    simp [hb] at hh) (by omega) (l.takeWhile isU).length 0 (by omega)
 rw [e] at this
 exact this
end Go.Proofs.YtajoebfkkknjhaaDoor.X.AD
/- The reference's searches: the column of letters, the row of a number, the cell of a name. -/
set_option linter.unusedVariables false
set_option linter.unusedSimpArgs false
namespace Go.Proofs.YtajoebfkkknjhaaDoor.X.AD
open Go.RowKit Go.Proofs.YtajoebfkkknjhaaDoorW.PrintWords Go.Proofs.YtajoebfkkknjhaaDoorW.PrintLast Go.Proofs.YtajoebfkkknjhaaDoorW.PrintMore
def srch (f : Nat → List UInt8) (t : List UInt8) : Nat → Nat → Int × Bool
 | 0, _ => (0, false)
 | d + 1, i => if f i = t then ((i : Int), true) else srch f t d (i + 1)
theorem srch_miss (f : Nat → List UInt8) (t : List UInt8) : ∀ d i, (∀ j, i ≤ j → j < i + d → f j ≠ t) → srch f t d i = (0, false)
 | 0, _, _ => rfl
 | d + 1, i, h => by
  simp only [srch]
  rw [if_neg (h i (by omega) (by omega)), srch_miss f t d (i + 1) (fun j h1 h2 => h j (by omega) (by omega))]
theorem srch_hit (f : Nat → List UInt8) (t : List UInt8) (j : Nat) (hj : f j = t) : ∀ d i, i ≤ j → j < i + d → (∀ m, m < j → f m ≠ t) → srch f t d i = ((j : Int), true)
 | 0, i, h1, h2, _ => by omega
 | d + 1, i, h1, h2, h3 => by
  simp only [srch]
  by_cases e : i = j
  ·subst e; rw [if_pos hj]
  ·rw [if_neg (h3 i (by omega)), srch_hit f t j hj d (i + 1) (by omega) (by omega) h3]
theorem txl (l m : List UInt8) : ((tx l).toList = (tx m).toList) ↔ l = m := by rw [toList_by, toList_by, by_tx, by_tx]
theorem rcolumn_ev (t : List UInt8) : Ev (fun k => oculusref03_Column.f k (tx t)) (srch letL t 702 0) := by
 have hl : ∀ d i : Nat, i + d = 702 → Ev (fun k => oculusref03_Column.l0 k (tx t) (i : Int)) (srch letL t d i) := by
  intro d
  induction d with
  | zero =>
   intro i h
   refine Ev.step (fun k => oculusref03_Column.l0.eq_2 _ _ _) ?_
   exact ev_neg (by omega) (Ev.now _)
  | succ d ih =>
   intro i h
   refine Ev.step (fun k => oculusref03_Column.l0.eq_2 _ _ _) ?_
   refine ev_pos (by omega) ?_
   have hr := rletters_ev (i : Int)
   unfold ltrI at hr
   rw [if_neg (by omega), Int.toNat_natCast] at hr
   refine ev_bind hr ?_
   simp only [srch]
   refine ev_ite (fun g => ?_) (fun g => ?_)
   ·rw [if_pos ((txl _ _).1 g)]; exact Ev.now _
   ·rw [if_neg (fun e => g ((txl _ _).2 e)), w64s (n := 10000) (by omega) (by omega)]
    exact ih (i + 1) (by omega)
 exact hl 702 0 (by omega)
theorem rnumber_ev (t : List UInt8) : Ev (fun k => oculusref03_Number.f k (tx t)) (srch (fun i => digL (i + 1)) t 999 0) := by
 have hl : ∀ d i : Nat, i + d = 999 → Ev (fun k => oculusref03_Number.l0 k (tx t) (i : Int)) (srch (fun i => digL (i + 1)) t d i) := by
  intro d
  induction d with
  | zero =>
   intro i h
   refine Ev.step (fun k => oculusref03_Number.l0.eq_2 _ _ _) ?_
   exact ev_neg (by omega) (Ev.now _)
  | succ d ih =>
   intro i h
   refine Ev.step (fun k => oculusref03_Number.l0.eq_2 _ _ _) ?_
   refine ev_pos (by omega) ?_
   rw [w64s (n := 10000) (by omega) (by omega)]
   refine ev_bind (digits_ev (i + 1) (by omega)) ?_
   simp only [srch]
   refine ev_ite (fun g => ?_) (fun g => ?_)
   ·rw [if_pos ((txl _ _).1 g)]; exact Ev.now _
   ·rw [if_neg (fun e => g ((txl _ _).2 e))]
    exact ih (i + 1) (by omega)
 exact hl 999 0 (by omega)
theorem col_let : ∀ n : Fin 702, colS (letL n.val) = ((n.val : Int), true) := by decide +kernel
theorem num_dig : ∀ n : Fin 999, numS (digL (n.val + 1)) = ((n.val : Int), true) := by decide +kernel
theorem u8_of (a : UInt8) : u8 a.toNat = a := by
 apply u8_inj
 show (UInt8.ofNat a.toNat).toNat = a.toNat
 simp
theorem u8_eq (a : UInt8) (n : Nat) (h : n = a.toNat) : u8 n = a := by rw [h, u8_of]
theorem col_ok (t : List UInt8) (h : (colS t).2 = true) : ∃ n : Nat, n < 702 ∧ letL n = t := by
 unfold colS at h
 match t, h with
 | [], h => simp at h
 | [a], h =>
  simp only [List.length_singleton, colF] at h
  by_cases ha : isU a = true
  ·unfold isU at ha
   have ha := of_decide_eq_true ha
   refine ⟨a.toNat - 65, by omega, ?_⟩
   unfold letL
   rw [if_pos (by omega), u8_eq a _ (by omega)]
  ·rw [if_neg (by omega), if_neg ha] at h; simp at h
 | [a, b], h =>
  simp only [List.length_cons, List.length_nil, colF] at h
  rw [if_neg (by omega)] at h
  by_cases ha : isU a = true
  ·rw [if_pos ha] at h
   by_cases hb : isU b = true
   ·unfold isU at ha hb
    have ha := of_decide_eq_true ha
    have hb := of_decide_eq_true hb
    refine ⟨(a.toNat - 64) * 26 + (b.toNat - 65), by omega, ?_⟩
    unfold letL
    rw [if_neg (by omega), u8_eq a _ (by omega), u8_eq b _ (by omega)]
   ·rw [if_neg hb] at h; simp at h
  ·rw [if_neg ha] at h; simp at h
 | a :: b :: c :: l, h =>
  rw [if_pos (by simp)] at h; simp at h
theorem col_false (t : List UInt8) (h : ¬ (colS t).2 = true) : colS t = (0, false) := by
 have : ∀ (l : List UInt8) (n : Int), ¬ (colF n l).2 = true → colF n l = (0, false) := by
  intro l
  induction l with
  | nil => intro n h; simp [colF] at h
  | cons b l ih =>
   intro n h
   simp only [colF] at h ⊢
   by_cases hb : isU b = true
   ·rw [if_pos hb] at h ⊢; exact ih _ h
   ·rw [if_neg hb]
 unfold colS at h ⊢
 split
 ·rfl
 ·rename_i g
  rw [if_neg g] at h
  exact this _ _ h
theorem srch_col (t : List UInt8) : srch letL t 702 0 = colS t := by
 by_cases h : (colS t).2 = true
 ·obtain ⟨n, hn, rfl⟩ := col_ok t h
  rw [col_let ⟨n, hn⟩]
  refine srch_hit letL _ n rfl 702 0 (by omega) (by omega) (fun m hm e => ?_)
  have h1 := col_let ⟨m, by omega⟩
  have h2 := col_let ⟨n, hn⟩
  simp only at h1 h2
  rw [e, h2] at h1
  simp only [Prod.mk.injEq] at h1
  omega
 ·rw [col_false t h]
  refine srch_miss letL t 702 0 (fun j _ hj e => h ?_)
  rw [← e, col_let ⟨j, by omega⟩]
theorem num_ok (t : List UInt8) (h : (numS t).2 = true) : ∃ n : Nat, n < 999 ∧ digL (n + 1) = t := by
 unfold numS at h
 have hd : ∀ {b : UInt8}, isD b = true → 48 ≤ b.toNat ∧ b.toNat ≤ 57 := fun {b} hb => by unfold isD at hb; exact of_decide_eq_true hb
 match t, h with
 | [], h => simp at h
 | a :: l, h =>
  by_cases g : (a :: l).length < 1 ∨ (a :: l).length > 3 ∨ (a :: l).head? = some 48
  ·rw [if_pos g] at h; simp at h
  ·rw [if_neg g] at h
   have h0 : a ≠ 48 := fun e => g (Or.inr (Or.inr (by rw [e]; rfl)))
   have h0' : a.toNat ≠ 48 := fun e => h0 (u8_inj e)
   simp only [numF] at h
   by_cases ha : isD a = true
   ·rw [if_pos ha] at h
    have ha := hd ha
    match l, h, g with
    | [], _, _ =>
     refine ⟨a.toNat - 49, by omega, ?_⟩
     unfold digL
     rw [if_pos (by omega), u8_eq a _ (by omega)]
    | [b], h, _ =>
     simp only [numF] at h
     by_cases hb : isD b = true
     ·have hb := hd hb
      refine ⟨(a.toNat - 48) * 10 + (b.toNat - 48) - 1, by omega, ?_⟩
      unfold digL
      rw [if_neg (by omega), if_pos (by omega), u8_eq a _ (by omega), u8_eq b _ (by omega)]
     ·rw [if_neg hb] at h; simp at h
    | [b, c], h, _ =>
     simp only [numF] at h
     by_cases hb : isD b = true
     ·rw [if_pos hb] at h
      by_cases hc : isD c = true
      ·have hb := hd hb
       have hc := hd hc
       refine ⟨(a.toNat - 48) * 100 + (b.toNat - 48) * 10 + (c.toNat - 48) - 1, by omega, ?_⟩
       unfold digL
       rw [if_neg (by omega), if_neg (by omega), u8_eq a _ (by omega), u8_eq b _ (by omega), u8_eq c _ (by omega)]
      ·rw [if_neg hc] at h; simp at h
     ·rw [if_neg hb] at h; simp at h
    | b :: c :: e :: m, _, g => exact absurd (Or.inr (Or.inl (by simp))) g
   ·rw [if_neg ha] at h; simp at h
theorem num_false (t : List UInt8) (h : ¬ (numS t).2 = true) : numS t = (0, false) := by
 have : ∀ (l : List UInt8) (n : Int), ¬ (numF n l).2 = true → numF n l = (0, false) := by
  intro l
  induction l with
  | nil => intro n h; simp [numF] at h
  | cons b l ih =>
   intro n h
   simp only [numF] at h ⊢
   by_cases hb : isD b = true
   ·rw [if_pos hb] at h ⊢; exact ih _ h
   ·rw [if_neg hb]
 unfold numS at h ⊢
 split
 ·rfl
 ·rename_i g
  rw [if_neg g] at h
  exact this _ _ h
theorem srch_num (t : List UInt8) : srch (fun i => digL (i + 1)) t 999 0 = numS t := by
 by_cases h : (numS t).2 = true
 ·obtain ⟨n, hn, rfl⟩ := num_ok t h
  rw [num_dig ⟨n, hn⟩]
  refine srch_hit _ _ n rfl 999 0 (by omega) (by omega) (fun m hm e => ?_)
  have h1 := num_dig ⟨m, by omega⟩
  have h2 := num_dig ⟨n, hn⟩
  simp only at h1 h2 e
  rw [e, h2] at h1
  simp only [Prod.mk.injEq] at h1
  omega
 ·rw [num_false t h]
  refine srch_miss _ t 999 0 (fun j _ hj e => h ?_)
  rw [← e, num_dig ⟨j, by omega⟩]
end Go.Proofs.YtajoebfkkknjhaaDoor.X.AD
/- The reference's Parse is the code's. -/
set_option linter.unusedVariables false
set_option linter.unusedSimpArgs false
namespace Go.Proofs.YtajoebfkkknjhaaDoor.X.AD
open Go.RowKit Go.Proofs.YtajoebfkkknjhaaDoorW.PrintWords Go.Proofs.YtajoebfkkknjhaaDoorW.PrintLast Go.Proofs.YtajoebfkkknjhaaDoorW.PrintMore
theorem rcol_ev (t : List UInt8) : Ev (fun k => oculusref03_Column.f k (tx t)) (colS t) := by rw [← srch_col]; exact rcolumn_ev t
theorem rnum_ev (t : List UInt8) : Ev (fun k => oculusref03_Number.f k (tx t)) (numS t) := by rw [← srch_num]; exact rnumber_ev t
def stepS (l : List UInt8) (i : Nat) (q : Int × Int × Bool) : Int × Int × Bool := if (colS (l.take i)).2 = true then (if (numS (l.drop i)).2 = true then ((numS (l.drop i)).1, (colS (l.take i)).1, true) else q) else q
def rpS (l : List UInt8) : Int × Int × Bool := if 1 ≤ l.length then stepS l 1 (if 2 ≤ l.length then stepS l 2 (0, 0, false) else (0, 0, false)) else (0, 0, false)
theorem rparse_j1f (l : List UInt8) (i : Int) : Ev (fun k => oculusref03_Parse.j1 k (tx l) i false) (0, 0, false) := by
 refine Ev.step (fun k => oculusref03_Parse.j1.eq_2 _ _ _ _) ?_
 exact ev_neg (by simp) (Ev.now _)
theorem rparse_step (l : List UInt8) (i : Nat) (hi : 1 ≤ i ∧ i ≤ 2) (q : Int × Int × Bool) (hn : Ev (fun k => oculusref03_Parse.l0 k (tx l) ((i + 1 : Nat) : Int)) q) : Ev (fun k => oculusref03_Parse.l0 k (tx l) (i : Int)) (if i ≤ l.length then stepS l i q else (0, 0, false)) := by
 have hz := size_tx l
 refine Ev.step (fun k => oculusref03_Parse.l0.eq_2 _ _ _) ?_
 refine ev_pos (by omega) ?_
 by_cases h : i ≤ l.length
 ·rw [if_pos h, decide_eq_true (by omega)]
  refine Ev.step (fun k => oculusref03_Parse.j1.eq_2 _ _ _ _) ?_
  refine ev_pos rfl (ev_pos (by omega) (ev_pos (by omega) ?_))
  rw [Int.toNat_natCast, ext_head, ext_tail, by_tx, w64s (n := 100) (by omega) (by omega)]
  refine ev_bind (rcol_ev _) (ev_bind (rnum_ev _) ?_)
  unfold stepS
  refine ev_ite (fun h1 => ev_ite (fun h2 => ?_) (fun h2 => ?_)) (fun h1 => ?_)
  ·rw [if_pos h1, if_pos h2]; exact Ev.now _
  ·rw [if_pos h1, if_neg h2]; exact hn
  ·rw [if_neg h1]; exact hn
 ·rw [if_neg h, decide_eq_false (by omega)]
  exact rparse_j1f l i
theorem rparse_ev (l : List UInt8) : Ev (fun k => oculusref03_Parse.f k (tx l)) (rpS l) := by
 unfold oculusref03_Parse.f rpS
 refine rparse_step l 1 (by omega) _ (rparse_step l 2 (by omega) _ ?_)
 refine Ev.step (fun k => oculusref03_Parse.l0.eq_2 _ _ _) ?_
 exact ev_neg (by omega) (rparse_j1f l _)
theorem num_upper (b : UInt8) (l : List UInt8) (hb : isU b = true) : ¬ (numS (b :: l)).2 = true := by
 unfold isU at hb
 have hb := of_decide_eq_true hb
 unfold numS
 split
 ·simp
 ·simp only [numF]
  rw [if_neg (by unfold isD; simp; omega)]
  simp
theorem num_nil : ¬ (numS []).2 = true := by simp [numS]
theorem col_one (a : UInt8) : (colS [a]).2 = true ↔ isU a = true := by
 unfold colS
 rw [if_neg (by simp)]
 simp only [colF]
 by_cases h : isU a = true
 ·rw [if_pos h]; simp [h]
 ·rw [if_neg h]; simp [h]
theorem col_two (a b : UInt8) : (colS [a, b]).2 = true ↔ (isU a = true ∧ isU b = true) := by
 unfold colS
 rw [if_neg (by simp)]
 simp only [colF]
 by_cases h : isU a = true
 ·rw [if_pos h]
  by_cases g : isU b = true
  ·rw [if_pos g]; simp [h, g]
  ·rw [if_neg g]; simp [g]
 ·rw [if_neg h]; simp [h]
theorem rp_one (a : UInt8) : rpS [a] = if (colS [a]).2 = true then (if (numS []).2 = true then ((numS []).1, (colS [a]).1, true) else (0, 0, false)) else (0, 0, false) := rfl
theorem rp_two (a b : UInt8) (m : List UInt8) : rpS (a :: b :: m) = if (colS [a]).2 = true then (if (numS (b :: m)).2 = true then ((numS (b :: m)).1, (colS [a]).1, true) else (if (colS [a, b]).2 = true then (if (numS m).2 = true then ((numS m).1, (colS [a, b]).1, true) else (0, 0, false)) else (0, 0, false))) else (if (colS [a, b]).2 = true then (if (numS m).2 = true then ((numS m).1, (colS [a, b]).1, true) else (0, 0, false)) else (0, 0, false)) := by
 unfold rpS
 rw [if_pos (show 1 ≤ (a :: b :: m).length by simp), if_pos (show 2 ≤ (a :: b :: m).length by simp)]
 rfl
def parF (a r : List UInt8) : Int × Int × Bool := if (colS a).2 = true then (if (numS r).2 = true then ((numS r).1, (colS a).1, true) else (0, 0, false)) else (0, 0, false)
theorem par_F (l : List UInt8) : parS l = parF (l.takeWhile isU) (l.dropWhile isU) := rfl
theorem parF_num {a r : List UInt8} (h : ¬ (numS r).2 = true) : parF a r = (0, 0, false) := by unfold parF; rw [if_neg h]; split <;> rfl
theorem parF_col {a r : List UInt8} (h : ¬ (colS a).2 = true) : parF a r = (0, 0, false) := by unfold parF; rw [if_neg h]
theorem par_rp (l : List UInt8) : parS l = rpS l := by
 rw [par_F]
 match l with
 | [] => exact parF_num num_nil
 | [a] =>
  rw [rp_one, if_neg num_nil]
  by_cases h : isU a = true
  ·rw [List.takeWhile_cons_of_pos h, List.dropWhile_cons_of_pos h, List.dropWhile_nil, parF_num num_nil]
   split <;> rfl
  ·rw [List.takeWhile_cons_of_neg h, parF_col (by simp [colS])]
   split <;> rfl
 | a :: b :: m =>
  rw [rp_two]
  by_cases h : isU a = true
  ·rw [List.takeWhile_cons_of_pos h, List.dropWhile_cons_of_pos h]
   by_cases g : isU b = true
   ·rw [List.takeWhile_cons_of_pos g, List.dropWhile_cons_of_pos g, if_neg (num_upper b m g)]
    have e2 : parF (a :: b :: m.takeWhile isU) (m.dropWhile isU) = (if (colS [a, b]).2 = true then (if (numS m).2 = true then ((numS m).1, (colS [a, b]).1, true) else (0, 0, false)) else (0, 0, false)) := by
     cases m with
     | nil => rfl
     | cons c r =>
      by_cases k : isU c = true
      ·rw [List.takeWhile_cons_of_pos k, parF_col (by unfold colS; rw [if_pos (by simp)]; simp), if_neg (num_upper c r k)]
       split <;> rfl
      ·rw [List.takeWhile_cons_of_neg k, List.dropWhile_cons_of_neg k]; rfl
    rw [e2, if_pos ((col_one a).2 h)]
   ·rw [List.takeWhile_cons_of_neg g, List.dropWhile_cons_of_neg g, if_neg (fun k => g ((col_two a b).1 k).2)]
    unfold parF
    split <;> rfl
  ·rw [List.takeWhile_cons_of_neg h, parF_col (by simp [colS]), if_neg (fun k => h ((col_one a).1 k)), if_neg (fun k => h ((col_two a b).1 k).1)]
end Go.Proofs.YtajoebfkkknjhaaDoor.X.AD
/- A cell's name, read; what is read, named: plain. -/
set_option linter.unusedVariables false
set_option linter.unusedSimpArgs false
namespace Go.Proofs.YtajoebfkkknjhaaDoor.X.AD
open Go.RowKit Go.Proofs.YtajoebfkkknjhaaDoor.X Go.Proofs.YtajoebfkkknjhaaDoorW.PrintWords Go.Proofs.YtajoebfkkknjhaaDoorW.PrintLast Go.Proofs.YtajoebfkkknjhaaDoorW.PrintMore
theorem par_back {l : List UInt8} {r c : Int} (h : parS l = (r, c, true)) : mayI r c = true ∧ nameL r c = l := by
 rw [par_F] at h
 have ha : l.takeWhile isU ++ l.dropWhile isU = l := List.takeWhile_append_dropWhile
 unfold parF at h
 by_cases h1 : (colS (l.takeWhile isU)).2 = true
 ·rw [if_pos h1] at h
  by_cases h2 : (numS (l.dropWhile isU)).2 = true
  ·rw [if_pos h2] at h
   obtain ⟨n, hn, e1⟩ := col_ok _ h1
   obtain ⟨m, hm, e2⟩ := num_ok _ h2
   simp only [Prod.mk.injEq] at h
   have c1 := col_let ⟨n, hn⟩
   have c2 := num_dig ⟨m, hm⟩
   simp only at c1 c2
   rw [← e1, ← e2, c1, c2] at h
   simp only at h
   obtain ⟨rfl, rfl, _⟩ := h
   have hm2 : mayI (m : Int) (n : Int) = true := by unfold mayI; rw [decide_eq_true_eq]; omega
   refine ⟨hm2, ?_⟩
   unfold nameL
   rw [if_pos hm2, Int.toNat_natCast, Int.toNat_natCast, e1, e2, ha]
  ·rw [if_neg h2] at h; simp at h
 ·rw [if_neg h1] at h; simp at h
end Go.Proofs.YtajoebfkkknjhaaDoor.X.AD
/- Spans as texts. -/
set_option linter.unusedVariables false
set_option linter.unusedSimpArgs false
namespace Go.Proofs.YtajoebfkkknjhaaDoor.X.AD
open Go.RowKit Go.Proofs.YtajoebfkkknjhaaDoorW.PrintWords Go.Proofs.YtajoebfkkknjhaaDoorW.PrintLast Go.Proofs.YtajoebfkkknjhaaDoorW.PrintMore
def mayZ (a b c d : Int) : Bool := decide ((0 ≤ a ∧ a < 999 ∧ 0 ≤ b ∧ b < 702) ∧ (0 ≤ c ∧ c < 999 ∧ 0 ≤ d ∧ d < 702))
theorem addr_may_eq (a b : Int) : addr_May.f a b = some (decide (0 ≤ a ∧ a < 999 ∧ 0 ≤ b ∧ b < 702)) := by
 unfold addr_May.f
 by_cases h1 : a ≥ 0
 ·rw [if_pos h1]
  by_cases h2 : a < 999
  ·rw [if_pos h2]
   by_cases h3 : b ≥ 0
   ·rw [if_pos h3, Option.some.injEq, decide_eq_decide]; omega
   ·rw [if_neg h3, decide_eq_false (by omega)]
  ·rw [if_neg h2, decide_eq_false (by omega)]
 ·rw [if_neg h1, decide_eq_false (by omega)]
theorem span_may_eq (a b c d : Int) : span_May.f a b c d = some (mayZ a b c d) := by
 unfold span_May.f mayZ
 rw [addr_may_eq, Option.bind_some]
 by_cases h : 0 ≤ a ∧ a < 999 ∧ 0 ≤ b ∧ b < 702
 ·rw [decide_eq_true h, if_pos rfl, addr_may_eq, Option.bind_some, Option.some.injEq, decide_eq_decide]
  exact ⟨fun g => ⟨h, g⟩, fun g => g.2⟩
 ·rw [decide_eq_false h, if_neg (by simp), decide_eq_false (fun g => h g.1)]
theorem rmayd_eq (a b : Int) : oculusref03_May.f a b = some (decide (0 ≤ a ∧ a < 999 ∧ 0 ≤ b ∧ b < 702)) := by
 unfold oculusref03_May.f
 by_cases h1 : a ≥ 0
 ·rw [if_pos h1]
  by_cases h2 : a ≤ 998
  ·rw [if_pos h2]
   by_cases h3 : b ≥ 0
   ·rw [if_pos h3, Option.some.injEq, decide_eq_decide]; omega
   ·rw [if_neg h3, decide_eq_false (by omega)]
  ·rw [if_neg h2, decide_eq_false (by omega)]
 ·rw [if_neg h1, decide_eq_false (by omega)]
theorem rspan_may_eq (a b c d : Int) : oculusref04_May.f a b c d = some (mayZ a b c d) := by
 unfold oculusref04_May.f mayZ
 rw [rmayd_eq, Option.bind_some]
 by_cases h : 0 ≤ a ∧ a < 999 ∧ 0 ≤ b ∧ b < 702
 ·rw [decide_eq_true h, if_pos rfl, rmayd_eq, Option.bind_some, Option.some.injEq, decide_eq_decide]
  exact ⟨fun g => ⟨h, g⟩, fun g => g.2⟩
 ·rw [decide_eq_false h, if_neg (by simp), decide_eq_false (fun g => h g.1)]
def spP (l : List UInt8) : Int × Int × Int × Int × Bool :=
 if (parS (cutL 58 l).1).2.2 = true then
  (if (cutL 58 l).2.2 = true then
   (if (parS (cutL 58 l).2.1).2.2 = true then
    (if (parS (cutL 58 l).1).1 = (parS (cutL 58 l).2.1).1 ∧ (parS (cutL 58 l).1).2.1 = (parS (cutL 58 l).2.1).2.1 then (0, 0, 0, 0, false)
    else ((parS (cutL 58 l).1).1, (parS (cutL 58 l).1).2.1, (parS (cutL 58 l).2.1).1, (parS (cutL 58 l).2.1).2.1, true))
   else (0, 0, 0, 0, false))
  else ((parS (cutL 58 l).1).1, (parS (cutL 58 l).1).2.1, (parS (cutL 58 l).1).1, (parS (cutL 58 l).1).2.1, true))
 else (0, 0, 0, 0, false)
theorem spparse_ev (l : List UInt8) (hl : l.length ≤ 1000) : Ev (fun k => span_Parse.f k (tx l)) (spP l) := by
 have hc := cutL_length 58 l
 unfold span_Parse.f spP
 have e := cut_eq (tx l) 58 (by rw [size_tx]; omega)
 rw [by_tx] at e
 refine ev_bind (ev_some fun _ => e) ?_
 refine ev_bind (parse_ev _ (by omega)) ?_
 have hp2 := parse_ev (cutL 58 l).2.1 (by omega)
 generalize parS (cutL 58 l).1 = p1 at *
 generalize parS (cutL 58 l).2.1 = p2 at *
 refine ev_ite (fun h1 => ?_) (fun h1 => ?_)
 ·rw [if_pos h1]
  refine Ev.step (fun k => span_Parse.j0.eq_2 _ _ _ _ _ _) ?_
  cases h2 : (cutL 58 l).2.2 with
  | false =>
   rw [if_neg (by simp)]
   exact ev_pos rfl (Ev.now _)
  | true =>
   rw [if_pos rfl]
   refine ev_neg (by simp) (ev_bind hp2 ?_)
   refine ev_pos h1 (ev_ite (fun h3 => ?_) (fun h3 => ?_))
   ·rw [if_pos h3]
    refine ev_ite (fun h4 => ?_) (fun h4 => ?_)
    ·rw [if_pos (by simpa using h4)]; exact Ev.now _
    ·rw [if_neg (by simpa using h4)]; exact Ev.now _
   ·rw [if_neg h3]; exact Ev.now _
 ·rw [if_neg h1]
  refine Ev.step (fun k => span_Parse.j0.eq_2 _ _ _ _ _ _) ?_
  refine ev_neg (by simp) (ev_bind hp2 ?_)
  exact ev_neg h1 (Ev.now _)
def txtL (a b c d : Int) : List UInt8 := if mayZ a b c d = true then (if a = c ∧ b = d then nameL a b else nameL a b ++ 58 :: nameL c d) else []
theorem nameL_len (a b : Int) : (nameL a b).length ≤ 5 := by
 unfold nameL
 split
 ·rw [List.length_append]
  have h1 := letL_len b.toNat
  have h2 := digL_len (a.toNat + 1)
  omega
 ·simp
theorem text_ev (a b c d : Int) : Ev (fun k => span_Text.f k a b c d) (tx (txtL a b c d)) := by
 unfold span_Text.f txtL
 refine ev_bind (ev_some fun _ => span_may_eq a b c d) ?_
 refine Ev.step (fun k => span_Text.j0.eq_2 _ _ _ _ _ _) ?_
 cases h : mayZ a b c d with
 | false => rw [if_neg (by simp)]; exact ev_pos rfl (Ev.now _)
 | true =>
  rw [if_pos rfl]
  refine ev_neg (by simp) ?_
  have l1 := nameL_len a b
  have l2 := nameL_len c d
  refine ev_ite (fun g => ?_) (fun g => ?_)
  ·rw [if_pos (by simpa using g)]
   exact ev_bind (name_ev a b) (Ev.now _)
  ·rw [if_neg (by simpa using g)]
   refine ev_bind (name_ev a b) (ev_pos (by rw [size_tx]; omega) ?_)
   refine ev_bind (name_ev c d) ?_
   have e : tx (nameL a b) ++ (⟨#[58]⟩ : ByteArray) ++ tx (nameL c d) = tx (nameL a b ++ 58 :: nameL c d) := by
    rw [show (⟨#[58]⟩ : ByteArray) = tx [58] from rfl, tx_append, tx_append]; simp
   have e0 : tx (nameL a b) ++ (⟨#[58]⟩ : ByteArray) = tx (nameL a b ++ [58]) := by rw [show (⟨#[58]⟩ : ByteArray) = tx [58] from rfl, tx_append]
   refine ev_pos (by rw [e0, size_tx, size_tx, List.length_append]; simp; omega) ?_
   rw [e]
   exact Ev.now _
theorem rpar (l : List UInt8) : Ev (fun k => oculusref03_Parse.f k (tx l)) (parS l) := by
 have := rparse_ev l
 rw [← par_rp l] at this
 exact this
theorem may_two (a b c d : Int) : mayZ a b c d = (mayI a b && mayI c d) := by
 unfold mayZ mayI
 rw [← Bool.decide_and]
theorem let_col : ∀ n : Fin 702, (58 : UInt8) ∉ letL n.val := by decide +kernel
theorem dig_col : ∀ n : Fin 1000, (58 : UInt8) ∉ digL n.val := by decide +kernel
theorem name_col (r c : Int) : (58 : UInt8) ∉ nameL r c := by
 unfold nameL
 by_cases h : mayI r c = true
 ·rw [if_pos h]
  unfold mayI at h
  have hb := of_decide_eq_true h
  have h1 := let_col ⟨c.toNat, by omega⟩
  have h2 := dig_col ⟨r.toNat + 1, by omega⟩
  simp only [List.mem_append, not_or]
  exact ⟨h1, h2⟩
 ·rw [if_neg h]; simp
theorem par_form {l : List UInt8} (h : (parS l).2.2 = true) : mayI (parS l).1 (parS l).2.1 = true ∧ nameL (parS l).1 (parS l).2.1 = l ∧ (58 : UInt8) ∉ l ∧ l.length ≤ 5 := by
 obtain ⟨h1, h2⟩ := par_back (l := l) (r := (parS l).1) (c := (parS l).2.1) (by rw [← h])
 have h3 := name_col (parS l).1 (parS l).2.1
 have h4 := nameL_len (parS l).1 (parS l).2.1
 rw [h2] at h3 h4
 exact ⟨h1, h2, h3, h4⟩
theorem sp_back {l : List UInt8} {a b c d : Int} (h : spP l = (a, b, c, d, true)) : txtL a b c d = l := by
 unfold spP at h
 by_cases h1 : (parS (cutL 58 l).1).2.2 = true
 ·rw [if_pos h1] at h
  obtain ⟨m1, n1, _, _⟩ := par_form h1
  by_cases h2 : (cutL 58 l).2.2 = true
  ·rw [if_pos h2] at h
   by_cases h3 : (parS (cutL 58 l).2.1).2.2 = true
   ·rw [if_pos h3] at h
    obtain ⟨m2, n2, _, _⟩ := par_form h3
    split at h
    ·simp at h
    ·rename_i h4
     simp only [Prod.mk.injEq] at h
     obtain ⟨rfl, rfl, rfl, rfl, _⟩ := h
     unfold txtL
     rw [if_pos (by rw [may_two, m1, m2]; rfl), if_neg h4, n1, n2]
     rcases cutL_back 58 l with ⟨_, k⟩ | ⟨k, _⟩
     ·exact k.symm
     ·rw [h2] at k; cases k
   ·rw [if_neg h3] at h; simp at h
  ·rw [if_neg h2] at h
   simp only [Prod.mk.injEq] at h
   obtain ⟨rfl, rfl, rfl, rfl, _⟩ := h
   unfold txtL
   rw [if_pos (by rw [may_two, m1]; rfl), if_pos ⟨rfl, rfl⟩, n1]
   rcases cutL_back 58 l with ⟨k, _⟩ | ⟨_, k, _⟩
   ·exact absurd k h2
   ·exact k.symm
 ·rw [if_neg h1] at h; simp at h
theorem rtext_ev (a b c d : Int) : Ev (fun k => oculusref04_Text.f k a b c d) (tx (txtL a b c d)) := by
 unfold oculusref04_Text.f txtL
 refine ev_bind (ev_some fun _ => rspan_may_eq a b c d) ?_
 by_cases h : mayZ a b c d = true
 ·rw [if_pos h]
  have l1 := nameL_len a b
  have l2 := nameL_len c d
  refine ev_pos h (ev_bind (rname_ev a b) (ev_ite (fun g => ?_) (fun g => ?_)))
  ·have g' : ¬ (a = c ∧ b = d) := by
    rintro ⟨e1, e2⟩
    rw [e1, e2] at g
    simp at g
   rw [if_neg g']
   have e0 : tx (nameL a b) ++ (⟨#[58]⟩ : ByteArray) = tx (nameL a b ++ [58]) := by rw [show (⟨#[58]⟩ : ByteArray) = tx [58] from rfl, tx_append]
   refine ev_pos (by rw [size_tx]; omega) (ev_bind (rname_ev c d) ?_)
   rw [e0]
   refine ev_pos (by rw [size_tx, size_tx, List.length_append]; simp; omega) ?_
   rw [tx_append, List.append_assoc]
   exact Ev.now _
  ·have g' : a = c ∧ b = d := by
    simp only [Bool.or_eq_true, Bool.not_eq_true', beq_eq_false_iff_ne, not_or, Decidable.not_not, ne_eq] at g
    exact ⟨g.1.symm, g.2.symm⟩
   rw [if_pos g']
   exact Ev.now _
 ·rw [if_neg h]
  exact ev_neg h (Ev.now _)
theorem rsp_j1f (l : List UInt8) (i : Int) : Ev (fun k => oculusref04_Parse.j1 k (tx l) i false) (0, 0, 0, 0, false) :=
 Ev.step (fun k => oculusref04_Parse.j1.eq_2 ..) (ev_neg (by simp) (Ev.now _))
theorem rsp_late (l : List UInt8) (hl : l.length ≤ 1000) (n : Nat) (hn : n < l.length) (hc : l[n] = 58) : ∀ (m i : Nat), i + m = l.length → n < i → Ev (fun k => oculusref04_Parse.l0 k (tx l) (i : Int)) (0, 0, 0, 0, false)
 | 0, i, hi, _ => by
  refine Ev.step (fun k => oculusref04_Parse.l0.eq_2 ..) ?_
  rw [size_tx]
  exact ev_neg (by omega) (rsp_j1f l _)
 | m + 1, i, hi, hni => by
  have ih := rsp_late l hl n hn hc m (i + 1) (by omega) (by omega)
  refine Ev.step (fun k => oculusref04_Parse.l0.eq_2 ..) ?_
  rw [size_tx]
  refine ev_pos (by omega) ?_
  by_cases h10 : i < 10
  ·rw [decide_eq_true (by omega)]
   refine Ev.step (fun k => oculusref04_Parse.j1.eq_2 ..) (ev_pos rfl ?_)
   rw [size_tx, bt_tx l i (by omega), w64s (n := 10000) (by omega) (by omega)]
   refine ev_pos (by omega) (ev_pos (by omega) (ev_ite (fun _ => ?_) (fun _ => ih)))
   refine ev_pos (by omega) ?_
   rw [Int.toNat_natCast, ext_head, by_tx]
   refine ev_bind (rpar _) (ev_pos (by omega) (ev_pos (by omega) ?_))
   have e5 : (tx l).extract (((i + 1 : Nat) : Int)).toNat l.length = tx (l.drop (i + 1)) := by
    have := ext_tail (tx l) (i + 1)
    rw [size_tx, by_tx] at this
    rw [Int.toNat_natCast]; exact this
   rw [e5]
   refine ev_bind (rpar _) (ev_neg ?_ ih)
   intro h
   have := (par_form h).2.2.1
   refine this ?_
   rw [← hc]
   have : l[n] = (l.take i)[n]'(by rw [List.length_take]; omega) := by rw [List.getElem_take]
   rw [this]
   exact List.getElem_mem _
  ·rw [decide_eq_false (by omega)]
   exact rsp_j1f l _
theorem rsp_none (l : List UInt8) (hl : l.length ≤ 1000) (h : (58 : UInt8) ∉ l) : ∀ (m i : Nat), i + m = l.length → Ev (fun k => oculusref04_Parse.l0 k (tx l) (i : Int)) (0, 0, 0, 0, false)
 | 0, i, hi => by
  refine Ev.step (fun k => oculusref04_Parse.l0.eq_2 ..) ?_
  rw [size_tx]
  exact ev_neg (by omega) (rsp_j1f l _)
 | m + 1, i, hi => by
  have ih := rsp_none l hl h m (i + 1) (by omega)
  refine Ev.step (fun k => oculusref04_Parse.l0.eq_2 ..) ?_
  rw [size_tx]
  refine ev_pos (by omega) ?_
  by_cases h10 : i < 10
  ·rw [decide_eq_true (by omega)]
   refine Ev.step (fun k => oculusref04_Parse.j1.eq_2 ..) (ev_pos rfl ?_)
   rw [size_tx, bt_tx l i (by omega), w64s (n := 10000) (by omega) (by omega)]
   refine ev_pos (by omega) (ev_pos (by omega) (ev_neg ?_ ih))
   intro e
   refine h ?_
   have : l[i] = 58 := u8_inj (by have : (58 : UInt8).toNat = 58 := rfl; omega)
   rw [← this]; exact List.getElem_mem _
  ·rw [decide_eq_false (by omega)]
   exact rsp_j1f l _
theorem rsp_at (p q : List UInt8) (hp : (58 : UInt8) ∉ p) (hl : (p ++ 58 :: q).length ≤ 1000) : ∀ (m i : Nat), i + m = p.length → Ev (fun k => oculusref04_Parse.l0 k (tx (p ++ 58 :: q)) (i : Int))
  (if (parS p).2.2 = true ∧ (parS q).2.2 = true ∧ ¬ ((parS p).1 = (parS q).1 ∧ (parS p).2.1 = (parS q).2.1) then ((parS p).1, (parS p).2.1, (parS q).1, (parS q).2.1, true) else (0, 0, 0, 0, false))
 | 0, i, hi => by
  obtain rfl : i = p.length := by omega
  have hlen : (p ++ 58 :: q).length = p.length + (q.length + 1) := by rw [List.length_append]; rfl
  have hg : (p ++ 58 :: q)[p.length]'(by omega) = 58 := by simp
  refine Ev.step (fun k => oculusref04_Parse.l0.eq_2 ..) ?_
  rw [size_tx]
  refine ev_pos (by omega) ?_
  by_cases h10 : p.length < 10
  ·rw [decide_eq_true (by omega)]
   refine Ev.step (fun k => oculusref04_Parse.j1.eq_2 ..) (ev_pos rfl ?_)
   rw [size_tx, bt_tx _ p.length (by omega), w64s (n := 10000) (by omega) (by omega), hg]
   refine ev_pos (by omega) (ev_pos (by omega) (ev_pos rfl (ev_pos (by omega) ?_)))
   rw [Int.toNat_natCast, ext_head, by_tx, List.take_left]
   refine ev_bind (rpar _) (ev_pos (by omega) (ev_pos (by omega) ?_))
   have e5 : (tx (p ++ 58 :: q)).extract (((p.length + 1 : Nat) : Int)).toNat (p ++ 58 :: q).length = tx q := by
    have := ext_tail (tx (p ++ 58 :: q)) (p.length + 1)
    rw [size_tx, by_tx] at this
    rw [Int.toNat_natCast, this, ← List.drop_drop, List.drop_left]; rfl
   rw [e5]
   have late := rsp_late (p ++ 58 :: q) hl p.length (by omega) hg (q.length) (p.length + 1) (by omega) (by omega)
   refine ev_bind (rpar _) (ev_ite (fun h1 => ?_) (fun h1 => ?_))
   ·refine ev_ite (fun h2 => ?_) (fun h2 => ?_)
    ·refine ev_ite (fun h3 => ?_) (fun h3 => ?_)
     ·have h3' : ¬ ((parS p).1 = (parS q).1 ∧ (parS p).2.1 = (parS q).2.1) := by
       rintro ⟨e1, e2⟩
       rw [e1, e2] at h3
       simp at h3
      rw [if_pos ⟨h1, h2, h3'⟩]
      exact Ev.now _
     ·have h3' : (parS p).1 = (parS q).1 ∧ (parS p).2.1 = (parS q).2.1 := by
       simp only [Bool.or_eq_true, Bool.not_eq_true', beq_eq_false_iff_ne, not_or, Decidable.not_not, ne_eq] at h3
       exact h3
      rw [if_neg (fun k => k.2.2 h3')]
      exact late
    ·rw [if_neg (fun k => h2 k.2.1)]; exact late
   ·rw [if_neg (fun k => h1 k.1)]; exact late
  ·rw [decide_eq_false (by omega)]
   rw [if_neg (fun k => by have := (par_form k.1).2.2.2; omega)]
   exact rsp_j1f _ _
 | m + 1, i, hi => by
  have ih := rsp_at p q hp hl m (i + 1) (by omega)
  have hlen : (p ++ 58 :: q).length = p.length + (q.length + 1) := by rw [List.length_append]; rfl
  refine Ev.step (fun k => oculusref04_Parse.l0.eq_2 ..) ?_
  rw [size_tx]
  refine ev_pos (by omega) ?_
  by_cases h10 : i < 10
  ·rw [decide_eq_true (by omega)]
   refine Ev.step (fun k => oculusref04_Parse.j1.eq_2 ..) (ev_pos rfl ?_)
   rw [size_tx, bt_tx _ i (by omega), w64s (n := 10000) (by omega) (by omega)]
   refine ev_pos (by omega) (ev_pos (by omega) (ev_neg ?_ ih))
   intro e
   refine hp ?_
   have e1 : (p ++ 58 :: q)[i]'(by omega) = 58 := u8_inj (by have : (58 : UInt8).toNat = 58 := rfl; omega)
   rw [List.getElem_append_left (by omega)] at e1
   rw [← e1]; exact List.getElem_mem _
  ·rw [decide_eq_false (by omega)]
   rw [if_neg (fun k => by have := (par_form k.1).2.2.2; omega)]
   exact rsp_j1f _ _
theorem rspparse_ev (l : List UInt8) (hl : l.length ≤ 1000) : Ev (fun k => oculusref04_Parse.f k (tx l)) (spP l) := by
 unfold oculusref04_Parse.f
 refine ev_bind (rpar l) (ev_ite (fun h => ?_) (fun h => ?_))
 ·obtain ⟨_, _, h3, _⟩ := par_form h
  have : spP l = ((parS l).1, (parS l).2.1, (parS l).1, (parS l).2.1, true) := by
   unfold spP
   rw [cutL_plain 58 l h3]
   rw [if_pos h, if_neg (by simp)]
  rw [this]
  exact Ev.now _
 ·by_cases hc : (58 : UInt8) ∈ l
  ·rcases cutL_back 58 l with ⟨k1, k2⟩ | ⟨k1, k2, k3⟩
   ·have hno := cutL_no 58 l
    have hl' := hl
    rw [k2] at hl'
    have := rsp_at (cutL 58 l).1 (cutL 58 l).2.1 hno hl' _ 0 (Nat.zero_add _)
    rw [← k2] at this
    have e : spP l = if (parS (cutL 58 l).1).2.2 = true ∧ (parS (cutL 58 l).2.1).2.2 = true ∧ ¬ ((parS (cutL 58 l).1).1 = (parS (cutL 58 l).2.1).1 ∧ (parS (cutL 58 l).1).2.1 = (parS (cutL 58 l).2.1).2.1) then ((parS (cutL 58 l).1).1, (parS (cutL 58 l).1).2.1, (parS (cutL 58 l).2.1).1, (parS (cutL 58 l).2.1).2.1, true) else (0, 0, 0, 0, false) := by
     unfold spP
     rw [if_pos k1]
     by_cases g1 : (parS (cutL 58 l).1).2.2 = true
     ·rw [if_pos g1]
      by_cases g2 : (parS (cutL 58 l).2.1).2.2 = true
      ·rw [if_pos g2]
       by_cases g3 : (parS (cutL 58 l).1).1 = (parS (cutL 58 l).2.1).1 ∧ (parS (cutL 58 l).1).2.1 = (parS (cutL 58 l).2.1).2.1
       ·rw [if_pos g3, if_neg (fun k => k.2.2 g3)]
       ·rw [if_neg g3, if_pos ⟨g1, g2, g3⟩]
      ·rw [if_neg g2, if_neg (fun k => g2 k.2.1)]
     ·rw [if_neg g1, if_neg (fun k => g1 k.1)]
    rw [e]
    exact this
   ·exact absurd (k2 ▸ hc) (cutL_no 58 l)
  ·have : spP l = (0, 0, 0, 0, false) := by
    unfold spP
    rw [cutL_plain 58 l hc]
    rw [if_neg h]
   rw [this]
   exact rsp_none l hl hc l.length 0 (by omega)
theorem txtL_len (a b c d : Int) : (txtL a b c d).length ≤ 11 := by
 unfold txtL
 have l1 := nameL_len a b
 have l2 := nameL_len c d
 split
 ·split
  ·omega
  ·rw [List.length_append, List.length_cons]; omega
 ·simp
end Go.Proofs.YtajoebfkkknjhaaDoor.X.AD
/- Names. -/
set_option linter.unusedVariables false
set_option linter.unusedSimpArgs false
namespace Go.Proofs.YtajoebfkkknjhaaDoor.X.NM
open Go.RowKit Go.Proofs.YtajoebfkkknjhaaDoorW.PrintWords Go.Proofs.YtajoebfkkknjhaaDoorW.PrintLast Go.Proofs.YtajoebfkkknjhaaDoorW.PrintMore
def chS (c : Int) : Bool := (decide (97 ≤ c) && decide (c ≤ 122)) || (decide (48 ≤ c) && decide (c ≤ 57))
def allS (s : ByteArray) (i : Nat) : Nat → Bool
 | 0 => true
 | d + 1 => chS (bt s (i : Int)) && allS s (i + 1) d
theorem name_l0 (s : ByteArray) (hs : s.size ≤ 9223372036854775807) : ∀ (d i : Nat), i + d = s.size → Ev (fun k => right_Name.l0 k s (s.size : Int) (i : Int)) (allS s i d) := by
 intro d
 induction d with
 | zero =>
  intro i hi
  refine Ev.step (f := fun _ => some true) (fun k => ?_) (Ev.now _)
  simp only [right_Name.l0]
  rw [if_neg (by omega)]
 | succ d ih =>
  intro i hi
  have hw := w64s (i := i) (n := s.size) (by omega) hs
  have ih' := ih (i + 1) (by omega)
  refine Ev.step (f := fun k => if chS (bt s (i : Int)) = true then right_Name.l0 k s (s.size : Int) ((i + 1 : Nat) : Int) else some false) (fun k => ?_) ?_
  ·simp only [right_Name.l0]
   rw [if_pos (by omega), if_pos (by omega), if_pos (by omega), hw]
   unfold chS
   generalize bt s (i : Int) = c
   by_cases h1 : c < 97
   ·rw [if_pos h1, decide_eq_false (show ¬ 97 ≤ c by omega)]
    by_cases h2 : c < 48
    ·rw [if_pos h2, decide_eq_false (show ¬ 48 ≤ c by omega)]; simp
    ·rw [if_neg h2, decide_eq_true (show 48 ≤ c by omega)]
     by_cases h3 : c > 57
     ·rw [if_pos h3, decide_eq_false (show ¬ c ≤ 57 by omega)]; simp
     ·rw [if_neg h3, decide_eq_true (show c ≤ 57 by omega)]; simp
   ·rw [if_neg h1, decide_eq_true (show 97 ≤ c by omega)]
    by_cases h2 : c > 122
    ·rw [if_pos h2, if_neg (by omega), if_pos (by omega), decide_eq_false (show ¬ c ≤ 122 by omega), decide_eq_false (show ¬ c ≤ 57 by omega)]; simp
    ·rw [if_neg h2, decide_eq_true (show c ≤ 122 by omega)]; simp
  ·simp only [allS]
   refine ev_ite (fun h => ?_) (fun h => ?_)
   ·rw [h]; simpa using ih'
   ·rw [show chS (bt s (i : Int)) = false by simpa using h]; exact Ev.now _
theorem rname_l0 (s : ByteArray) (hs : s.size ≤ 9223372036854775807) : ∀ (d i : Nat), i + d = s.size → Ev (fun k => oculusref06_Name.l0 k s (i : Int)) (allS s i d) := by
 intro d
 induction d with
 | zero =>
  intro i hi
  refine Ev.step (f := fun _ => some true) (fun k => ?_) (Ev.now _)
  simp only [oculusref06_Name.l0]
  rw [if_neg (by omega)]
 | succ d ih =>
  intro i hi
  have hw := w64s (i := i) (n := s.size) (by omega) hs
  have ih' := ih (i + 1) (by omega)
  refine Ev.step (f := fun k => if chS (bt s (i : Int)) = true then oculusref06_Name.l0 k s ((i + 1 : Nat) : Int) else some false) (fun k => ?_) ?_
  ·simp only [oculusref06_Name.l0]
   rw [if_pos (by omega), if_pos (by omega), hw]
   unfold chS oculusref06_letter.f
   generalize bt s (i : Int) = c
   by_cases h1 : c ≥ 97
   ·rw [if_pos h1, decide_eq_true (show 97 ≤ c by omega)]
    simp only [Option.bind_some]
    by_cases h2 : c ≤ 122
    ·rw [decide_eq_true h2]; simp
    ·rw [decide_eq_false h2, if_pos (show c ≥ 48 by omega), if_neg (show ¬ c ≤ 57 by omega), decide_eq_false (show ¬ c ≤ 57 by omega)]; simp
   ·rw [if_neg h1, decide_eq_false (show ¬ 97 ≤ c by omega)]
    simp only [Option.bind_some]
    by_cases h2 : c ≥ 48
    ·rw [if_pos h2, decide_eq_true (show 48 ≤ c by omega)]
     by_cases h3 : c ≤ 57
     ·rw [if_pos h3, decide_eq_true h3]; simp
     ·rw [if_neg h3, decide_eq_false h3]; simp
    ·rw [if_neg h2, decide_eq_false (show ¬ 48 ≤ c by omega)]; simp
  ·simp only [allS]
   refine ev_ite (fun h => ?_) (fun h => ?_)
   ·rw [h]; simpa using ih'
   ·rw [show chS (bt s (i : Int)) = false by simpa using h]; exact Ev.now _
def nameS (s : ByteArray) : Bool := decide (1 ≤ s.size) && (decide (s.size ≤ 16) && (decide (97 ≤ bt s 0) && allS s 0 s.size))
theorem name_ev (s : ByteArray) (hs : s.size ≤ 9223372036854775807) : Ev (fun k => right_Name.f k s) (nameS s) := by
 unfold right_Name.f nameS
 have hj : ∀ b, Ev (fun k => right_Name.j0 k s b) (!b && allS s 0 s.size) := by
  intro b
  refine Ev.step (f := fun k => if b = true then some false else right_Name.l0 k s (s.size : Int) 0) (fun k => by simp only [right_Name.j0]) ?_
  cases b with
  | true => exact ev_pos rfl (Ev.now _)
  | false => exact ev_neg (by simp) (by simpa using name_l0 s hs s.size 0 (by omega))
 by_cases h1 : (s.size : Int) < 1
 ·simp only [if_pos h1]; rw [decide_eq_false (show ¬ 1 ≤ s.size by omega)]; exact hj true
 ·simp only [if_neg h1]; rw [decide_eq_true (show 1 ≤ s.size by omega)]
  by_cases h2 : (s.size : Int) > 16
  ·simp only [if_pos h2]; rw [decide_eq_false (show ¬ s.size ≤ 16 by omega)]; exact hj true
  ·simp only [if_neg h2]; rw [decide_eq_true (show s.size ≤ 16 by omega)]; simp only [if_pos (show (0 : Int) < (s.size : Int) by omega)]
   have := hj (decide (bt s 0 < 97))
   rw [show (!decide (bt s 0 < 97)) = decide (97 ≤ bt s 0) by rw [Bool.eq_iff_iff]; simp] at this
   simpa using this
theorem rname_ev (s : ByteArray) (hs : s.size ≤ 9223372036854775807) : Ev (fun k => oculusref06_Name.f k s) (nameS s) := by
 unfold oculusref06_Name.f nameS
 have hj : ∀ b, Ev (fun k => oculusref06_Name.j0 k s b) (!b && allS s 0 s.size) := by
  intro b
  refine Ev.step (f := fun k => if b = true then some false else oculusref06_Name.l0 k s 0) (fun k => by simp only [oculusref06_Name.j0]) ?_
  cases b with
  | true => exact ev_pos rfl (Ev.now _)
  | false => exact ev_neg (by simp) (by simpa using rname_l0 s hs s.size 0 (by omega))
 by_cases h1 : (s.size : Int) < 1
 ·simp only [if_pos h1]; rw [decide_eq_false (show ¬ 1 ≤ s.size by omega)]; exact hj true
 ·simp only [if_neg h1]; rw [decide_eq_true (show 1 ≤ s.size by omega)]
  by_cases h2 : (s.size : Int) > 16
  ·simp only [if_pos h2]; rw [decide_eq_false (show ¬ s.size ≤ 16 by omega)]; exact hj true
  ·simp only [if_neg h2]; rw [decide_eq_true (show s.size ≤ 16 by omega)]; simp only [if_pos (show (0 : Int) < (s.size : Int) by omega)]
   unfold oculusref06_letter.f
   by_cases h3 : bt s 0 ≥ 97
   ·rw [if_pos h3, decide_eq_true (show 97 ≤ bt s 0 by omega)]
    simp only [Option.bind_some]
    have := hj (!decide (bt s 0 ≤ 122))
    by_cases h4 : bt s 0 ≤ 122
    ·rw [decide_eq_true h4] at this ⊢; simpa using this
    ·rw [decide_eq_false h4] at this ⊢
     have hz : allS s 0 s.size = false := by
      obtain ⟨n, hn⟩ : ∃ n, s.size = n + 1 := ⟨s.size - 1, by omega⟩
      rw [hn]
      simp only [allS]
      have : chS (bt s ((0 : Nat) : Int)) = false := by
       unfold chS
       rw [show ((0 : Nat) : Int) = 0 from rfl, decide_eq_false h4, decide_eq_false (show ¬ bt s 0 ≤ 57 by omega)]; simp
      rw [this]; rfl
     rw [hz]
     simpa using this
   ·rw [if_neg h3, decide_eq_false (show ¬ 97 ≤ bt s 0 by omega)]
    simp only [Option.bind_some]
    simpa using hj true
end Go.Proofs.YtajoebfkkknjhaaDoor.X.NM
/- The command of a line: plain answers. -/
set_option linter.unusedVariables false
set_option linter.unusedSimpArgs false
namespace Go.Proofs.YtajoebfkkknjhaaDoor.X
open Go.RowKit Go.Proofs.YtajoebfkkknjhaaDoorW.PrintWords Go.Proofs.YtajoebfkkknjhaaDoorW.PrintLast Go.Proofs.YtajoebfkkknjhaaDoorW.PrintMore
open AD NM
abbrev T13 : Type := ByteArray × Int × Int × Int × Int × Int × Int × Int × Int × Int × ByteArray × Int × Int
def noneT : T13 := ((⟨#[]⟩ : ByteArray), 0, 0, 0, 0, 0, 0, 0, 0, 0, (⟨#[]⟩ : ByteArray), 0, 1)
theorem let_bl : ∀ n : Fin 702, (32 : UInt8) ∉ letL n.val := by decide +kernel
theorem dig_bl : ∀ n : Fin 1000, (32 : UInt8) ∉ digL n.val := by decide +kernel
theorem name_bl (r c : Int) : (32 : UInt8) ∉ nameL r c := by
 unfold nameL
 by_cases h : mayI r c = true
 ·rw [if_pos h]
  have h0 := h
  unfold mayI at h0
  rw [decide_eq_true_eq] at h0
  have h1 := let_bl ⟨c.toNat, by omega⟩
  have h2 := dig_bl ⟨r.toNat + 1, by omega⟩
  simp only [List.mem_append, not_or]
  exact ⟨h1, h2⟩
 ·rw [if_neg h]; simp
theorem txt_bl (a b c d : Int) : (32 : UInt8) ∉ txtL a b c d := by
 have h1 := name_bl a b
 have h2 := name_bl c d
 unfold txtL
 split
 ·split
  ·exact h1
  ·simp only [List.mem_append, List.mem_cons, not_or]
   exact ⟨h1, by decide, h2⟩
 ·simp
theorem par_bl {l : List UInt8} (h : (parS l).2.2 = true) : (32 : UInt8) ∉ l := by
 have h1 := (par_form h).2.1
 have h2 := name_bl (parS l).1 (parS l).2.1
 rwa [h1] at h2
theorem sp_bl {l : List UInt8} (h : (spP l).2.2.2.2 = true) : (32 : UInt8) ∉ l := by
 have h1 := sp_back (l := l) (a := (spP l).1) (b := (spP l).2.1) (c := (spP l).2.2.1) (d := (spP l).2.2.2.1) (by rw [← h])
 have h2 := txt_bl (spP l).1 (spP l).2.1 (spP l).2.2.1 (spP l).2.2.2.1
 rwa [h1] at h2
theorem dec_bl (n : Nat) : (32 : UInt8) ∉ Lib.decDigits n := by
 induction n using Nat.strongRecOn with
 | ind n ih =>
  by_cases h : n < 10
  ·rw [dec_small h]
   have : ∀ m : Fin 10, (32 : UInt8) ∉ [du8 (48 + m.val)] := by decide +kernel
   exact this ⟨n, h⟩
  ·rw [dec_more h]
   have : ∀ m : Fin 10, (32 : UInt8) ∉ [du8 (48 + m.val)] := by decide +kernel
   simp only [List.mem_append, not_or]
   exact ⟨ih _ (by omega), this ⟨n % 10, by omega⟩⟩
theorem numW_bl {w : List UInt8} (h : numW w ≠ 0) : (32 : UInt8) ∉ w := by
 have h1 := (numW_back h).1
 have h2 := dec_bl (numW w)
 rwa [h1] at h2
def argP (u : List UInt8) (lv ct v : Int) (r : List UInt8) (m : Bool) : T13 :=
 if v = 6 ∨ v = 7 ∨ v = 9 ∨ v = 10 then (if m = true then noneT else (tx u, lv, ct, v, 0, 0, 0, 0, 0, 0, tx [], 0, 0))
 else if v = 2 then (if (spP r).2.2.2.2 = true then (tx u, lv, ct, v, 0, 0, (spP r).1, (spP r).2.1, (spP r).2.2.1, (spP r).2.2.2.1, tx [], 0, 0) else noneT)
 else if v = 4 ∨ v = 5 then (if (parS r).2.2 = true then (tx u, lv, ct, v, (parS r).1, (parS r).2.1, 0, 0, 0, 0, tx [], 0, 0) else noneT)
 else if v = 8 then (if numW r = 0 then noneT else (tx u, lv, ct, v, 0, 0, 0, 0, 0, 0, tx [], ((numW r : Nat) : Int), 0))
 else if (parS (cutL 32 r).1).2.2 = true then
  (if v = 1 then (if (cutL 32 r).2.1 = [] then noneT else (tx u, lv, ct, v, (parS (cutL 32 r).1).1, (parS (cutL 32 r).1).2.1, 0, 0, 0, 0, tx (cutL 32 r).2.1, 0, 0))
   else if (spP (cutL 32 r).2.1).2.2.2.2 = true then (tx u, lv, ct, v, (parS (cutL 32 r).1).1, (parS (cutL 32 r).1).2.1, (spP (cutL 32 r).2.1).1, (spP (cutL 32 r).2.1).2.1, (spP (cutL 32 r).2.1).2.2.1, (spP (cutL 32 r).2.1).2.2.2.1, tx [], 0, 0) else noneT)
 else noneT
def lineP (u l w r : List UInt8) (m : Bool) : T13 :=
 if nameS (tx u) = true then (match labP l with
  | none => noneT
  | some (lv, ct) => if verbL w = 0 then noneT else argP u lv (ct : Int) (verbL w) r m) else noneT
def cmdP (t : List UInt8) : T13 :=
 if 1000 < t.length then ((⟨#[]⟩ : ByteArray), 0, 0, 0, 0, 0, 0, 0, 0, 0, (⟨#[]⟩ : ByteArray), 0, 3)
 else lineP (cutL 32 t).1 (cutL 32 (cutL 32 t).2.1).1 (cutL 32 (cutL 32 (cutL 32 t).2.1).2.1).1 (cutL 32 (cutL 32 (cutL 32 t).2.1).2.1).2.1 (cutL 32 (cutL 32 (cutL 32 t).2.1).2.1).2.2
end Go.Proofs.YtajoebfkkknjhaaDoor.X
/- The reference's Parse answers cmdP. -/
set_option linter.unusedVariables false
set_option linter.unusedSimpArgs false
namespace Go.Proofs.YtajoebfkkknjhaaDoor.X
open Go.RowKit Go.Proofs.YtajoebfkkknjhaaDoorW.PrintWords Go.Proofs.YtajoebfkkknjhaaDoorW.PrintLast Go.Proofs.YtajoebfkkknjhaaDoorW.PrintMore
open AD NM
theorem spl_len (c : UInt8) (l : List UInt8) : (splC c l).length = 1 ↔ c ∉ l := by
 rw [splC_cut]
 rcases cutL_back c l with ⟨k, e⟩ | ⟨k, e, _⟩
 ·rw [k, if_pos rfl]
  obtain ⟨p, ps, hp⟩ := splC_ne c (cutL c l).2.1
  rw [hp]
  constructor
  ·intro h; simp at h
  ·intro h; exact absurd (by rw [e]; simp) h
 ·rw [k, if_neg (by simp)]
  have := cutL_no c l
  rw [← e] at this
  simp [this]
theorem cut_plain_eq {l : List UInt8} (h : (32 : UInt8) ∉ l) : (cutL 32 l).1 = l := by rw [cutL_plain 32 l h]
theorem cut_false {l : List UInt8} (h : (cutL 32 l).2.2 = false) : (cutL 32 l).1 = l ∧ (cutL 32 l).2.1 = [] ∧ (32 : UInt8) ∉ l := by
 rcases cutL_back 32 l with ⟨k, _⟩ | ⟨_, k, k2⟩
 ·rw [h] at k; cases k
 ·have := cutL_no 32 l
  rw [← k] at this
  exact ⟨k.symm, k2, this⟩
theorem sp_nil : (spP []).2.2.2.2 = false := by decide +kernel
theorem ev_eq {α : Type} {g : Nat → Option α} {r r9 : α} (h : r = r9) (k : Ev g r9) : Ev g r := h ▸ k
theorem behind_ev (t u : List UInt8) (lv ct : Int) (v : Nat) (hv : 1 ≤ v ∧ v ≤ 10) (hn : ¬ ((v : Int) = 6 ∨ (v : Int) = 7 ∨ (v : Int) = 9 ∨ (v : Int) = 10)) (w1 w2 w3 r : List UInt8) (m : Bool) (ht : t.length ≤ 5000) (hr : r.length ≤ 1000)
  (hm : m = false → r = []) (hf : m = true → fromL 4 t = (cutL 32 r).2.1) :
  Ev (fun k => oculusref44_behind.f k (tx t) ((w1 :: w2 :: w3 :: (if m = true then splC 32 r else [])).map tx) (tx u) lv ct (v : Int) 0 0 0 0 0 0 (⟨#[]⟩ : ByteArray) 0) (argP u lv ct (v : Int) r m) := by
 have hc := cutL_length 32 r
 unfold oculusref44_behind.f
 cases m with
 | false =>
  rw [hm rfl, if_neg (by simp)]
  refine ev_pos (by simp) ?_
  have : argP u lv ct (v : Int) [] false = noneT := by
   unfold argP
   rw [if_neg hn]
   repeat' split
   all_goals first | rfl | (rename_i h; exact absurd h (by decide +kernel)) | skip
   all_goals (rename_i h _; exact absurd h (by decide +kernel))
  rw [this]
  exact ev_now _
 | true =>
  rw [if_pos rfl]
  have hws : (w1 :: w2 :: w3 :: splC 32 r) = w1 :: w2 :: w3 :: (cutL 32 r).1 :: (if (cutL 32 r).2.2 = true then splC 32 (cutL 32 r).2.1 else []) := by rw [splC_cut]
  have hlen : ((w1 :: w2 :: w3 :: splC 32 r).map tx).length = 3 + (splC 32 r).length := by simp; omega
  have h4 : (((w1 :: w2 :: w3 :: splC 32 r).map tx).length : Int) = 4 ↔ (32 : UInt8) ∉ r := by
   rw [hlen, ← spl_len]; omega
  have hp : 1 ≤ (splC 32 r).length := by obtain ⟨p, ps, e⟩ := splC_ne 32 r; rw [e]; simp
  have rd3 : rdOf ByteArray.empty ((w1 :: w2 :: w3 :: splC 32 r).map tx) 3 = tx (cutL 32 r).1 := by
   have := rd_tx (w1 :: w2 :: w3 :: splC 32 r) 3 (by simp; omega)
   refine this.trans ?_
   congr 1
   simp only [hws]
   rfl
  refine ev_neg (by rw [hlen]; omega) ?_
  have hsp := rspparse_ev (cutL 32 r).1 (by omega)
  have hpa := rpar (cutL 32 r).1
  have hnu := dig44_ev (cutL 32 r).1 (by omega)
  have h3 : (3 : Int) < (((w1 :: w2 :: w3 :: splC 32 r).map tx).length : Int) := by rw [hlen]; omega
  have hv2 : v = 1 ∨ v = 2 ∨ v = 3 ∨ v = 4 ∨ v = 5 ∨ v = 8 := by omega
  unfold argP
  rw [if_neg hn]
  rcases hv2 with rfl | rfl | rfl | rfl | rfl | rfl
  · -- SET
   refine ev_eq (if_neg (by decide)) ?_
   refine ev_eq (if_neg (by decide)) ?_
   refine ev_eq (if_neg (by decide)) ?_
   refine ev_neg (by decide) (ev_neg (by decide) (ev_pos h3 ?_))
   rw [rd3]
   refine ev_bind hpa ?_
   by_cases h1 : (parS (cutL 32 r).1).2.2 = true
   ·refine ev_eq (if_pos h1) ?_
    refine ev_eq (if_pos (by decide)) ?_
    refine ev_pos h1 (ev_pos (by decide) ?_)
    refine ev_bind (from_ev t ht 4 (by omega)) ?_
    rw [hf rfl]
    refine ev_ite (fun z => ?_) (fun z => ?_)
    ·rw [toList_by, by_tx] at z
     refine ev_eq (if_pos z) ?_
     exact ev_now _
    ·rw [toList_by, by_tx] at z
     refine ev_eq (if_neg z) ?_
     exact ev_now _
   ·refine ev_eq (if_neg h1) ?_
    exact ev_neg h1 (ev_now _)
  · -- CLEAR
   refine ev_eq (if_pos (by decide)) ?_
   refine ev_pos (by decide) (ev_pos h3 ?_)
   rw [rd3]
   refine ev_bind hsp ?_
   by_cases hb : (32 : UInt8) ∉ r
   ·rw [cut_plain_eq hb]
    by_cases h1 : (spP r).2.2.2.2 = true
    ·refine ev_eq (if_pos h1) ?_
     exact ev_pos h1 (ev_pos (h4.2 hb) (ev_now _))
    ·refine ev_eq (if_neg h1) ?_
     exact ev_neg h1 (ev_now _)
   ·refine ev_eq (if_neg (fun h => hb (sp_bl h))) ?_
    exact ev_ite (fun _ => ev_neg (fun h => hb (h4.1 h)) (ev_now _)) (fun _ => ev_now _)
  · -- FILL
   refine ev_eq (if_neg (by decide)) ?_
   refine ev_eq (if_neg (by decide)) ?_
   refine ev_eq (if_neg (by decide)) ?_
   refine ev_neg (by decide) (ev_neg (by decide) (ev_pos h3 ?_))
   rw [rd3]
   refine ev_bind hpa ?_
   by_cases h1 : (parS (cutL 32 r).1).2.2 = true
   ·refine ev_eq (if_pos h1) ?_
    refine ev_eq (if_neg (by decide)) ?_
    refine ev_pos h1 (ev_neg (by decide) (ev_pos (by decide) ?_))
    cases hm2 : (cutL 32 r).2.2 with
    | false =>
     refine ev_eq (if_neg (by rw [(cut_false hm2).2.1, sp_nil]; simp)) ?_
     refine ev_neg ?_ ?_
     ·rw [h4.2 (cut_false hm2).2.2]; decide
     ·refine Ev.step (fun k => oculusref44_behind.j0.eq_2 _ _ _ _ _ _ _ _ _ _ _ _ _ _ _) ?_
      exact ev_pos rfl (ev_now _)
    | true =>
     have e5 : (splC 32 r).length = 1 + (splC 32 (cutL 32 r).2.1).length := by
      rw [splC_cut 32 r, hm2, if_pos rfl]; simp; omega
     have h5 : (((w1 :: w2 :: w3 :: splC 32 r).map tx).length : Int) = 5 ↔ (32 : UInt8) ∉ (cutL 32 r).2.1 := by
      rw [hlen, ← spl_len]; omega
     by_cases hb : (32 : UInt8) ∉ (cutL 32 r).2.1
     ·have h4b : (4 : Int) < (((w1 :: w2 :: w3 :: splC 32 r).map tx).length : Int) := by rw [h5.2 hb]; decide
      have rd4 : rdOf ByteArray.empty ((w1 :: w2 :: w3 :: splC 32 r).map tx) 4 = tx (cutL 32 r).2.1 := by
       have := rd_tx (w1 :: w2 :: w3 :: splC 32 r) 4 (by simp only [List.length_map] at h4b; omega)
       refine this.trans ?_
       congr 1
       simp only [hws, hm2, if_pos]
       have : splC 32 (cutL 32 r).2.1 = [(cutL 32 r).2.1] := by
        rw [splC_cut, cutL_plain 32 _ hb]; rfl
       simp only [this]
       rfl
      have hs2 := rspparse_ev (cutL 32 r).2.1 (by omega)
      refine ev_pos (h5.2 hb) (ev_pos h4b ?_)
      rw [rd4]
      refine ev_bind hs2 ?_
      refine Ev.step (fun k => oculusref44_behind.j0.eq_2 _ _ _ _ _ _ _ _ _ _ _ _ _ _ _) ?_
      by_cases h2 : (spP (cutL 32 r).2.1).2.2.2.2 = true
      ·refine ev_eq (if_pos h2) ?_
       refine ev_neg (by rw [h2]; decide) (ev_pos h4b ?_)
       rw [rd4]
       exact ev_bind hs2 (ev_now _)
      ·refine ev_eq (if_neg h2) ?_
       refine ev_pos (by rw [Bool.not_eq_true] at h2; rw [h2]; decide) (ev_now _)
     ·refine ev_eq (if_neg (fun h => hb (sp_bl h))) ?_
      refine ev_neg (fun h => hb (h5.1 h)) ?_
      refine Ev.step (fun k => oculusref44_behind.j0.eq_2 _ _ _ _ _ _ _ _ _ _ _ _ _ _ _) ?_
      exact ev_pos rfl (ev_now _)
   ·refine ev_eq (if_neg h1) ?_
    exact ev_neg h1 (ev_now _)
  · -- GET
   refine ev_eq (if_neg (by decide)) ?_
   refine ev_eq (if_pos (by decide)) ?_
   refine ev_neg (by decide) (ev_neg (by decide) (ev_pos h3 ?_))
   rw [rd3]
   refine ev_bind hpa ?_
   by_cases hb : (32 : UInt8) ∉ r
   ·rw [cut_plain_eq hb]
    by_cases h1 : (parS r).2.2 = true
    ·refine ev_eq (if_pos h1) ?_
     exact ev_pos h1 (ev_neg (by decide) (ev_neg (by decide) (ev_pos (h4.2 hb) (ev_now _))))
    ·refine ev_eq (if_neg h1) ?_
     exact ev_neg h1 (ev_now _)
   ·refine ev_eq (if_neg (fun h => hb (par_bl h))) ?_
    exact ev_ite (fun _ => ev_neg (by decide) (ev_neg (by decide) (ev_neg (fun h => hb (h4.1 h)) (ev_now _)))) (fun _ => ev_now _)
  · -- GETFORMULA
   refine ev_eq (if_neg (by decide)) ?_
   refine ev_eq (if_pos (by decide)) ?_
   refine ev_neg (by decide) (ev_neg (by decide) (ev_pos h3 ?_))
   rw [rd3]
   refine ev_bind hpa ?_
   by_cases hb : (32 : UInt8) ∉ r
   ·rw [cut_plain_eq hb]
    by_cases h1 : (parS r).2.2 = true
    ·refine ev_eq (if_pos h1) ?_
     exact ev_pos h1 (ev_neg (by decide) (ev_neg (by decide) (ev_pos (h4.2 hb) (ev_now _))))
    ·refine ev_eq (if_neg h1) ?_
     exact ev_neg h1 (ev_now _)
   ·refine ev_eq (if_neg (fun h => hb (par_bl h))) ?_
    exact ev_ite (fun _ => ev_neg (by decide) (ev_neg (by decide) (ev_neg (fun h => hb (h4.1 h)) (ev_now _)))) (fun _ => ev_now _)
  · -- CHANGES
   refine ev_eq (if_neg (by decide)) ?_
   refine ev_eq (if_neg (by decide)) ?_
   refine ev_eq (if_pos (by decide)) ?_
   refine ev_neg (by decide) (ev_pos (by decide) (ev_pos h3 ?_))
   rw [rd3]
   refine ev_bind hnu ?_
   by_cases hb : (32 : UInt8) ∉ r
   ·rw [cut_plain_eq hb]
    by_cases h1 : numW r = 0
    ·refine ev_eq (if_pos h1) ?_
     exact ev_pos (by omega) (ev_now _)
    ·refine ev_eq (if_neg h1) ?_
     exact ev_neg (by omega) (ev_pos (h4.2 hb) (ev_now _))
   ·refine ev_eq (if_pos (Decidable.byContradiction fun h => hb (numW_bl h))) ?_
    exact ev_ite (fun _ => ev_now _) (fun _ => ev_neg (fun h => hb (h4.1 h)) (ev_now _))
end Go.Proofs.YtajoebfkkknjhaaDoor.X
/- The reference's Parse answers cmdP. -/
set_option linter.unusedVariables false
set_option linter.unusedSimpArgs false
namespace Go.Proofs.YtajoebfkkknjhaaDoor.X
open Go.RowKit Go.Proofs.YtajoebfkkknjhaaDoorW.PrintWords Go.Proofs.YtajoebfkkknjhaaDoorW.PrintLast Go.Proofs.YtajoebfkkknjhaaDoorW.PrintMore
open AD NM
def wordsB : List ByteArray := (oculusref44_Words.f).getD []
theorem words_some : oculusref44_Words.f = some wordsB := rfl
theorem words_rd : ∀ i : Fin 10, (rdOf ByteArray.empty wordsB ((i.val : Nat) : Int)).toList = (tx (wordI ((i.val + 1 : Nat) : Int))).toList := by decide +kernel
theorem r44_l0 (T : ByteArray) (W : List ByteArray) (w : List UInt8) (hW : 2 < W.length) (h2 : rdOf ByteArray.empty W 2 = tx w) (u : ByteArray) (lv ct : Int) (X : T13) :
  ∀ (d i : Nat) (v : Int), i + d = 10 → Ev (fun k => oculusref44_Parse.l0 k T W wordsB 10 u lv ct (verbR w d i v) 0 0 0 0 0 0 (⟨#[]⟩ : ByteArray) 0) X → Ev (fun k => oculusref44_Parse.l0 k T W wordsB (i : Int) u lv ct v 0 0 0 0 0 0 (⟨#[]⟩ : ByteArray) 0) X
 | 0, i, v, hi, h => by
  have : i = 10 := by omega
  subst this
  exact h
 | d + 1, i, v, hi, h => by
  refine Ev.step (fun k => oculusref44_Parse.l0.eq_2 _ _ _ _ _ _ _ _ _ _ _ _ _ _ _ _ _) ?_
  have hl : wordsB.length = 10 := rfl
  refine ev_pos (by rw [hl]; omega) (ev_pos (by omega) (ev_pos (by omega) ?_))
  have e2 : wrap64 ((i : Int) + 1) = ((i + 1 : Nat) : Int) := w64s (n := 10000) (by omega) (by omega)
  have hw := words_rd ⟨i, by omega⟩
  simp only [] at hw
  rw [e2, hw, h2]
  unfold verbR at h
  refine ev_ite (fun g => ?_) (fun g => ?_)
  ·rw [if_pos ((tx_eq _ _).1 g)] at h
   exact r44_l0 T W w hW h2 u lv ct X d (i + 1) _ (by omega) h
  ·rw [if_neg (fun e => g ((tx_eq _ _).2 e))] at h
   exact r44_l0 T W w hW h2 u lv ct X d (i + 1) _ (by omega) h
theorem j0_none (T : ByteArray) (W : List ByteArray) : Ev (fun k => oculusref44_Parse.j0 k T W true) noneT :=
 Ev.step (fun k => oculusref44_Parse.j0.eq_2 _ _ _ _) (ev_pos rfl (ev_now _))
theorem lineP_nil (u l r : List UInt8) (m : Bool) : lineP u l [] r m = noneT := by
 unfold lineP
 split
 ·split
  ·rfl
  ·rw [if_pos verb_nil]
 ·rfl
theorem j2_ev (t u w1 w2 w3 r : List UInt8) (lv ct : Int) (m : Bool) (v : Nat) (hv : 1 ≤ v ∧ v ≤ 10) (ht : t.length ≤ 5000) (hr : r.length ≤ 1000)
  (hm : m = false → r = []) (hf : m = true → fromL 4 t = (cutL 32 r).2.1) (b : Bool) (hb : b = decide ((v : Int) = 6 ∨ (v : Int) = 7 ∨ (v : Int) = 9 ∨ (v : Int) = 10)) :
  Ev (fun k => oculusref44_Parse.j2 k (tx t) ((w1 :: w2 :: w3 :: (if m = true then splC 32 r else [])).map tx) b (tx u) lv ct (v : Int) 0 0 0 0 0 0 (⟨#[]⟩ : ByteArray) 0) (argP u lv ct (v : Int) r m) := by
 refine Ev.step (fun k => oculusref44_Parse.j2.eq_2 _ _ _ _ _ _ _ _ _ _ _ _ _ _ _ _) ?_
 by_cases h : ((v : Int) = 6 ∨ (v : Int) = 7 ∨ (v : Int) = 9 ∨ (v : Int) = 10)
 ·refine ev_pos (by rw [hb]; exact decide_eq_true h) ?_
  unfold argP
  refine ev_eq (if_pos h) ?_
  cases m with
  | false => exact ev_pos (by simp) (ev_now _)
  | true =>
   refine ev_neg ?_ (ev_now _)
   obtain ⟨p, ps, e⟩ := splC_ne 32 r
   rw [if_pos rfl, e]
   simp
   omega
 ·refine ev_neg (by rw [hb]; simp only [decide_eq_true_eq]; exact h) ?_
  refine ev_bind (behind_ev t u lv ct v hv h w1 w2 w3 r m ht hr hm hf) ?_
  exact ev_now _
theorem rcmd_ev (t : List UInt8) (ht : t.length ≤ 5000) : Ev (fun k => oculusref44_Parse.f k (tx t)) (cmdP t) := by
 unfold oculusref44_Parse.f cmdP
 refine ev_ite (fun h => ?_) (fun h => ?_)
 ·rw [size_tx] at h
  refine ev_eq (if_pos (by omega)) ?_
  exact ev_now _
 rw [size_tx] at h
 refine ev_eq (if_neg (by omega)) ?_
 have l1 := cutL_length 32 t
 have l2 := cutL_length 32 (cutL 32 t).2.1
 have l3 := cutL_length 32 (cutL 32 (cutL 32 t).2.1).2.1
 refine ev_bind (words_ev t ht) ?_
 have f1 := fromL_cut 3 t
 have f2 := fromL_cut 2 (cutL 32 t).2.1
 have f3 := fromL_cut 1 (cutL 32 (cutL 32 t).2.1).2.1
 have f4 := fromL_cut 0 (cutL 32 (cutL 32 (cutL 32 t).2.1).2.1).2.1
 have e1 := splC_cut 32 t
 have e2 := splC_cut 32 (cutL 32 t).2.1
 have e3 := splC_cut 32 (cutL 32 (cutL 32 t).2.1).2.1
 by_cases hm1 : (cutL 32 t).2.2 = true
 case neg =>
  rw [Bool.not_eq_true] at hm1
  rw [hm1] at e1
  rw [(cut_false hm1).2.1]
  refine ev_eq (lineP_nil _ _ _ _) ?_
  refine ev_pos ?_ (j0_none _ _)
  rw [e1]; simp
 by_cases hm2 : (cutL 32 (cutL 32 t).2.1).2.2 = true
 case neg =>
  rw [Bool.not_eq_true] at hm2
  rw [hm2] at e2
  rw [(cut_false hm2).2.1]
  refine ev_eq (lineP_nil _ _ _ _) ?_
  refine ev_pos ?_ (j0_none _ _)
  rw [e1, hm1, if_pos rfl, e2]; simp
 rw [hm1, if_pos rfl, e2, hm2, if_pos rfl, e3] at e1
 have hm3 : (cutL 32 (cutL 32 (cutL 32 t).2.1).2.1).2.2 = false → (cutL 32 (cutL 32 (cutL 32 t).2.1).2.1).2.1 = [] := fun h => (cut_false h).2.1
 have hf : fromL 4 t = (cutL 32 (cutL 32 (cutL 32 (cutL 32 t).2.1).2.1).2.1).2.1 := by
  rw [f1, f2, f3, f4]
  cases (cutL 32 (cutL 32 (cutL 32 (cutL 32 t).2.1).2.1).2.1).2.1 <;> rfl
 have l4 := l3.2
 have l5 := l2.2
 rw [e1]
 clear e1 e2 e3 f1 f2 f3 f4
 generalize (cutL 32 (cutL 32 t).2.1).1 = lb at *
 generalize (cutL 32 (cutL 32 (cutL 32 t).2.1).2.1).1 = w at *
 generalize (cutL 32 (cutL 32 (cutL 32 t).2.1).2.1).2.2 = m at *
 generalize (cutL 32 (cutL 32 (cutL 32 t).2.1).2.1).2.1 = r at *
 generalize (cutL 32 t).1 = u at *
 have hlen : 3 ≤ ((u :: lb :: w :: (if m = true then splC 32 r else [])).map tx).length := by simp
 have r0 : rdOf ByteArray.empty ((u :: lb :: w :: (if m = true then splC 32 r else [])).map tx) 0 = tx u := rd_tx (u :: lb :: w :: (if m = true then splC 32 r else [])) 0 (by simp)
 have r1 : rdOf ByteArray.empty ((u :: lb :: w :: (if m = true then splC 32 r else [])).map tx) 1 = tx lb := rd_tx (u :: lb :: w :: (if m = true then splC 32 r else [])) 1 (by simp)
 have r2 : rdOf ByteArray.empty ((u :: lb :: w :: (if m = true then splC 32 r else [])).map tx) 2 = tx w := rd_tx (u :: lb :: w :: (if m = true then splC 32 r else [])) 2 (by simp)
 have hj := fun v hv lv ct b hb => j2_ev t u u lb w r lv ct m v hv ht (by omega) hm3 (fun _ => hf) b hb
 generalize (u :: lb :: w :: (if m = true then splC 32 r else [])).map tx = W at *
 refine ev_neg (by omega) (ev_pos (by omega) ?_)
 rw [r0]
 refine ev_bind (NM.rname_ev (tx u) (by rw [size_tx]; omega)) ?_
 have hrl := rlparse_ev lb (by omega)
 unfold lineP
 by_cases g : nameS (tx u) = true
 case neg => exact ev_eq (if_neg g) (ev_neg g (j0_none _ _))
 refine ev_eq (if_pos g) (ev_pos g (ev_pos (by omega) ?_))
 rw [r1]
 refine ev_bind hrl ?_
 cases hl : labP lb with
 | none => exact j0_none _ _
 | some q =>
  obtain ⟨lv, ct⟩ := q
  rw [hl] at hrl
  refine Ev.step (fun k => oculusref44_Parse.j0.eq_2 _ _ _ _) (ev_neg (by simp [resL]) (ev_pos (by omega) (ev_pos (by omega) ?_)))
  rw [r0, r1]
  refine ev_bind hrl ?_
  refine ev_bind (ev_some fun _ => words_some) ?_
  refine r44_l0 (tx t) W w (by omega) r2 (tx u) lv ct _ 10 0 0 rfl ?_
  have e9 : verbR w 10 0 0 = verbL w := verb_two w 10 0 rfl
  rw [e9]
  refine Ev.step (fun k => oculusref44_Parse.l0.eq_2 _ _ _ _ _ _ _ _ _ _ _ _ _ _ _ _ _) (ev_neg (by decide) ?_)
  refine ev_ite (fun z => ?_) (fun z => ?_)
  ·refine ev_eq (if_pos z) (ev_now _)
  ·refine ev_eq (if_neg z) ?_
   rcases verb_cases w with hz | ⟨v, v1, v2, hvv, _⟩
   ·exact absurd hz z
   ·rw [hvv]
    refine ev_ite (fun a => ?_) (fun a => ev_ite (fun b => ?_) (fun b => ev_ite (fun c => ?_) (fun c => ?_)))
    ·exact hj v ⟨v1, v2⟩ lv ct true (by simp [a])
    ·exact hj v ⟨v1, v2⟩ lv ct true (by simp [b])
    ·exact hj v ⟨v1, v2⟩ lv ct true (by simp [c])
    ·exact hj v ⟨v1, v2⟩ lv ct _ (by simp only [a, b, c, false_or]; rfl)
end Go.Proofs.YtajoebfkkknjhaaDoor.X
/- command.Parse answers cmdP. -/
set_option linter.unusedVariables false
set_option linter.unusedSimpArgs false
namespace Go.Proofs.YtajoebfkkknjhaaDoor.X
open Go.RowKit Go.Proofs.YtajoebfkkknjhaaDoorW.PrintWords Go.Proofs.YtajoebfkkknjhaaDoorW.PrintLast Go.Proofs.YtajoebfkkknjhaaDoorW.PrintMore
open AD NM
def fin44 (r : Bool × ByteArray × Int × Int × Int × Int × Int × Int × Int × Int × Int × ByteArray × Int) : T13 :=
 if r.1 = true then (r.2.1, r.2.2.1, r.2.2.2.1, r.2.2.2.2.1, r.2.2.2.2.2.1, r.2.2.2.2.2.2.1, r.2.2.2.2.2.2.2.1, r.2.2.2.2.2.2.2.2.1, r.2.2.2.2.2.2.2.2.2.1, r.2.2.2.2.2.2.2.2.2.2.1, r.2.2.2.2.2.2.2.2.2.2.2.1, r.2.2.2.2.2.2.2.2.2.2.2.2, 0) else noneT
theorem args_ev (u : List UInt8) (lv ct : Int) (v : Nat) (hv : 1 ≤ v ∧ v ≤ 10) (r : List UInt8) (m : Bool) (hr : r.length ≤ 1000) :
  ∃ x, Ev (fun k => command_args.f k (tx u) lv ct (v : Int) 0 0 0 0 0 0 (⟨#[]⟩ : ByteArray) 0 (tx r) m) x ∧ fin44 x = argP u lv ct (v : Int) r m := by
 have hc := cutL_length 32 r
 have hcut : strings_Cut.f (tx r) (⟨#[32]⟩ : ByteArray) = some (tx (cutL 32 r).1, tx (cutL 32 r).2.1, (cutL 32 r).2.2) := by
  have e := cut_eq (tx r) 32 (by rw [size_tx]; omega)
  rw [by_tx] at e
  exact e
 have hsp := spparse_ev r hr
 have hpa := AD.parse_ev r hr
 have hnu := cnum_ev r
 have hp1 := AD.parse_ev (cutL 32 r).1 (by omega)
 have hs2 := spparse_ev (cutL 32 r).2.1 (by omega)
 have hv2 : v = 1 ∨ v = 2 ∨ v = 3 ∨ v = 4 ∨ v = 5 ∨ v = 6 ∨ v = 7 ∨ v = 8 ∨ v = 9 ∨ v = 10 := by omega
 unfold command_args.f
 rcases hv2 with rfl | rfl | rfl | rfl | rfl | rfl | rfl | rfl | rfl | rfl
 -- 1: SET
 ·by_cases h1 : (parS (cutL 32 r).1).2.2 = true
  ·refine ⟨_, ev_neg (by decide) (ev_neg (by decide) (ev_neg (by decide) (Ev.step (fun k => command_args.j0.eq_2 _ _ _ _ _ _ _ _ _ _ _ _ _ _ _ _ _ _ _) (ev_neg (by decide) (ev_neg (by decide) (ev_neg (by decide) (Ev.step (fun k => command_args.j1.eq_2 _ _ _ _ _ _ _ _ _ _ _ _ _ _ _ _ _ _) (ev_neg (by decide) (ev_neg (by decide) (ev_pos (by decide) (Ev.step (fun k => command_args.j2.eq_2 _ _ _ _ _ _ _ _ _ _ _ _ _ _ _ _ _) (ev_pos (by decide) (ev_bind (ev_some fun _ => hcut) (ev_bind hp1 (ev_pos (by decide) (ev_pos h1 (Ev.now _))))))))))))))))), ?_⟩
   unfold argP
   rw [if_neg (by decide), if_neg (by decide), if_neg (by decide), if_neg (by decide), if_pos h1, if_pos (by decide)]
   by_cases h2 : (cutL 32 r).2.1 = []
   ·rw [if_pos h2]
    have : ((tx (cutL 32 r).2.1).toList != ([] : List UInt8)) = false := by
     rw [bne_eq_false_iff_eq, toList_by, by_tx]; exact h2
    dsimp only
    rw [this]
    rfl
   ·rw [if_neg h2]
    have : ((tx (cutL 32 r).2.1).toList != ([] : List UInt8)) = true := by
     rw [bne_iff_ne, toList_by, by_tx]; exact h2
    dsimp only
    rw [this]
    rfl
  ·refine ⟨_, ev_neg (by decide) (ev_neg (by decide) (ev_neg (by decide) (Ev.step (fun k => command_args.j0.eq_2 _ _ _ _ _ _ _ _ _ _ _ _ _ _ _ _ _ _ _) (ev_neg (by decide) (ev_neg (by decide) (ev_neg (by decide) (Ev.step (fun k => command_args.j1.eq_2 _ _ _ _ _ _ _ _ _ _ _ _ _ _ _ _ _ _) (ev_neg (by decide) (ev_neg (by decide) (ev_pos (by decide) (Ev.step (fun k => command_args.j2.eq_2 _ _ _ _ _ _ _ _ _ _ _ _ _ _ _ _ _) (ev_pos (by decide) (ev_bind (ev_some fun _ => hcut) (ev_bind hp1 (ev_pos (by decide) (ev_neg h1 (Ev.now _))))))))))))))))), ?_⟩
   unfold argP
   rw [if_neg (by decide), if_neg (by decide), if_neg (by decide), if_neg (by decide), if_neg h1]
   rfl
 -- 2: CLEAR
 ·unfold argP
  rw [if_neg (by decide), if_pos (by decide)]
  by_cases h1 : (spP r).2.2.2.2 = true
  ·refine ⟨_, ev_neg (by decide) (ev_neg (by decide) (ev_neg (by decide) (Ev.step (fun k => command_args.j0.eq_2 _ _ _ _ _ _ _ _ _ _ _ _ _ _ _ _ _ _ _) (ev_neg (by decide) (ev_pos (by decide) (ev_bind hsp (ev_pos h1 (Ev.now _)))))))), ?_⟩
   rw [if_pos h1]
   rfl
  ·refine ⟨_, ev_neg (by decide) (ev_neg (by decide) (ev_neg (by decide) (Ev.step (fun k => command_args.j0.eq_2 _ _ _ _ _ _ _ _ _ _ _ _ _ _ _ _ _ _ _) (ev_neg (by decide) (ev_pos (by decide) (ev_bind hsp (ev_neg h1 (Ev.now _)))))))), ?_⟩
   rw [if_neg h1]
   rfl
 -- 3: FILL
 ·unfold argP
  rw [if_neg (by decide), if_neg (by decide), if_neg (by decide), if_neg (by decide)]
  by_cases h1 : (parS (cutL 32 r).1).2.2 = true
  ·refine ⟨_, ev_neg (by decide) (ev_neg (by decide) (ev_neg (by decide) (Ev.step (fun k => command_args.j0.eq_2 _ _ _ _ _ _ _ _ _ _ _ _ _ _ _ _ _ _ _) (ev_neg (by decide) (ev_neg (by decide) (ev_neg (by decide) (Ev.step (fun k => command_args.j1.eq_2 _ _ _ _ _ _ _ _ _ _ _ _ _ _ _ _ _ _) (ev_neg (by decide) (ev_neg (by decide) (ev_neg (by decide) (Ev.step (fun k => command_args.j2.eq_2 _ _ _ _ _ _ _ _ _ _ _ _ _ _ _ _ _) (ev_pos (by decide) (ev_bind (ev_some fun _ => hcut) (ev_bind hp1 (ev_neg (by decide) (ev_bind hs2 (ev_pos h1 (Ev.now _)))))))))))))))))), ?_⟩
   rw [if_pos h1, if_neg (by decide)]
   by_cases h2 : (spP (cutL 32 r).2.1).2.2.2.2 = true
   ·rw [if_pos h2]
    simp only [h2]
    rfl
   ·rw [if_neg h2]
    rw [Bool.not_eq_true] at h2
    simp only [h2]
    rfl
  ·refine ⟨_, ev_neg (by decide) (ev_neg (by decide) (ev_neg (by decide) (Ev.step (fun k => command_args.j0.eq_2 _ _ _ _ _ _ _ _ _ _ _ _ _ _ _ _ _ _ _) (ev_neg (by decide) (ev_neg (by decide) (ev_neg (by decide) (Ev.step (fun k => command_args.j1.eq_2 _ _ _ _ _ _ _ _ _ _ _ _ _ _ _ _ _ _) (ev_neg (by decide) (ev_neg (by decide) (ev_neg (by decide) (Ev.step (fun k => command_args.j2.eq_2 _ _ _ _ _ _ _ _ _ _ _ _ _ _ _ _ _) (ev_pos (by decide) (ev_bind (ev_some fun _ => hcut) (ev_bind hp1 (ev_neg (by decide) (ev_bind hs2 (ev_neg h1 (Ev.now _)))))))))))))))))), ?_⟩
   rw [if_neg h1]
   rfl
 -- 4, 5: GET, GETFORMULA
 ·unfold argP
  rw [if_neg (by decide), if_neg (by decide), if_pos (by decide)]
  by_cases h1 : (parS r).2.2 = true
  ·refine ⟨_, ev_neg (by decide) (ev_neg (by decide) (ev_neg (by decide) (Ev.step (fun k => command_args.j0.eq_2 _ _ _ _ _ _ _ _ _ _ _ _ _ _ _ _ _ _ _) (ev_neg (by decide) (ev_neg (by decide) (ev_pos (by decide) (Ev.step (fun k => command_args.j1.eq_2 _ _ _ _ _ _ _ _ _ _ _ _ _ _ _ _ _ _) (ev_pos (by decide) (ev_bind hpa (ev_pos h1 (Ev.now _))))))))))), ?_⟩
   rw [if_pos h1]
   rfl
  ·refine ⟨_, ev_neg (by decide) (ev_neg (by decide) (ev_neg (by decide) (Ev.step (fun k => command_args.j0.eq_2 _ _ _ _ _ _ _ _ _ _ _ _ _ _ _ _ _ _ _) (ev_neg (by decide) (ev_neg (by decide) (ev_pos (by decide) (Ev.step (fun k => command_args.j1.eq_2 _ _ _ _ _ _ _ _ _ _ _ _ _ _ _ _ _ _) (ev_pos (by decide) (ev_bind hpa (ev_neg h1 (Ev.now _))))))))))), ?_⟩
   rw [if_neg h1]
   rfl
 ·unfold argP
  rw [if_neg (by decide), if_neg (by decide), if_pos (by decide)]
  by_cases h1 : (parS r).2.2 = true
  ·refine ⟨_, ev_neg (by decide) (ev_neg (by decide) (ev_neg (by decide) (Ev.step (fun k => command_args.j0.eq_2 _ _ _ _ _ _ _ _ _ _ _ _ _ _ _ _ _ _ _) (ev_neg (by decide) (ev_neg (by decide) (ev_neg (by decide) (Ev.step (fun k => command_args.j1.eq_2 _ _ _ _ _ _ _ _ _ _ _ _ _ _ _ _ _ _) (ev_pos (by decide) (ev_bind hpa (ev_pos h1 (Ev.now _))))))))))), ?_⟩
   rw [if_pos h1]
   rfl
  ·refine ⟨_, ev_neg (by decide) (ev_neg (by decide) (ev_neg (by decide) (Ev.step (fun k => command_args.j0.eq_2 _ _ _ _ _ _ _ _ _ _ _ _ _ _ _ _ _ _ _) (ev_neg (by decide) (ev_neg (by decide) (ev_neg (by decide) (Ev.step (fun k => command_args.j1.eq_2 _ _ _ _ _ _ _ _ _ _ _ _ _ _ _ _ _ _) (ev_pos (by decide) (ev_bind hpa (ev_neg h1 (Ev.now _))))))))))), ?_⟩
   rw [if_neg h1]
   rfl
 -- 6, 7
 ·refine ⟨_, ev_pos (by decide) (Ev.step (fun k => command_args.j0.eq_2 _ _ _ _ _ _ _ _ _ _ _ _ _ _ _ _ _ _ _) (ev_pos (by decide) (Ev.now _))), ?_⟩
  unfold argP
  rw [if_pos (by decide)]
  cases m <;> rfl
 ·refine ⟨_, ev_neg (by decide) (ev_pos (by decide) (Ev.step (fun k => command_args.j0.eq_2 _ _ _ _ _ _ _ _ _ _ _ _ _ _ _ _ _ _ _) (ev_pos (by decide) (Ev.now _)))), ?_⟩
  unfold argP
  rw [if_pos (by decide)]
  cases m <;> rfl
 -- 8: CHANGES
 ·unfold argP
  rw [if_neg (by decide), if_neg (by decide), if_neg (by decide), if_pos (by decide)]
  by_cases h1 : numW r = 0
  ·rw [h1] at hnu
   refine ⟨_, ev_neg (by decide) (ev_neg (by decide) (ev_neg (by decide) (Ev.step (fun k => command_args.j0.eq_2 _ _ _ _ _ _ _ _ _ _ _ _ _ _ _ _ _ _ _) (ev_neg (by decide) (ev_neg (by decide) (ev_neg (by decide) (Ev.step (fun k => command_args.j1.eq_2 _ _ _ _ _ _ _ _ _ _ _ _ _ _ _ _ _ _) (ev_neg (by decide) (ev_pos (by decide) (ev_bind hnu (ev_neg (by decide) (Ev.now _)))))))))))), ?_⟩
   rw [if_pos h1]
   rfl
  ·refine ⟨_, ev_neg (by decide) (ev_neg (by decide) (ev_neg (by decide) (Ev.step (fun k => command_args.j0.eq_2 _ _ _ _ _ _ _ _ _ _ _ _ _ _ _ _ _ _ _) (ev_neg (by decide) (ev_neg (by decide) (ev_neg (by decide) (Ev.step (fun k => command_args.j1.eq_2 _ _ _ _ _ _ _ _ _ _ _ _ _ _ _ _ _ _) (ev_neg (by decide) (ev_pos (by decide) (ev_bind hnu (ev_pos (by omega) (Ev.now _)))))))))))), ?_⟩
   rw [if_neg h1]
   rfl
 -- 9, 10
 ·refine ⟨_, ev_neg (by decide) (ev_neg (by decide) (ev_pos (by decide) (Ev.step (fun k => command_args.j0.eq_2 _ _ _ _ _ _ _ _ _ _ _ _ _ _ _ _ _ _ _) (ev_pos (by decide) (Ev.now _))))), ?_⟩
  unfold argP
  rw [if_pos (by decide)]
  cases m <;> rfl
 ·refine ⟨_, ev_neg (by decide) (ev_neg (by decide) (ev_neg (by decide) (Ev.step (fun k => command_args.j0.eq_2 _ _ _ _ _ _ _ _ _ _ _ _ _ _ _ _ _ _ _) (ev_pos (by decide) (Ev.now _))))), ?_⟩
  unfold argP
  rw [if_pos (by decide)]
  cases m <;> rfl
theorem cut32 (l : List UInt8) (h : l.length ≤ 5000) : strings_Cut.f (tx l) (⟨#[32]⟩ : ByteArray) = some (tx (cutL 32 l).1, tx (cutL 32 l).2.1, (cutL 32 l).2.2) := by
 have e := cut_eq (tx l) 32 (by rw [size_tx]; omega)
 rw [by_tx] at e
 exact e
theorem cmd_ev (t : List UInt8) (ht : t.length ≤ 5000) : Ev (fun k => command_Parse.f k (tx t)) (cmdP t) := by
 unfold command_Parse.f cmdP
 refine ev_ite (fun h => ?_) (fun h => ?_)
 ·rw [size_tx] at h
  rw [if_pos (by omega)]
  exact Ev.now _
 rw [size_tx] at h
 rw [if_neg (by omega)]
 have l1 := cutL_length 32 t
 have l2 := cutL_length 32 (cutL 32 t).2.1
 have l3 := cutL_length 32 (cutL 32 (cutL 32 t).2.1).2.1
 refine ev_bind (ev_some fun _ => cut32 t (by omega)) ?_
 refine ev_bind (ev_some fun _ => cut32 (cutL 32 t).2.1 (by omega)) ?_
 refine ev_bind (ev_some fun _ => cut32 (cutL 32 (cutL 32 t).2.1).2.1 (by omega)) ?_
 refine ev_bind (lparse_ev (cutL 32 (cutL 32 t).2.1).1 (by omega)) ?_
 refine ev_bind (verb_ev (cutL 32 (cutL 32 (cutL 32 t).2.1).2.1).1) ?_
 refine ev_bind (NM.name_ev (tx (cutL 32 t).1) (by rw [size_tx]; omega)) ?_
 have l4 := l3.2
 have l5 := l2.2
 generalize (cutL 32 (cutL 32 t).2.1).1 = lb at *
 generalize (cutL 32 (cutL 32 (cutL 32 t).2.1).2.1).1 = w at *
 generalize (cutL 32 (cutL 32 (cutL 32 t).2.1).2.1).2.2 = m at *
 generalize (cutL 32 (cutL 32 (cutL 32 t).2.1).2.1).2.1 = r at *
 generalize (cutL 32 t).1 = u at *
 unfold lineP
 refine ev_ite (fun g => ?_) (fun g => ?_)
 ·rw [if_pos g]
  cases hl : labP lb with
  | none => exact ev_neg (by simp [resL]) (Ev.now _)
  | some q =>
   obtain ⟨lv, ct⟩ := q
   dsimp only
   refine ev_pos rfl (ev_ite (fun z => ?_) (fun z => ?_))
   ·rw [if_pos z]; exact Ev.now _
   ·rw [if_neg z]
    rcases verb_cases w with hz | ⟨v, v1, v2, hvv, _⟩
    ·exact absurd hz z
    ·rw [hvv]
     obtain ⟨x, hx, hfx⟩ := args_ev u lv ct v ⟨v1, v2⟩ r m (by omega)
     refine ev_bind hx ?_
     rw [← hfx]
     unfold fin44
     exact ev_ite (fun y => by rw [if_pos y]; exact Ev.now _) (fun y => by rw [if_neg y]; exact Ev.now _)
 ·rw [if_neg g]; exact Ev.now _
end Go.Proofs.YtajoebfkkknjhaaDoor.X
/- The text of a command; a command that was read is told as its line. -/
set_option linter.unusedVariables false
set_option linter.unusedSimpArgs false
namespace Go.Proofs.YtajoebfkkknjhaaDoor.X
open Go.RowKit Go.Proofs.YtajoebfkkknjhaaDoorW.PrintWords Go.Proofs.YtajoebfkkknjhaaDoorW.PrintLast Go.Proofs.YtajoebfkkknjhaaDoorW.PrintMore
open AD NM
theorem ev_to {α : Type} {g : Nat → Option α} {r r9 : α} (h : r = r9) (k : Ev g r9) : Ev g r := h ▸ k
theorem alive44_ev : Ev (fun k => oculuslaw44_alive.f k) true := Ev.of (fun k => oculuslaw44_alive.mono k) (k := 60) (by decide +kernel)
def extraP (v r c a b d e : Int) (x n : List UInt8) : List (List UInt8) :=
 if v = 1 then [nameL r c, x] else if v = 2 then [txtL a b d e] else if v = 3 then [nameL r c, txtL a b d e] else if v = 4 ∨ v = 5 then [nameL r c] else if v = 8 then [n] else []
def outP (u : List UInt8) (lv : Int) (ct : Nat) (v r c a b d e : Int) (x n : List UInt8) : List UInt8 := joinL [32] (u :: labT lv ct :: wordI v :: extraP v r c a b d e x n)
def diffB (R : T13) (c0 : ByteArray) (c1 c2 c3 c4 c5 c6 c7 c8 c9 : Int) (c10 : ByteArray) (c11 : Int) : Bool :=
 (!(R.1.toList == c0.toList) || ((!(R.2.1 == c1) || (!(R.2.2.1 == c2))) || (!(R.2.2.2.1 == c3) || ((!(R.2.2.2.2.1 == c4) || (!(R.2.2.2.2.2.1 == c5))) || (((!(R.2.2.2.2.2.2.1 == c6) || (!(R.2.2.2.2.2.2.2.1 == c7))) || ((!(R.2.2.2.2.2.2.2.2.1 == c8) || (!(R.2.2.2.2.2.2.2.2.2.1 == c9))))) || (!(R.2.2.2.2.2.2.2.2.2.2.1.toList == c10.toList) || (!(R.2.2.2.2.2.2.2.2.2.2.2.1 == c11))))))))
def endP (s : List UInt8) (c0 : ByteArray) (c1 c2 c3 c4 c5 c6 c7 c8 c9 : Int) (c10 : ByteArray) (c11 : Int) : List UInt8 :=
 if (cmdP s).2.2.2.2.2.2.2.2.2.2.2.2 = 0 then (if diffB (cmdP s) c0 c1 c2 c3 c4 c5 c6 c7 c8 c9 c10 c11 = true then [] else s) else []
def sumL (l : List (List UInt8)) : Nat := (l.map List.length).sum
theorem join_len (l : List (List UInt8)) : (joinL [32] l).length ≤ sumL l + l.length := by
 cases l with
 | nil => exact Nat.zero_le _
 | cons x xs =>
  have : ∀ ys : List (List UInt8), (ys.flatMap fun y => [32] ++ y).length = sumL ys + ys.length := by
   intro ys
   induction ys with
   | nil => rfl
   | cons y ys ih =>
    rw [List.flatMap_cons, List.length_append, ih]
    simp only [sumL, List.map_cons, List.sum_cons, List.length_cons, List.length_append, List.length_nil]
    omega
  show (x ++ _).length ≤ _
  rw [List.length_append, this]
  simp only [sumL, List.map_cons, List.sum_cons, List.length_cons]
  omega
theorem sizes_tx (l : List (List UInt8)) : sizesT (l.map tx) = sumL l := by
 unfold sizesT sumL
 rw [List.map_map]
 exact congrArg List.sum (List.map_congr_left fun x _ => size_tx x)
theorem by_map (l : List (List UInt8)) : (l.map tx).map by_ = l := by
 rw [List.map_map]
 conv => rhs; rw [← List.map_id l]
 exact List.map_congr_left fun x _ => by_tx x
theorem join_tx (l : List (List UInt8)) (h : l.length ≤ 10) (hs : sumL l ≤ 5000) : strings_Join.f (l.map tx) (⟨#[32]⟩ : ByteArray) = some (tx (joinL [32] l)) := by
 unfold strings_Join.f
 rw [sizes_tx, List.length_map, if_pos ⟨by omega, by decide, by omega⟩, by_map]
 rfl
theorem word_len2 (v : Int) : (wordI v).length ≤ 10 := by
 by_cases h : 1 ≤ v ∧ v ≤ 10
 ·have := word_len ⟨v.toNat, by omega⟩
  have e : ((v.toNat : Nat) : Int) = v := by omega
  simp only [e] at this
  exact this
 ·rw [word_none v h]; decide
theorem text_end (l : List (List UInt8)) (hl : l.length ≤ 10) (hs : sumL l ≤ 4900) (u : ByteArray) (lv ct v r c a b d e : Int) (x : ByteArray) (n : Int) :
  Ev (fun k => command_Text.j1 k (l.map tx) u lv ct v r c a b d e x n) (tx (endP (joinL [32] l) u lv ct v r c a b d e x n)) := by
 have h := join_len l
 refine Ev.step (fun k => command_Text.j1.eq_2 _ _ _ _ _ _ _ _ _ _ _ _ _ _) ?_
 refine ev_bind (ev_some fun _ => join_tx l hl (by omega)) ?_
 refine ev_bind (cmd_ev _ (by omega)) ?_
 unfold endP
 refine ev_ite (fun g => ?_) (fun g => ?_)
 ·rw [if_pos g]
  refine ev_ite (fun g2 => ?_) (fun g2 => ?_)
  ·exact ev_to (by unfold diffB; rw [if_pos g2]) (ev_now (tx []))
  ·exact ev_to (by unfold diffB; rw [if_neg g2]) (ev_now _)
 ·rw [if_neg g]; exact ev_now _
theorem ctext_ev (u : List UInt8) (lv : Int) (ct : Nat) (v r c a b d e : Int) (x : List UInt8) (n : Int) (hu : u.length ≤ 1200) (hx : x.length ≤ 1200) (hct : ct < 18446744073709551616) (hn : -9223372036854775808 ≤ n ∧ n ≤ 9223372036854775807) :
  Ev (fun k => command_Text.f k (tx u) lv (ct : Int) v r c a b d e (tx x) n) (tx (endP (outP u lv ct v r c a b d e x (Lib.itoa n)) (tx u) lv (ct : Int) v r c a b d e (tx x) n)) := by
 have L1 := labT_len lv ct
 have L2 := word_len2 v
 have L3 := nameL_len r c
 have L4 := txtL_len a b d e
 have L5 := Lib.itoa_length_le n hn.1 hn.2
 unfold command_Text.f
 refine ev_bind (ltext_ev lv ct hct) ?_
 refine ev_bind (ev_some fun _ => word_eq v) ?_
 refine ev_bsome ?_
 have hend := fun (l : List (List UInt8)) hl hs => text_end l hl hs (tx u) lv (ct : Int) v r c a b d e (tx x) n
 unfold outP extraP
 refine ev_ite (fun h1 => ?_) (fun h1 => ?_)
 ·rw [if_pos h1]
  refine ev_bind (name_ev r c) (ev_bsome (ev_pos (by simp) ?_))
  exact hend [u, labT lv ct, wordI v, nameL r c, x] (by simp) (by simp [sumL]; omega)
 rw [if_neg h1]
 refine ev_ite (fun h2 => ?_) (fun h2 => ?_)
 ·rw [if_pos h2]
  refine ev_bind (text_ev a b d e) (ev_pos (by simp) ?_)
  exact hend [u, labT lv ct, wordI v, txtL a b d e] (by simp) (by simp [sumL]; omega)
 rw [if_neg h2]
 refine ev_ite (fun h3 => ?_) (fun h3 => ?_)
 ·rw [if_pos h3]
  refine ev_bind (name_ev r c) (ev_bind (text_ev a b d e) (ev_bsome (ev_pos (by simp) ?_)))
  exact hend [u, labT lv ct, wordI v, nameL r c, txtL a b d e] (by simp) (by simp [sumL]; omega)
 rw [if_neg h3]
 have hj0 : ∀ q : Bool, q = decide (v = 4 ∨ v = 5) → Ev (fun k => command_Text.j0 k [tx u, tx (labT lv ct), tx (wordI v)] v q (tx u) lv (ct : Int) v r c a b d e (tx x) n) (tx (endP (joinL [32] (u :: labT lv ct :: wordI v :: if v = 4 ∨ v = 5 then [nameL r c] else if v = 8 then [Lib.itoa n] else [])) (tx u) lv (ct : Int) v r c a b d e (tx x) n)) := by
  intro q hq
  refine Ev.step (fun k => command_Text.j0.eq_2 _ _ _ _ _ _ _ _ _ _ _ _ _ _ _ _) ?_
  by_cases h4 : v = 4 ∨ v = 5
  ·refine ev_pos (by rw [hq]; exact decide_eq_true h4) ?_
   rw [if_pos h4]
   refine ev_bind (name_ev r c) (ev_pos (by simp) ?_)
   exact hend [u, labT lv ct, wordI v, nameL r c] (by simp) (by simp [sumL]; omega)
  ·refine ev_neg (by rw [hq]; simp only [decide_eq_true_eq]; exact h4) ?_
   rw [if_neg h4]
   refine ev_ite (fun h8 => ?_) (fun h8 => ?_)
   ·rw [if_pos h8]
    have e : strconv_Itoa.f n = some (tx (Lib.itoa n)) := by unfold strconv_Itoa.f; rw [if_pos hn]; rfl
    refine ev_bind (ev_some fun _ => e) (ev_pos (by simp) ?_)
    exact hend [u, labT lv ct, wordI v, Lib.itoa n] (by simp) (by simp [sumL]; omega)
   ·rw [if_neg h8]
    exact hend [u, labT lv ct, wordI v] (by simp) (by simp [sumL]; omega)
 refine ev_ite (fun h4 => ?_) (fun h4 => ?_)
 ·exact hj0 _ (by simp [h4])
 ·exact hj0 _ (by simp only [h4, false_or]; rfl)
end Go.Proofs.YtajoebfkkknjhaaDoor.X
/- A command that was read is told as its line. -/
set_option linter.unusedVariables false
set_option linter.unusedSimpArgs false
namespace Go.Proofs.YtajoebfkkknjhaaDoor.X
open Go.RowKit Go.Proofs.YtajoebfkkknjhaaDoorW.PrintWords Go.Proofs.YtajoebfkkknjhaaDoorW.PrintLast Go.Proofs.YtajoebfkkknjhaaDoorW.PrintMore
open AD NM
theorem cut_no {l : List UInt8} (h : (cutL 32 l).2.2 = false) : (cutL 32 l).2.1 = [] := by
 rcases cutL_back 32 l with ⟨k, _⟩ | ⟨_, _, k2⟩
 ·rw [h] at k; cases k
 ·exact k2
theorem cut_yes {l : List UInt8} (h : (cutL 32 l).2.2 = true) : l = (cutL 32 l).1 ++ 32 :: (cutL 32 l).2.1 := by
 rcases cutL_back 32 l with ⟨_, k⟩ | ⟨k, _⟩
 ·exact k
 ·rw [h] at k; cases k
theorem numW_nil : numW [] = 0 := by decide +kernel
theorem spnil2 : (spP []).2.2.2.2 = false := by decide +kernel
theorem parnil2 : (parS []).2.2 = false := by decide +kernel
structure Held (t : List UInt8) (R : T13) (u : List UInt8) (lv : Int) (ct : Nat) (v r c a b d e : Int) (x : List UInt8) (n : Int) : Prop where
 eq : R = (tx u, lv, (ct : Int), v, r, c, a, b, d, e, tx x, n, 0)
 out : outP u lv ct v r c a b d e x (Lib.itoa n) = t
 lu : u.length ≤ 1000
 lx : x.length ≤ 1000
 lct : ct < 18446744073709551616
 ln : 0 ≤ n ∧ n ≤ 999999
 lv : 1 ≤ v ∧ v ≤ 10
 l8 : v = 8 → 1 ≤ n
theorem noneT_err {P : Prop} (h : noneT.2.2.2.2.2.2.2.2.2.2.2.2 = 0) : P := absurd h (by decide)
theorem arg_back (u : List UInt8) (lv ct : Int) (v : Nat) (hv : 1 ≤ v ∧ v ≤ 10) (q : List UInt8) (m : Bool) (hq : q.length ≤ 1000) (hm : m = false → q = []) (h : (argP u lv ct (v : Int) q m).2.2.2.2.2.2.2.2.2.2.2.2 = 0) :
  ∃ r c a b d e x n, argP u lv ct (v : Int) q m = (tx u, lv, ct, (v : Int), r, c, a, b, d, e, tx x, n, 0) ∧ joinL [32] (wordI (v : Int) :: extraP (v : Int) r c a b d e x (Lib.itoa n)) = wordI (v : Int) ++ (if m = true then 32 :: q else []) ∧ x.length ≤ 1000 ∧ (0 ≤ n ∧ n ≤ 999999) ∧ ((v : Int) = 8 → 1 ≤ n) := by
 have hc := cutL_length 32 q
 have hmq : q ≠ [] → m = true := fun g => by cases m with | true => rfl | false => exact absurd (hm rfl) g
 unfold argP at h ⊢
 by_cases h1 : (v : Int) = 6 ∨ (v : Int) = 7 ∨ (v : Int) = 9 ∨ (v : Int) = 10
 ·rw [if_pos h1] at h ⊢
  cases m with
  | true => exact noneT_err h
  | false =>
   refine ⟨0, 0, 0, 0, 0, 0, [], 0, rfl, ?_, by decide, by decide, by omega⟩
   unfold extraP
   rw [if_neg (by omega), if_neg (by omega), if_neg (by omega), if_neg (by omega), if_neg (by omega)]
   simp [joinL]
 rw [if_neg h1] at h ⊢
 by_cases h2 : (v : Int) = 2
 ·rw [if_pos h2] at h ⊢
  by_cases g : (spP q).2.2.2.2 = true
  ·rw [if_pos g] at h ⊢
   refine ⟨_, _, _, _, _, _, [], 0, rfl, ?_, by decide, by decide, by omega⟩
   have hb := sp_back (l := q) (a := (spP q).1) (b := (spP q).2.1) (c := (spP q).2.2.1) (d := (spP q).2.2.2.1) (by rw [← g])
   have hne : q ≠ [] := fun e => by rw [e, spnil2] at g; cases g
   unfold extraP
   rw [if_neg (by omega), if_pos h2, hb, hmq hne]
   simp [joinL]
  ·rw [if_neg g] at h; exact noneT_err h
 rw [if_neg h2] at h ⊢
 by_cases h4 : (v : Int) = 4 ∨ (v : Int) = 5
 ·rw [if_pos h4] at h ⊢
  by_cases g : (parS q).2.2 = true
  ·rw [if_pos g] at h ⊢
   refine ⟨_, _, _, _, _, _, [], 0, rfl, ?_, by decide, by decide, by omega⟩
   have hb := (par_form g).2.1
   have hne : q ≠ [] := fun e => by rw [e, parnil2] at g; cases g
   unfold extraP
   rw [if_neg (by omega), if_neg (by omega), if_neg (by omega), if_pos h4, hb, hmq hne]
   simp [joinL]
  ·rw [if_neg g] at h; exact noneT_err h
 rw [if_neg h4] at h ⊢
 by_cases h8 : (v : Int) = 8
 ·rw [if_pos h8] at h ⊢
  by_cases g : numW q = 0
  ·rw [if_pos g] at h; exact noneT_err h
  ·rw [if_neg g] at h ⊢
   obtain ⟨hb, hle⟩ := numW_back g
   refine ⟨0, 0, 0, 0, 0, 0, [], ((numW q : Nat) : Int), rfl, ?_, by decide, by omega, by omega⟩
   have hne : q ≠ [] := fun e => g (by rw [e, numW_nil])
   unfold extraP
   rw [if_neg (by omega), if_neg (by omega), if_neg (by omega), if_neg (by omega), if_pos h8, Lib.itoa_nonneg, hb, hmq hne]
   simp [joinL]
 rw [if_neg h8] at h ⊢
 by_cases g : (parS (cutL 32 q).1).2.2 = true
 ·rw [if_pos g] at h ⊢
  have hb := (par_form g).2.1
  by_cases h5 : (v : Int) = 1
  ·rw [if_pos h5] at h ⊢
   by_cases g2 : (cutL 32 q).2.1 = []
   ·rw [if_pos g2] at h; exact noneT_err h
   ·rw [if_neg g2] at h ⊢
    refine ⟨_, _, 0, 0, 0, 0, (cutL 32 q).2.1, 0, rfl, ?_, by omega, by decide, by omega⟩
    have hmore : (cutL 32 q).2.2 = true := by
     cases k : (cutL 32 q).2.2 with
     | true => rfl
     | false => exact absurd (cut_no k) g2
    have hq9 := cut_yes hmore
    have hne : q ≠ [] := fun e => by rw [e] at g2; exact g2 rfl
    unfold extraP
    rw [if_pos h5, hb, hmq hne]
    simp only [joinL, List.flatMap_cons, List.flatMap_nil, List.append_nil, if_true]
    conv => rhs; rw [hq9]
    simp
  ·rw [if_neg h5] at h ⊢
   by_cases g2 : (spP (cutL 32 q).2.1).2.2.2.2 = true
   ·rw [if_pos g2] at h ⊢
    refine ⟨_, _, _, _, _, _, [], 0, rfl, ?_, by decide, by decide, by omega⟩
    have hb2 := sp_back (l := (cutL 32 q).2.1) (a := (spP (cutL 32 q).2.1).1) (b := (spP (cutL 32 q).2.1).2.1) (c := (spP (cutL 32 q).2.1).2.2.1) (d := (spP (cutL 32 q).2.1).2.2.2.1) (by rw [← g2])
    have hmore : (cutL 32 q).2.2 = true := by
     cases k : (cutL 32 q).2.2 with
     | true => rfl
     | false => rw [cut_no k, spnil2] at g2; cases g2
    have hq9 := cut_yes hmore
    have hne : q ≠ [] := fun e => by rw [e] at hmore; cases hmore
    unfold extraP
    rw [if_neg h5, if_neg h2, if_pos (by omega), hb, hb2, hmq hne]
    simp only [joinL, List.flatMap_cons, List.flatMap_nil, List.append_nil, if_true]
    conv => rhs; rw [hq9]
    simp
   ·rw [if_neg g2] at h; exact noneT_err h
 ·rw [if_neg g] at h; exact noneT_err h
theorem cmd_back (t : List UInt8) (h : (cmdP t).2.2.2.2.2.2.2.2.2.2.2.2 = 0) : ∃ u lv ct v r c a b d e x n, Held t (cmdP t) u lv ct v r c a b d e x n := by
 unfold cmdP at h ⊢
 by_cases hl : 1000 < t.length
 ·rw [if_pos hl] at h; exact absurd h (by decide)
 rw [if_neg hl] at h ⊢
 have l1 := cutL_length 32 t
 have l2 := cutL_length 32 (cutL 32 t).2.1
 have l3 := cutL_length 32 (cutL 32 (cutL 32 t).2.1).2.1
 have y1 := fun k => cut_yes (l := t) k
 have n1 := fun k => cut_no (l := t) k
 have y2 := fun k => cut_yes (l := (cutL 32 t).2.1) k
 have n2 := fun k => cut_no (l := (cutL 32 t).2.1) k
 have y3 := fun k => cut_yes (l := (cutL 32 (cutL 32 t).2.1).2.1) k
 have n3 := fun k => cut_no (l := (cutL 32 (cutL 32 t).2.1).2.1) k
 unfold lineP at h ⊢
 by_cases g : nameS (tx (cutL 32 t).1) = true
 case neg => rw [if_neg g] at h; exact noneT_err h
 rw [if_pos g] at h ⊢
 cases hlb : labP (cutL 32 (cutL 32 t).2.1).1 with
 | none => rw [hlb] at h; exact noneT_err h
 | some p =>
  obtain ⟨lv, ct⟩ := p
  rw [hlb] at h
  dsimp only at h ⊢
  obtain ⟨hb1, hb2, hb3⟩ := labP_back _ lv ct hlb
  by_cases hz : verbL (cutL 32 (cutL 32 (cutL 32 t).2.1).2.1).1 = 0
  ·rw [if_pos hz] at h; exact noneT_err h
  ·rw [if_neg hz] at h ⊢
   rcases verb_cases (cutL 32 (cutL 32 (cutL 32 t).2.1).2.1).1 with k | ⟨v, v1, v2, hvv, hw⟩
   ·exact absurd k hz
   have hm1 : (cutL 32 t).2.2 = true := by
    cases k : (cutL 32 t).2.2 with
    | true => rfl
    | false =>
     have := n1 k
     rw [this] at hz
     exact absurd verb_nil hz
   have hm2 : (cutL 32 (cutL 32 t).2.1).2.2 = true := by
    cases k : (cutL 32 (cutL 32 t).2.1).2.2 with
    | true => rfl
    | false =>
     have := n2 k
     rw [this] at hz
     exact absurd verb_nil hz
   rw [hvv] at h ⊢
   obtain ⟨r, c, a, b, d, e, x, n, e1, e2, e3, e4, e5⟩ := arg_back (cutL 32 t).1 lv (ct : Int) v ⟨v1, v2⟩ (cutL 32 (cutL 32 (cutL 32 t).2.1).2.1).2.1 (cutL 32 (cutL 32 (cutL 32 t).2.1).2.1).2.2 (by omega) n3 h
   refine ⟨(cutL 32 t).1, lv, ct, (v : Int), r, c, a, b, d, e, x, n, ⟨e1, ?_, by omega, e3, hb3, e4, by omega, e5⟩⟩
   have e6 : wordI (v : Int) ++ (if (cutL 32 (cutL 32 (cutL 32 t).2.1).2.1).2.2 = true then 32 :: (cutL 32 (cutL 32 (cutL 32 t).2.1).2.1).2.1 else []) = (cutL 32 (cutL 32 t).2.1).2.1 := by
    cases k : (cutL 32 (cutL 32 (cutL 32 t).2.1).2.1).2.2 with
    | true => rw [if_pos rfl, hw]; exact (y3 k).symm
    | false =>
     rw [if_neg (by simp), hw, List.append_nil]
     rcases cutL_back 32 (cutL 32 (cutL 32 t).2.1).2.1 with ⟨q, _⟩ | ⟨_, q, _⟩
     ·rw [k] at q; cases q
     ·exact q.symm
   rw [e6] at e2
   unfold outP
   have e7 : ∀ (A B : List UInt8) (l : List (List UInt8)), l ≠ [] → joinL [32] (A :: B :: l) = A ++ 32 :: (B ++ 32 :: joinL [32] l) := by
    intro A B l hne
    cases l with
    | nil => exact absurd rfl hne
    | cons z zs => simp [joinL]
   rw [e7 _ _ _ (by simp), e2, hb1, ← y2 hm2, ← y1 hm1]
end Go.Proofs.YtajoebfkkknjhaaDoor.X
/- The reference's Text. -/
set_option linter.unusedVariables false
set_option linter.unusedSimpArgs false
namespace Go.Proofs.YtajoebfkkknjhaaDoor.X
open Go.RowKit Go.Proofs.YtajoebfkkknjhaaDoorW.PrintWords Go.Proofs.YtajoebfkkknjhaaDoorW.PrintLast Go.Proofs.YtajoebfkkknjhaaDoorW.PrintMore
open AD NM
theorem end_cases (s : List UInt8) (c0 : ByteArray) (c1 c2 c3 c4 c5 c6 c7 c8 c9 : Int) (c10 : ByteArray) (c11 : Int) :
  endP s c0 c1 c2 c3 c4 c5 c6 c7 c8 c9 c10 c11 = [] ∨ (endP s c0 c1 c2 c3 c4 c5 c6 c7 c8 c9 c10 c11 = s ∧ (cmdP s).2.2.2.2.2.2.2.2.2.2.2.2 = 0 ∧ diffB (cmdP s) c0 c1 c2 c3 c4 c5 c6 c7 c8 c9 c10 c11 = false) := by
 unfold endP
 by_cases h : (cmdP s).2.2.2.2.2.2.2.2.2.2.2.2 = 0
 ·rw [if_pos h]
  by_cases g : diffB (cmdP s) c0 c1 c2 c3 c4 c5 c6 c7 c8 c9 c10 c11 = true
  ·rw [if_pos g]; exact .inl rfl
  ·rw [if_neg g]; exact .inr ⟨rfl, h, by simpa using g⟩
 ·rw [if_neg h]; exact .inl rfl
theorem diff_two {R : T13} {c0 : ByteArray} {c1 c2 c3 c4 c5 c6 c7 c8 c9 : Int} {c10 : ByteArray} {c11 : Int} (h : diffB R c0 c1 c2 c3 c4 c5 c6 c7 c8 c9 c10 c11 = false) : R.2.2.2.1 = c3 ∧ R.2.2.2.2.2.2.2.2.2.2.2.1 = c11 := by
 unfold diffB at h
 simp only [Bool.or_eq_false_iff, Bool.not_eq_false', beq_iff_eq] at h
 exact ⟨h.2.2.1, h.2.2.2.2.2.2⟩
theorem end_nil (s : List UInt8) (c0 : ByteArray) (c1 c2 v c4 c5 c6 c7 c8 c9 : Int) (c10 : ByteArray) (n : Int) (h : ¬ (1 ≤ v ∧ v ≤ 10) ∨ (v = 8 ∧ n < 1)) : endP s c0 c1 c2 v c4 c5 c6 c7 c8 c9 c10 n = [] := by
 rcases end_cases s c0 c1 c2 v c4 c5 c6 c7 c8 c9 c10 n with g | ⟨_, g, d⟩
 ·exact g
 ·exfalso
  obtain ⟨u', lv', ct', v', r', c', a', b', d', e', x', n', H⟩ := cmd_back s g
  obtain ⟨e1, e2⟩ := diff_two d
  rw [H.eq] at e1 e2
  dsimp only at e1 e2
  have h1 := H.lv
  have h2 := H.l8
  rw [e1] at h1 h2
  rw [e2] at h2
  omega
def s44_1 (v r c : Int) (o : List UInt8) : List UInt8 := if v = 1 ∨ v = 3 ∨ v = 4 ∨ v = 5 then o ++ 32 :: nameL r c else o
def s44_2 (v a b d e : Int) (o : List UInt8) : List UInt8 := if v = 2 ∨ v = 3 then o ++ 32 :: txtL a b d e else o
def s44_3 (v : Int) (x o : List UInt8) : List UInt8 := if v = 1 then o ++ 32 :: x else o
def s44_4 (v n : Int) (o : List UInt8) : List UInt8 := if v = 8 ∧ n ≥ 0 then o ++ 32 :: Lib.itoa n else o
theorem tadd_tx (o x : List UInt8) (h : o.length + 1 + x.length ≤ 100000) : tadd (tx o) (tx x) = some (tx (o ++ 32 :: x)) := by
 unfold tadd
 have e0 : (tx o) ++ (⟨#[32]⟩ : ByteArray) = tx (o ++ [32]) := by rw [show (⟨#[32]⟩ : ByteArray) = tx [32] from rfl, tx_append]
 rw [e0, if_pos (by rw [size_tx]; omega), if_pos (by rw [size_tx, size_tx, List.length_append]; simp; omega), tx_append, List.append_assoc]
 rfl
theorem t1_ev (v r c : Int) (o : List UInt8) (h : o.length ≤ 5000) : Ev (fun k => txt44_1 k v r c (tx o)) (tx (s44_1 v r c o)) := by
 have := nameL_len r c
 unfold txt44_1 s44_1
 exact ev_ite (fun g => by rw [if_pos g]; exact ev_bind (AD.rname_ev r c) (ev_some fun _ => tadd_tx _ _ (by omega))) (fun g => by rw [if_neg g]; exact Ev.now _)
theorem t2_ev (v a b d e : Int) (o : List UInt8) (h : o.length ≤ 5000) : Ev (fun k => txt44_2 k v a b d e (tx o)) (tx (s44_2 v a b d e o)) := by
 have := txtL_len a b d e
 unfold txt44_2 s44_2
 exact ev_ite (fun g => by rw [if_pos g]; exact ev_bind (AD.rtext_ev a b d e) (ev_some fun _ => tadd_tx _ _ (by omega))) (fun g => by rw [if_neg g]; exact Ev.now _)
theorem t3_eq (v : Int) (x o : List UInt8) (h : o.length ≤ 5000) (hx : x.length ≤ 1200) : txt44_3 v (tx x) (tx o) = some (tx (s44_3 v x o)) := by
 unfold txt44_3 s44_3
 by_cases g : v = 1
 ·rw [if_pos g, if_pos g]; exact tadd_tx _ _ (by omega)
 ·rw [if_neg g, if_neg g]
theorem t4_ev (v n : Int) (o : List UInt8) (h : o.length ≤ 5000) (hn : n ≤ 9223372036854775807) : Ev (fun k => txt44_4 k v n (tx o)) (tx (s44_4 v n o)) := by
 unfold txt44_4 s44_4
 refine ev_ite (fun g => ?_) (fun g => by rw [if_neg g]; exact Ev.now _)
 rw [if_pos g]
 have hl := Lib.itoa_length_le n (by omega) hn
 obtain ⟨m, rfl⟩ : ∃ m : Nat, n = (m : Int) := ⟨n.toNat, by omega⟩
 rw [Lib.itoa_nonneg] at hl ⊢
 exact ev_bind (rdigU_ev m (by omega)) (ev_some fun _ => tadd_tx _ _ (by omega))
theorem w44_eq (v : Int) (h : 1 ≤ v ∧ v ≤ 10) : txt44_w v wordsB = some (tx (wordI v)) := by
 have e : wrap64 (v - 1) = v - 1 := w64 (by omega) (by omega)
 unfold txt44_w
 rw [e, if_pos ⟨by omega, by rw [show wordsB.length = 10 from rfl]; omega⟩]
 have hw := words_rd ⟨(v - 1).toNat, by omega⟩
 dsimp only at hw
 rw [show (((v - 1).toNat : Nat) : Int) = v - 1 by omega, show (((v - 1).toNat + 1 : Nat) : Int) = v by omega] at hw
 rw [toList_by, toList_by] at hw
 exact congrArg some (by_inj hw)
theorem out_eq (u : List UInt8) (lv : Int) (ct : Nat) (v r c a b d e : Int) (x : List UInt8) (n : Int) (hv : 1 ≤ v ∧ v ≤ 10) (h8 : ¬ (v = 8 ∧ n < 1)) :
  s44_4 v n (s44_3 v x (s44_2 v a b d e (s44_1 v r c ((u ++ 32 :: labT lv ct) ++ 32 :: wordI v)))) = outP u lv ct v r c a b d e x (Lib.itoa n) := by
 have hv2 : v = 1 ∨ v = 2 ∨ v = 3 ∨ v = 4 ∨ v = 5 ∨ v = 6 ∨ v = 7 ∨ v = 8 ∨ v = 9 ∨ v = 10 := by omega
 unfold s44_1 s44_2 s44_3 s44_4 outP extraP
 rcases hv2 with rfl | rfl | rfl | rfl | rfl | rfl | rfl | rfl | rfl | rfl
 case inr.inr.inr.inr.inr.inr.inr.inl =>
  have : n ≥ 0 := by omega
  simp [joinL, this]
 all_goals simp [joinL]
theorem rtext44_ev (u : List UInt8) (lv : Int) (ct : Nat) (v r c a b d e : Int) (x : List UInt8) (n : Int) (hu : u.length ≤ 1200) (hx : x.length ≤ 1200) (hct : ct < 18446744073709551616) (hn : -9223372036854775808 ≤ n ∧ n ≤ 9223372036854775807) :
  Ev (fun k => oculusref44_Text.f k (tx u) lv (ct : Int) v r c a b d e (tx x) n) (tx (endP (outP u lv ct v r c a b d e x (Lib.itoa n)) (tx u) lv (ct : Int) v r c a b d e (tx x) n)) := by
 unfold oculusref44_Text.f
 refine ev_ite (fun h => ?_) (fun h => ?_)
 ·rw [end_nil _ _ _ _ _ _ _ _ _ _ _ _ _ (.inl (by omega))]
  exact Ev.now _
 have L1 := labT_len lv ct
 have L2 := word_len2 v
 have L3 := nameL_len r c
 have L4 := txtL_len a b d e
 have L5 := Lib.itoa_length_le n hn.1 hn.2
 have hv : 1 ≤ v ∧ v ≤ 10 := by omega
 refine ev_bind (rltext_ev lv ct hct) (ev_bind (ev_some fun _ => tadd_tx _ _ (by omega)) (ev_bind (ev_some fun _ => words_some) (ev_bind (ev_some fun _ => w44_eq v hv) (ev_bind (ev_some fun _ => tadd_tx _ _ (by simp; omega)) ?_))))
 have M0 : ((u ++ 32 :: labT lv ct) ++ 32 :: wordI v).length ≤ 1500 := by simp; omega
 have H8 : ¬ (v = 8 ∧ n < 1) → _ := out_eq u lv ct v r c a b d e x n hv
 generalize (u ++ 32 :: labT lv ct) ++ 32 :: wordI v = o2 at M0 H8 ⊢
 have M1 : (s44_1 v r c o2).length ≤ 1510 := by unfold s44_1; split <;> (try simp) <;> omega
 refine ev_bind (t1_ev v r c o2 (by omega)) ?_
 generalize s44_1 v r c o2 = o3 at M1 H8 ⊢
 have M2 : (s44_2 v a b d e o3).length ≤ 1530 := by unfold s44_2; split <;> (try simp) <;> omega
 refine ev_bind (t2_ev v a b d e o3 (by omega)) ?_
 generalize s44_2 v a b d e o3 = o4 at M2 H8 ⊢
 have M3 : (s44_3 v x o4).length ≤ 2800 := by unfold s44_3; split <;> (try simp) <;> omega
 refine ev_bind (ev_some fun _ => t3_eq v x o4 (by omega) hx) ?_
 generalize s44_3 v x o4 = o5 at M3 H8 ⊢
 have M4 : (s44_4 v n o5).length ≤ 2900 := by unfold s44_4; split <;> (try simp) <;> omega
 refine ev_bind (t4_ev v n o5 (by omega) hn.2) ?_
 generalize s44_4 v n o5 = o6 at M4 H8 ⊢
 refine ev_bind (rcmd_ev o6 (by omega)) ?_
 have hend : Ev (fun k => if (cmdP o6).2.2.2.2.2.2.2.2.2.2.2.2 = 0 then (if diffB (cmdP o6) (tx u) lv (ct : Int) v r c a b d e (tx x) n = true then some (⟨#[]⟩ : ByteArray) else some (tx o6)) else some (⟨#[]⟩ : ByteArray)) (tx (endP o6 (tx u) lv (ct : Int) v r c a b d e (tx x) n)) := by
  unfold endP
  refine ev_ite (fun g => ?_) (fun g => by rw [if_neg g]; exact Ev.now _)
  rw [if_pos g]
  exact ev_ite (fun g2 => by rw [if_pos g2]; exact Ev.now _) (fun g2 => by rw [if_neg g2]; exact Ev.now _)
 by_cases h8 : v = 8 ∧ n < 1
 ·rw [end_nil _ _ _ _ _ _ _ _ _ _ _ _ _ (.inr h8)] at hend ⊢
  exact hend
 ·rw [H8 h8] at hend ⊢
  exact hend
end Go.Proofs.YtajoebfkkknjhaaDoor.X
/- The pure statement of CommandBack. -/
set_option linter.unusedVariables false
set_option linter.unusedSimpArgs false
namespace Go.Proofs.YtajoebfkkknjhaaDoor.Pure
open Go.RowKit Go.Proofs.YtajoebfkkknjhaaDoor.X Go.Proofs.YtajoebfkkknjhaaDoorW.PrintWords Go.Proofs.YtajoebfkkknjhaaDoorW.PrintLast Go.Proofs.YtajoebfkkknjhaaDoorW.PrintMore
theorem nil_err : (cmdP []).2.2.2.2.2.2.2.2.2.2.2.2 = 1 := by decide +kernel
theorem out_len (u : List UInt8) (lv : Int) (ct : Nat) (v r c a b d e : Int) (x : List UInt8) (n : Int) (hu : u.length ≤ 1200) (hx : x.length ≤ 1200) (hn : -9223372036854775808 ≤ n ∧ n ≤ 9223372036854775807) :
  (outP u lv ct v r c a b d e x (Lib.itoa n)).length ≤ 4900 := by
 have L1 := labT_len lv ct
 have L2 := word_len2 v
 have L3 := AD.nameL_len r c
 have L4 := AD.txtL_len a b d e
 have L5 := Lib.itoa_length_le n hn.1 hn.2
 refine Nat.le_trans (join_len _) ?_
 unfold extraP
 repeat' split
 all_goals simp [sumL] <;> omega
theorem CommandBack : oculuslaw44_CommandBack.PureX := by
 intro s hs
 apply Ev.rounds
 obtain ⟨f0, ⟨f1, f2⟩, f3, ⟨f4, f5⟩, ⟨⟨f6, f7⟩, ⟨f8, f9⟩⟩, f10, f11⟩ := s
 obtain ⟨_, ⟨_, hc⟩, _, _, _, _, hn⟩ := hs
 dsimp only at hc hn ⊢
 obtain ⟨u, rfl⟩ : ∃ l, f0 = tx l := ⟨by_ f0, (tx_by f0).symm⟩
 obtain ⟨x, rfl⟩ : ∃ l, f10 = tx l := ⟨by_ f10, (tx_by f10).symm⟩
 have hn2 : -9223372036854775808 ≤ f11 ∧ f11 ≤ 9223372036854775807 := by
  have h9 := hn
  simp only [Lit.wf, Bool.and_eq_true, decide_eq_true_eq] at h9
  exact h9
 have hc2 : 0 ≤ f2 ∧ f2 < 18446744073709551616 := by
  have h9 := hc
  simp only [Lit.wf, Bool.and_eq_true, decide_eq_true_eq] at h9
  have e1 : IntKind.u64.min = 0 := rfl
  have e2 : IntKind.u64.max = 18446744073709551615 := rfl
  rw [e1, e2] at h9
  omega
 obtain ⟨ct, rfl⟩ : ∃ m : Nat, f2 = (m : Int) := ⟨f2.toNat, by omega⟩
 clear hn hc
 unfold oculuslaw44_CommandBack.f
 rw [size_tx, size_tx]
 have htrue : Ev (fun k => oculuslaw44_CommandBack.j0 k true (tx u) f1 (ct : Int) f3 f4 f5 f6 f7 f8 f9 (tx x) f11) true :=
  Ev.step (fun k => oculuslaw44_CommandBack.j0.eq_2 ..) (ev_pos rfl (ev_bind alive44_ev (Ev.now _)))
 refine ev_ite (fun _ => htrue) (fun hx => ?_)
 by_cases hu : (u.length : Int) > 1200
 ·rw [decide_eq_true hu]; exact htrue
 rw [decide_eq_false hu]
 refine Ev.step (fun k => oculuslaw44_CommandBack.j0.eq_2 ..) (ev_neg (by simp) ?_)
 refine ev_bind (ctext_ev u f1 ct f3 f4 f5 f6 f7 f8 f9 x f11 (by omega) (by omega) (by omega) hn2) ?_
 refine ev_bind (rtext44_ev u f1 ct f3 f4 f5 f6 f7 f8 f9 x f11 (by omega) (by omega) (by omega) hn2) ?_
 refine ev_pos rfl ?_
 have hl := out_len u f1 ct f3 f4 f5 f6 f7 f8 f9 x f11 (by omega) (by omega) hn2
 generalize outP u f1 ct f3 f4 f5 f6 f7 f8 f9 x (Lib.itoa f11) = o at hl ⊢
 rcases end_cases o (tx u) f1 (ct : Int) f3 f4 f5 f6 f7 f8 f9 (tx x) f11 with h | ⟨h, g, hd⟩
 ·rw [h]
  exact ev_bind (cmd_ev [] (by decide)) (ev_pos (by rw [toList_by, by_tx]) (ev_pos nil_err (ev_bind alive44_ev (Ev.now _))))
 ·rw [h]
  have hne : o ≠ [] := fun e => by rw [e, nil_err] at g; cases g
  refine ev_bind (cmd_ev o (by omega)) (ev_neg (by rw [toList_by, by_tx]; exact hne) (ev_pos g (ev_pos ?_ (ev_bind alive44_ev (Ev.now _)))))
  unfold diffB at hd
  simp only [Bool.or_eq_false_iff, Bool.not_eq_false', beq_iff_eq] at hd
  simp only [Bool.and_eq_true, beq_iff_eq]
  obtain ⟨a0, ⟨a1, a2⟩, ⟨a3, ⟨a4, a5⟩, ⟨⟨a6, a7⟩, a8, a9⟩, a10, a11⟩⟩ := hd
  exact ⟨a0, ⟨a1, a2⟩, a3, ⟨⟨a4, a5⟩, ⟨⟨a6, a7⟩, a8, a9⟩, a10, a11⟩⟩
end Go.Proofs.YtajoebfkkknjhaaDoor.Pure
/- The row of the law CommandBack: for every input the call returns true and each argument reads afterwards as before, out of its pure statement and the contract of its function. Conditions: none beyond the given statement. -/
namespace Go.Proofs.YtajoebfkkknjhaaDoor.commandBack
open Go.ChangeShapes Go.WideShapes Go.ChangeAt Go.RowKit
open Go.ChangeMaps (open_string shut_string)
open Go.Proofs.YtajoebfkkknjhaaDoor.Opn Go.Proofs.YtajoebfkkknjhaaDoor.X
open Go.Proofs.YtajoebfkkknjhaaDoorW.PrintWords (Kd Drawn0)
set_option linter.unusedVariables false
set_option maxRecDepth 100000
theorem own : ownKnob Tryd.prog.godebug = none := by kernel_rfl
theorem laidOut : laidOutB Tryd.prog = true := by kernel_rfl
theorem tab_vars {P : Program} {W : World} {name : String} {k : IntKind} {zs : List Int} {g : Nat} {t e : TypeId} {n : Nat}
  (hg : P.globalNamed name = some g) (hty : (P.globals[g]?).map (·.type) = some t) (ht : P.underlying t = some (.array n e)) (he : P.underlying e = some (.int k)) (hce : P.cellsOf e = 1) (hct : P.cellsOf t = n) :
  ∀ (l : List (String × DataW Unit)) (ps : List MemPlace), DataW.LaidVars P W l ps → (name, Lib.tabData k zs) ∈ l → Lib.TabIs P W name k zs
 | [], _, _, hm => by simp at hm
 | (nm, d) :: rest, ps, h, hm => by
  obtain ⟨g', t', cs, fuel, p, q, hg', ht', hvar, hd, hr, _⟩ := h
  rcases List.mem_cons.1 hm with e0 | hm
  ·cases e0
   obtain rfl := Option.some.inj (hg.symm.trans hg')
   obtain rfl := Option.some.inj (hty.symm.trans ht')
   unfold Lib.TabIs
   rw [hvar, ← Lib.cells_of_tab ht he hce hct hd]
  ·exact tab_vars hg hty ht he hce hct rest q hr hm
theorem e_pow : (Rows.laid_internal_strconv_uint64pow10 : DataW Unit) = Lib.tabData .u64 Lib.pow10Tab := by kernel_rfl
theorem e_bru : (Rows.laid_math_bits_deBruijn64tab : DataW Unit) = Lib.tabData .u8 bru64 := by kernel_rfl
theorem tab_of_laid {W : World} (h : laidMet Tryd.prog Rows.commandBackRow.laid W) : Tab W := by
 obtain ⟨ps, hv, _⟩ := h
 have m_pow : (("internal/strconv.uint64pow10", (Rows.laid_internal_strconv_uint64pow10 : DataW Unit)) : String × DataW Unit) ∈ Rows.commandBackRow.laid := List.mem_cons_of_mem _ (List.mem_cons_of_mem _ (List.mem_cons_self))
 rw [e_pow] at m_pow
 have h_pow : Lib.TabIs Tryd.prog W "internal/strconv.uint64pow10" .u64 Lib.pow10Tab := tab_vars (g := 2) (t := 127) (e := 23) (n := 20) (by kernel_rfl) (by kernel_rfl) Tryd.underlying127 Tryd.underlying23 (by kernel_rfl) (by kernel_rfl) _ ps hv m_pow
 have m_bru : (("math/bits.deBruijn64tab", (Rows.laid_math_bits_deBruijn64tab : DataW Unit)) : String × DataW Unit) ∈ Rows.commandBackRow.laid := List.mem_cons_of_mem _ (List.mem_cons_self)
 rw [e_bru] at m_bru
 have h_bru : Lib.TabIs Tryd.prog W "math/bits.deBruijn64tab" .u8 bru64 := tab_vars (g := 1) (t := 125) (e := 5) (n := 64) (by kernel_rfl) (by kernel_rfl) Tryd.underlying125 Tryd.underlying5 (by kernel_rfl) (by kernel_rfl) _ ps hv m_bru
 exact ⟨h_pow, h_bru⟩
noncomputable def laidWorld (os : Os) : World :=
 { World.holding Tryd.prog os ⟨#[], #[], []⟩ with heap := ((((((World.holding Tryd.prog os ⟨#[], #[], []⟩).heap.modify 3 (fun | .cells _ t fr => .cells #[.int .u8 0, .int .u8 1, .int .u8 28, .int .u8 2, .int .u8 29, .int .u8 14, .int .u8 24, .int .u8 3, .int .u8 30, .int .u8 22, .int .u8 20, .int .u8 15, .int .u8 25, .int .u8 17, .int .u8 4, .int .u8 8, .int .u8 31, .int .u8 27, .int .u8 13, .int .u8 23, .int .u8 21, .int .u8 19, .int .u8 16, .int .u8 7, .int .u8 26, .int .u8 12, .int .u8 18, .int .u8 6, .int .u8 11, .int .u8 5, .int .u8 10, .int .u8 9] t fr | o => o)).modify 1 (fun | .cells _ t fr => .cells #[.int .u8 0, .int .u8 1, .int .u8 56, .int .u8 2, .int .u8 57, .int .u8 49, .int .u8 28, .int .u8 3, .int .u8 61, .int .u8 58, .int .u8 42, .int .u8 50, .int .u8 38, .int .u8 29, .int .u8 17, .int .u8 4, .int .u8 62, .int .u8 47, .int .u8 59, .int .u8 36, .int .u8 45, .int .u8 43, .int .u8 51, .int .u8 22, .int .u8 53, .int .u8 39, .int .u8 33, .int .u8 30, .int .u8 24, .int .u8 18, .int .u8 12, .int .u8 5, .int .u8 63, .int .u8 55, .int .u8 48, .int .u8 27, .int .u8 60, .int .u8 41, .int .u8 37, .int .u8 16, .int .u8 46, .int .u8 35, .int .u8 44, .int .u8 21, .int .u8 52, .int .u8 32, .int .u8 23, .int .u8 11, .int .u8 54, .int .u8 26, .int .u8 40, .int .u8 15, .int .u8 34, .int .u8 20, .int .u8 31, .int .u8 10, .int .u8 25, .int .u8 14, .int .u8 19, .int .u8 9, .int .u8 13, .int .u8 8, .int .u8 7, .int .u8 6] t fr | o => o)).modify 2 (fun | .cells _ t fr => .cells #[.int .u64 1, .int .u64 10, .int .u64 100, .int .u64 1000, .int .u64 10000, .int .u64 100000, .int .u64 1000000, .int .u64 10000000, .int .u64 100000000, .int .u64 1000000000, .int .u64 10000000000, .int .u64 100000000000, .int .u64 1000000000000, .int .u64 10000000000000, .int .u64 100000000000000, .int .u64 1000000000000000, .int .u64 10000000000000000, .int .u64 100000000000000000, .int .u64 1000000000000000000, .int .u64 10000000000000000000] t fr | o => o)).modify 5 (fun | .cells _ t fr => .cells #[.int .u8 128, .int .u8 191, .int .u8 160, .int .u8 191, .int .u8 128, .int .u8 159, .int .u8 144, .int .u8 191, .int .u8 128, .int .u8 143, .int .u8 0, .int .u8 0, .int .u8 0, .int .u8 0, .int .u8 0, .int .u8 0, .int .u8 0, .int .u8 0, .int .u8 0, .int .u8 0, .int .u8 0, .int .u8 0, .int .u8 0, .int .u8 0, .int .u8 0, .int .u8 0, .int .u8 0, .int .u8 0, .int .u8 0, .int .u8 0, .int .u8 0, .int .u8 0] t fr | o => o)).modify 4 (fun | .cells _ t fr => .cells #[.int .u8 240, .int .u8 240, .int .u8 240, .int .u8 240, .int .u8 240, .int .u8 240, .int .u8 240, .int .u8 240, .int .u8 240, .int .u8 240, .int .u8 240, .int .u8 240, .int .u8 240, .int .u8 240, .int .u8 240, .int .u8 240, .int .u8 240, .int .u8 240, .int .u8 240, .int .u8 240, .int .u8 240, .int .u8 240, .int .u8 240, .int .u8 240, .int .u8 240, .int .u8 240, .int .u8 240, .int .u8 240, .int .u8 240, .int .u8 240, .int .u8 240, .int .u8 240, .int .u8 240, .int .u8 240, .int .u8 240, .int .u8 240, .int .u8 240, .int .u8 240, .int .u8 240, .int .u8 240, .int .u8 240, .int .u8 240, .int .u8 240, .int .u8 240, .int .u8 240, .int .u8 240, .int .u8 240, .int .u8 240, .int .u8 240, .int .u8 240, .int .u8 240, .int .u8 240, .int .u8 240, .int .u8 240, .int .u8 240, .int .u8 240, .int .u8 240, .int .u8 240, .int .u8 240, .int .u8 240, .int .u8 240, .int .u8 240, .int .u8 240, .int .u8 240, .int .u8 240, .int .u8 240, .int .u8 240, .int .u8 240, .int .u8 240, .int .u8 240, .int .u8 240, .int .u8 240, .int .u8 240, .int .u8 240, .int .u8 240, .int .u8 240, .int .u8 240, .int .u8 240, .int .u8 240, .int .u8 240, .int .u8 240, .int .u8 240, .int .u8 240, .int .u8 240, .int .u8 240, .int .u8 240, .int .u8 240, .int .u8 240, .int .u8 240, .int .u8 240, .int .u8 240, .int .u8 240, .int .u8 240, .int .u8 240, .int .u8 240, .int .u8 240, .int .u8 240, .int .u8 240, .int .u8 240, .int .u8 240, .int .u8 240, .int .u8 240, .int .u8 240, .int .u8 240, .int .u8 240, .int .u8 240, .int .u8 240, .int .u8 240, .int .u8 240, .int .u8 240, .int .u8 240, .int .u8 240, .int .u8 240, .int .u8 240, .int .u8 240, .int .u8 240, .int .u8 240, .int .u8 240, .int .u8 240, .int .u8 240, .int .u8 240, .int .u8 240, .int .u8 240, .int .u8 240, .int .u8 240, .int .u8 240, .int .u8 240, .int .u8 240, .int .u8 241, .int .u8 241, .int .u8 241, .int .u8 241, .int .u8 241, .int .u8 241, .int .u8 241, .int .u8 241, .int .u8 241, .int .u8 241, .int .u8 241, .int .u8 241, .int .u8 241, .int .u8 241, .int .u8 241, .int .u8 241, .int .u8 241, .int .u8 241, .int .u8 241, .int .u8 241, .int .u8 241, .int .u8 241, .int .u8 241, .int .u8 241, .int .u8 241, .int .u8 241, .int .u8 241, .int .u8 241, .int .u8 241, .int .u8 241, .int .u8 241, .int .u8 241, .int .u8 241, .int .u8 241, .int .u8 241, .int .u8 241, .int .u8 241, .int .u8 241, .int .u8 241, .int .u8 241, .int .u8 241, .int .u8 241, .int .u8 241, .int .u8 241, .int .u8 241, .int .u8 241, .int .u8 241, .int .u8 241, .int .u8 241, .int .u8 241, .int .u8 241, .int .u8 241, .int .u8 241, .int .u8 241, .int .u8 241, .int .u8 241, .int .u8 241, .int .u8 241, .int .u8 241, .int .u8 241, .int .u8 241, .int .u8 241, .int .u8 241, .int .u8 241, .int .u8 241, .int .u8 241, .int .u8 2, .int .u8 2, .int .u8 2, .int .u8 2, .int .u8 2, .int .u8 2, .int .u8 2, .int .u8 2, .int .u8 2, .int .u8 2, .int .u8 2, .int .u8 2, .int .u8 2, .int .u8 2, .int .u8 2, .int .u8 2, .int .u8 2, .int .u8 2, .int .u8 2, .int .u8 2, .int .u8 2, .int .u8 2, .int .u8 2, .int .u8 2, .int .u8 2, .int .u8 2, .int .u8 2, .int .u8 2, .int .u8 2, .int .u8 2, .int .u8 19, .int .u8 3, .int .u8 3, .int .u8 3, .int .u8 3, .int .u8 3, .int .u8 3, .int .u8 3, .int .u8 3, .int .u8 3, .int .u8 3, .int .u8 3, .int .u8 3, .int .u8 35, .int .u8 3, .int .u8 3, .int .u8 52, .int .u8 4, .int .u8 4, .int .u8 4, .int .u8 68, .int .u8 241, .int .u8 241, .int .u8 241, .int .u8 241, .int .u8 241, .int .u8 241, .int .u8 241, .int .u8 241, .int .u8 241, .int .u8 241, .int .u8 241] t fr | o => o)) }
theorem laidWorld_met (os : Os) (args : Array Value) : laidMet Tryd.prog Rows.commandBackRow.laid ((laidWorld os).forCall (fun _ _ => 0) ⟨#[], args, []⟩).memory := laidMet_of_run' 8 (by kernel_rfl) (by kernel_rfl)
theorem lifted (os : Os) (started : os.Started) (H : Type) (enc : TypeId × Value → H) :
  ReturnsInHanded {} Tryd.checked os 4 .any (fun w args => (Rows.commandBackSpec.pre enc Tryd.prog Tryd.f4 Rows.commandBackRow.domain false w args ∧ laidMet Tryd.prog Rows.commandBackRow.laid w) ∧ sizedMet enc Tryd.prog Tryd.f4 (OpenSpec.ofChange Rows.commandBackSpec) false w args) (Rows.commandBackSpec.post enc Tryd.prog Tryd.f4 false true false false) := by
 refine returnsInHanded_of_change_and (C := Tryd.checked) (X := fun w _ => laidMet Tryd.prog Rows.commandBackRow.laid w) (fun _ _ _ hh h => h.of_heap hh) own started (by kernel_rfl) Tryd.func4
  (ChangeSpec.witness_at (enc := enc) (C := Tryd.checked) (os := os) (X := fun w _ => laidMet Tryd.prog Rows.commandBackRow.laid w) false (laidWorld os) #[.agg #[.string ByteArray.empty, .int .i64 0, .int .u64 0, .int .i64 0, .int .i64 0, .int .i64 0, .int .i64 0, .int .i64 0, .int .i64 0, .int .i64 0, .string ByteArray.empty, .int .i64 0]] 8 rfl (by kernel_rfl) (by kernel_rfl) (by kernel_rfl) (by kernel_rfl) (by kernel_rfl) (laidWorld_met os _)) ?_
 intro W base args ds gs before hval0 hW hcnd hsz0 hL _
 have hsz : (DataW.weightsEach Tryd.prog (Tryd.f4.params.toList ++ Rows.commandBackSpec.plain.varTypes Tryd.prog) (ds ++ gs)).all (· ≤ reachBytes) = true := hsz0
 have hval : ∀ (j : Nat) t v, Tryd.f4.params[j]? = some t → args[j]? = some v → Value.okWide Tryd.prog W .any base t v := hval0
 have hW' := hW
 obtain ⟨p, q, hA0, hV, rfl, hfz, hnd⟩ := hW
 have hA : DataW.TrodAll enc Tryd.prog W 0 (fun _ => true) true Tryd.f4.params.toList args.toList ds p := hA0
 rw [Tryd.params4] at hA hval hsz
 obtain ⟨v0, vs0, d0, ds0, p0, q0, hargs, rfl, rfl, h0, r0⟩ := trodAll_cons hA
 obtain ⟨rfl, rfl, rfl⟩ := trodAll_nil r0
 obtain rfl : args = #[v0] := by cases args; simp_all
 obtain ⟨rfl, rfl⟩ := trodVars_none hV
 have lt0 : ∀ x ∈ p0, x.block < W.heap.size := by obtain ⟨m, hm⟩ := h0; exact DataW.trod_lt m _ _ _ hm
 have hw0 : ∀ m ∈ d0.weights Tryd.prog 31, m ≤ reachBytes := fun m hm => of_decide_eq_true (List.all_eq_true.1 hsz m (DataW.weights_mem_each (j := 0) (t := 31) rfl rfl m hm))
 obtain ⟨a0, K0, g0⟩ : ∃ a, (k31 : Kd S31).K W a v0.cells.toList ∧ (good31 a) := by
  obtain ⟨fuel, hf⟩ := h0
  exact opens31 hf hw0
 obtain ⟨cs0, rfl, _⟩ := okWide_struct Tryd.underlying31 (hval 0 31 v0 rfl rfl)
 have KO0 := k31_open K0
 obtain rfl : cs0 = #[.string a0.f0, .int .i64 a0.f1.f0, .int .u64 a0.f1.f1, .int .i64 a0.f2, .int .i64 a0.f3.f0, .int .i64 a0.f3.f1, .int .i64 a0.f4.f0.f0, .int .i64 a0.f4.f0.f1, .int .i64 a0.f4.f1.f0, .int .i64 a0.f4.f1.f1, .string a0.f5, .int .i64 a0.f6] := by
  have : cs0.toList = _ := KO0
  cases cs0; simp_all
 obtain ⟨k, hk⟩ := Pure.CommandBack a0 g0
 clear hA0 hval0 hsz0 hsz
 refine (oculuslaw44_CommandBack.calls k (a0.f0) (a0.f1.f0) (a0.f1.f1) (a0.f2) (a0.f3.f0) (a0.f3.f1) (a0.f4.f0.f0) (a0.f4.f0.f1) (a0.f4.f1.f0) (a0.f4.f1.f1) (a0.f5) (a0.f6) true W ⟨tab_of_laid hL⟩ hk).mono fun e W' ⟨he, bel0⟩ => ?_
 have bel : Below W.heap.size W W' := bel0
 subst he
 exact ⟨_, rfl, _, _, _, [], _, [], hW', trodAll_mk1 (shut_bool Tryd.underlying4 _), (trodAll_cons_mk (Below.trod laidOut (by kernel_rfl) (of_decide_eq_true (by kernel_rfl)) h0 bel lt0) trodAll_mk0), rfl, bel.frame _, fun h => by cases h⟩
theorem over : Rows.commandBackRow.holds Tryd.pinned (OpenSpec.ofChange Rows.commandBackSpec) :=
 OpenClaim.holds_of_wide 4 Tryd.f4 rfl rfl rfl rfl rfl rfl rfl ⟨rfl, rfl, rfl, rfl, rfl⟩ rfl rfl rfl rfl rfl (by kernel_rfl) Tryd.func4 (by kernel_rfl)
  (of_decide_eq_true (by kernel_rfl)) (by unfold Func.isWrapper; first | (rw [if_pos (by decide +kernel)]; kernel_rfl) | (rw [if_neg (by decide +kernel)]; exact ⟨rfl, rfl⟩))
  (fun os started H enc _ => lifted os started H enc)
theorem proved : Rows.CommandBackCardSaid :=
 Claim7.holds_tied_plain_at .later [] [.data, .data, .data, .data, .pinned] true (true, "687a2eb65c77c8801a21fca7516b03cb39ddea114e8d0d16903d9a9d95e64c68") false
  over (fun _ h => by cases h) (by kernel_rfl) (fun _ h => by cases h) commandBack_row_tie rfl ⟨rfl, rfl⟩ (by kernel_rfl) rfl
  (fun f fn hf hfn => by
   obtain rfl : f = 4 := Option.some.inj ((show Tryd.prog.funcNamed "oculus/oculuslaw44.CommandBack" = some 4 by kernel_rfl).symm.trans hf) |>.symm
   obtain rfl : fn = Tryd.f4 := (Option.some.inj (Tryd.func4.symm.trans hfn)).symm
   refine ⟨by kernel_rfl, fun j t ht => ?_⟩
   rw [Tryd.params4] at ht
   have hall : ∀ t ∈ #[(31 : TypeId)], Tryd.prog.wantsStandIn t = false := by
    intro t ht
    simp only [List.mem_toArray, List.mem_cons, List.not_mem_nil, or_false] at ht
    rcases ht with rfl
    ·exact (show Tryd.prog.wantsStandIn 31 = false by kernel_rfl)
   exact hall t (Array.mem_of_getElem? ht))
  (by kernel_rfl)
end Go.Proofs.YtajoebfkkknjhaaDoor.commandBack
namespace Go.Proofs.YtajoebfkkknjhaaDoor
theorem commandBack_holds : Rows.CommandBackCardSaid := commandBack.proved
#print axioms commandBack_holds
end Go.Proofs.YtajoebfkkknjhaaDoor
