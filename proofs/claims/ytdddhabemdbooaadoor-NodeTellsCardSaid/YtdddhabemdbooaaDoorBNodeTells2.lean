/- Contracts of the functions that the law NodeTells reaches, and what they answer (a session's own texts, joined; part 2). -/
import Derived.Shelf.Strings.SplitCore
import Derived.Lib.SplitLaws
import Derived.Lib.IndexBytes
import Derived.Deep.QuietTactic
import Derived.BigQuiet
import Derived.Test.YtdddhabemdbooaaDoorBNodeTells1
set_option maxHeartbeats 8000000
set_option maxRecDepth 100000
namespace Go.Proofs.YtdddhabemdbooaaDoor.X
open Go.RowKit Go.Proofs.YtdddhabemdbooaaDoorW.PrintWords Go.Proofs.YtdddhabemdbooaaDoorW.PrintLast Go.Proofs.YtdddhabemdbooaaDoorW.PrintMore
attribute [local go_sem] max2_int min2_int max_two min_two max_three min_three max_four min_four
set_option linter.unusedVariables false
set_option linter.unusedSimpArgs false
mutual
def cats_number.j0 : Nat → ByteArray → Bool → Option (Int × Bool)
 | 0, _, _ => none
 | k + 1, x0, x23 => if x23 = true then (some (0, false)) else (cats_number.l0 k x0 0 (x0.size : Int) 0)
def cats_number.l0 : Nat → ByteArray → Int → Int → Int → Option (Int × Bool)
 | 0, _, _, _, _ => none
 | k + 1, x0, x4, x25, x26 => if x26 < x25 then (if 0 ≤ x26 then (if x26 < (x0.size : Int) then (if (bt x0 x26) < 48 then (some (0, false)) else (if (bt x0 x26) > 57 then (some (0, false)) else (cats_number.l0 k x0 (wrap64 ((wrap64 (x4 * 10)) + (((bt x0 x26) - 48) % 256))) x25 (wrap64 (x26 + 1))))) else (none)) else (none)) else (some (x4, decide (x4 < 64)))
end
def cats_number.f (k : Nat) (a0 : ByteArray) : Option (Int × Bool) := if (a0.size : Int) < 1 then (cats_number.j0 k a0 true) else (if (a0.size : Int) > 2 then (cats_number.j0 k a0 true) else (if (a0.size : Int) = 2 then (if 0 < (a0.size : Int) then (cats_number.j0 k a0 ((bt a0 0) == 48)) else (none)) else (cats_number.j0 k a0 false)))
theorem cats_number.mono_l : ∀ k, (∀ y0 y1, LeO (cats_number.j0 k y0 y1) (cats_number.j0 (k + 1) y0 y1)) ∧ (∀ y0 y1 y2 y3, LeO (cats_number.l0 k y0 y1 y2 y3) (cats_number.l0 (k + 1) y0 y1 y2 y3))
 | 0 => ⟨fun _ _ r h => by simp [cats_number.j0] at h, fun _ _ _ _ r h => by simp [cats_number.l0] at h⟩
 | k + 1 => by
  obtain ⟨ih0, ih1⟩ := cats_number.mono_l k
  refine ⟨?_, ?_⟩
  ·intro y0 y1
   unfold cats_number.j0
   exact mo_
  ·intro y0 y1 y2 y3
   unfold cats_number.l0
   exact mo_
theorem cats_number.mono : ∀ a0 k, LeO (cats_number.f k a0) (cats_number.f (k + 1) a0) := by
 intro a0 k; obtain ⟨ih0, ih1⟩ := cats_number.mono_l k
 unfold cats_number.f
 exact mo_
theorem cats_number.calls (k : Nat) (a0 : ByteArray) (r1 : Int) (r2 : Bool) (w : World) (h : cats_number.f k a0 = some (r1, r2)) :
  Calls Tryd.prog 53 #[.string a0] w fun e w' => e = .returned (.tuple #[.int .i64 r1, .bool r2]) ∧ Drawn0 w w' := by
 have H : (if (a0.size : Int) < 1 then (cats_number.j0 k a0 true) else (if (a0.size : Int) > 2 then (cats_number.j0 k a0 true) else (if (a0.size : Int) = 2 then (if 0 < (a0.size : Int) then (cats_number.j0 k a0 ((bt a0 0) == 48)) else (none)) else (cats_number.j0 k a0 false)))) = some (r1, r2) := h
 clear h; have HC2 := A_ H; clear H
 go_enter Tryd.func53, Tryd.ntmps53
 go_upto_region 1 with (fail)
 go_cut [23] (fun v23 wc => ∃ (kq : Nat) (x23_1 : Bool), v23 = .bool x23_1 ∧ Aside0 (cats_number.j0 kq a0 x23_1 = some (r1, r2)) ∧ Aside0 (kq ≤ k) ∧ Drawn0 w wc)
 case first =>
  have H := HC2.out; clear HC2
  by_cases c3 : (a0.size : Int) < 1
  ·rw [if_pos c3] at H; have c3b0 := decide_eq_true c3; have c3b1 : decide (a0.size < 1) = true := decide_eq_true (by omega); clear c3; (first | rw [c3b0] | (simp only [i64_w, i32_w]; rw [c3b0]) | skip)
   have H' := A_ H
   clear H
   go_wp2
   go_meet
   case rel => exact ⟨_, (true), sq_, H', le_, dr_⟩
  ·rw [if_neg c3] at H; have c3b0 := decide_eq_false c3; have c3b1 : decide (a0.size < 1) = false := decide_eq_false (by omega); clear c3; (first | rw [c3b0] | (simp only [i64_w, i32_w]; rw [c3b0]) | skip)
   by_cases c4 : (a0.size : Int) > 2
   ·rw [if_pos c4] at H; have c4b0 := decide_eq_true c4; have c4b1 : decide (2 < a0.size) = true := decide_eq_true (by omega); clear c4
    have H' := A_ H
    clear H
    go_wp2
    go_meet
    case rel => exact ⟨_, (true), sq_, H', le_, dr_⟩
   ·rw [if_neg c4] at H; have c4b0 := decide_eq_false c4; have c4b1 : decide (2 < a0.size) = false := decide_eq_false (by omega); clear c4
    by_cases c5 : (a0.size : Int) = 2
    ·rw [if_pos c5] at H; have ⟨c5b0,c5b1⟩ := e1_ c5; clear c5
     by_cases c6 : 0 < (a0.size : Int)
     ·rw [if_pos c6] at H; have c6b0 := decide_eq_true c6; have c6b1 : decide (0 < a0.size) = true := decide_eq_true (by omega); clear c6
      have H' := A_ H
      clear H
      have p7 : 0 ≤ (0 : Int) := (by omega)
      have q7 : 0 < a0.size := (by have : (0 : Int) < (a0.size : Int) := of_decide_eq_true as_; omega)
      have hx7 : ∀ h : 0 < a0.size, ((a0[0]'h).toNat : Int) = bt a0 0 := bt_at a0 0
      clear p7; have qi7 : (0 < (a0.size : Int)) = True := eq_true (of_decide_eq_true as_); replace q7 := eq_true q7
      go_wp2
      go_meet
      case rel => exact ⟨_, (((bt a0 0) == 48)), sq_, H', le_, dr_⟩
     ·rw [if_neg c6] at H
      exact absurd H (by simp)
    ·rw [if_neg c5] at H; have ⟨c5b0,c5b1⟩ := e0_ c5
     have H' := A_ H
     clear H
     go_wp2
     go_meet
     case rel => exact ⟨_, (false), sq_, H', le_, dr_⟩
 case rest =>
  clear HC2; obtain ⟨kq, x23_1, rfl, HA, HJ1, ⟨mc1, rfl⟩⟩ := hcut
  cases kq with
  | zero => exact absurd HA.out (by simp [cats_number.j0])
  | succ kj1 =>
   have H := HA.out; clear HA
   simp only [cats_number.j0] at H
   replace H := ib_ H; rcases H with ⟨rfl,H⟩|⟨rfl,H⟩
   ·simp only [Option.some.injEq, Prod.mk.injEq] at H
    obtain ⟨rfl, rfl⟩ := H
    go_wp2
    go_ret2
    exact ⟨by first | rfl | (simp; done) | (simp [*]; done), dr_⟩
   ·have H' := A_ H
    clear H
    go_wp2
    go_loopg [4, 26] kj1 (fun kq v4 v26 w' => ∃ (x4_2 : Int) (x26_2 : Int), v4 = .int .i64 x4_2 ∧ v26 = .int .i64 x26_2 ∧ Aside0 (cats_number.l0 kq a0 x4_2 (a0.size : Int) x26_2 = some (r1, r2)) ∧ Aside0 (kq ≤ kj1) ∧ Drawn0 w w')
    case atStart => exact ⟨(0), (0), sq_, sq_, H', ⟨Nat.le_refl _⟩, dr_⟩
    case round =>
     clear H'; (try clear c8); obtain ⟨x4_2, x26_2, rfl, rfl, HA, HK2, ⟨m2, rfl⟩⟩ := hrel
     cases gk with
     | zero => exact absurd HA.out (by simp [cats_number.l0])
     | succ k2 =>
      have H := HA.out; clear HA
      simp only [cats_number.l0] at H
      by_cases c9 : x26_2 < (a0.size : Int)
      ·rw [if_pos c9] at H; have c9b0 := decide_eq_true c9; clear c9
       by_cases c10 : 0 ≤ x26_2
       ·rw [if_pos c10] at H; have c10b0 := decide_eq_true c10; clear c10
        by_cases c11 : x26_2 < (a0.size : Int)
        ·rw [if_pos c11] at H; have c11b0 := decide_eq_true c11; clear c11
         by_cases c13 : (bt a0 x26_2) < 48
         ·rw [if_pos c13] at H; have c13b0 := decide_eq_true c13; clear c13
          simp only [Option.some.injEq, Prod.mk.injEq] at H
          obtain ⟨rfl, rfl⟩ := H
          have p12 : 0 ≤ (x26_2 : Int) := of_decide_eq_true as_
          have q12 : x26_2 < (a0.size : Int) := of_decide_eq_true as_
          have hx12 := bt_at a0 x26_2; replace p12 := eq_true p12; replace q12 := eq_true q12
          go_wp2
          go_ret2
          exact ⟨by first | rfl | (simp; done) | (simp [*]; done), dr_⟩
         ·rw [if_neg c13] at H; have c13b0 := decide_eq_false c13; clear c13
          by_cases c15 : (bt a0 x26_2) > 57
          ·rw [if_pos c15] at H; have c15b0 := decide_eq_true c15; clear c15
           simp only [Option.some.injEq, Prod.mk.injEq] at H
           obtain ⟨rfl, rfl⟩ := H
           have p12 : 0 ≤ (x26_2 : Int) := of_decide_eq_true as_
           have q12 : x26_2 < (a0.size : Int) := of_decide_eq_true as_
           have hx12 := bt_at a0 x26_2; replace p12 := eq_true p12; replace q12 := eq_true q12
           have p14 : 0 ≤ (x26_2 : Int) := of_decide_eq_true as_
           have q14 : x26_2 < (a0.size : Int) := of_decide_eq_true as_
           have hx14 := bt_at a0 x26_2; replace p14 := eq_true p14; replace q14 := eq_true q14
           go_wp2
           go_ret2
           exact ⟨by first | rfl | (simp; done) | (simp [*]; done), dr_⟩
          ·rw [if_neg c15] at H; have c15b0 := decide_eq_false c15; clear c15
           have H' := A_ H
           clear H
           have p12 : 0 ≤ (x26_2 : Int) := of_decide_eq_true as_
           have q12 : x26_2 < (a0.size : Int) := of_decide_eq_true as_
           have hx12 := bt_at a0 x26_2; replace p12 := eq_true p12; replace q12 := eq_true q12
           have p14 : 0 ≤ (x26_2 : Int) := of_decide_eq_true as_
           have q14 : x26_2 < (a0.size : Int) := of_decide_eq_true as_
           have hx14 := bt_at a0 x26_2; replace p14 := eq_true p14; replace q14 := eq_true q14
           have p16 : 0 ≤ (x26_2 : Int) := of_decide_eq_true as_
           have q16 : x26_2 < (a0.size : Int) := of_decide_eq_true as_
           have hx16 := bt_at a0 x26_2; replace p16 := eq_true p16; replace q16 := eq_true q16
           go_wp2
           go_roundg k2
           case measure => have := HJ1.out; have := HK2.out; omega
           case rel => exact ⟨(wrap64 ((wrap64 (x4_2 * 10)) + (((bt a0 x26_2) - 48) % 256))), (wrap64 (x26_2 + 1)), sq_, sq_, H', ⟨by have := HJ1.out; have := HK2.out; omega⟩, dr_⟩
        ·rw [if_neg c11] at H
         exact absurd H (by simp)
       ·rw [if_neg c10] at H
        exact absurd H (by simp)
      ·rw [if_neg c9] at H; have c9b0 := decide_eq_false c9; clear c9
       simp only [Option.some.injEq, Prod.mk.injEq] at H
       obtain ⟨rfl, rfl⟩ := H
       go_wp2
       go_ret2
       exact ⟨by first | rfl | (simp; done) | (simp [*]; done), dr_⟩

end Go.Proofs.YtdddhabemdbooaaDoor.X
/- The contract of strings.Split at a separator of one byte: out of the shelf's. -/
set_option linter.unusedVariables false
namespace Go.Proofs.YtdddhabemdbooaaDoor.X
open Go.RowKit Go.Proofs.YtdddhabemdbooaaDoorW.PrintWords Go.Proofs.YtdddhabemdbooaaDoorW.PrintLast Go.Proofs.YtdddhabemdbooaaDoorW.PrintMore
def strings_Split.f (a0 a1 : ByteArray) : Option (List ByteArray) := if a1.size = 1 ∧ a0.size < 4294967281 then some (Lib.splitB a1 0 (Lib.countB a0 a1) a0) else none
theorem heap_new_ (w : World) (o : Obj) : (w.alloc o).heap[w.heap.size]? = some o := by
 show (w.heap.push o)[w.heap.size]? = some o
 simp
theorem strs_own (W : World) (l : List ByteArray) (hl : l.length ≤ 9223372036854775807) :
  Kd.R Kd.string 9 (W.alloc (.cells (l.map Value.string).toArray 9)) W.heap.size (fun _ => True) (.slice (some ⟨W.heap.size, 0, none⟩) l.length l.length) l := by
 refine ⟨fun _ _ => trivial, l.map Value.string, ⟨by simp [Kd.string, Kd.scalar], Or.inr ⟨W.heap.size, l.length, (l.map Value.string).toArray, rfl, Nat.le_refl _, heap_new_ W _, Nat.le_refl _, by unfold maxLen; omega, by simp [Kd.string, Kd.scalar], by simp only [Kd.string, Kd.scalar, Nat.mul_one]; rw [List.take_of_length_le (by simp)]⟩⟩, ?_⟩
 exact Kd.reps_scalar l
theorem gensplit_one (s : ByteArray) (c : UInt8) (w : World) (hs : s.size < 4294967281) :
  Calls Tryd.prog 60 #[.string s, .string ⟨#[c]⟩, .int .i64 0, .int .i64 (-1)] w fun e w' =>
   e = .returned (.slice (some ⟨w.heap.size, 0, none⟩) (Lib.countB s ⟨#[c]⟩ + 1) (Lib.countB s ⟨#[c]⟩ + 1)) ∧ w' = w.alloc (.cells ((Lib.splitB ⟨#[c]⟩ 0 (Lib.countB s ⟨#[c]⟩) s).map Value.string).toArray 9) := by
 have h1 : 1 ≤ (⟨#[c]⟩ : ByteArray).size := Nat.le_refl _
 have hle := Lib.countB_le ⟨#[c]⟩ h1 s.size s (Nat.le_refl _)
 have hlen := Lib.splitB_all ⟨#[c]⟩ h1 0 _ s rfl
 have c0 := Any.strings_genSplit_core Tryd.lays221 (by kernel_rfl) s ⟨#[c]⟩ 0 (-1) (Lib.countB s ⟨#[c]⟩ + 1) w hs h1 (Nat.zero_le _)
  (fun x d hx => (Tryd.strings_Index_one x c _).mono fun e w' ⟨he, hw⟩ => ⟨by rw [he, ← Lib.index_one], hw⟩)
  ((Tryd.strings_Count_one s c w).mono fun e w' ⟨he, hw⟩ => ⟨by
   rw [he]
   show _ = Ending.returned (Value.int .i64 ((Lib.count s.data.toList [c] : Nat) : Int))
   rw [Lib.count_one]
   rfl, hw⟩) (by decide) (by decide) (by rw [if_pos (by decide)]; omega)
 rw [Nat.add_sub_cancel, hlen] at c0
 have e2 : Lib.cellsOf (Lib.splitB ⟨#[c]⟩ 0 (Lib.countB s ⟨#[c]⟩) s) (Lib.countB s ⟨#[c]⟩ + 1) = ((Lib.splitB ⟨#[c]⟩ 0 (Lib.countB s ⟨#[c]⟩) s).map Value.string).toArray := by rw [← hlen]; exact Lib.cellsOf_full _
 rw [e2] at c0
 exact c0
theorem split_one_w (s : ByteArray) (c : UInt8) (w : World) (hs : s.size < 4294967281) :
  Calls Tryd.prog 52 #[.string s, .string ⟨#[c]⟩] w fun e w' =>
   e = .returned (.slice (some ⟨w.heap.size, 0, none⟩) (Lib.countB s ⟨#[c]⟩ + 1) (Lib.countB s ⟨#[c]⟩ + 1)) ∧ w' = w.alloc (.cells ((Lib.splitB ⟨#[c]⟩ 0 (Lib.countB s ⟨#[c]⟩) s).map Value.string).toArray 9) := by
 go_enter Tryd.func52, Tryd.ntmps52
 go_wp2_with (go_at_call 60; refine (gensplit_one s c w hs).mono ?_; rintro e w' ⟨rfl, hw⟩; rw [hw])
 go_ret
 exact ⟨rfl, rfl⟩
theorem strings_Split.calls (a0 a1 : ByteArray) (r : List ByteArray) (w : World) (h : strings_Split.f a0 a1 = some r) :
  Calls Tryd.prog 52 #[.string a0, .string a1] w fun e w' => ∃ v0_ : Value, e = .returned (v0_) ∧ Kd.R Kd.string 9 w' w.heap.size (fun _ => True) v0_ r ∧ Below w.heap.size w w' := by
 unfold strings_Split.f at h
 by_cases hs : a1.size = 1 ∧ a0.size < 4294967281
 ·rw [if_pos hs] at h
  obtain rfl := Option.some.inj h
  obtain ⟨c, rfl⟩ := Lib.one_byte a1 hs.1
  have h1 : 1 ≤ (⟨#[c]⟩ : ByteArray).size := Nat.le_refl _
  have hle := Lib.countB_le ⟨#[c]⟩ h1 a0.size a0 (Nat.le_refl _)
  have hlen := Lib.splitB_all ⟨#[c]⟩ h1 0 _ a0 rfl
  refine (split_one_w a0 c w hs.2).mono ?_
  rintro e w' ⟨rfl, rfl⟩
  have := strs_own w (Lib.splitB ⟨#[c]⟩ 0 (Lib.countB a0 ⟨#[c]⟩) a0) (by rw [hlen]; omega)
  rw [hlen] at this
  exact ⟨_, rfl, this, (Below.refl _ w).alloc (Nat.le_refl _) _⟩
 ·rw [if_neg hs] at h
  cases h
end Go.Proofs.YtdddhabemdbooaaDoor.X
namespace Go.Proofs.YtdddhabemdbooaaDoor.X
open Go.RowKit Go.Proofs.YtdddhabemdbooaaDoorW.PrintWords Go.Proofs.YtdddhabemdbooaaDoorW.PrintLast Go.Proofs.YtdddhabemdbooaaDoorW.PrintMore
attribute [local go_sem] max2_int min2_int max_two min_two max_three min_three max_four min_four
set_option linter.unusedVariables false
set_option linter.unusedSimpArgs false
def cats_Parse.l0 : Nat → Int → List ByteArray → Int → Int → Option (Int × Bool)
 | 0, _, _, _, _ => none
 | k + 1, x4, x12, x13, x14 => if x14 < x13 then (if 0 ≤ x14 then (if x14 < (x12.length : Int) then ((cats_number.f k (rdOf ByteArray.empty x12 x14)).bind fun bt105 => (if bt105.2 = true then (if 0 ≤ (IntKind.u64.wrap (bt105.1)) then (if (shr .u64 x4 (IntKind.u64.wrap (bt105.1))) = 0 then (cats_Parse.l0 k (Go.bits .or .u64 x4 (shl .u64 1 (IntKind.u64.wrap (bt105.1)))) x12 x13 (wrap64 (x14 + 1))) else (some (0, false))) else (none)) else (some (0, false)))) else (none)) else (none)) else (some (x4, true))
def cats_Parse.f (k : Nat) (a0 : ByteArray) : Option (Int × Bool) := if a0.toList = ([] : List UInt8) then (some (0, true)) else ((strings_Split.f a0 (⟨#[44]⟩ : ByteArray)).bind fun t101 => (cats_Parse.l0 k 0 t101 (t101.length : Int) 0))
theorem cats_Parse.mono_l : ∀ k, (∀ y0 y1 y2 y3, LeO (cats_Parse.l0 k y0 y1 y2 y3) (cats_Parse.l0 (k + 1) y0 y1 y2 y3))
 | 0 => fun _ _ _ _ r h => by simp [cats_Parse.l0] at h
 | k + 1 => by
  have ih0 := cats_Parse.mono_l k
  ·intro y0 y1 y2 y3
   unfold cats_Parse.l0
   have m0 := @cats_number.mono; exact mo_
theorem cats_Parse.mono : ∀ a0 k, LeO (cats_Parse.f k a0) (cats_Parse.f (k + 1) a0) := by
 intro a0 k; have ih0 := cats_Parse.mono_l k
 unfold cats_Parse.f
 have m0 := @cats_number.mono; exact mo_
theorem cats_Parse.calls (k : Nat) (a0 : ByteArray) (r1 : Int) (r2 : Bool) (w : World) (h : cats_Parse.f k a0 = some (r1, r2)) :
  Calls Tryd.prog 44 #[.string a0] w fun e w' => e = .returned (.tuple #[.int .u64 r1, .bool r2]) ∧ Below w.heap.size w w' := by
 have HB := A_ (Below.refl w.heap.size w)
 have H : (if a0.toList = ([] : List UInt8) then (some (0, true)) else ((strings_Split.f a0 (⟨#[44]⟩ : ByteArray)).bind fun t101 => (cats_Parse.l0 k 0 t101 (t101.length : Int) 0))) = some (r1, r2) := h
 clear h
 by_cases c2 : a0.toList = ([] : List UInt8)
 ·rw [if_pos c2] at H; have ⟨c2b0,c2b1⟩ := e1_ c2; clear c2
  simp only [Option.some.injEq, Prod.mk.injEq] at H
  obtain ⟨rfl, rfl⟩ := H
  go_enter Tryd.func44, Tryd.ntmps44
  go_wp2
  go_ret2
  exact fi_ (pbx HB)
 ·rw [if_neg c2] at H; have ⟨c2b0,c2b1⟩ := e0_ c2; obtain ⟨t101, A3, H⟩ := bo_ H
  have H' := A_ H
  clear H
  go_enter Tryd.func44, Tryd.ntmps44
  go_wp2_with (first | ((with_reducible refine gate_callee (f:=52) rfl ?_); refine gL_ (some 12) rfl rfl Tryd.func52 rfl #[.string a0, .string (⟨#[44]⟩ : ByteArray)] rfl ?_; (with_reducible refine (strings_Split.calls a0 (⟨#[44]⟩ : ByteArray) t101 _ A3.out).mono ?_); rintro e w4 ⟨v102, rfl, ho0, hb⟩; refine ⟨_, rfl, ?_⟩; have HO103 := A_ (Kd.R_lower ho0 (below_size (pbx HB))); replace HB := bs_ HB hb; obtain ⟨Ao5, co5, eo5⟩ := Kd.R_slice HO103.out; subst eo5))
  go_loopg [4, 14] k (fun kq v4 v14 w' => ∃ (x4_1 : Int) (x14_1 : Int), v4 = .int .u64 x4_1 ∧ v14 = .int .i64 x14_1 ∧ Aside0 (cats_Parse.l0 kq x4_1 t101 (t101.length : Int) x14_1 = some (r1, r2)) ∧ Aside0 (kq ≤ k) ∧ Aside0 (Kd.R Kd.string 9 w' w.heap.size (fun _ => True) (.slice Ao5 t101.length co5) t101) ∧ Aside0 (Below w.heap.size w w'))
  case atStart => exact ⟨(0), (0), sq_, sq_, H', ⟨Nat.le_refl _⟩, ⟨ra_ HO103.out⟩, ⟨pbx HB⟩⟩
  case round =>
   clear H'; (try clear c2); (try clear c2b0); (try clear c2b1); obtain ⟨x4_1, x14_1, rfl, rfl, HA, HK1, HO_12, HB⟩ := hrel
   cases gk with
   | zero => exact absurd HA.out (by simp [cats_Parse.l0])
   | succ k1 =>
    have H := HA.out; clear HA
    simp only [cats_Parse.l0] at H
    by_cases c6 : x14_1 < (t101.length : Int)
    ·rw [if_pos c6] at H; have c6b0 := decide_eq_true c6; clear c6
     by_cases c7 : 0 ≤ x14_1
     ·rw [if_pos c7] at H; have c7b0 := decide_eq_true c7; clear c7
      by_cases c8 : x14_1 < (t101.length : Int)
      ·rw [if_pos c8] at H; have c8b0 := decide_eq_true c8; clear c8; obtain ⟨⟨t105, t106⟩, A9, H⟩ := bo_ H; dsimp only at H
       replace H := ib_ H; rcases H with ⟨rfl,H⟩|⟨rfl,H⟩
       ·obtain ⟨ji11, hji11⟩ : ∃ j_ : Int, (IntKind.u64.wrap (t105)) = j_ := ⟨_, rfl⟩
        replace H : (if 0 ≤ (ji11) then (if (shr .u64 x4_1 (ji11)) = 0 then (cats_Parse.l0 k1 (Go.bits .or .u64 x4_1 (shl .u64 1 (ji11))) t101 (t101.length : Int) (wrap64 (x14_1 + 1))) else (some (0, false))) else (none)) = some (r1, r2) := by first | (rw [hji11] at H; exact H) | (simp only [hji11] at H ⊢; exact H)
        (try rw [hji11] at A9)
        by_cases c12 : 0 ≤ (ji11)
        ·rw [if_pos c12] at H; have c12b0 := eq_true c12; have c12b1 := decide_eq_true c12; clear c12; obtain ⟨ji13, hji13⟩ : ∃ j_ : Int, (shr .u64 x4_1 (ji11)) = j_ := ⟨_, rfl⟩
         replace H : (if (ji13) = 0 then (cats_Parse.l0 k1 (Go.bits .or .u64 x4_1 (shl .u64 1 (ji11))) t101 (t101.length : Int) (wrap64 (x14_1 + 1))) else (some (0, false))) = some (r1, r2) := by first | (rw [hji13] at H; exact H) | (simp only [hji13] at H ⊢; exact H)
         (try rw [hji13] at A9)
         have hji13_ : (x4_1 / 2 ^ min (ji11).toNat 64) = ji13 := hji13
         have hji13z : (ji11) ≤ 64 → (x4_1 / 2 ^ (ji11).toNat) = ji13 := shr_small hji13
         by_cases c14 : (ji13) = 0
         ·rw [if_pos c14] at H; have ⟨c14b0,c14b1⟩ := e1_ c14; clear c14; have c15b0 := eq_true (of_decide_eq_true as_ : 0 ≤ (ji11)); obtain ⟨ji16, hji16⟩ : ∃ j_ : Int, (shl .u64 1 (ji11)) = j_ := ⟨_, rfl⟩
          replace H : (cats_Parse.l0 k1 (Go.bits .or .u64 x4_1 (ji16)) t101 (t101.length : Int) (wrap64 (x14_1 + 1))) = some (r1, r2) := by first | (rw [hji16] at H; exact H) | (simp only [hji16] at H ⊢; exact H)
          (try rw [hji16] at A9)
          have hji16_ : (IntKind.u64.wrap (1 * 2 ^ min (ji11).toNat 64)) = ji16 := hji16
          have hji16z : (ji11) ≤ 64 → (IntKind.u64.wrap (1 * 2 ^ (ji11).toNat)) = ji16 := shl_small hji16
          have hji16u : (IntKind.u64.wrap (2 ^ min (ji11).toNat 64)) = ji16 := by have h_ := hji16_; rw [Int.one_mul] at h_; exact h_
          have hji16v : (ji11) ≤ 64 → (IntKind.u64.wrap (2 ^ (ji11).toNat)) = ji16 := fun hle_ => by have h_ := hji16z hle_; rw [Int.one_mul] at h_; exact h_
          have H' := A_ H
          clear H
          have p104 : 0 ≤ (x14_1 : Int) := of_decide_eq_true as_
          have q104 : x14_1 < (t101.length : Int) := of_decide_eq_true as_
          obtain ⟨ad104, e104, hx104_0⟩ := Kd.at_string (Kd.R_reads' HO_12.out).2.2 x14_1 p104 q104
          cases e104
          replace p104 := eq_true p104; replace q104 := eq_true q104
          go_wp2_with (first | ((with_reducible refine gate_callee (f:=53) rfl ?_); refine gL_ (some 20) rfl rfl Tryd.func53 rfl #[.string (rdOf ByteArray.empty t101 x14_1)] rfl ?_; (with_reducible refine (cats_number.calls k1 (rdOf ByteArray.empty t101 x14_1) t105 true _ A9.out).mono ?_); rintro e w' ⟨rfl, ⟨nd, rfl⟩⟩; refine ⟨_, rfl, ?_⟩))
          go_roundg k1
          case measure => have := HK1.out; omega
          case rel => exact ⟨(Go.bits .or .u64 x4_1 (ji16)), (wrap64 (x14_1 + 1)), (by first | rfl | (simp; done) | (simp only [← hji16] <;> (first | rfl | simp)) | (simp [*]; done)), sq_, H', ⟨by have := HK1.out; omega⟩, ⟨ra_ HO_12.out⟩, ⟨pbx HB⟩⟩
         ·rw [if_neg c14] at H; have ⟨c14b0,c14b1⟩ := e0_ c14
          simp only [Option.some.injEq, Prod.mk.injEq] at H
          obtain ⟨rfl, rfl⟩ := H
          have p104 : 0 ≤ (x14_1 : Int) := of_decide_eq_true as_
          have q104 : x14_1 < (t101.length : Int) := of_decide_eq_true as_
          obtain ⟨ad104, e104, hx104_0⟩ := Kd.at_string (Kd.R_reads' HO_12.out).2.2 x14_1 p104 q104
          cases e104
          replace p104 := eq_true p104; replace q104 := eq_true q104
          go_wp2_with (first | ((with_reducible refine gate_callee (f:=53) rfl ?_); refine gL_ (some 20) rfl rfl Tryd.func53 rfl #[.string (rdOf ByteArray.empty t101 x14_1)] rfl ?_; (with_reducible refine (cats_number.calls k1 (rdOf ByteArray.empty t101 x14_1) t105 true _ A9.out).mono ?_); rintro e w' ⟨rfl, ⟨nd, rfl⟩⟩; refine ⟨_, rfl, ?_⟩))
          go_ret2
          exact ⟨by first | rfl | (simp [errW_none, errW_some] <;> rfl) | (simp only [← hji11, ← hji13]; first | rfl | (simp [errW_none, errW_some] <;> rfl)) | (simp [*, errW_none, errW_some] <;> rfl), pbx HB⟩
        ·rw [if_neg c12] at H
         exact absurd H (by simp)
       ·simp only [Option.some.injEq, Prod.mk.injEq] at H
        obtain ⟨rfl, rfl⟩ := H
        have p104 : 0 ≤ (x14_1 : Int) := of_decide_eq_true as_
        have q104 : x14_1 < (t101.length : Int) := of_decide_eq_true as_
        obtain ⟨ad104, e104, hx104_0⟩ := Kd.at_string (Kd.R_reads' HO_12.out).2.2 x14_1 p104 q104
        cases e104
        replace p104 := eq_true p104; replace q104 := eq_true q104
        go_wp2_with (first | ((with_reducible refine gate_callee (f:=53) rfl ?_); refine gL_ (some 20) rfl rfl Tryd.func53 rfl #[.string (rdOf ByteArray.empty t101 x14_1)] rfl ?_; (with_reducible refine (cats_number.calls k1 (rdOf ByteArray.empty t101 x14_1) t105 false _ A9.out).mono ?_); rintro e w' ⟨rfl, ⟨nd, rfl⟩⟩; refine ⟨_, rfl, ?_⟩))
        go_ret2
        exact fi_ (pbx HB)
      ·rw [if_neg c8] at H
       exact absurd H (by simp)
     ·rw [if_neg c7] at H
      exact absurd H (by simp)
    ·rw [if_neg c6] at H; have c6b0 := decide_eq_false c6; clear c6
     simp only [Option.some.injEq, Prod.mk.injEq] at H
     obtain ⟨rfl, rfl⟩ := H
     go_wp2
     go_ret2
     exact fi_ (pbx HB)

end Go.Proofs.YtdddhabemdbooaaDoor.X
/- The contract of strconv.Itoa, out of the shelf's: where the table is laid. -/
set_option linter.unusedVariables false
namespace Go.Proofs.YtdddhabemdbooaaDoor.X
open Go.RowKit Go.Proofs.YtdddhabemdbooaaDoorW.PrintWords Go.Proofs.YtdddhabemdbooaaDoorW.PrintLast Go.Proofs.YtdddhabemdbooaaDoorW.PrintMore
open Go.Sort
def strconv_Itoa.f (a0 : Int) : Option ByteArray := if -9223372036854775808 ≤ a0 ∧ a0 ≤ 9223372036854775807 then some ⟨(Lib.itoa a0).toArray⟩ else none
theorem strconv_Itoa.calls (a0 : Int) (r : ByteArray) (w : World) (hT : Aside0 (Tab w)) (h : strconv_Itoa.f a0 = some r) :
  Calls Tryd.prog 43 #[.int .i64 a0] w fun e w' => e = .returned (.string r) ∧ Below w.heap.size w w' := by
 unfold strconv_Itoa.f at h
 by_cases hs : -9223372036854775808 ≤ a0 ∧ a0 ≤ 9223372036854775807
 ·rw [if_pos hs] at h
  obtain rfl := Option.some.inj h
  refine (Tryd.strconv_Itoa a0 hs.1 hs.2 w hT.out.pow).mono ?_
  rintro e w' ⟨rfl, k, os, rfl⟩
  refine ⟨rfl, ?_⟩
  have h1 : Below w.heap.size w (w.drewN k) := (Drawn0.refl w).step k |>.below
  have h2 : Below (w.drewN k).heap.size (w.drewN k) (grow (w.drewN k) os) := ⟨rfl, rfl, rfl, by simp [grow], fun i hi => by simp only [grow]; exact Array.getElem?_append_left hi⟩
  exact h1.trans h2
 ·rw [if_neg hs] at h
  cases h
end Go.Proofs.YtdddhabemdbooaaDoor.X
namespace Go.Proofs.YtdddhabemdbooaaDoor.X
open Go.RowKit Go.Proofs.YtdddhabemdbooaaDoorW.PrintWords Go.Proofs.YtdddhabemdbooaaDoorW.PrintLast Go.Proofs.YtdddhabemdbooaaDoorW.PrintMore
attribute [local go_sem] max2_int min2_int max_two min_two max_three min_three max_four min_four
set_option linter.unusedVariables false
set_option linter.unusedSimpArgs false
attribute [local go_sem high] eqA49
mutual
def label_Parse.l0 : Nat → ByteArray → ByteArray → Bool → Int → Int → Int → Option (Int × Int × Bool)
 | 0, _, _, _, _, _, _ => none
 | k + 1, x4, x5, x6, x21, x108000, x108001 => if x21 < 16 then ((strconv_Itoa.f x21).bind fun t108 => (if t108.toList = x4.toList then (label_Parse.l0 k x4 x5 x6 (wrap64 (x21 + 1)) x21 x108001) else (label_Parse.l0 k x4 x5 x6 (wrap64 (x21 + 1)) x108000 x108001))) else ((cats_Parse.f k x5).bind fun bt109 => (if bt109.2 = true then (if x108000 < 0 then (label_Parse.j1 k true x108000 bt109.1) else (if (x6 != (bt109.1 != 0)) = true then (label_Parse.j1 k true x108000 bt109.1) else ((label_Top.f).bind fun bt111 => (label_Parse.j1 k (x108000 == bt111.1 && (bt109.1 == bt111.2)) x108000 bt109.1)))) else (label_Parse.j1 k true x108000 bt109.1)))
def label_Parse.j1 : Nat → Bool → Int → Int → Option (Int × Int × Bool)
 | 0, _, _, _ => none
 | k + 1, x55, x108000, x108001 => if x55 = true then (some (0, 0, false)) else (some (x108000, x108001, true))
end
def label_Parse.f (k : Nat) (a0 : ByteArray) : Option (Int × Int × Bool) := if a0.toList = ([116, 111, 112] : List UInt8) then ((label_Top.f).bind fun bt102 => (some (bt102.1, bt102.2, true))) else ((strings_Cut.f a0 (⟨#[58]⟩ : ByteArray)).bind fun bt104 => (label_Parse.l0 k bt104.1 bt104.2.1 bt104.2.2 0 (-1) 0))
theorem label_Parse.mono_l : ∀ k, (∀ y0 y1 y2 y3 y4 y5, LeO (label_Parse.l0 k y0 y1 y2 y3 y4 y5) (label_Parse.l0 (k + 1) y0 y1 y2 y3 y4 y5)) ∧ (∀ y0 y1 y2, LeO (label_Parse.j1 k y0 y1 y2) (label_Parse.j1 (k + 1) y0 y1 y2))
 | 0 => ⟨fun _ _ _ _ _ _ r h => by simp [label_Parse.l0] at h, fun _ _ _ r h => by simp [label_Parse.j1] at h⟩
 | k + 1 => by
  obtain ⟨ih0, ih1⟩ := label_Parse.mono_l k
  refine ⟨?_, ?_⟩
  ·intro y0 y1 y2 y3 y4 y5
   unfold label_Parse.l0
   have m0 := @cats_Parse.mono; exact mo_
  ·intro y0 y1 y2
   unfold label_Parse.j1
   have m0 := @cats_Parse.mono; exact mo_
theorem label_Parse.mono : ∀ a0 k, LeO (label_Parse.f k a0) (label_Parse.f (k + 1) a0) := by
 intro a0 k; obtain ⟨ih0, ih1⟩ := label_Parse.mono_l k
 unfold label_Parse.f
 have m0 := @cats_Parse.mono; exact mo_
def label_Parse.T13 : Bool × List (List Nat × List Nat) := (true, [([], []), ([0], [0]), ([1], [1]), ([2], [2]), ([3, 2], [2, 3]), ([4, 2], [2, 4]), ([2, 5], [2, 5]), ([6, 2], [6]), ([7], [7]), ([7], [7]), ([9, 7], [7, 9]), ([8, 10, 7], [7, 8, 10]), ([7, 11], [7, 11]), ([12, 7], [12]), ([13], [13]), ([13, 13], [13]), ([14, 15, 13], [13, 14, 15]), ([13, 16], [13, 16])])
def label_Parse.B13 : List Nat := [0, 1, 3, 7, 15, 31, 63, 127, 255, 255, 767, 2047, 4095, 8191, 16383, 16383, 65535, 131071]
theorem label_Parse.tab13 : rtab .any (opsOf Tryd.f30 13) = label_Parse.T13 := by kernel_rfl
theorem label_Parse.bits13 : waitsOk label_Parse.T13.2 label_Parse.B13 = true := by kernel_rfl
theorem label_Parse.calls (k : Nat) (a0 : ByteArray) (r1 : Int) (r2 : Int) (r3 : Bool) (w : World) (hT : Aside0 (Tab w)) (h : label_Parse.f k a0 = some (r1, r2, r3)) :
  Calls Tryd.prog 30 #[.string a0] w fun e w' => e = .returned (.tuple #[.agg #[.int .i64 r1, .int .u64 r2], .bool r3]) ∧ Below w.heap.size w w' := by
 have hu49 := Tryd.underlying49; have HB := A_ (Below.refl w.heap.size w)
 have H : (if a0.toList = ([116, 111, 112] : List UInt8) then ((label_Top.f).bind fun bt102 => (some (bt102.1, bt102.2, true))) else ((strings_Cut.f a0 (⟨#[58]⟩ : ByteArray)).bind fun bt104 => (label_Parse.l0 k bt104.1 bt104.2.1 bt104.2.2 0 (-1) 0))) = some (r1, r2, r3) := h
 clear h
 by_cases c2 : a0.toList = ([116, 111, 112] : List UInt8)
 ·rw [if_pos c2] at H; have ⟨c2b0,c2b1⟩ := e1_ c2; clear c2; obtain ⟨⟨t102, t103⟩, A3, H⟩ := bo_ H; dsimp only at H
  simp only [Option.some.injEq, Prod.mk.injEq] at H
  obtain ⟨rfl, rfl, rfl⟩ := H
  go_enter Tryd.func30, Tryd.ntmps30
  go_wp2_with (first | ((with_reducible refine gd_ 2 ?_); refine be_ (N:=2) (cs := #[.int .i64 0, .int .u64 0]) (t:=49) ?_; intro g1 hg w4 hbox hb; have B1 := A_ (hbox); have GW101 := hs_ HB hg; have GE101 := hs_ HB hg; replace HB := bs_ HB hb; clear hb hbox hg) | ((with_reducible refine gate_callee (f:=41) rfl ?_); refine gL_ (some 13) rfl rfl Tryd.func41 rfl #[] rfl ?_; (with_reducible refine (label_Top.calls  t102 t103 _ A3.out).mono ?_); rintro e w5 ⟨rfl, hb⟩; refine ⟨_, rfl, ?_⟩; replace B1 := bb_ B1 hb; replace HB := bs_ HB hb; have ⟨hcz6_0,hcz6_1,hfz6_0,hfz6_1⟩ := z2_ B1))
  refine bodyPost_ret (results_ct rfl _ _ g1 49 #[.int .i64 t102, .int .u64 t103] (0, 0) _ rfl (by refine pp_ (cs := #[.int .i64 t102, .int .u64 0]) 1 ?_ rfl; refine blk_put (cs := #[.int .i64 0, .int .u64 0]) ?_ 0 _ rfl; exact pkx B1) Tryd.underlying49 rfl (by kernel_rfl)) rfl ?_
  exact fi_ bl_
 ·rw [if_neg c2] at H; have ⟨c2b0,c2b1⟩ := e0_ c2; obtain ⟨⟨t104, t105, t106⟩, A7, H⟩ := bo_ H; dsimp only at H
  have H' := A_ H
  clear H
  go_enter Tryd.func30, Tryd.ntmps30
  go_wp2_with (first | ((with_reducible refine gd_ 2 ?_); refine be_ (N:=2) (cs := #[.int .i64 0, .int .u64 0]) (t:=49) ?_; intro g1 hg w8 hbox hb; have B1 := A_ (hbox); have GW101 := hs_ HB hg; have GE101 := hs_ HB hg; replace HB := bs_ HB hb; clear hb hbox hg) | ((with_reducible refine gate_callee (f:=42) rfl ?_); refine gL_ (some 16) rfl rfl Tryd.func42 rfl #[.string a0, .string (⟨#[58]⟩ : ByteArray)] rfl ?_; (with_reducible refine (strings_Cut.calls a0 (⟨#[58]⟩ : ByteArray) t104 t105 t106 _ A7.out).mono ?_); rintro e w' ⟨rfl, ⟨nd, rfl⟩⟩; refine ⟨_, rfl, ?_⟩; (try (rw [drewN_self w8]; generalize hq_ : World.drewN w8 _ = w8; have n0_ : Aside0 (w8.heap[g1]? = some (.cells #[.int .i64 0, .int .u64 0] 49 (0, 0))) := ⟨by rw [← hq_]; exact (pkx B1)⟩; have n1_ : Aside0 (Below w.heap.size w w8) := ⟨by rw [← hq_]; exact (pbx HB)⟩; clear B1 HB hq_; have B1 := n0_; have HB := n1_; clear n0_ n1_))) | ((with_reducible refine gd_ 7 ?_); refine be_ (N:=7) (cs := #[.int .i64 0, .int .u64 0]) (t:=49) ?_; intro g7 hg w9 hbox hb; have B7 := A_ (hbox); have GW107 := hs_ HB hg; have GE107 := hs_ HB hg; have N17 := hl_ B1 hg; have N71 := hr_ B1 hg; replace B1 := bb_ B1 hb; replace HB := bs_ HB hb; clear hb hbox hg; have hnb10 := N71.out; have hnc10 := N17.out; have ⟨hcz11_0,hcz11_1,hfz11_0,hfz11_1⟩ := z2_ B7))
  go_loopg [21] k (fun kq v21 w' => ∃ (x21_1 : Int) (x108000_1 : Int), v21 = .int .i64 x21_1 ∧ Aside0 (label_Parse.l0 kq t104 t105 t106 x21_1 x108000_1 0 = some (r1, r2, r3)) ∧ Aside0 (kq ≤ k) ∧ Aside0 (w'.heap[g1]? = some (.cells #[.int .i64 0, .int .u64 0] 49 (0, 0))) ∧ Aside0 (w'.heap[g7]? = some (.cells #[.int .i64 x108000_1, .int .u64 0] 49 (0, 0))) ∧ Aside0 (Below w.heap.size w w'))
  case atStart => exact ⟨(0), ((-1)), sq_, H', ⟨Nat.le_refl _⟩, ⟨by (iterate 2 refine pf_ ?_ N17.out); exact pkx B1⟩, ⟨by refine pp_ (cs := #[.int .i64 (-1), .int .u64 0]) 1 ?_ rfl; refine blk_put (cs := #[.int .i64 0, .int .u64 0]) ?_ 0 _ rfl; exact pkx B7⟩, ⟨bl_⟩⟩
  case round =>
   clear H'; (try clear c2); (try clear c2b0); (try clear c2b1); (try clear hcz11_0); (try clear hcz11_1); (try clear hfz11_0); (try clear hfz11_1); obtain ⟨x21_1, x108000_1, rfl, HA, HK1, B1, B7, HB⟩ := hrel
   cases gk with
   | zero => exact absurd HA.out (by simp [label_Parse.l0])
   | succ k1 =>
    have H := HA.out; clear HA
    simp only [label_Parse.l0] at H
    by_cases c12 : x21_1 < 16
    ·rw [if_pos c12] at H; have c12b0 := decide_eq_true c12; clear c12; obtain ⟨t108, A13, H⟩ := bo_ H
     by_cases c14 : t108.toList = t104.toList
     ·rw [if_pos c14] at H; have ⟨c14b0,c14b1⟩ := e1_ c14; clear c14
      have H' := A_ H
      clear H
      go_wp2_with (first | ((with_reducible refine gate_callee (f:=43) rfl ?_); refine gL_ (some 25) rfl rfl Tryd.func43 rfl #[.int .i64 x21_1] rfl ?_; (with_reducible refine (strconv_Itoa.calls x21_1 t108 _ (by refine tb_ ?_ hT; repeat' (first | exact pbx HB | exact Below.refl _ _ | assumption | refine below_set ?_ (Aside0.out ?_))) A13.out).mono ?_); rintro e w15 ⟨rfl, hb⟩; refine ⟨_, rfl, ?_⟩; replace B1 := bb_ B1 hb; replace B7 := bb_ B7 hb; replace HB := bs_ HB hb; (try clear hb); have hnb16 := N71.out; have hnc16 := N17.out; have ⟨hcz17_0,hcz17_1,hfz17_0,hfz17_1⟩ := z2_ B7))
      go_roundg k1
      case measure => have := HK1.out; omega
      case rel => exact ⟨(wrap64 (x21_1 + 1)), (x21_1), sq_, H', ⟨by have := HK1.out; omega⟩, ⟨by refine pf_ ?_ N17.out; exact pkx B1⟩, ⟨by refine pp_ (cs := #[.int .i64 x108000_1, .int .u64 0]) 0 ?_ rfl; exact pkx B7⟩, ⟨bl_⟩⟩
     ·rw [if_neg c14] at H; have ⟨c14b0,c14b1⟩ := e0_ c14
      have H' := A_ H
      clear H
      go_wp2_with (first | ((with_reducible refine gate_callee (f:=43) rfl ?_); refine gL_ (some 25) rfl rfl Tryd.func43 rfl #[.int .i64 x21_1] rfl ?_; (with_reducible refine (strconv_Itoa.calls x21_1 t108 _ (by refine tb_ ?_ hT; repeat' (first | exact pbx HB | exact Below.refl _ _ | assumption | refine below_set ?_ (Aside0.out ?_))) A13.out).mono ?_); rintro e w18 ⟨rfl, hb⟩; refine ⟨_, rfl, ?_⟩; replace B1 := bb_ B1 hb; replace B7 := bb_ B7 hb; replace HB := bs_ HB hb; (try clear hb); ))
      go_roundg k1
      case measure => have := HK1.out; omega
      case rel => exact ⟨(wrap64 (x21_1 + 1)), (x108000_1), sq_, H', ⟨by have := HK1.out; omega⟩, ⟨pkx B1⟩, ⟨pkx B7⟩, ⟨pbx HB⟩⟩
    ·rw [if_neg c12] at H; have c12b0 := decide_eq_false c12; clear c12; obtain ⟨⟨t109, t110⟩, A19, H⟩ := bo_ H; dsimp only at H; have HC20 := A_ H; clear H
     go_upto_region 13 with (first | ((with_reducible refine gate_callee (f:=44) rfl ?_); refine gL_ (some 33) rfl rfl Tryd.func44 rfl #[.string t105] rfl ?_; (with_reducible refine (cats_Parse.calls k1 t105 t109 t110 _ A19.out).mono ?_); rintro e w21 ⟨rfl, hb⟩; refine ⟨_, rfl, ?_⟩; replace B1 := bb_ B1 hb; replace B7 := bb_ B7 hb; replace HB := bs_ HB hb; (try clear hb); have hnb22 := N71.out; have hnc22 := N17.out; have ⟨hcz23_0,hcz23_1,hfz23_0,hfz23_1⟩ := z2_ B7))
     (try simp only [q_])
     go_cut [55] (fun v55 wc => ∃ (kq : Nat) (x55_19 : Bool), v55 = .bool x55_19 ∧ Aside0 (label_Parse.j1 kq x55_19 x108000_1 t109 = some (r1, r2, r3)) ∧ Aside0 (kq ≤ k1) ∧ Aside0 (wc.heap[g1]? = some (.cells #[.int .i64 0, .int .u64 0] 49 (0, 0))) ∧ Aside0 (wc.heap[g7]? = some (.cells #[.int .i64 x108000_1, .int .u64 t109] 49 (0, 0))) ∧ Aside0 (Below w.heap.size w wc))
     case first =>
      have H := HC20.out; clear HC20
      replace H := ib_ H; rcases H with ⟨rfl,H⟩|⟨rfl,H⟩
      ·by_cases c25 : x108000_1 < 0
       ·rw [if_pos c25] at H; have c25b0 := decide_eq_true c25; clear c25; (first | rw [c25b0] | (simp only [i64_w, i32_w]; rw [c25b0]) | skip)
        have H' := A_ H
        clear H
        try go_wp2
        have n0_ : Aside0 ((w21.setCell ⟨g7, 1, none⟩ (.int .u64 t109)).heap[g1]? = some (.cells #[.int .i64 0, .int .u64 0] 49 (0, 0))) := ⟨by refine pf_ ?_ N17.out; exact pkx B1⟩; have n1_ : Aside0 ((w21.setCell ⟨g7, 1, none⟩ (.int .u64 t109)).heap[g7]? = some (.cells #[.int .i64 x108000_1, .int .u64 t109] 49 (0, 0))) := ⟨by refine pp_ (cs := #[.int .i64 x108000_1, .int .u64 0]) 1 ?_ rfl; exact pkx B7⟩; have n2_ : Aside0 (Below w.heap.size w (w21.setCell ⟨g7, 1, none⟩ (.int .u64 t109))) := ⟨bl_⟩
        (try clear B1); (try clear B7); (try clear HB)
        generalize (w21.setCell ⟨g7, 1, none⟩ (.int .u64 t109)) = w26 at n0_ n1_ n2_ ⊢; have B1 := n0_; have B7 := n1_; have HB := n2_; clear n0_ n1_ n2_; (try (rw [drewN_self w26]; generalize hq_ : World.drewN w26 _ = w26; have n0_ : Aside0 (w26.heap[g1]? = some (.cells #[.int .i64 0, .int .u64 0] 49 (0, 0))) := ⟨by rw [← hq_]; exact (pkx B1)⟩; have n1_ : Aside0 (w26.heap[g7]? = some (.cells #[.int .i64 x108000_1, .int .u64 t109] 49 (0, 0))) := ⟨by rw [← hq_]; exact (pkx B7)⟩; have n2_ : Aside0 (Below w.heap.size w w26) := ⟨by rw [← hq_]; exact (pbx HB)⟩; clear B1 B7 HB hq_; have B1 := n0_; have B7 := n1_; have HB := n2_; clear n0_ n1_ n2_))
        replace B1 := A_ (blk_drew B1.out); replace B7 := A_ (blk_drew B7.out); replace HB := A_ (below_drew1 HB.out)
        refine start_ (n:=18) (S := fun w' => w'.cell? ⟨g7, 0, none⟩ = some (.int .i64 x108000_1) ∧ w'.cell? ⟨g7, 1, none⟩ = some (.int .u64 t109)) (ds := []) #[F,F,F,F,F,F,F,F,F,F,F,F,F,F,F,F,F,F] (by kernel_rfl) rfl rfl ⟨bc_ B7 0 rfl, bc_ B7 1 rfl⟩ (fun hHeld => ?_); refine with_tabW label_Parse.tab13 label_Parse.bits13 (fun HT_ HW_ => ?_)
        generalize w26.drew = w27 at B1 B7 HB hHeld ⊢; refine pure_ (i:=0) (N:=some 38) (v:=?_) (a':=?_) ⟨m_ 18 1⟩ rfl rfl (ao_ HT_) (fun _ _ _ h=>h) (Or.inl ⟨rfl, ?_⟩) ?_ ?_; rotate_left
        ·intro w'; go_simp; with_reducible rfl
        rotate_left
        ·simp only [q_, i64_w, i32_w]; rfl
        refine pure_ (i:=1) (N:=some 39) (v:=?_) (a':=?_) ⟨m_ 18 3⟩ rfl rfl (ao_ HT_) (fun _ _ _ h=>h) (Or.inl ⟨rfl, ?_⟩) ?_ ?_; rotate_left
        ·intro w'; go_simp; with_reducible rfl
        rotate_left
        ·simp only [q_, i64_w, i32_w]; rfl
        refine pure_ (i:=2) (N:=some 40) (v:=?_) (a':=?_) ⟨m_ 18 7⟩ rfl rfl (ao_ HT_) (fun _ _ _ h=>h) (Or.inl ⟨rfl, ?_⟩) ?_ ?_; rotate_left
        ·intro w'; go_simp; with_reducible rfl
        rotate_left
        ·simp only [q_, i64_w, i32_w]; rfl
        refine pure_ (i:=3) (N:=some 41) (v:=?_) (a':=?_) ⟨m_ 18 15⟩ rfl rfl (ao_ HT_) (fun _ _ _ h=>h) (Or.inl ⟨rfl, ?_⟩) ?_ ?_; rotate_left
        ·intro w'; go_simp; with_reducible rfl
        rotate_left
        ·simp only [q_, i64_w, i32_w]; rfl
        refine take_ (i:=4) (N:=some 42) (v:=?_) (a':=?_) ⟨m_ 18 31⟩ rfl rfl (tw_ HT_ HW_) (fun _ _ _ h=>h) (Or.inl ⟨rfl, ?_⟩) hHeld ?_ ?_; rotate_left
        ·rintro w' ⟨s0, s1⟩; go_simp; with_reducible rfl
        rotate_left
        ·simp only [q_, i64_w, i32_w]; rfl
        refine pure_ (i:=5) (N:=some 43) (v:=?_) (a':=?_) ⟨m_ 18 63⟩ rfl rfl (ao_ HT_) (fun _ _ _ h=>h) (Or.inl ⟨rfl, ?_⟩) ?_ ?_; rotate_left
        ·intro w'; go_simp; with_reducible rfl
        rotate_left
        ·simp only [q_, i64_w, i32_w]; rfl
        refine pure_ (i:=6) (N:=some 44) (v:=?_) (a':=?_) ⟨m_ 18 127⟩ rfl rfl (ao_ HT_) (fun _ _ _ h=>h) (Or.inl ⟨rfl, ?_⟩) ?_ ?_; rotate_left
        ·intro w'; go_simp; with_reducible rfl
        rotate_left
        ·simp only [q_, i64_w, i32_w]; rfl
        refine pure_ (i:=7) (N:=some 45) (v:=?_) (a':=?_) ⟨m_ 18 255⟩ rfl rfl (ao_ HT_) (fun _ _ _ h=>h) (Or.inl ⟨rfl, ?_⟩) ?_ ?_; rotate_left
        ·intro w'; go_simp; with_reducible rfl
        rotate_left
        ·simp only [q_, i64_w, i32_w]; rfl
        refine pure_ (i:=8) (N:=some 46) (v:=undef) (a':=?_) ⟨m_ 18 511⟩ rfl rfl (ao_ HT_) (fun _ _ _ h=>h) (Or.inr ⟨by rfl, rfl⟩) ?_ ?_; rotate_left
        ·simp only [q_, i64_w, i32_w]; rfl
        refine pure_ (i:=9) (N:=some 47) (v:=undef) (a':=?_) ⟨m_ 18 1023⟩ rfl rfl (ao_ HT_) (fun _ _ _ h=>h) (Or.inr ⟨by rfl, rfl⟩) ?_ ?_; rotate_left
        ·simp only [q_, i64_w, i32_w]; rfl
        refine pure_ (i:=10) (N:=some 48) (v:=undef) (a':=?_) ⟨m_ 18 2047⟩ rfl rfl (ao_ HT_) (fun _ _ _ h=>h) (Or.inr ⟨by rfl, rfl⟩) ?_ ?_; rotate_left
        ·simp only [q_, i64_w, i32_w]; rfl
        refine pure_ (i:=11) (N:=some 49) (v:=undef) (a':=?_) ⟨m_ 18 4095⟩ rfl rfl (ao_ HT_) (fun _ _ _ h=>h) (Or.inr ⟨by rfl, rfl⟩) ?_ ?_; rotate_left
        ·simp only [q_, i64_w, i32_w]; rfl
        refine pure_ (i:=12) (N:=some 50) (v:=?_) (a':=?_) ⟨m_ 18 8191⟩ rfl rfl (ao_ HT_) (fun _ _ _ h=>h) (Or.inl ⟨rfl, ?_⟩) ?_ ?_; rotate_left
        ·intro w'; go_simp; with_reducible rfl
        rotate_left
        ·simp only [q_, i64_w, i32_w]; rfl
        refine pure_ (i:=13) (N:=some 51) (v:=?_) (a':=?_) ⟨m_ 18 16383⟩ rfl rfl (ao_ HT_) (fun _ _ _ h=>h) (Or.inl ⟨rfl, ?_⟩) ?_ ?_; rotate_left
        ·intro w'; go_simp; with_reducible rfl
        rotate_left
        ·simp only [q_, i64_w, i32_w]; rfl
        refine pure_ (i:=14) (N:=some 52) (v:=undef) (a':=?_) ⟨m_ 18 32767⟩ rfl rfl (ao_ HT_) (fun _ _ _ h=>h) (Or.inr ⟨by rfl, rfl⟩) ?_ ?_; rotate_left
        ·simp only [q_, i64_w, i32_w]; rfl
        refine pure_ (i:=15) (N:=some 53) (v:=undef) (a':=?_) ⟨m_ 18 65535⟩ rfl rfl (ao_ HT_) (fun _ _ _ h=>h) (Or.inr ⟨by rfl, rfl⟩) ?_ ?_; rotate_left
        ·simp only [q_, i64_w, i32_w]; rfl
        refine pure_ (i:=16) (N:=some 54) (v:=undef) (a':=?_) ⟨m_ 18 131071⟩ rfl rfl (ao_ HT_) (fun _ _ _ h=>h) (Or.inr ⟨by rfl, rfl⟩) ?_ ?_; rotate_left
        ·simp only [q_, i64_w, i32_w]; rfl
        refine pure_ (i:=17) (N:=some 55) (v:=?_) (a':=?_) ⟨m_ 18 262143⟩ rfl rfl (ao_ HT_) (fun _ _ _ h=>h) (Or.inl ⟨rfl, ?_⟩) ?_ ?_; rotate_left
        ·intro w'; go_simp; with_reducible rfl
        rotate_left
        ·simp only [q_, i64_w, i32_w]; rfl
        refine done_ (done_of HT_.out (by kernel_rfl)) ?_
        try go_wp2
        go_meet
        case rel => exact ⟨_, (true), sq_, H', ⟨by have := HK1.out; first | omega | exact Nat.le_refl _⟩, ⟨pkx B1⟩, ⟨pkx B7⟩, ⟨pbx HB⟩⟩
       ·rw [if_neg c25] at H; have c25b0 := decide_eq_false c25; clear c25; (first | rw [c25b0] | (simp only [i64_w, i32_w]; rw [c25b0]) | skip)
        by_cases c28 : (t106 != (t109 != 0)) = true
        ·rw [if_pos c28] at H
         have c28b0 : (t106 != (t109 != 0)) = true := c28
         (try (have c28b1 : decide (t106 = (t109 != 0)) = false := by simpa using c28)); (try (have c28b2 : (t106 == (t109 != 0)) = false := by simpa using c28)); (try (have c28b3 : ¬ (t106 = (t109 != 0)) := by simpa using c28)); clear c28
         have H' := A_ H
         clear H
         try go_wp2
         have n0_ : Aside0 ((w21.setCell ⟨g7, 1, none⟩ (.int .u64 t109)).heap[g1]? = some (.cells #[.int .i64 0, .int .u64 0] 49 (0, 0))) := ⟨by refine pf_ ?_ N17.out; exact pkx B1⟩; have n1_ : Aside0 ((w21.setCell ⟨g7, 1, none⟩ (.int .u64 t109)).heap[g7]? = some (.cells #[.int .i64 x108000_1, .int .u64 t109] 49 (0, 0))) := ⟨by refine pp_ (cs := #[.int .i64 x108000_1, .int .u64 0]) 1 ?_ rfl; exact pkx B7⟩; have n2_ : Aside0 (Below w.heap.size w (w21.setCell ⟨g7, 1, none⟩ (.int .u64 t109))) := ⟨bl_⟩
         (try clear B1); (try clear B7); (try clear HB)
         generalize (w21.setCell ⟨g7, 1, none⟩ (.int .u64 t109)) = w29 at n0_ n1_ n2_ ⊢; have B1 := n0_; have B7 := n1_; have HB := n2_; clear n0_ n1_ n2_; (try (rw [drewN_self w29]; generalize hq_ : World.drewN w29 _ = w29; have n0_ : Aside0 (w29.heap[g1]? = some (.cells #[.int .i64 0, .int .u64 0] 49 (0, 0))) := ⟨by rw [← hq_]; exact (pkx B1)⟩; have n1_ : Aside0 (w29.heap[g7]? = some (.cells #[.int .i64 x108000_1, .int .u64 t109] 49 (0, 0))) := ⟨by rw [← hq_]; exact (pkx B7)⟩; have n2_ : Aside0 (Below w.heap.size w w29) := ⟨by rw [← hq_]; exact (pbx HB)⟩; clear B1 B7 HB hq_; have B1 := n0_; have B7 := n1_; have HB := n2_; clear n0_ n1_ n2_))
         replace B1 := A_ (blk_drew B1.out); replace B7 := A_ (blk_drew B7.out); replace HB := A_ (below_drew1 HB.out)
         refine start_ (n:=18) (S := fun w' => w'.cell? ⟨g7, 0, none⟩ = some (.int .i64 x108000_1) ∧ w'.cell? ⟨g7, 1, none⟩ = some (.int .u64 t109)) (ds := []) #[F,F,F,F,F,F,F,F,F,F,F,F,F,F,F,F,F,F] (by kernel_rfl) rfl rfl ⟨bc_ B7 0 rfl, bc_ B7 1 rfl⟩ (fun hHeld => ?_); refine with_tabW label_Parse.tab13 label_Parse.bits13 (fun HT_ HW_ => ?_)
         generalize w29.drew = w30 at B1 B7 HB hHeld ⊢; refine pure_ (i:=0) (N:=some 38) (v:=?_) (a':=?_) ⟨m_ 18 1⟩ rfl rfl (ao_ HT_) (fun _ _ _ h=>h) (Or.inl ⟨rfl, ?_⟩) ?_ ?_; rotate_left
         ·intro w'; go_simp; with_reducible rfl
         rotate_left
         ·simp only [q_, i64_w, i32_w]; rfl
         refine pure_ (i:=1) (N:=some 39) (v:=?_) (a':=?_) ⟨m_ 18 3⟩ rfl rfl (ao_ HT_) (fun _ _ _ h=>h) (Or.inl ⟨rfl, ?_⟩) ?_ ?_; rotate_left
         ·intro w'; go_simp; with_reducible rfl
         rotate_left
         ·simp only [q_, i64_w, i32_w]; rfl
         refine pure_ (i:=2) (N:=some 40) (v:=?_) (a':=?_) ⟨m_ 18 7⟩ rfl rfl (ao_ HT_) (fun _ _ _ h=>h) (Or.inl ⟨rfl, ?_⟩) ?_ ?_; rotate_left
         ·intro w'; go_simp; with_reducible rfl
         rotate_left
         ·simp only [q_, i64_w, i32_w]; rfl
         refine pure_ (i:=3) (N:=some 41) (v:=?_) (a':=?_) ⟨m_ 18 15⟩ rfl rfl (ao_ HT_) (fun _ _ _ h=>h) (Or.inl ⟨rfl, ?_⟩) ?_ ?_; rotate_left
         ·intro w'; go_simp; with_reducible rfl
         rotate_left
         ·simp only [q_, i64_w, i32_w]; rfl
         refine take_ (i:=4) (N:=some 42) (v:=?_) (a':=?_) ⟨m_ 18 31⟩ rfl rfl (tw_ HT_ HW_) (fun _ _ _ h=>h) (Or.inl ⟨rfl, ?_⟩) hHeld ?_ ?_; rotate_left
         ·rintro w' ⟨s0, s1⟩; go_simp; with_reducible rfl
         rotate_left
         ·simp only [q_, i64_w, i32_w]; rfl
         refine pure_ (i:=5) (N:=some 43) (v:=?_) (a':=?_) ⟨m_ 18 63⟩ rfl rfl (ao_ HT_) (fun _ _ _ h=>h) (Or.inl ⟨rfl, ?_⟩) ?_ ?_; rotate_left
         ·intro w'; go_simp; with_reducible rfl
         rotate_left
         ·simp only [q_, i64_w, i32_w]; rfl
         refine pure_ (i:=6) (N:=some 44) (v:=?_) (a':=?_) ⟨m_ 18 127⟩ rfl rfl (ao_ HT_) (fun _ _ _ h=>h) (Or.inl ⟨rfl, ?_⟩) ?_ ?_; rotate_left
         ·intro w'; go_simp; with_reducible rfl
         rotate_left
         ·simp only [q_, i64_w, i32_w]; rfl
         refine pure_ (i:=7) (N:=some 45) (v:=?_) (a':=?_) ⟨m_ 18 255⟩ rfl rfl (ao_ HT_) (fun _ _ _ h=>h) (Or.inl ⟨rfl, ?_⟩) ?_ ?_; rotate_left
         ·intro w'; go_simp; with_reducible rfl
         rotate_left
         ·simp only [q_, i64_w, i32_w]; rfl
         refine pure_ (i:=8) (N:=some 46) (v:=?_) (a':=?_) ⟨m_ 18 511⟩ rfl rfl (ao_ HT_) (fun _ _ _ h=>h) (Or.inl ⟨rfl, ?_⟩) ?_ ?_; rotate_left
         ·intro w'; go_simp; with_reducible rfl
         rotate_left
         ·simp only [q_, i64_w, i32_w]; rfl
         refine pure_ (i:=9) (N:=some 47) (v:=?_) (a':=?_) ⟨m_ 18 1023⟩ rfl rfl (ao_ HT_) (fun _ _ _ h=>h) (Or.inl ⟨rfl, ?_⟩) ?_ ?_; rotate_left
         ·intro w'; go_simp; with_reducible rfl
         rotate_left
         ·simp only [q_, i64_w, i32_w]; rfl
         refine pure_ (i:=10) (N:=some 48) (v:=?_) (a':=?_) ⟨m_ 18 2047⟩ rfl rfl (ao_ HT_) (fun _ _ _ h=>h) (Or.inl ⟨rfl, ?_⟩) ?_ ?_; rotate_left
         ·intro w'; go_simp; with_reducible rfl
         rotate_left
         ·simp only [q_, i64_w, i32_w]; rfl
         refine pure_ (i:=11) (N:=some 49) (v:=?_) (a':=?_) ⟨m_ 18 4095⟩ rfl rfl (ao_ HT_) (fun _ _ _ h=>h) (Or.inl ⟨rfl, ?_⟩) ?_ ?_; rotate_left
         ·intro w'; go_simp; with_reducible rfl
         rotate_left
         ·simp only [q_, i64_w, i32_w]; rfl
         refine pure_ (i:=12) (N:=some 50) (v:=?_) (a':=?_) ⟨m_ 18 8191⟩ rfl rfl (ao_ HT_) (fun _ _ _ h=>h) (Or.inl ⟨rfl, ?_⟩) ?_ ?_; rotate_left
         ·intro w'; go_simp; with_reducible rfl
         rotate_left
         ·simp only [q_, i64_w, i32_w]; rfl
         refine pure_ (i:=13) (N:=some 51) (v:=?_) (a':=?_) ⟨m_ 18 16383⟩ rfl rfl (ao_ HT_) (fun _ _ _ h=>h) (Or.inl ⟨rfl, ?_⟩) ?_ ?_; rotate_left
         ·intro w'; go_simp; with_reducible rfl
         rotate_left
         ·simp only [q_, i64_w, i32_w]; rfl
         refine pure_ (i:=14) (N:=some 52) (v:=undef) (a':=?_) ⟨m_ 18 32767⟩ rfl rfl (ao_ HT_) (fun _ _ _ h=>h) (Or.inr ⟨by rfl, rfl⟩) ?_ ?_; rotate_left
         ·simp only [q_, i64_w, i32_w]; rfl
         refine pure_ (i:=15) (N:=some 53) (v:=undef) (a':=?_) ⟨m_ 18 65535⟩ rfl rfl (ao_ HT_) (fun _ _ _ h=>h) (Or.inr ⟨by rfl, rfl⟩) ?_ ?_; rotate_left
         ·simp only [q_, i64_w, i32_w]; rfl
         refine pure_ (i:=16) (N:=some 54) (v:=undef) (a':=?_) ⟨m_ 18 131071⟩ rfl rfl (ao_ HT_) (fun _ _ _ h=>h) (Or.inr ⟨by rfl, rfl⟩) ?_ ?_; rotate_left
         ·simp only [q_, i64_w, i32_w]; rfl
         refine pure_ (i:=17) (N:=some 55) (v:=?_) (a':=?_) ⟨m_ 18 262143⟩ rfl rfl (ao_ HT_) (fun _ _ _ h=>h) (Or.inl ⟨rfl, ?_⟩) ?_ ?_; rotate_left
         ·intro w'; go_simp; with_reducible rfl
         rotate_left
         ·simp only [q_, i64_w, i32_w]; rfl
         refine done_ (done_of HT_.out (by kernel_rfl)) ?_
         try go_wp2
         go_meet
         case rel => exact ⟨_, (true), sq_, H', ⟨by have := HK1.out; first | omega | exact Nat.le_refl _⟩, ⟨pkx B1⟩, ⟨pkx B7⟩, ⟨pbx HB⟩⟩
        ·rw [if_neg c28] at H
         have c28b0 : (t106 != (t109 != 0)) = false := by simpa using c28
         (try (have c28b1 : decide (t106 = (t109 != 0)) = true := by simpa using c28)); (try (have c28b2 : (t106 == (t109 != 0)) = true := by simpa using c28))
         clear c28; obtain ⟨⟨t111, t112⟩, A31, H⟩ := bo_ H; dsimp only at H
         have H' := A_ H
         clear H
         try go_wp2
         have n0_ : Aside0 ((w21.setCell ⟨g7, 1, none⟩ (.int .u64 t109)).heap[g1]? = some (.cells #[.int .i64 0, .int .u64 0] 49 (0, 0))) := ⟨by refine pf_ ?_ N17.out; exact pkx B1⟩; have n1_ : Aside0 ((w21.setCell ⟨g7, 1, none⟩ (.int .u64 t109)).heap[g7]? = some (.cells #[.int .i64 x108000_1, .int .u64 t109] 49 (0, 0))) := ⟨by refine pp_ (cs := #[.int .i64 x108000_1, .int .u64 0]) 1 ?_ rfl; exact pkx B7⟩; have n2_ : Aside0 (Below w.heap.size w (w21.setCell ⟨g7, 1, none⟩ (.int .u64 t109))) := ⟨bl_⟩
         (try clear B1); (try clear B7); (try clear HB)
         generalize (w21.setCell ⟨g7, 1, none⟩ (.int .u64 t109)) = w32 at n0_ n1_ n2_ ⊢; have B1 := n0_; have B7 := n1_; have HB := n2_; clear n0_ n1_ n2_; (try (rw [drewN_self w32]; generalize hq_ : World.drewN w32 _ = w32; have n0_ : Aside0 (w32.heap[g1]? = some (.cells #[.int .i64 0, .int .u64 0] 49 (0, 0))) := ⟨by rw [← hq_]; exact (pkx B1)⟩; have n1_ : Aside0 (w32.heap[g7]? = some (.cells #[.int .i64 x108000_1, .int .u64 t109] 49 (0, 0))) := ⟨by rw [← hq_]; exact (pkx B7)⟩; have n2_ : Aside0 (Below w.heap.size w w32) := ⟨by rw [← hq_]; exact (pbx HB)⟩; clear B1 B7 HB hq_; have B1 := n0_; have B7 := n1_; have HB := n2_; clear n0_ n1_ n2_))
         replace B1 := A_ (blk_drew B1.out); replace B7 := A_ (blk_drew B7.out); replace HB := A_ (below_drew1 HB.out)
         refine start_ (n:=18) (S := fun w' => w'.cell? ⟨g7, 0, none⟩ = some (.int .i64 x108000_1) ∧ w'.cell? ⟨g7, 1, none⟩ = some (.int .u64 t109)) (ds := []) #[F,F,F,F,F,F,F,F,F,F,F,F,F,F,F,F,F,F] (by kernel_rfl) rfl rfl ⟨bc_ B7 0 rfl, bc_ B7 1 rfl⟩ (fun hHeld => ?_); refine with_tabW label_Parse.tab13 label_Parse.bits13 (fun HT_ HW_ => ?_)
         generalize w32.drew = w33 at B1 B7 HB hHeld ⊢; refine pure_ (i:=0) (N:=some 38) (v:=?_) (a':=?_) ⟨m_ 18 1⟩ rfl rfl (ao_ HT_) (fun _ _ _ h=>h) (Or.inl ⟨rfl, ?_⟩) ?_ ?_; rotate_left
         ·intro w'; go_simp; with_reducible rfl
         rotate_left
         ·simp only [q_, i64_w, i32_w]; rfl
         refine pure_ (i:=1) (N:=some 39) (v:=?_) (a':=?_) ⟨m_ 18 3⟩ rfl rfl (ao_ HT_) (fun _ _ _ h=>h) (Or.inl ⟨rfl, ?_⟩) ?_ ?_; rotate_left
         ·intro w'; go_simp; with_reducible rfl
         rotate_left
         ·simp only [q_, i64_w, i32_w]; rfl
         refine pure_ (i:=2) (N:=some 40) (v:=?_) (a':=?_) ⟨m_ 18 7⟩ rfl rfl (ao_ HT_) (fun _ _ _ h=>h) (Or.inl ⟨rfl, ?_⟩) ?_ ?_; rotate_left
         ·intro w'; go_simp; with_reducible rfl
         rotate_left
         ·simp only [q_, i64_w, i32_w]; rfl
         refine pure_ (i:=3) (N:=some 41) (v:=?_) (a':=?_) ⟨m_ 18 15⟩ rfl rfl (ao_ HT_) (fun _ _ _ h=>h) (Or.inl ⟨rfl, ?_⟩) ?_ ?_; rotate_left
         ·intro w'; go_simp; with_reducible rfl
         rotate_left
         ·simp only [q_, i64_w, i32_w]; rfl
         refine take_ (i:=4) (N:=some 42) (v:=?_) (a':=?_) ⟨m_ 18 31⟩ rfl rfl (tw_ HT_ HW_) (fun _ _ _ h=>h) (Or.inl ⟨rfl, ?_⟩) hHeld ?_ ?_; rotate_left
         ·rintro w' ⟨s0, s1⟩; go_simp; with_reducible rfl
         rotate_left
         ·simp only [q_, i64_w, i32_w]; rfl
         refine pure_ (i:=5) (N:=some 43) (v:=?_) (a':=?_) ⟨m_ 18 63⟩ rfl rfl (ao_ HT_) (fun _ _ _ h=>h) (Or.inl ⟨rfl, ?_⟩) ?_ ?_; rotate_left
         ·intro w'; go_simp; with_reducible rfl
         rotate_left
         ·simp only [q_, i64_w, i32_w]; rfl
         refine pure_ (i:=6) (N:=some 44) (v:=?_) (a':=?_) ⟨m_ 18 127⟩ rfl rfl (ao_ HT_) (fun _ _ _ h=>h) (Or.inl ⟨rfl, ?_⟩) ?_ ?_; rotate_left
         ·intro w'; go_simp; with_reducible rfl
         rotate_left
         ·simp only [q_, i64_w, i32_w]; rfl
         refine pure_ (i:=7) (N:=some 45) (v:=?_) (a':=?_) ⟨m_ 18 255⟩ rfl rfl (ao_ HT_) (fun _ _ _ h=>h) (Or.inl ⟨rfl, ?_⟩) ?_ ?_; rotate_left
         ·intro w'; go_simp; with_reducible rfl
         rotate_left
         ·simp only [q_, i64_w, i32_w]; rfl
         refine pure_ (i:=8) (N:=some 46) (v:=?_) (a':=?_) ⟨m_ 18 511⟩ rfl rfl (ao_ HT_) (fun _ _ _ h=>h) (Or.inl ⟨rfl, ?_⟩) ?_ ?_; rotate_left
         ·intro w'; go_simp; with_reducible rfl
         rotate_left
         ·simp only [q_, i64_w, i32_w]; rfl
         refine pure_ (i:=9) (N:=some 47) (v:=?_) (a':=?_) ⟨m_ 18 1023⟩ rfl rfl (ao_ HT_) (fun _ _ _ h=>h) (Or.inl ⟨rfl, ?_⟩) ?_ ?_; rotate_left
         ·intro w'; go_simp; with_reducible rfl
         rotate_left
         ·simp only [q_, i64_w, i32_w]; rfl
         refine pure_ (i:=10) (N:=some 48) (v:=?_) (a':=?_) ⟨m_ 18 2047⟩ rfl rfl (ao_ HT_) (fun _ _ _ h=>h) (Or.inl ⟨rfl, ?_⟩) ?_ ?_; rotate_left
         ·intro w'; go_simp; with_reducible rfl
         rotate_left
         ·simp only [q_, i64_w, i32_w]; rfl
         refine pure_ (i:=11) (N:=some 49) (v:=?_) (a':=?_) ⟨m_ 18 4095⟩ rfl rfl (ao_ HT_) (fun _ _ _ h=>h) (Or.inl ⟨rfl, ?_⟩) ?_ ?_; rotate_left
         ·intro w'; go_simp; with_reducible rfl
         rotate_left
         ·simp only [q_, i64_w, i32_w]; rfl
         refine pure_ (i:=12) (N:=some 50) (v:=?_) (a':=?_) ⟨m_ 18 8191⟩ rfl rfl (ao_ HT_) (fun _ _ _ h=>h) (Or.inl ⟨rfl, ?_⟩) ?_ ?_; rotate_left
         ·intro w'; go_simp; with_reducible rfl
         rotate_left
         ·simp only [q_, i64_w, i32_w]; rfl
         refine pure_ (i:=13) (N:=some 51) (v:=?_) (a':=?_) ⟨m_ 18 16383⟩ rfl rfl (ao_ HT_) (fun _ _ _ h=>h) (Or.inl ⟨rfl, ?_⟩) ?_ ?_; rotate_left
         ·intro w'; go_simp; with_reducible rfl
         rotate_left
         ·simp only [q_, i64_w, i32_w]; rfl
         refine take_ (i:=14) (N:=some 52) (v:=?_) (a':=?_) ⟨m_ 18 32767⟩ rfl rfl (tw_ HT_ HW_) (fun _ _ _ h=>h) (Or.inl ⟨rfl, ?_⟩) hHeld ?_ ?_; rotate_left
         ·rintro w' ⟨s0, s1⟩; go_simp; with_reducible rfl
         rotate_left
         ·simp only [q_, i64_w, i32_w]; rfl
         refine one_ (i:=15) (N:=some 53) ⟨m_ 18 65535⟩ rfl rfl (oo_ HT_) (by decide) (fun K hK => ?_); refine goes_ Tryd.func41 (by kernel_rfl) rfl #[] (by rfl) rfl rfl ha_ ?_; with_reducible refine (label_Top.calls  t111 t112 _ A31.out).mono ?_; rintro e w34 ⟨rfl, hb⟩; refine ⟨_, rfl, ?_⟩
         replace B1 := bb_ B1 hb; replace B7 := bb_ B7 hb; replace HB := bs_ HB hb; (try clear hb); refine hK.out _ _ ⟨bc_ B7 0 rfl, bc_ B7 1 rfl⟩ (fun hHeld => ?_); clear hK K; refine norm_ (a':=?_) ?_ ?_; rotate_left
         ·show Act.put _ (some 53) _ = _; simp only [q_, i64_w, i32_w]; rfl
         refine pure_ (i:=16) (N:=some 54) (v:=?_) (a':=?_) ⟨m_ 18 131071⟩ rfl rfl (ao_ HT_) (fun _ _ _ h=>h) (Or.inl ⟨rfl, ?_⟩) ?_ ?_; rotate_left
         ·intro w'; go_simp; with_reducible rfl
         rotate_left
         ·simp only [q_, i64_w, i32_w]; rfl
         refine pure_ (i:=17) (N:=some 55) (v:=?_) (a':=?_) ⟨m_ 18 262143⟩ rfl rfl (ao_ HT_) (fun _ _ _ h=>h) (Or.inl ⟨rfl, ?_⟩) ?_ ?_; rotate_left
         ·intro w'; go_simp; with_reducible rfl
         rotate_left
         ·simp only [q_, i64_w, i32_w]; rfl
         refine done_ (done_of HT_.out (by kernel_rfl)) ?_
         try go_wp2
         go_meet
         case rel => exact ⟨_, ((x108000_1 == t111 && (t109 == t112))), (by first | rfl | (simp; done) | (simp [*]; done) | (cases t111 <;> simp; done) | (cases t109 <;> simp; done) | (cases t112 <;> simp; done)), H', ⟨by have := HK1.out; first | omega | exact Nat.le_refl _⟩, ⟨pkx B1⟩, ⟨pkx B7⟩, ⟨pbx HB⟩⟩
      ·have H' := A_ H
       clear H
       try go_wp2
       have n0_ : Aside0 ((w21.setCell ⟨g7, 1, none⟩ (.int .u64 t109)).heap[g1]? = some (.cells #[.int .i64 0, .int .u64 0] 49 (0, 0))) := ⟨by refine pf_ ?_ N17.out; exact pkx B1⟩; have n1_ : Aside0 ((w21.setCell ⟨g7, 1, none⟩ (.int .u64 t109)).heap[g7]? = some (.cells #[.int .i64 x108000_1, .int .u64 t109] 49 (0, 0))) := ⟨by refine pp_ (cs := #[.int .i64 x108000_1, .int .u64 0]) 1 ?_ rfl; exact pkx B7⟩; have n2_ : Aside0 (Below w.heap.size w (w21.setCell ⟨g7, 1, none⟩ (.int .u64 t109))) := ⟨bl_⟩
       (try clear B1); (try clear B7); (try clear HB)
       generalize (w21.setCell ⟨g7, 1, none⟩ (.int .u64 t109)) = w35 at n0_ n1_ n2_ ⊢; have B1 := n0_; have B7 := n1_; have HB := n2_; clear n0_ n1_ n2_; (try (rw [drewN_self w35]; generalize hq_ : World.drewN w35 _ = w35; have n0_ : Aside0 (w35.heap[g1]? = some (.cells #[.int .i64 0, .int .u64 0] 49 (0, 0))) := ⟨by rw [← hq_]; exact (pkx B1)⟩; have n1_ : Aside0 (w35.heap[g7]? = some (.cells #[.int .i64 x108000_1, .int .u64 t109] 49 (0, 0))) := ⟨by rw [← hq_]; exact (pkx B7)⟩; have n2_ : Aside0 (Below w.heap.size w w35) := ⟨by rw [← hq_]; exact (pbx HB)⟩; clear B1 B7 HB hq_; have B1 := n0_; have B7 := n1_; have HB := n2_; clear n0_ n1_ n2_))
       replace B1 := A_ (blk_drew B1.out); replace B7 := A_ (blk_drew B7.out); replace HB := A_ (below_drew1 HB.out)
       refine start_ (n:=18) (S := fun w' => True) (ds := []) #[F,F,F,F,F,F,F,F,F,F,F,F,F,F,F,F,F,F] (by kernel_rfl) rfl rfl trivial (fun hHeld => ?_); refine with_tabW label_Parse.tab13 label_Parse.bits13 (fun HT_ HW_ => ?_)
       generalize w35.drew = w36 at B1 B7 HB hHeld ⊢; refine pure_ (i:=0) (N:=some 38) (v:=?_) (a':=?_) ⟨m_ 18 1⟩ rfl rfl (ao_ HT_) (fun _ _ _ h=>h) (Or.inl ⟨rfl, ?_⟩) ?_ ?_; rotate_left
       ·intro w'; go_simp; with_reducible rfl
       rotate_left
       ·simp only [q_, i64_w, i32_w]; rfl
       refine pure_ (i:=1) (N:=some 39) (v:=?_) (a':=?_) ⟨m_ 18 3⟩ rfl rfl (ao_ HT_) (fun _ _ _ h=>h) (Or.inl ⟨rfl, ?_⟩) ?_ ?_; rotate_left
       ·intro w'; go_simp; with_reducible rfl
       rotate_left
       ·simp only [q_, i64_w, i32_w]; rfl
       refine pure_ (i:=2) (N:=some 40) (v:=?_) (a':=?_) ⟨m_ 18 7⟩ rfl rfl (ao_ HT_) (fun _ _ _ h=>h) (Or.inl ⟨rfl, ?_⟩) ?_ ?_; rotate_left
       ·intro w'; go_simp; with_reducible rfl
       rotate_left
       ·simp only [q_, i64_w, i32_w]; rfl
       refine pure_ (i:=3) (N:=some 41) (v:=undef) (a':=?_) ⟨m_ 18 15⟩ rfl rfl (ao_ HT_) (fun _ _ _ h=>h) (Or.inr ⟨by rfl, rfl⟩) ?_ ?_; rotate_left
       ·simp only [q_, i64_w, i32_w]; rfl
       refine pure_ (i:=4) (N:=some 42) (v:=undef) (a':=?_) ⟨m_ 18 31⟩ rfl rfl (ao_ HT_) (fun _ _ _ h=>h) (Or.inr ⟨by rfl, rfl⟩) ?_ ?_; rotate_left
       ·simp only [q_, i64_w, i32_w]; rfl
       refine pure_ (i:=5) (N:=some 43) (v:=undef) (a':=?_) ⟨m_ 18 63⟩ rfl rfl (ao_ HT_) (fun _ _ _ h=>h) (Or.inr ⟨by rfl, rfl⟩) ?_ ?_; rotate_left
       ·simp only [q_, i64_w, i32_w]; rfl
       refine pure_ (i:=6) (N:=some 44) (v:=?_) (a':=?_) ⟨m_ 18 127⟩ rfl rfl (ao_ HT_) (fun _ _ _ h=>h) (Or.inl ⟨rfl, ?_⟩) ?_ ?_; rotate_left
       ·intro w'; go_simp; with_reducible rfl
       rotate_left
       ·simp only [q_, i64_w, i32_w]; rfl
       refine pure_ (i:=7) (N:=some 45) (v:=?_) (a':=?_) ⟨m_ 18 255⟩ rfl rfl (ao_ HT_) (fun _ _ _ h=>h) (Or.inl ⟨rfl, ?_⟩) ?_ ?_; rotate_left
       ·intro w'; go_simp; with_reducible rfl
       rotate_left
       ·simp only [q_, i64_w, i32_w]; rfl
       refine pure_ (i:=8) (N:=some 46) (v:=undef) (a':=?_) ⟨m_ 18 511⟩ rfl rfl (ao_ HT_) (fun _ _ _ h=>h) (Or.inr ⟨by rfl, rfl⟩) ?_ ?_; rotate_left
       ·simp only [q_, i64_w, i32_w]; rfl
       refine pure_ (i:=9) (N:=some 47) (v:=undef) (a':=?_) ⟨m_ 18 1023⟩ rfl rfl (ao_ HT_) (fun _ _ _ h=>h) (Or.inr ⟨by rfl, rfl⟩) ?_ ?_; rotate_left
       ·simp only [q_, i64_w, i32_w]; rfl
       refine pure_ (i:=10) (N:=some 48) (v:=undef) (a':=?_) ⟨m_ 18 2047⟩ rfl rfl (ao_ HT_) (fun _ _ _ h=>h) (Or.inr ⟨by rfl, rfl⟩) ?_ ?_; rotate_left
       ·simp only [q_, i64_w, i32_w]; rfl
       refine pure_ (i:=11) (N:=some 49) (v:=undef) (a':=?_) ⟨m_ 18 4095⟩ rfl rfl (ao_ HT_) (fun _ _ _ h=>h) (Or.inr ⟨by rfl, rfl⟩) ?_ ?_; rotate_left
       ·simp only [q_, i64_w, i32_w]; rfl
       refine pure_ (i:=12) (N:=some 50) (v:=?_) (a':=?_) ⟨m_ 18 8191⟩ rfl rfl (ao_ HT_) (fun _ _ _ h=>h) (Or.inl ⟨rfl, ?_⟩) ?_ ?_; rotate_left
       ·intro w'; go_simp; with_reducible rfl
       rotate_left
       ·simp only [q_, i64_w, i32_w]; rfl
       refine pure_ (i:=13) (N:=some 51) (v:=?_) (a':=?_) ⟨m_ 18 16383⟩ rfl rfl (ao_ HT_) (fun _ _ _ h=>h) (Or.inl ⟨rfl, ?_⟩) ?_ ?_; rotate_left
       ·intro w'; go_simp; with_reducible rfl
       rotate_left
       ·simp only [q_, i64_w, i32_w]; rfl
       refine pure_ (i:=14) (N:=some 52) (v:=undef) (a':=?_) ⟨m_ 18 32767⟩ rfl rfl (ao_ HT_) (fun _ _ _ h=>h) (Or.inr ⟨by rfl, rfl⟩) ?_ ?_; rotate_left
       ·simp only [q_, i64_w, i32_w]; rfl
       refine pure_ (i:=15) (N:=some 53) (v:=undef) (a':=?_) ⟨m_ 18 65535⟩ rfl rfl (ao_ HT_) (fun _ _ _ h=>h) (Or.inr ⟨by rfl, rfl⟩) ?_ ?_; rotate_left
       ·simp only [q_, i64_w, i32_w]; rfl
       refine pure_ (i:=16) (N:=some 54) (v:=undef) (a':=?_) ⟨m_ 18 131071⟩ rfl rfl (ao_ HT_) (fun _ _ _ h=>h) (Or.inr ⟨by rfl, rfl⟩) ?_ ?_; rotate_left
       ·simp only [q_, i64_w, i32_w]; rfl
       refine pure_ (i:=17) (N:=some 55) (v:=?_) (a':=?_) ⟨m_ 18 262143⟩ rfl rfl (ao_ HT_) (fun _ _ _ h=>h) (Or.inl ⟨rfl, ?_⟩) ?_ ?_; rotate_left
       ·intro w'; go_simp; with_reducible rfl
       rotate_left
       ·simp only [q_, i64_w, i32_w]; rfl
       refine done_ (done_of HT_.out (by kernel_rfl)) ?_
       try go_wp2
       go_meet
       case rel => exact ⟨_, (true), sq_, H', ⟨by have := HK1.out; first | omega | exact Nat.le_refl _⟩, ⟨pkx B1⟩, ⟨pkx B7⟩, ⟨pbx HB⟩⟩
     case rest =>
      clear HC20; (try clear c2); obtain ⟨kq, x55_19, rfl, HA, HJ19, B1, B7, HB⟩ := hcut
      cases kq with
      | zero => exact absurd HA.out (by simp [label_Parse.j1])
      | succ kj19 =>
       have H := HA.out; clear HA
       simp only [label_Parse.j1] at H
       replace H := ib_ H; rcases H with ⟨rfl,H⟩|⟨rfl,H⟩
       ·simp only [Option.some.injEq, Prod.mk.injEq] at H
        obtain ⟨rfl, rfl, rfl⟩ := H; have hnb38 := N17.out; have hnc38 := N71.out
        have ⟨hcz39_0,hcz39_1,hfz39_0,hfz39_1⟩ := z2_ B1
        go_wp2
        refine bodyPost_ret (results_ct rfl _ _ g1 49 #[.int .i64 0, .int .u64 0] (0, 0) _ rfl (by refine pp_ (cs := #[.int .i64 0, .int .u64 0]) 1 ?_ rfl; refine blk_put (cs := #[.int .i64 0, .int .u64 0]) ?_ 0 _ rfl; exact pkx B1) Tryd.underlying49 rfl (by kernel_rfl)) rfl ?_
        exact fi_ bl_
       ·simp only [Option.some.injEq, Prod.mk.injEq] at H
        obtain ⟨rfl, rfl, rfl⟩ := H; have hnb40 := N71.out; have hnc40 := N17.out
        have ⟨hcz41_0,hcz41_1,hfz41_0,hfz41_1⟩ := z2_ B7
        have ⟨hcz42_0,hcz42_1,hfz42_0,hfz42_1⟩ := z2_ B1
        go_wp2
        refine bodyPost_ret (results_ct rfl _ _ g1 49 #[.int .i64 x108000_1, .int .u64 t109] (0, 0) _ rfl (by refine pp_ (cs := #[.int .i64 x108000_1, .int .u64 0]) 1 ?_ rfl; refine blk_put (cs := #[.int .i64 0, .int .u64 0]) ?_ 0 _ rfl; exact pkx B1) Tryd.underlying49 rfl (by kernel_rfl)) rfl ?_
        exact fi_ bl_

end Go.Proofs.YtdddhabemdbooaaDoor.X
namespace Go.Proofs.YtdddhabemdbooaaDoor.X
open Go.RowKit Go.Proofs.YtdddhabemdbooaaDoorW.PrintWords Go.Proofs.YtdddhabemdbooaaDoorW.PrintLast Go.Proofs.YtdddhabemdbooaaDoorW.PrintMore
attribute [local go_sem] max2_int min2_int max_two min_two max_three min_three max_four min_four
set_option linter.unusedVariables false
set_option linter.unusedSimpArgs false
def node_fits.j0 : Nat → Int → Bool → Int → Int → Int → Int → ByteArray → Int → Int → Bool → Bool → Int → Int → Bool → Bool → List (S28) → Option (Bool)
 | 0, _, _, _, _, _, _, _, _, _, _, _, _, _, _, _, _ => none
 | k + 1, x7, x10, x102000, x102001, x102002, x102003, x102004, x102005, x102006, x102007, x102008, x102009, x102010, x102011, x102012, x102013 => if x10 = true then (if x102000 = 3 then (some true) else (if x102000 = 4 then (some true) else (some (x102000 == 2)))) else (if x7 = 116 then ((label_Parse.f k x102004).bind fun bt102 => (if bt102.2.2 = true then (if x102000 = 1 then (some (x102002 == 2)) else (some false)) else (some false))) else (some (x102000 != 4)))
def node_fits.f (k : Nat) (a0 : Int) (a1_0 : Int) (a1_1 : Int) (a1_2 : Int) (a1_3 : Int) (a1_4 : ByteArray) (a1_5 : Int) (a1_6 : Int) (a1_7 : Bool) (a1_8 : Bool) (a1_9 : Int) (a1_10 : Int) (a1_11 : Bool) (a1_12 : Bool) (l1_13 : List (S28)) : Option (Bool) := if a0 = 108 then (some true) else (if a0 = 114 then (node_fits.j0 k a0 (a0 == 114) a1_0 a1_1 a1_2 a1_3 a1_4 a1_5 a1_6 a1_7 a1_8 a1_9 a1_10 a1_11 a1_12 l1_13) else (node_fits.j0 k a0 (a0 == 110) a1_0 a1_1 a1_2 a1_3 a1_4 a1_5 a1_6 a1_7 a1_8 a1_9 a1_10 a1_11 a1_12 l1_13))
theorem node_fits.mono_l : ∀ k, (∀ y0 y1 y2 y3 y4 y5 y6 y7 y8 y9 y10 y11 y12 y13 y14 y15, LeO (node_fits.j0 k y0 y1 y2 y3 y4 y5 y6 y7 y8 y9 y10 y11 y12 y13 y14 y15) (node_fits.j0 (k + 1) y0 y1 y2 y3 y4 y5 y6 y7 y8 y9 y10 y11 y12 y13 y14 y15))
 | 0 => fun _ _ _ _ _ _ _ _ _ _ _ _ _ _ _ _ r h => by simp [node_fits.j0] at h
 | k + 1 => by
  have ih0 := node_fits.mono_l k
  ·intro y0 y1 y2 y3 y4 y5 y6 y7 y8 y9 y10 y11 y12 y13 y14 y15
   unfold node_fits.j0
   have m0 := @label_Parse.mono; exact mo_
theorem node_fits.mono : ∀ a0 a1 a2 a3 a4 a5 a6 a7 a8 a9 a10 a11 a12 a13 a14 k, LeO (node_fits.f k a0 a1 a2 a3 a4 a5 a6 a7 a8 a9 a10 a11 a12 a13 a14) (node_fits.f (k + 1) a0 a1 a2 a3 a4 a5 a6 a7 a8 a9 a10 a11 a12 a13 a14) := by
 intro a0 a1 a2 a3 a4 a5 a6 a7 a8 a9 a10 a11 a12 a13 a14 k; have ih0 := node_fits.mono_l k
 unfold node_fits.f
 have m0 := @label_Parse.mono; exact mo_
theorem node_fits.calls (k : Nat) (a0 : Int) (a1_0 : Int) (a1_1 : Int) (a1_2 : Int) (a1_3 : Int) (a1_4 : ByteArray) (a1_5 : Int) (a1_6 : Int) (a1_7 : Bool) (a1_8 : Bool) (a1_9 : Int) (a1_10 : Int) (a1_11 : Bool) (a1_12 : Bool) (A1_13 : Option Addr) (c1_13 : Nat) (l1_13 : List (S28)) (r : Bool) (w : World) (hT : Aside0 (Tab w)) (hr1_13 : Kd.C k28 w A1_13 l1_13.length l1_13) (hc1_13 : l1_13.length ≤ c1_13) (h : node_fits.f k a0 a1_0 a1_1 a1_2 a1_3 a1_4 a1_5 a1_6 a1_7 a1_8 a1_9 a1_10 a1_11 a1_12 l1_13 = some r) :
  Calls Tryd.prog 23 #[.int .u8 a0, .agg #[.int .i64 a1_0, .int .i64 a1_1, .int .i64 a1_2, .int .i64 a1_3, .string a1_4, .int .i64 a1_5, .int .i64 a1_6, .bool a1_7, .bool a1_8, .int .i64 a1_9, .int .i64 a1_10, .bool a1_11, .bool a1_12, .slice A1_13 l1_13.length c1_13]] w fun e w' => e = .returned (.bool r) ∧ Below w.heap.size w w' := by
 have hu28 := Tryd.underlying28; have hu49 := Tryd.underlying49; have HR1_13 := A_ hr1_13; have HC1_13 := A_ hc1_13; clear hr1_13 hc1_13; have HB := A_ (Below.refl w.heap.size w)
 have H : (if a0 = 108 then (some true) else (if a0 = 114 then (node_fits.j0 k a0 (a0 == 114) a1_0 a1_1 a1_2 a1_3 a1_4 a1_5 a1_6 a1_7 a1_8 a1_9 a1_10 a1_11 a1_12 l1_13) else (node_fits.j0 k a0 (a0 == 110) a1_0 a1_1 a1_2 a1_3 a1_4 a1_5 a1_6 a1_7 a1_8 a1_9 a1_10 a1_11 a1_12 l1_13))) = some r := h
 clear h
 by_cases c3 : a0 = 108
 ·rw [if_pos c3] at H; have ⟨c3b0,c3b1⟩ := e1_ c3; clear c3; obtain rfl := Option.some.inj H
  go_enter Tryd.func23, Tryd.ntmps23
  go_wp2_with (first | ((with_reducible refine gd_ 3 ?_); refine be_ (N:=3) (cs := #[.int .i64 a1_0, .int .i64 a1_1, .int .i64 a1_2, .int .i64 a1_3, .string a1_4, .int .i64 a1_5, .int .i64 a1_6, .bool a1_7, .bool a1_8, .int .i64 a1_9, .int .i64 a1_10, .bool a1_11, .bool a1_12, .slice A1_13 l1_13.length c1_13]) (t:=28) ?_; intro g1 hg w4 hbox hb; have B1 := A_ (hbox); have GW101 := hs_ HB hg; have GE101 := hs_ HB hg; replace HB := bs_ HB hb; clear hb hbox hg))
  go_ret
  exact fi_ (pbx HB)
 ·rw [if_neg c3] at H; have ⟨c3b0,c3b1⟩ := e0_ c3; have HC5 := A_ H; clear H
  go_enter Tryd.func23, Tryd.ntmps23
  go_upto_if 10 with (first | ((with_reducible refine gd_ 3 ?_); refine be_ (N:=3) (cs := #[.int .i64 a1_0, .int .i64 a1_1, .int .i64 a1_2, .int .i64 a1_3, .string a1_4, .int .i64 a1_5, .int .i64 a1_6, .bool a1_7, .bool a1_8, .int .i64 a1_9, .int .i64 a1_10, .bool a1_11, .bool a1_12, .slice A1_13 l1_13.length c1_13]) (t:=28) ?_; intro g1 hg w6 hbox hb; have B1 := A_ (hbox); have GW101 := hs_ HB hg; have GE101 := hs_ HB hg; replace HB := bs_ HB hb; clear hb hbox hg))
  (try simp only [q_])
  go_cut [10] (fun v10 wc => ∃ (kq : Nat) (x10_4 : Bool), v10 = .bool x10_4 ∧ Aside0 (node_fits.j0 kq a0 x10_4 a1_0 a1_1 a1_2 a1_3 a1_4 a1_5 a1_6 a1_7 a1_8 a1_9 a1_10 a1_11 a1_12 l1_13 = some r) ∧ Aside0 (kq ≤ k) ∧ Aside0 (wc.heap[g1]? = some (.cells #[.int .i64 a1_0, .int .i64 a1_1, .int .i64 a1_2, .int .i64 a1_3, .string a1_4, .int .i64 a1_5, .int .i64 a1_6, .bool a1_7, .bool a1_8, .int .i64 a1_9, .int .i64 a1_10, .bool a1_11, .bool a1_12, (.slice A1_13 l1_13.length c1_13)] 28 (0, 0))) ∧ Aside0 (Below w.heap.size w wc))
  case first =>
   have H := HC5.out; clear HC5
   by_cases c7 : a0 = 114
   ·rw [if_pos c7] at H; have ⟨c7b0,c7b1⟩ := e1_ c7; clear c7; (first | rw [c7b0] | (simp only [i64_w, i32_w]; rw [c7b0]) | skip)
    have H' := A_ H
    clear H
    go_wp2
    go_meet
    case rel => exact ⟨_, ((a0 == 114)), sq_, H', le_, ⟨pkx B1⟩, ⟨pbx HB⟩⟩
   ·rw [if_neg c7] at H; have ⟨c7b0,c7b1⟩ := e0_ c7; (first | rw [c7b0] | (simp only [i64_w, i32_w]; rw [c7b0]) | skip)
    have H' := A_ H
    clear H
    go_wp2
    go_meet
    case rel => exact ⟨_, ((a0 == 110)), sq_, H', le_, ⟨pkx B1⟩, ⟨pbx HB⟩⟩
  case rest =>
   clear HC5; (try clear c3); (try clear c3b0); (try clear c3b1); obtain ⟨kq, x10_4, rfl, HA, HJ4, B1, HB⟩ := hcut
   cases kq with
   | zero => exact absurd HA.out (by simp [node_fits.j0])
   | succ kj4 =>
    have H := HA.out; clear HA
    simp only [node_fits.j0] at H
    replace H := ib_ H; rcases H with ⟨rfl,H⟩|⟨rfl,H⟩
    ·by_cases c9 : a1_0 = 3
     ·rw [if_pos c9] at H; have ⟨c9b0,c9b1⟩ := e1_ c9; clear c9; obtain rfl := Option.some.inj H
      have hcz10_0 : wc.cell? ⟨g1, 0, none⟩ = some (.int .i64 a1_0) := bc_ B1 0 rfl
      have hcz10_1 : wc.cell? ⟨g1, 1, none⟩ = some (.int .i64 a1_1) := bc_ B1 1 rfl
      have hcz10_2 : wc.cell? ⟨g1, 2, none⟩ = some (.int .i64 a1_2) := bc_ B1 2 rfl
      have hcz10_3 : wc.cell? ⟨g1, 3, none⟩ = some (.int .i64 a1_3) := bc_ B1 3 rfl
      have hcz10_4 : wc.cell? ⟨g1, 4, none⟩ = some (.string a1_4) := bc_ B1 4 rfl
      have hcz10_5 : wc.cell? ⟨g1, 5, none⟩ = some (.int .i64 a1_5) := bc_ B1 5 rfl
      have hcz10_6 : wc.cell? ⟨g1, 6, none⟩ = some (.int .i64 a1_6) := bc_ B1 6 rfl
      have hcz10_7 : wc.cell? ⟨g1, 7, none⟩ = some (.bool a1_7) := bc_ B1 7 rfl
      have hcz10_8 : wc.cell? ⟨g1, 8, none⟩ = some (.bool a1_8) := bc_ B1 8 rfl
      have hcz10_9 : wc.cell? ⟨g1, 9, none⟩ = some (.int .i64 a1_9) := bc_ B1 9 rfl
      have hcz10_10 : wc.cell? ⟨g1, 10, none⟩ = some (.int .i64 a1_10) := bc_ B1 10 rfl
      have hcz10_11 : wc.cell? ⟨g1, 11, none⟩ = some (.bool a1_11) := bc_ B1 11 rfl
      have hcz10_12 : wc.cell? ⟨g1, 12, none⟩ = some (.bool a1_12) := bc_ B1 12 rfl
      have hcz10_13 : wc.cell? ⟨g1, 13, none⟩ = some (.slice A1_13 l1_13.length c1_13) := bc_ B1 13 rfl
      have hfz10_0 := blk_frozen B1.out 0; have hfz10_1 := blk_frozen B1.out 1; have hfz10_2 := blk_frozen B1.out 2; have hfz10_3 := blk_frozen B1.out 3; have hfz10_4 := blk_frozen B1.out 4; have hfz10_5 := blk_frozen B1.out 5; have hfz10_6 := blk_frozen B1.out 6; have hfz10_7 := blk_frozen B1.out 7; have hfz10_8 := blk_frozen B1.out 8; have hfz10_9 := blk_frozen B1.out 9; have hfz10_10 := blk_frozen B1.out 10; have hfz10_11 := blk_frozen B1.out 11; have hfz10_12 := blk_frozen B1.out 12; have hfz10_13 := blk_frozen B1.out 13
      go_wp2
      go_ret
      exact fi_ (pbx HB)
     ·rw [if_neg c9] at H; have ⟨c9b0,c9b1⟩ := e0_ c9
      by_cases c11 : a1_0 = 4
      ·rw [if_pos c11] at H; have ⟨c11b0,c11b1⟩ := e1_ c11; clear c11; obtain rfl := Option.some.inj H
       have hcz12_0 : wc.cell? ⟨g1, 0, none⟩ = some (.int .i64 a1_0) := bc_ B1 0 rfl
       have hcz12_1 : wc.cell? ⟨g1, 1, none⟩ = some (.int .i64 a1_1) := bc_ B1 1 rfl
       have hcz12_2 : wc.cell? ⟨g1, 2, none⟩ = some (.int .i64 a1_2) := bc_ B1 2 rfl
       have hcz12_3 : wc.cell? ⟨g1, 3, none⟩ = some (.int .i64 a1_3) := bc_ B1 3 rfl
       have hcz12_4 : wc.cell? ⟨g1, 4, none⟩ = some (.string a1_4) := bc_ B1 4 rfl
       have hcz12_5 : wc.cell? ⟨g1, 5, none⟩ = some (.int .i64 a1_5) := bc_ B1 5 rfl
       have hcz12_6 : wc.cell? ⟨g1, 6, none⟩ = some (.int .i64 a1_6) := bc_ B1 6 rfl
       have hcz12_7 : wc.cell? ⟨g1, 7, none⟩ = some (.bool a1_7) := bc_ B1 7 rfl
       have hcz12_8 : wc.cell? ⟨g1, 8, none⟩ = some (.bool a1_8) := bc_ B1 8 rfl
       have hcz12_9 : wc.cell? ⟨g1, 9, none⟩ = some (.int .i64 a1_9) := bc_ B1 9 rfl
       have hcz12_10 : wc.cell? ⟨g1, 10, none⟩ = some (.int .i64 a1_10) := bc_ B1 10 rfl
       have hcz12_11 : wc.cell? ⟨g1, 11, none⟩ = some (.bool a1_11) := bc_ B1 11 rfl
       have hcz12_12 : wc.cell? ⟨g1, 12, none⟩ = some (.bool a1_12) := bc_ B1 12 rfl
       have hcz12_13 : wc.cell? ⟨g1, 13, none⟩ = some (.slice A1_13 l1_13.length c1_13) := bc_ B1 13 rfl
       have hfz12_0 := blk_frozen B1.out 0; have hfz12_1 := blk_frozen B1.out 1; have hfz12_2 := blk_frozen B1.out 2; have hfz12_3 := blk_frozen B1.out 3; have hfz12_4 := blk_frozen B1.out 4; have hfz12_5 := blk_frozen B1.out 5; have hfz12_6 := blk_frozen B1.out 6; have hfz12_7 := blk_frozen B1.out 7; have hfz12_8 := blk_frozen B1.out 8; have hfz12_9 := blk_frozen B1.out 9; have hfz12_10 := blk_frozen B1.out 10; have hfz12_11 := blk_frozen B1.out 11; have hfz12_12 := blk_frozen B1.out 12; have hfz12_13 := blk_frozen B1.out 13
       go_wp2
       go_ret
       exact fi_ (pbx HB)
      ·rw [if_neg c11] at H; have ⟨c11b0,c11b1⟩ := e0_ c11; obtain rfl := Option.some.inj H
       have hcz13_0 : wc.cell? ⟨g1, 0, none⟩ = some (.int .i64 a1_0) := bc_ B1 0 rfl
       have hcz13_1 : wc.cell? ⟨g1, 1, none⟩ = some (.int .i64 a1_1) := bc_ B1 1 rfl
       have hcz13_2 : wc.cell? ⟨g1, 2, none⟩ = some (.int .i64 a1_2) := bc_ B1 2 rfl
       have hcz13_3 : wc.cell? ⟨g1, 3, none⟩ = some (.int .i64 a1_3) := bc_ B1 3 rfl
       have hcz13_4 : wc.cell? ⟨g1, 4, none⟩ = some (.string a1_4) := bc_ B1 4 rfl
       have hcz13_5 : wc.cell? ⟨g1, 5, none⟩ = some (.int .i64 a1_5) := bc_ B1 5 rfl
       have hcz13_6 : wc.cell? ⟨g1, 6, none⟩ = some (.int .i64 a1_6) := bc_ B1 6 rfl
       have hcz13_7 : wc.cell? ⟨g1, 7, none⟩ = some (.bool a1_7) := bc_ B1 7 rfl
       have hcz13_8 : wc.cell? ⟨g1, 8, none⟩ = some (.bool a1_8) := bc_ B1 8 rfl
       have hcz13_9 : wc.cell? ⟨g1, 9, none⟩ = some (.int .i64 a1_9) := bc_ B1 9 rfl
       have hcz13_10 : wc.cell? ⟨g1, 10, none⟩ = some (.int .i64 a1_10) := bc_ B1 10 rfl
       have hcz13_11 : wc.cell? ⟨g1, 11, none⟩ = some (.bool a1_11) := bc_ B1 11 rfl
       have hcz13_12 : wc.cell? ⟨g1, 12, none⟩ = some (.bool a1_12) := bc_ B1 12 rfl
       have hcz13_13 : wc.cell? ⟨g1, 13, none⟩ = some (.slice A1_13 l1_13.length c1_13) := bc_ B1 13 rfl
       have hfz13_0 := blk_frozen B1.out 0; have hfz13_1 := blk_frozen B1.out 1; have hfz13_2 := blk_frozen B1.out 2; have hfz13_3 := blk_frozen B1.out 3; have hfz13_4 := blk_frozen B1.out 4; have hfz13_5 := blk_frozen B1.out 5; have hfz13_6 := blk_frozen B1.out 6; have hfz13_7 := blk_frozen B1.out 7; have hfz13_8 := blk_frozen B1.out 8; have hfz13_9 := blk_frozen B1.out 9; have hfz13_10 := blk_frozen B1.out 10; have hfz13_11 := blk_frozen B1.out 11; have hfz13_12 := blk_frozen B1.out 12; have hfz13_13 := blk_frozen B1.out 13
       go_wp2
       go_ret
       exact fi_ (pbx HB)
    ·by_cases c14 : a0 = 116
     ·rw [if_pos c14] at H; have ⟨c14b0,c14b1⟩ := e1_ c14; clear c14; obtain ⟨⟨t102, t103, t104⟩, A15, H⟩ := bo_ H; dsimp only at H
      replace H := ib_ H; rcases H with ⟨rfl,H⟩|⟨rfl,H⟩
      ·by_cases c17 : a1_0 = 1
       ·rw [if_pos c17] at H; have ⟨c17b0,c17b1⟩ := e1_ c17; clear c17; obtain rfl := Option.some.inj H
        have hcz18_0 : wc.cell? ⟨g1, 0, none⟩ = some (.int .i64 a1_0) := bc_ B1 0 rfl
        have hcz18_1 : wc.cell? ⟨g1, 1, none⟩ = some (.int .i64 a1_1) := bc_ B1 1 rfl
        have hcz18_2 : wc.cell? ⟨g1, 2, none⟩ = some (.int .i64 a1_2) := bc_ B1 2 rfl
        have hcz18_3 : wc.cell? ⟨g1, 3, none⟩ = some (.int .i64 a1_3) := bc_ B1 3 rfl
        have hcz18_4 : wc.cell? ⟨g1, 4, none⟩ = some (.string a1_4) := bc_ B1 4 rfl
        have hcz18_5 : wc.cell? ⟨g1, 5, none⟩ = some (.int .i64 a1_5) := bc_ B1 5 rfl
        have hcz18_6 : wc.cell? ⟨g1, 6, none⟩ = some (.int .i64 a1_6) := bc_ B1 6 rfl
        have hcz18_7 : wc.cell? ⟨g1, 7, none⟩ = some (.bool a1_7) := bc_ B1 7 rfl
        have hcz18_8 : wc.cell? ⟨g1, 8, none⟩ = some (.bool a1_8) := bc_ B1 8 rfl
        have hcz18_9 : wc.cell? ⟨g1, 9, none⟩ = some (.int .i64 a1_9) := bc_ B1 9 rfl
        have hcz18_10 : wc.cell? ⟨g1, 10, none⟩ = some (.int .i64 a1_10) := bc_ B1 10 rfl
        have hcz18_11 : wc.cell? ⟨g1, 11, none⟩ = some (.bool a1_11) := bc_ B1 11 rfl
        have hcz18_12 : wc.cell? ⟨g1, 12, none⟩ = some (.bool a1_12) := bc_ B1 12 rfl
        have hcz18_13 : wc.cell? ⟨g1, 13, none⟩ = some (.slice A1_13 l1_13.length c1_13) := bc_ B1 13 rfl
        have hfz18_0 := blk_frozen B1.out 0; have hfz18_1 := blk_frozen B1.out 1; have hfz18_2 := blk_frozen B1.out 2; have hfz18_3 := blk_frozen B1.out 3; have hfz18_4 := blk_frozen B1.out 4; have hfz18_5 := blk_frozen B1.out 5; have hfz18_6 := blk_frozen B1.out 6; have hfz18_7 := blk_frozen B1.out 7; have hfz18_8 := blk_frozen B1.out 8; have hfz18_9 := blk_frozen B1.out 9; have hfz18_10 := blk_frozen B1.out 10; have hfz18_11 := blk_frozen B1.out 11; have hfz18_12 := blk_frozen B1.out 12; have hfz18_13 := blk_frozen B1.out 13
        go_wp2_with (first | ((with_reducible refine gate_callee (f:=30) rfl ?_); refine gL_ (some 32) rfl rfl Tryd.func30 rfl #[.string a1_4] rfl ?_; (with_reducible refine (label_Parse.calls kj4 a1_4 t102 t103 true _ (by refine tb_ ?_ hT; repeat' (first | exact pbx HB | assumption | refine below_set ?_ (Aside0.out ?_))) A15.out).mono ?_); rintro e w19 ⟨rfl, hb⟩; refine ⟨_, rfl, ?_⟩; replace B1 := bb_ B1 hb; replace HB := bs_ HB hb; (try clear hb); ) | ((with_reducible refine gd_ 5 ?_); refine be_ (N:=5) (cs := #[.int .i64 0, .int .u64 0]) (t:=49) ?_; intro g5 hg w20 hbox hb; have B5 := A_ (hbox); have GW105 := hs_ HB hg; have GE105 := hs_ HB hg; have N15 := hl_ B1 hg; have N51 := hr_ B1 hg; replace B1 := bb_ B1 hb; replace HB := bs_ HB hb; clear hb hbox hg; have hnb21 := N51.out; have hnc21 := N15.out; have ⟨hcz22_0,hcz22_1,hfz22_0,hfz22_1⟩ := z2_ B5; have hcz23_0 : w20.cell? ⟨g1, 0, none⟩ = some (.int .i64 a1_0) := bc_ B1 0 rfl; have hcz23_1 : w20.cell? ⟨g1, 1, none⟩ = some (.int .i64 a1_1) := bc_ B1 1 rfl; have hcz23_2 : w20.cell? ⟨g1, 2, none⟩ = some (.int .i64 a1_2) := bc_ B1 2 rfl; have hcz23_3 : w20.cell? ⟨g1, 3, none⟩ = some (.int .i64 a1_3) := bc_ B1 3 rfl; have hcz23_4 : w20.cell? ⟨g1, 4, none⟩ = some (.string a1_4) := bc_ B1 4 rfl; have hcz23_5 : w20.cell? ⟨g1, 5, none⟩ = some (.int .i64 a1_5) := bc_ B1 5 rfl; have hcz23_6 : w20.cell? ⟨g1, 6, none⟩ = some (.int .i64 a1_6) := bc_ B1 6 rfl; have hcz23_7 : w20.cell? ⟨g1, 7, none⟩ = some (.bool a1_7) := bc_ B1 7 rfl; have hcz23_8 : w20.cell? ⟨g1, 8, none⟩ = some (.bool a1_8) := bc_ B1 8 rfl; have hcz23_9 : w20.cell? ⟨g1, 9, none⟩ = some (.int .i64 a1_9) := bc_ B1 9 rfl; have hcz23_10 : w20.cell? ⟨g1, 10, none⟩ = some (.int .i64 a1_10) := bc_ B1 10 rfl; have hcz23_11 : w20.cell? ⟨g1, 11, none⟩ = some (.bool a1_11) := bc_ B1 11 rfl; have hcz23_12 : w20.cell? ⟨g1, 12, none⟩ = some (.bool a1_12) := bc_ B1 12 rfl; have hcz23_13 : w20.cell? ⟨g1, 13, none⟩ = some (.slice A1_13 l1_13.length c1_13) := bc_ B1 13 rfl; have hfz23_0 := blk_frozen B1.out 0; have hfz23_1 := blk_frozen B1.out 1; have hfz23_2 := blk_frozen B1.out 2; have hfz23_3 := blk_frozen B1.out 3; have hfz23_4 := blk_frozen B1.out 4; have hfz23_5 := blk_frozen B1.out 5; have hfz23_6 := blk_frozen B1.out 6; have hfz23_7 := blk_frozen B1.out 7; have hfz23_8 := blk_frozen B1.out 8; have hfz23_9 := blk_frozen B1.out 9; have hfz23_10 := blk_frozen B1.out 10; have hfz23_11 := blk_frozen B1.out 11; have hfz23_12 := blk_frozen B1.out 12; have hfz23_13 := blk_frozen B1.out 13))
        go_ret
        exact fi_ bl_
       ·rw [if_neg c17] at H; have ⟨c17b0,c17b1⟩ := e0_ c17; obtain rfl := Option.some.inj H
        have hcz24_0 : wc.cell? ⟨g1, 0, none⟩ = some (.int .i64 a1_0) := bc_ B1 0 rfl
        have hcz24_1 : wc.cell? ⟨g1, 1, none⟩ = some (.int .i64 a1_1) := bc_ B1 1 rfl
        have hcz24_2 : wc.cell? ⟨g1, 2, none⟩ = some (.int .i64 a1_2) := bc_ B1 2 rfl
        have hcz24_3 : wc.cell? ⟨g1, 3, none⟩ = some (.int .i64 a1_3) := bc_ B1 3 rfl
        have hcz24_4 : wc.cell? ⟨g1, 4, none⟩ = some (.string a1_4) := bc_ B1 4 rfl
        have hcz24_5 : wc.cell? ⟨g1, 5, none⟩ = some (.int .i64 a1_5) := bc_ B1 5 rfl
        have hcz24_6 : wc.cell? ⟨g1, 6, none⟩ = some (.int .i64 a1_6) := bc_ B1 6 rfl
        have hcz24_7 : wc.cell? ⟨g1, 7, none⟩ = some (.bool a1_7) := bc_ B1 7 rfl
        have hcz24_8 : wc.cell? ⟨g1, 8, none⟩ = some (.bool a1_8) := bc_ B1 8 rfl
        have hcz24_9 : wc.cell? ⟨g1, 9, none⟩ = some (.int .i64 a1_9) := bc_ B1 9 rfl
        have hcz24_10 : wc.cell? ⟨g1, 10, none⟩ = some (.int .i64 a1_10) := bc_ B1 10 rfl
        have hcz24_11 : wc.cell? ⟨g1, 11, none⟩ = some (.bool a1_11) := bc_ B1 11 rfl
        have hcz24_12 : wc.cell? ⟨g1, 12, none⟩ = some (.bool a1_12) := bc_ B1 12 rfl
        have hcz24_13 : wc.cell? ⟨g1, 13, none⟩ = some (.slice A1_13 l1_13.length c1_13) := bc_ B1 13 rfl
        have hfz24_0 := blk_frozen B1.out 0; have hfz24_1 := blk_frozen B1.out 1; have hfz24_2 := blk_frozen B1.out 2; have hfz24_3 := blk_frozen B1.out 3; have hfz24_4 := blk_frozen B1.out 4; have hfz24_5 := blk_frozen B1.out 5; have hfz24_6 := blk_frozen B1.out 6; have hfz24_7 := blk_frozen B1.out 7; have hfz24_8 := blk_frozen B1.out 8; have hfz24_9 := blk_frozen B1.out 9; have hfz24_10 := blk_frozen B1.out 10; have hfz24_11 := blk_frozen B1.out 11; have hfz24_12 := blk_frozen B1.out 12; have hfz24_13 := blk_frozen B1.out 13
        go_wp2_with (first | ((with_reducible refine gate_callee (f:=30) rfl ?_); refine gL_ (some 32) rfl rfl Tryd.func30 rfl #[.string a1_4] rfl ?_; (with_reducible refine (label_Parse.calls kj4 a1_4 t102 t103 true _ (by refine tb_ ?_ hT; repeat' (first | exact pbx HB | assumption | refine below_set ?_ (Aside0.out ?_))) A15.out).mono ?_); rintro e w25 ⟨rfl, hb⟩; refine ⟨_, rfl, ?_⟩; replace B1 := bb_ B1 hb; replace HB := bs_ HB hb; (try clear hb); ) | ((with_reducible refine gd_ 5 ?_); refine be_ (N:=5) (cs := #[.int .i64 0, .int .u64 0]) (t:=49) ?_; intro g5 hg w26 hbox hb; have B5 := A_ (hbox); have GW105 := hs_ HB hg; have GE105 := hs_ HB hg; have N15 := hl_ B1 hg; have N51 := hr_ B1 hg; replace B1 := bb_ B1 hb; replace HB := bs_ HB hb; clear hb hbox hg; have hnb27 := N51.out; have hnc27 := N15.out; have ⟨hcz28_0,hcz28_1,hfz28_0,hfz28_1⟩ := z2_ B5; have hcz29_0 : w26.cell? ⟨g1, 0, none⟩ = some (.int .i64 a1_0) := bc_ B1 0 rfl; have hcz29_1 : w26.cell? ⟨g1, 1, none⟩ = some (.int .i64 a1_1) := bc_ B1 1 rfl; have hcz29_2 : w26.cell? ⟨g1, 2, none⟩ = some (.int .i64 a1_2) := bc_ B1 2 rfl; have hcz29_3 : w26.cell? ⟨g1, 3, none⟩ = some (.int .i64 a1_3) := bc_ B1 3 rfl; have hcz29_4 : w26.cell? ⟨g1, 4, none⟩ = some (.string a1_4) := bc_ B1 4 rfl; have hcz29_5 : w26.cell? ⟨g1, 5, none⟩ = some (.int .i64 a1_5) := bc_ B1 5 rfl; have hcz29_6 : w26.cell? ⟨g1, 6, none⟩ = some (.int .i64 a1_6) := bc_ B1 6 rfl; have hcz29_7 : w26.cell? ⟨g1, 7, none⟩ = some (.bool a1_7) := bc_ B1 7 rfl; have hcz29_8 : w26.cell? ⟨g1, 8, none⟩ = some (.bool a1_8) := bc_ B1 8 rfl; have hcz29_9 : w26.cell? ⟨g1, 9, none⟩ = some (.int .i64 a1_9) := bc_ B1 9 rfl; have hcz29_10 : w26.cell? ⟨g1, 10, none⟩ = some (.int .i64 a1_10) := bc_ B1 10 rfl; have hcz29_11 : w26.cell? ⟨g1, 11, none⟩ = some (.bool a1_11) := bc_ B1 11 rfl; have hcz29_12 : w26.cell? ⟨g1, 12, none⟩ = some (.bool a1_12) := bc_ B1 12 rfl; have hcz29_13 : w26.cell? ⟨g1, 13, none⟩ = some (.slice A1_13 l1_13.length c1_13) := bc_ B1 13 rfl; have hfz29_0 := blk_frozen B1.out 0; have hfz29_1 := blk_frozen B1.out 1; have hfz29_2 := blk_frozen B1.out 2; have hfz29_3 := blk_frozen B1.out 3; have hfz29_4 := blk_frozen B1.out 4; have hfz29_5 := blk_frozen B1.out 5; have hfz29_6 := blk_frozen B1.out 6; have hfz29_7 := blk_frozen B1.out 7; have hfz29_8 := blk_frozen B1.out 8; have hfz29_9 := blk_frozen B1.out 9; have hfz29_10 := blk_frozen B1.out 10; have hfz29_11 := blk_frozen B1.out 11; have hfz29_12 := blk_frozen B1.out 12; have hfz29_13 := blk_frozen B1.out 13))
        go_ret
        exact fi_ bl_
      ·obtain rfl := Option.some.inj H
       have hcz30_0 : wc.cell? ⟨g1, 0, none⟩ = some (.int .i64 a1_0) := bc_ B1 0 rfl
       have hcz30_1 : wc.cell? ⟨g1, 1, none⟩ = some (.int .i64 a1_1) := bc_ B1 1 rfl
       have hcz30_2 : wc.cell? ⟨g1, 2, none⟩ = some (.int .i64 a1_2) := bc_ B1 2 rfl
       have hcz30_3 : wc.cell? ⟨g1, 3, none⟩ = some (.int .i64 a1_3) := bc_ B1 3 rfl
       have hcz30_4 : wc.cell? ⟨g1, 4, none⟩ = some (.string a1_4) := bc_ B1 4 rfl
       have hcz30_5 : wc.cell? ⟨g1, 5, none⟩ = some (.int .i64 a1_5) := bc_ B1 5 rfl
       have hcz30_6 : wc.cell? ⟨g1, 6, none⟩ = some (.int .i64 a1_6) := bc_ B1 6 rfl
       have hcz30_7 : wc.cell? ⟨g1, 7, none⟩ = some (.bool a1_7) := bc_ B1 7 rfl
       have hcz30_8 : wc.cell? ⟨g1, 8, none⟩ = some (.bool a1_8) := bc_ B1 8 rfl
       have hcz30_9 : wc.cell? ⟨g1, 9, none⟩ = some (.int .i64 a1_9) := bc_ B1 9 rfl
       have hcz30_10 : wc.cell? ⟨g1, 10, none⟩ = some (.int .i64 a1_10) := bc_ B1 10 rfl
       have hcz30_11 : wc.cell? ⟨g1, 11, none⟩ = some (.bool a1_11) := bc_ B1 11 rfl
       have hcz30_12 : wc.cell? ⟨g1, 12, none⟩ = some (.bool a1_12) := bc_ B1 12 rfl
       have hcz30_13 : wc.cell? ⟨g1, 13, none⟩ = some (.slice A1_13 l1_13.length c1_13) := bc_ B1 13 rfl
       have hfz30_0 := blk_frozen B1.out 0; have hfz30_1 := blk_frozen B1.out 1; have hfz30_2 := blk_frozen B1.out 2; have hfz30_3 := blk_frozen B1.out 3; have hfz30_4 := blk_frozen B1.out 4; have hfz30_5 := blk_frozen B1.out 5; have hfz30_6 := blk_frozen B1.out 6; have hfz30_7 := blk_frozen B1.out 7; have hfz30_8 := blk_frozen B1.out 8; have hfz30_9 := blk_frozen B1.out 9; have hfz30_10 := blk_frozen B1.out 10; have hfz30_11 := blk_frozen B1.out 11; have hfz30_12 := blk_frozen B1.out 12; have hfz30_13 := blk_frozen B1.out 13
       go_wp2_with (first | ((with_reducible refine gate_callee (f:=30) rfl ?_); refine gL_ (some 32) rfl rfl Tryd.func30 rfl #[.string a1_4] rfl ?_; (with_reducible refine (label_Parse.calls kj4 a1_4 t102 t103 false _ (by refine tb_ ?_ hT; repeat' (first | exact pbx HB | assumption | refine below_set ?_ (Aside0.out ?_))) A15.out).mono ?_); rintro e w31 ⟨rfl, hb⟩; refine ⟨_, rfl, ?_⟩; replace B1 := bb_ B1 hb; replace HB := bs_ HB hb; (try clear hb); ) | ((with_reducible refine gd_ 5 ?_); refine be_ (N:=5) (cs := #[.int .i64 0, .int .u64 0]) (t:=49) ?_; intro g5 hg w32 hbox hb; have B5 := A_ (hbox); have GW105 := hs_ HB hg; have GE105 := hs_ HB hg; have N15 := hl_ B1 hg; have N51 := hr_ B1 hg; replace B1 := bb_ B1 hb; replace HB := bs_ HB hb; clear hb hbox hg; have hnb33 := N51.out; have hnc33 := N15.out; have ⟨hcz34_0,hcz34_1,hfz34_0,hfz34_1⟩ := z2_ B5))
       go_ret
       exact fi_ bl_
     ·rw [if_neg c14] at H; have ⟨c14b0,c14b1⟩ := e0_ c14; obtain rfl := Option.some.inj H
      have hcz35_0 : wc.cell? ⟨g1, 0, none⟩ = some (.int .i64 a1_0) := bc_ B1 0 rfl
      have hcz35_1 : wc.cell? ⟨g1, 1, none⟩ = some (.int .i64 a1_1) := bc_ B1 1 rfl
      have hcz35_2 : wc.cell? ⟨g1, 2, none⟩ = some (.int .i64 a1_2) := bc_ B1 2 rfl
      have hcz35_3 : wc.cell? ⟨g1, 3, none⟩ = some (.int .i64 a1_3) := bc_ B1 3 rfl
      have hcz35_4 : wc.cell? ⟨g1, 4, none⟩ = some (.string a1_4) := bc_ B1 4 rfl
      have hcz35_5 : wc.cell? ⟨g1, 5, none⟩ = some (.int .i64 a1_5) := bc_ B1 5 rfl
      have hcz35_6 : wc.cell? ⟨g1, 6, none⟩ = some (.int .i64 a1_6) := bc_ B1 6 rfl
      have hcz35_7 : wc.cell? ⟨g1, 7, none⟩ = some (.bool a1_7) := bc_ B1 7 rfl
      have hcz35_8 : wc.cell? ⟨g1, 8, none⟩ = some (.bool a1_8) := bc_ B1 8 rfl
      have hcz35_9 : wc.cell? ⟨g1, 9, none⟩ = some (.int .i64 a1_9) := bc_ B1 9 rfl
      have hcz35_10 : wc.cell? ⟨g1, 10, none⟩ = some (.int .i64 a1_10) := bc_ B1 10 rfl
      have hcz35_11 : wc.cell? ⟨g1, 11, none⟩ = some (.bool a1_11) := bc_ B1 11 rfl
      have hcz35_12 : wc.cell? ⟨g1, 12, none⟩ = some (.bool a1_12) := bc_ B1 12 rfl
      have hcz35_13 : wc.cell? ⟨g1, 13, none⟩ = some (.slice A1_13 l1_13.length c1_13) := bc_ B1 13 rfl
      have hfz35_0 := blk_frozen B1.out 0; have hfz35_1 := blk_frozen B1.out 1; have hfz35_2 := blk_frozen B1.out 2; have hfz35_3 := blk_frozen B1.out 3; have hfz35_4 := blk_frozen B1.out 4; have hfz35_5 := blk_frozen B1.out 5; have hfz35_6 := blk_frozen B1.out 6; have hfz35_7 := blk_frozen B1.out 7; have hfz35_8 := blk_frozen B1.out 8; have hfz35_9 := blk_frozen B1.out 9; have hfz35_10 := blk_frozen B1.out 10; have hfz35_11 := blk_frozen B1.out 11; have hfz35_12 := blk_frozen B1.out 12; have hfz35_13 := blk_frozen B1.out 13
      go_wp2
      go_ret
      exact fi_ (pbx HB)

mutual
def fname_row.j0 : Nat → Int → Bool → Option (ByteArray × ByteArray)
 | 0, _, _ => none
 | k + 1, x0, x14 => if x14 = true then (some ((⟨#[]⟩ : ByteArray), (⟨#[]⟩ : ByteArray))) else ((strings_Cut.f (⟨#[65, 66, 83, 49, 49, 118, 59, 65, 78, 68, 49, 56, 101, 59, 65, 86, 69, 82, 65, 71, 69, 49, 56, 108, 59, 65, 86, 69, 82, 65, 71, 69, 73, 70, 50, 50, 114, 118, 59, 67, 69, 73, 76, 73, 78, 71, 50, 50, 118, 59, 67, 72, 65, 82, 49, 49, 118, 59, 67, 72, 79, 79, 83, 69, 50, 56, 101, 59, 67, 79, 68, 69, 49, 49, 118, 59, 67, 79, 76, 85, 77, 78, 49, 49, 110, 59, 67, 79, 76, 85, 77, 78, 83, 49, 49, 110, 59, 67, 79, 77, 66, 73, 78, 50, 50, 118, 59, 67, 79, 78, 67, 65, 84, 49, 56, 108, 59, 67, 79, 85, 78, 84, 49, 56, 108, 59, 67, 79, 85, 78, 84, 65, 49, 56, 108, 59, 67, 79, 85, 78, 84, 66, 76, 65, 78, 75, 49, 56, 108, 59, 67, 79, 85, 78, 84, 73, 70, 50, 50, 114, 118, 59, 68, 69, 67, 76, 65, 83, 83, 50, 50, 101, 116, 59, 69, 86, 69, 78, 49, 49, 118, 59, 69, 88, 65, 67, 84, 50, 50, 118, 59, 70, 65, 67, 84, 49, 49, 118, 59, 70, 73, 78, 68, 50, 50, 118, 59, 70, 76, 79, 79, 82, 50, 50, 118, 59, 71, 67, 68, 50, 50, 118, 59, 72, 76, 79, 79, 75, 85, 80, 51, 51, 118, 114, 118, 59, 73, 70, 50, 51, 101, 59, 73, 70, 69, 82, 82, 79, 82, 50, 50, 101, 59, 73, 78, 68, 69, 88, 50, 51, 114, 118, 59, 73, 78, 84, 49, 49, 118, 59, 73, 83, 66, 76, 65, 78, 75, 49, 49, 118, 59, 73, 83, 69, 82, 82, 79, 82, 49, 49, 118, 59, 73, 83, 76, 79, 71, 73, 67, 65, 76, 49, 49, 118, 59, 73, 83, 78, 85, 77, 66, 69, 82, 49, 49, 118, 59, 73, 83, 84, 69, 88, 84, 49, 49, 118, 59, 76, 65, 82, 71, 69, 50, 50, 114, 118, 59, 76, 67, 77, 50, 50, 118, 59, 76, 69, 70, 84, 50, 50, 118, 59, 76, 69, 78, 49, 49, 118, 59, 76, 79, 87, 69, 82, 49, 49, 118, 59, 77, 65, 84, 67, 72, 50, 50, 118, 114, 59, 77, 65, 88, 49, 56, 108, 59, 77, 69, 68, 73, 65, 78, 49, 56, 108, 59, 77, 73, 68, 51, 51, 118, 59, 77, 73, 78, 49, 56, 108, 59, 77, 79, 68, 50, 50, 118, 59, 77, 79, 68, 69, 49, 56, 108, 59, 78, 65, 48, 48, 59, 78, 79, 84, 49, 49, 118, 59, 79, 68, 68, 49, 49, 118, 59, 79, 82, 49, 56, 101, 59, 80, 79, 87, 69, 82, 50, 50, 118, 59, 80, 82, 79, 68, 85, 67, 84, 49, 56, 108, 59, 80, 82, 79, 80, 69, 82, 49, 49, 118, 59, 81, 85, 79, 84, 73, 69, 78, 84, 50, 50, 118, 59, 82, 65, 78, 75, 50, 50, 118, 114, 59, 82, 69, 80, 84, 50, 50, 118, 59, 82, 69, 86, 69, 82, 83, 69, 49, 49, 118, 59, 82, 73, 71, 72, 84, 50, 50, 118, 59, 82, 79, 85, 78, 68, 50, 50, 118, 59, 82, 79, 85, 78, 68, 68, 79, 87, 78, 50, 50, 118, 59, 82, 79, 85, 78, 68, 85, 80, 50, 50, 118, 59, 82, 79, 87, 49, 49, 110, 59, 82, 79, 87, 83, 49, 49, 110, 59, 83, 73, 71, 78, 49, 49, 118, 59, 83, 77, 65, 76, 76, 50, 50, 114, 118, 59, 83, 81, 82, 84, 49, 49, 118, 59, 83, 85, 66, 83, 84, 73, 84, 85, 84, 69, 51, 51, 118, 59, 83, 85, 77, 49, 56, 108, 59, 83, 85, 77, 73, 70, 50, 50, 114, 118, 59, 83, 85, 77, 80, 82, 79, 68, 85, 67, 84, 50, 50, 114, 59, 83, 85, 77, 83, 81, 49, 56, 108, 59, 83, 87, 73, 84, 67, 72, 51, 56, 101, 59, 84, 69, 88, 84, 50, 50, 118, 59, 84, 82, 73, 77, 49, 49, 118, 59, 84, 82, 85, 78, 67, 49, 49, 118, 59, 85, 80, 80, 69, 82, 49, 49, 118, 59, 86, 65, 76, 85, 69, 49, 49, 118, 59, 86, 76, 79, 79, 75, 85, 80, 51, 51, 118, 114, 118, 59, 88, 79, 82, 49, 56, 108]⟩ : ByteArray) (⟨#[59]⟩ : ByteArray)).bind fun bt101 => (fname_row.l0 k x0 bt101.1 bt101.2.1 1))
def fname_row.l0 : Nat → Int → ByteArray → ByteArray → Int → Option (ByteArray × ByteArray)
 | 0, _, _, _, _ => none
 | k + 1, x0, x4, x5, x7 => if x7 < x0 then ((strings_Cut.f x5 (⟨#[59]⟩ : ByteArray)).bind fun bt104 => (fname_row.l0 k x0 bt104.1 bt104.2.1 (wrap64 (x7 + 1)))) else (fname_row.l1 k x4 0)
def fname_row.l1 : Nat → ByteArray → Int → Option (ByteArray × ByteArray)
 | 0, _, _ => none
 | k + 1, x4, x8 => if 0 ≤ x8 then (if x8 < (x4.size : Int) then (if (bt x4 x8) ≥ 65 then (fname_row.l1 k x4 (wrap64 (x8 + 1))) else (if x8 ≤ (x4.size : Int) then (some (x4.extract 0 (x8 : Int).toNat, x4.extract (x8 : Int).toNat x4.size)) else (none))) else (none)) else (none)
end
def fname_row.f (k : Nat) (a0 : Int) : Option (ByteArray × ByteArray) := if a0 < 1 then (fname_row.j0 k a0 true) else (fname_row.j0 k a0 (decide (a0 > 78)))
theorem fname_row.mono_l : ∀ k, (∀ y0 y1, LeO (fname_row.j0 k y0 y1) (fname_row.j0 (k + 1) y0 y1)) ∧ (∀ y0 y1 y2 y3, LeO (fname_row.l0 k y0 y1 y2 y3) (fname_row.l0 (k + 1) y0 y1 y2 y3)) ∧ (∀ y0 y1, LeO (fname_row.l1 k y0 y1) (fname_row.l1 (k + 1) y0 y1))
 | 0 => ⟨fun _ _ r h => by simp [fname_row.j0] at h, fun _ _ _ _ r h => by simp [fname_row.l0] at h, fun _ _ r h => by simp [fname_row.l1] at h⟩
 | k + 1 => by
  obtain ⟨ih0, ih1, ih2⟩ := fname_row.mono_l k
  refine ⟨?_, ?_, ?_⟩
  ·intro y0 y1
   unfold fname_row.j0
   exact mo_
  ·intro y0 y1 y2 y3
   unfold fname_row.l0
   exact mo_
  ·intro y0 y1
   unfold fname_row.l1
   exact mo_
theorem fname_row.mono : ∀ a0 k, LeO (fname_row.f k a0) (fname_row.f (k + 1) a0) := by
 intro a0 k; obtain ⟨ih0, ih1, ih2⟩ := fname_row.mono_l k
 unfold fname_row.f
 exact mo_
theorem fname_row.calls (k : Nat) (a0 : Int) (r1 : ByteArray) (r2 : ByteArray) (w : World) (h : fname_row.f k a0 = some (r1, r2)) :
  Calls Tryd.prog 45 #[.int .i64 a0] w fun e w' => e = .returned (.tuple #[.string r1, .string r2]) ∧ Drawn0 w w' := by
 have H : (if a0 < 1 then (fname_row.j0 k a0 true) else (fname_row.j0 k a0 (decide (a0 > 78)))) = some (r1, r2) := h
 clear h; have HC2 := A_ H; clear H
 go_enter Tryd.func45, Tryd.ntmps45
 go_upto_region 1 with (fail)
 repeat (go_quiet (fail); go_upto_region 1 with (fail))
 go_cut [14] (fun v14 wc => ∃ (kq : Nat) (x14_1 : Bool), v14 = .bool x14_1 ∧ Aside0 (fname_row.j0 kq a0 x14_1 = some (r1, r2)) ∧ Aside0 (kq ≤ k) ∧ Drawn0 w wc)
 case first =>
  have H := HC2.out; clear HC2
  by_cases c3 : a0 < 1
  ·rw [if_pos c3] at H; have c3b0 := decide_eq_true c3; clear c3; (first | rw [c3b0] | (simp only [i64_w, i32_w]; rw [c3b0]) | skip)
   have H' := A_ H
   clear H
   go_wp2
   repeat (go_quiet (fail); try go_wp2)
   go_meet
   case rel => exact ⟨_, (true), sq_, H', le_, dr_⟩
  ·rw [if_neg c3] at H; have c3b0 := decide_eq_false c3; clear c3; (first | rw [c3b0] | (simp only [i64_w, i32_w]; rw [c3b0]) | skip)
   have H' := A_ H
   clear H
   go_wp2
   repeat (go_quiet (fail); try go_wp2)
   go_meet
   case rel => exact ⟨_, (decide (a0 > 78)), sq_, H', le_, dr_⟩
 case rest =>
  clear HC2; obtain ⟨kq, x14_1, rfl, HA, HJ1, ⟨mc1, rfl⟩⟩ := hcut
  cases kq with
  | zero => exact absurd HA.out (by simp [fname_row.j0])
  | succ kj1 =>
   have H := HA.out; clear HA
   simp only [fname_row.j0] at H
   replace H := ib_ H; rcases H with ⟨rfl,H⟩|⟨rfl,H⟩
   ·simp only [Option.some.injEq, Prod.mk.injEq] at H
    obtain ⟨rfl, rfl⟩ := H
    go_wp2
    repeat (go_quiet (fail); try go_wp2)
    go_ret2
    exact ⟨by first | rfl | (simp; done) | (simp [*]; done), dr_⟩
   ·obtain ⟨⟨t101, t102, t103⟩, A5, H⟩ := bo_ H; dsimp only at H
    have H' := A_ H
    clear H
    go_wp2_with (first | (go_at_call 42; (with_reducible refine (strings_Cut.calls (⟨#[65, 66, 83, 49, 49, 118, 59, 65, 78, 68, 49, 56, 101, 59, 65, 86, 69, 82, 65, 71, 69, 49, 56, 108, 59, 65, 86, 69, 82, 65, 71, 69, 73, 70, 50, 50, 114, 118, 59, 67, 69, 73, 76, 73, 78, 71, 50, 50, 118, 59, 67, 72, 65, 82, 49, 49, 118, 59, 67, 72, 79, 79, 83, 69, 50, 56, 101, 59, 67, 79, 68, 69, 49, 49, 118, 59, 67, 79, 76, 85, 77, 78, 49, 49, 110, 59, 67, 79, 76, 85, 77, 78, 83, 49, 49, 110, 59, 67, 79, 77, 66, 73, 78, 50, 50, 118, 59, 67, 79, 78, 67, 65, 84, 49, 56, 108, 59, 67, 79, 85, 78, 84, 49, 56, 108, 59, 67, 79, 85, 78, 84, 65, 49, 56, 108, 59, 67, 79, 85, 78, 84, 66, 76, 65, 78, 75, 49, 56, 108, 59, 67, 79, 85, 78, 84, 73, 70, 50, 50, 114, 118, 59, 68, 69, 67, 76, 65, 83, 83, 50, 50, 101, 116, 59, 69, 86, 69, 78, 49, 49, 118, 59, 69, 88, 65, 67, 84, 50, 50, 118, 59, 70, 65, 67, 84, 49, 49, 118, 59, 70, 73, 78, 68, 50, 50, 118, 59, 70, 76, 79, 79, 82, 50, 50, 118, 59, 71, 67, 68, 50, 50, 118, 59, 72, 76, 79, 79, 75, 85, 80, 51, 51, 118, 114, 118, 59, 73, 70, 50, 51, 101, 59, 73, 70, 69, 82, 82, 79, 82, 50, 50, 101, 59, 73, 78, 68, 69, 88, 50, 51, 114, 118, 59, 73, 78, 84, 49, 49, 118, 59, 73, 83, 66, 76, 65, 78, 75, 49, 49, 118, 59, 73, 83, 69, 82, 82, 79, 82, 49, 49, 118, 59, 73, 83, 76, 79, 71, 73, 67, 65, 76, 49, 49, 118, 59, 73, 83, 78, 85, 77, 66, 69, 82, 49, 49, 118, 59, 73, 83, 84, 69, 88, 84, 49, 49, 118, 59, 76, 65, 82, 71, 69, 50, 50, 114, 118, 59, 76, 67, 77, 50, 50, 118, 59, 76, 69, 70, 84, 50, 50, 118, 59, 76, 69, 78, 49, 49, 118, 59, 76, 79, 87, 69, 82, 49, 49, 118, 59, 77, 65, 84, 67, 72, 50, 50, 118, 114, 59, 77, 65, 88, 49, 56, 108, 59, 77, 69, 68, 73, 65, 78, 49, 56, 108, 59, 77, 73, 68, 51, 51, 118, 59, 77, 73, 78, 49, 56, 108, 59, 77, 79, 68, 50, 50, 118, 59, 77, 79, 68, 69, 49, 56, 108, 59, 78, 65, 48, 48, 59, 78, 79, 84, 49, 49, 118, 59, 79, 68, 68, 49, 49, 118, 59, 79, 82, 49, 56, 101, 59, 80, 79, 87, 69, 82, 50, 50, 118, 59, 80, 82, 79, 68, 85, 67, 84, 49, 56, 108, 59, 80, 82, 79, 80, 69, 82, 49, 49, 118, 59, 81, 85, 79, 84, 73, 69, 78, 84, 50, 50, 118, 59, 82, 65, 78, 75, 50, 50, 118, 114, 59, 82, 69, 80, 84, 50, 50, 118, 59, 82, 69, 86, 69, 82, 83, 69, 49, 49, 118, 59, 82, 73, 71, 72, 84, 50, 50, 118, 59, 82, 79, 85, 78, 68, 50, 50, 118, 59, 82, 79, 85, 78, 68, 68, 79, 87, 78, 50, 50, 118, 59, 82, 79, 85, 78, 68, 85, 80, 50, 50, 118, 59, 82, 79, 87, 49, 49, 110, 59, 82, 79, 87, 83, 49, 49, 110, 59, 83, 73, 71, 78, 49, 49, 118, 59, 83, 77, 65, 76, 76, 50, 50, 114, 118, 59, 83, 81, 82, 84, 49, 49, 118, 59, 83, 85, 66, 83, 84, 73, 84, 85, 84, 69, 51, 51, 118, 59, 83, 85, 77, 49, 56, 108, 59, 83, 85, 77, 73, 70, 50, 50, 114, 118, 59, 83, 85, 77, 80, 82, 79, 68, 85, 67, 84, 50, 50, 114, 59, 83, 85, 77, 83, 81, 49, 56, 108, 59, 83, 87, 73, 84, 67, 72, 51, 56, 101, 59, 84, 69, 88, 84, 50, 50, 118, 59, 84, 82, 73, 77, 49, 49, 118, 59, 84, 82, 85, 78, 67, 49, 49, 118, 59, 85, 80, 80, 69, 82, 49, 49, 118, 59, 86, 65, 76, 85, 69, 49, 49, 118, 59, 86, 76, 79, 79, 75, 85, 80, 51, 51, 118, 114, 118, 59, 88, 79, 82, 49, 56, 108]⟩ : ByteArray) (⟨#[59]⟩ : ByteArray) t101 t102 t103 _ A5.out).mono ?_); rintro e w' ⟨rfl, ⟨nd, rfl⟩⟩; (try first | exact ⟨rfl, _, World.drewN_drewN _ _ _⟩ | exact ⟨rfl, _, Eq.trans (World.drewN_drewN _ _ _) (congrArg (World.drewN _) (Nat.add_assoc _ _ _))⟩)))
    repeat (go_quiet (first | (go_at_call 42; (with_reducible refine (strings_Cut.calls (⟨#[65, 66, 83, 49, 49, 118, 59, 65, 78, 68, 49, 56, 101, 59, 65, 86, 69, 82, 65, 71, 69, 49, 56, 108, 59, 65, 86, 69, 82, 65, 71, 69, 73, 70, 50, 50, 114, 118, 59, 67, 69, 73, 76, 73, 78, 71, 50, 50, 118, 59, 67, 72, 65, 82, 49, 49, 118, 59, 67, 72, 79, 79, 83, 69, 50, 56, 101, 59, 67, 79, 68, 69, 49, 49, 118, 59, 67, 79, 76, 85, 77, 78, 49, 49, 110, 59, 67, 79, 76, 85, 77, 78, 83, 49, 49, 110, 59, 67, 79, 77, 66, 73, 78, 50, 50, 118, 59, 67, 79, 78, 67, 65, 84, 49, 56, 108, 59, 67, 79, 85, 78, 84, 49, 56, 108, 59, 67, 79, 85, 78, 84, 65, 49, 56, 108, 59, 67, 79, 85, 78, 84, 66, 76, 65, 78, 75, 49, 56, 108, 59, 67, 79, 85, 78, 84, 73, 70, 50, 50, 114, 118, 59, 68, 69, 67, 76, 65, 83, 83, 50, 50, 101, 116, 59, 69, 86, 69, 78, 49, 49, 118, 59, 69, 88, 65, 67, 84, 50, 50, 118, 59, 70, 65, 67, 84, 49, 49, 118, 59, 70, 73, 78, 68, 50, 50, 118, 59, 70, 76, 79, 79, 82, 50, 50, 118, 59, 71, 67, 68, 50, 50, 118, 59, 72, 76, 79, 79, 75, 85, 80, 51, 51, 118, 114, 118, 59, 73, 70, 50, 51, 101, 59, 73, 70, 69, 82, 82, 79, 82, 50, 50, 101, 59, 73, 78, 68, 69, 88, 50, 51, 114, 118, 59, 73, 78, 84, 49, 49, 118, 59, 73, 83, 66, 76, 65, 78, 75, 49, 49, 118, 59, 73, 83, 69, 82, 82, 79, 82, 49, 49, 118, 59, 73, 83, 76, 79, 71, 73, 67, 65, 76, 49, 49, 118, 59, 73, 83, 78, 85, 77, 66, 69, 82, 49, 49, 118, 59, 73, 83, 84, 69, 88, 84, 49, 49, 118, 59, 76, 65, 82, 71, 69, 50, 50, 114, 118, 59, 76, 67, 77, 50, 50, 118, 59, 76, 69, 70, 84, 50, 50, 118, 59, 76, 69, 78, 49, 49, 118, 59, 76, 79, 87, 69, 82, 49, 49, 118, 59, 77, 65, 84, 67, 72, 50, 50, 118, 114, 59, 77, 65, 88, 49, 56, 108, 59, 77, 69, 68, 73, 65, 78, 49, 56, 108, 59, 77, 73, 68, 51, 51, 118, 59, 77, 73, 78, 49, 56, 108, 59, 77, 79, 68, 50, 50, 118, 59, 77, 79, 68, 69, 49, 56, 108, 59, 78, 65, 48, 48, 59, 78, 79, 84, 49, 49, 118, 59, 79, 68, 68, 49, 49, 118, 59, 79, 82, 49, 56, 101, 59, 80, 79, 87, 69, 82, 50, 50, 118, 59, 80, 82, 79, 68, 85, 67, 84, 49, 56, 108, 59, 80, 82, 79, 80, 69, 82, 49, 49, 118, 59, 81, 85, 79, 84, 73, 69, 78, 84, 50, 50, 118, 59, 82, 65, 78, 75, 50, 50, 118, 114, 59, 82, 69, 80, 84, 50, 50, 118, 59, 82, 69, 86, 69, 82, 83, 69, 49, 49, 118, 59, 82, 73, 71, 72, 84, 50, 50, 118, 59, 82, 79, 85, 78, 68, 50, 50, 118, 59, 82, 79, 85, 78, 68, 68, 79, 87, 78, 50, 50, 118, 59, 82, 79, 85, 78, 68, 85, 80, 50, 50, 118, 59, 82, 79, 87, 49, 49, 110, 59, 82, 79, 87, 83, 49, 49, 110, 59, 83, 73, 71, 78, 49, 49, 118, 59, 83, 77, 65, 76, 76, 50, 50, 114, 118, 59, 83, 81, 82, 84, 49, 49, 118, 59, 83, 85, 66, 83, 84, 73, 84, 85, 84, 69, 51, 51, 118, 59, 83, 85, 77, 49, 56, 108, 59, 83, 85, 77, 73, 70, 50, 50, 114, 118, 59, 83, 85, 77, 80, 82, 79, 68, 85, 67, 84, 50, 50, 114, 59, 83, 85, 77, 83, 81, 49, 56, 108, 59, 83, 87, 73, 84, 67, 72, 51, 56, 101, 59, 84, 69, 88, 84, 50, 50, 118, 59, 84, 82, 73, 77, 49, 49, 118, 59, 84, 82, 85, 78, 67, 49, 49, 118, 59, 85, 80, 80, 69, 82, 49, 49, 118, 59, 86, 65, 76, 85, 69, 49, 49, 118, 59, 86, 76, 79, 79, 75, 85, 80, 51, 51, 118, 114, 118, 59, 88, 79, 82, 49, 56, 108]⟩ : ByteArray) (⟨#[59]⟩ : ByteArray) t101 t102 t103 _ A5.out).mono ?_); rintro e w' ⟨rfl, ⟨nd, rfl⟩⟩; (try first | exact ⟨rfl, _, World.drewN_drewN _ _ _⟩ | exact ⟨rfl, _, Eq.trans (World.drewN_drewN _ _ _) (congrArg (World.drewN _) (Nat.add_assoc _ _ _))⟩))); try go_wp2_with (first | (go_at_call 42; (with_reducible refine (strings_Cut.calls (⟨#[65, 66, 83, 49, 49, 118, 59, 65, 78, 68, 49, 56, 101, 59, 65, 86, 69, 82, 65, 71, 69, 49, 56, 108, 59, 65, 86, 69, 82, 65, 71, 69, 73, 70, 50, 50, 114, 118, 59, 67, 69, 73, 76, 73, 78, 71, 50, 50, 118, 59, 67, 72, 65, 82, 49, 49, 118, 59, 67, 72, 79, 79, 83, 69, 50, 56, 101, 59, 67, 79, 68, 69, 49, 49, 118, 59, 67, 79, 76, 85, 77, 78, 49, 49, 110, 59, 67, 79, 76, 85, 77, 78, 83, 49, 49, 110, 59, 67, 79, 77, 66, 73, 78, 50, 50, 118, 59, 67, 79, 78, 67, 65, 84, 49, 56, 108, 59, 67, 79, 85, 78, 84, 49, 56, 108, 59, 67, 79, 85, 78, 84, 65, 49, 56, 108, 59, 67, 79, 85, 78, 84, 66, 76, 65, 78, 75, 49, 56, 108, 59, 67, 79, 85, 78, 84, 73, 70, 50, 50, 114, 118, 59, 68, 69, 67, 76, 65, 83, 83, 50, 50, 101, 116, 59, 69, 86, 69, 78, 49, 49, 118, 59, 69, 88, 65, 67, 84, 50, 50, 118, 59, 70, 65, 67, 84, 49, 49, 118, 59, 70, 73, 78, 68, 50, 50, 118, 59, 70, 76, 79, 79, 82, 50, 50, 118, 59, 71, 67, 68, 50, 50, 118, 59, 72, 76, 79, 79, 75, 85, 80, 51, 51, 118, 114, 118, 59, 73, 70, 50, 51, 101, 59, 73, 70, 69, 82, 82, 79, 82, 50, 50, 101, 59, 73, 78, 68, 69, 88, 50, 51, 114, 118, 59, 73, 78, 84, 49, 49, 118, 59, 73, 83, 66, 76, 65, 78, 75, 49, 49, 118, 59, 73, 83, 69, 82, 82, 79, 82, 49, 49, 118, 59, 73, 83, 76, 79, 71, 73, 67, 65, 76, 49, 49, 118, 59, 73, 83, 78, 85, 77, 66, 69, 82, 49, 49, 118, 59, 73, 83, 84, 69, 88, 84, 49, 49, 118, 59, 76, 65, 82, 71, 69, 50, 50, 114, 118, 59, 76, 67, 77, 50, 50, 118, 59, 76, 69, 70, 84, 50, 50, 118, 59, 76, 69, 78, 49, 49, 118, 59, 76, 79, 87, 69, 82, 49, 49, 118, 59, 77, 65, 84, 67, 72, 50, 50, 118, 114, 59, 77, 65, 88, 49, 56, 108, 59, 77, 69, 68, 73, 65, 78, 49, 56, 108, 59, 77, 73, 68, 51, 51, 118, 59, 77, 73, 78, 49, 56, 108, 59, 77, 79, 68, 50, 50, 118, 59, 77, 79, 68, 69, 49, 56, 108, 59, 78, 65, 48, 48, 59, 78, 79, 84, 49, 49, 118, 59, 79, 68, 68, 49, 49, 118, 59, 79, 82, 49, 56, 101, 59, 80, 79, 87, 69, 82, 50, 50, 118, 59, 80, 82, 79, 68, 85, 67, 84, 49, 56, 108, 59, 80, 82, 79, 80, 69, 82, 49, 49, 118, 59, 81, 85, 79, 84, 73, 69, 78, 84, 50, 50, 118, 59, 82, 65, 78, 75, 50, 50, 118, 114, 59, 82, 69, 80, 84, 50, 50, 118, 59, 82, 69, 86, 69, 82, 83, 69, 49, 49, 118, 59, 82, 73, 71, 72, 84, 50, 50, 118, 59, 82, 79, 85, 78, 68, 50, 50, 118, 59, 82, 79, 85, 78, 68, 68, 79, 87, 78, 50, 50, 118, 59, 82, 79, 85, 78, 68, 85, 80, 50, 50, 118, 59, 82, 79, 87, 49, 49, 110, 59, 82, 79, 87, 83, 49, 49, 110, 59, 83, 73, 71, 78, 49, 49, 118, 59, 83, 77, 65, 76, 76, 50, 50, 114, 118, 59, 83, 81, 82, 84, 49, 49, 118, 59, 83, 85, 66, 83, 84, 73, 84, 85, 84, 69, 51, 51, 118, 59, 83, 85, 77, 49, 56, 108, 59, 83, 85, 77, 73, 70, 50, 50, 114, 118, 59, 83, 85, 77, 80, 82, 79, 68, 85, 67, 84, 50, 50, 114, 59, 83, 85, 77, 83, 81, 49, 56, 108, 59, 83, 87, 73, 84, 67, 72, 51, 56, 101, 59, 84, 69, 88, 84, 50, 50, 118, 59, 84, 82, 73, 77, 49, 49, 118, 59, 84, 82, 85, 78, 67, 49, 49, 118, 59, 85, 80, 80, 69, 82, 49, 49, 118, 59, 86, 65, 76, 85, 69, 49, 49, 118, 59, 86, 76, 79, 79, 75, 85, 80, 51, 51, 118, 114, 118, 59, 88, 79, 82, 49, 56, 108]⟩ : ByteArray) (⟨#[59]⟩ : ByteArray) t101 t102 t103 _ A5.out).mono ?_); rintro e w' ⟨rfl, ⟨nd, rfl⟩⟩; (try first | exact ⟨rfl, _, World.drewN_drewN _ _ _⟩ | exact ⟨rfl, _, Eq.trans (World.drewN_drewN _ _ _) (congrArg (World.drewN _) (Nat.add_assoc _ _ _))⟩))))
    go_loopg [4, 5, 7] kj1 (fun kq v4 v5 v7 w' => ∃ (x4_2 : ByteArray) (x5_2 : ByteArray) (x7_2 : Int), v4 = .string x4_2 ∧ v5 = .string x5_2 ∧ v7 = .int .i64 x7_2 ∧ Aside0 (fname_row.l0 kq a0 x4_2 x5_2 x7_2 = some (r1, r2)) ∧ Aside0 (kq ≤ kj1) ∧ Drawn0 w w')
    case atStart => exact ⟨(t101), (t102), (1), (by first | rfl | (simp; done) | (simp [*]; done) | (cases t101 <;> simp; done)), (by first | rfl | (simp; done) | (simp [*]; done) | (cases t102 <;> simp; done)), sq_, H', ⟨Nat.le_refl _⟩, dr_⟩
    case round =>
     clear H'; (try clear c4); obtain ⟨x4_2, x5_2, x7_2, rfl, rfl, rfl, HA, HK2, ⟨m2, rfl⟩⟩ := hrel
     cases gk with
     | zero => exact absurd HA.out (by simp [fname_row.l0])
     | succ k2 =>
      have H := HA.out; clear HA
      simp only [fname_row.l0] at H
      by_cases c6 : x7_2 < a0
      ·rw [if_pos c6] at H; have c6b0 := decide_eq_true c6; clear c6; obtain ⟨⟨t104, t105, t106⟩, A7, H⟩ := bo_ H; dsimp only at H
       have H' := A_ H
       clear H
       go_wp2_with (first | (go_at_call 42; (with_reducible refine (strings_Cut.calls x5_2 (⟨#[59]⟩ : ByteArray) t104 t105 t106 _ A7.out).mono ?_); rintro e w' ⟨rfl, ⟨nd, rfl⟩⟩; (try first | exact ⟨rfl, _, World.drewN_drewN _ _ _⟩ | exact ⟨rfl, _, Eq.trans (World.drewN_drewN _ _ _) (congrArg (World.drewN _) (Nat.add_assoc _ _ _))⟩)))
       repeat (go_quiet (first | (go_at_call 42; (with_reducible refine (strings_Cut.calls x5_2 (⟨#[59]⟩ : ByteArray) t104 t105 t106 _ A7.out).mono ?_); rintro e w' ⟨rfl, ⟨nd, rfl⟩⟩; (try first | exact ⟨rfl, _, World.drewN_drewN _ _ _⟩ | exact ⟨rfl, _, Eq.trans (World.drewN_drewN _ _ _) (congrArg (World.drewN _) (Nat.add_assoc _ _ _))⟩))); try go_wp2_with (first | (go_at_call 42; (with_reducible refine (strings_Cut.calls x5_2 (⟨#[59]⟩ : ByteArray) t104 t105 t106 _ A7.out).mono ?_); rintro e w' ⟨rfl, ⟨nd, rfl⟩⟩; (try first | exact ⟨rfl, _, World.drewN_drewN _ _ _⟩ | exact ⟨rfl, _, Eq.trans (World.drewN_drewN _ _ _) (congrArg (World.drewN _) (Nat.add_assoc _ _ _))⟩))))
       go_roundg k2
       case measure => have := HJ1.out; have := HK2.out; omega
       case rel => exact ⟨(t104), (t105), (wrap64 (x7_2 + 1)), (by first | rfl | (simp; done) | (simp [*]; done) | (cases t104 <;> simp; done)), (by first | rfl | (simp; done) | (simp [*]; done) | (cases t105 <;> simp; done)), sq_, H', ⟨by have := HJ1.out; have := HK2.out; omega⟩, dr_⟩
      ·rw [if_neg c6] at H; have c6b0 := decide_eq_false c6; clear c6
       have H' := A_ H
       clear H
       go_wp2
       repeat (go_quiet (fail); try go_wp2)
       go_loopg [8] k2 (fun kq v8 w' => ∃ (x8_3 : Int), v8 = .int .i64 x8_3 ∧ Aside0 (fname_row.l1 kq x4_2 x8_3 = some (r1, r2)) ∧ Aside0 (kq ≤ k2) ∧ Drawn0 w w')
       case atStart => exact ⟨(0), sq_, H', ⟨Nat.le_refl _⟩, dr_⟩
       case round =>
        clear H'; (try clear c4); (try clear c6); (try clear c6b0); obtain ⟨x8_3, rfl, HA, HK3, ⟨m3, rfl⟩⟩ := hrel
        cases gk with
        | zero => exact absurd HA.out (by simp [fname_row.l1])
        | succ k3 =>
         have H := HA.out; clear HA
         simp only [fname_row.l1] at H
         by_cases c8 : 0 ≤ x8_3
         ·rw [if_pos c8] at H; have c8b0 := decide_eq_true c8; clear c8
          by_cases c9 : x8_3 < (x4_2.size : Int)
          ·rw [if_pos c9] at H; have c9b0 := decide_eq_true c9; clear c9
           by_cases c11 : (bt x4_2 x8_3) ≥ 65
           ·rw [if_pos c11] at H; have c11b0 := decide_eq_true c11; clear c11
            have H' := A_ H
            clear H
            have p10 : 0 ≤ (x8_3 : Int) := of_decide_eq_true as_
            have q10 : x8_3 < (x4_2.size : Int) := of_decide_eq_true as_
            have hx10 := bt_at x4_2 x8_3; replace p10 := eq_true p10; replace q10 := eq_true q10
            go_wp2
            repeat (go_quiet (fail); try go_wp2)
            go_roundg k3
            case measure => have := HJ1.out; have := HK2.out; have := HK3.out; omega
            case rel => exact ⟨(wrap64 (x8_3 + 1)), sq_, H', ⟨by have := HJ1.out; have := HK2.out; have := HK3.out; omega⟩, dr_⟩
           ·rw [if_neg c11] at H; have c11b0 := decide_eq_false c11; clear c11; have c12b0 := eq_true (of_decide_eq_true as_ : 0 ≤ x8_3)
            by_cases c13 : x8_3 ≤ (x4_2.size : Int)
            ·rw [if_pos c13] at H; have c13b0 := eq_true c13; have c13b1 := decide_eq_true c13; clear c13; have c14b0 := eq_true (of_decide_eq_true as_ : 0 ≤ x8_3); have c15b0 := eq_true (of_decide_eq_true as_ : x8_3 ≤ (x4_2.size : Int))
             simp only [Option.some.injEq, Prod.mk.injEq] at H
             obtain ⟨rfl, rfl⟩ := H
             have p10 : 0 ≤ (x8_3 : Int) := of_decide_eq_true as_
             have q10 : x8_3 < (x4_2.size : Int) := of_decide_eq_true as_
             have hx10 := bt_at x4_2 x8_3; replace p10 := eq_true p10; replace q10 := eq_true q10
             go_wp2
             repeat (go_quiet (fail); try go_wp2)
             go_ret2
             exact ⟨by first | rfl | (simp; done) | (simp [*]; done), dr_⟩
            ·rw [if_neg c13] at H
             exact absurd H (by simp)
          ·rw [if_neg c9] at H
           exact absurd H (by simp)
         ·rw [if_neg c8] at H
          exact absurd H (by simp)

def fname_Fits.f (k : Nat) (a0 : Int) (a1 : Int) : Option (Bool) := (fname_row.f k a0).bind fun bt101 => (if bt101.2.toList = ([] : List UInt8) then (some false) else (if 0 < (bt101.2.size : Int) then (if a1 ≥ (((bt bt101.2 0) - 48) % 256) then (if 1 < (bt101.2.size : Int) then (some (decide (a1 ≤ (((bt bt101.2 1) - 48) % 256)))) else (none)) else (some false)) else (none)))
theorem fname_Fits.mono : ∀ a0 a1 k, LeO (fname_Fits.f k a0 a1) (fname_Fits.f (k + 1) a0 a1) := by
 intro a0 a1 k
 unfold fname_Fits.f
 have m0 := @fname_row.mono; exact mo_
theorem fname_Fits.calls (k : Nat) (a0 : Int) (a1 : Int) (r : Bool) (w : World) (h : fname_Fits.f k a0 a1 = some r) :
  Calls Tryd.prog 31 #[.int .i64 a0, .int .i64 a1] w fun e w' => e = .returned (.bool r) ∧ Drawn0 w w' := by
 have H : ((fname_row.f k a0).bind fun bt101 => (if bt101.2.toList = ([] : List UInt8) then (some false) else (if 0 < (bt101.2.size : Int) then (if a1 ≥ (((bt bt101.2 0) - 48) % 256) then (if 1 < (bt101.2.size : Int) then (some (decide (a1 ≤ (((bt bt101.2 1) - 48) % 256)))) else (none)) else (some false)) else (none)))) = some r := h
 clear h; obtain ⟨⟨t101, t102⟩, A3, H⟩ := bo_ H; dsimp only at H
 by_cases c4 : t102.toList = ([] : List UInt8)
 ·rw [if_pos c4] at H; have ⟨c4b0,c4b1⟩ := e1_ c4; clear c4; obtain rfl := Option.some.inj H
  go_enter Tryd.func31, Tryd.ntmps31
  go_wp2_with (first | ((with_reducible refine gate_callee (f:=45) rfl ?_); refine gL_ (some 9) rfl rfl Tryd.func45 rfl #[.int .i64 a0] rfl ?_; (with_reducible refine (fname_row.calls k a0 t101 t102 _ A3.out).mono ?_); rintro e w' ⟨rfl, ⟨nd, rfl⟩⟩; refine ⟨_, rfl, ?_⟩))
  go_ret
  exact ⟨by first | rfl | (simp; done) | (simp [*]; done), dr_⟩
 ·rw [if_neg c4] at H; have ⟨c4b0,c4b1⟩ := e0_ c4
  by_cases c5 : 0 < (t102.size : Int)
  ·rw [if_pos c5] at H; have c5b0 := decide_eq_true c5; have c5b1 : decide (0 < t102.size) = true := decide_eq_true (by omega); clear c5
   by_cases c7 : a1 ≥ (((bt t102 0) - 48) % 256)
   ·rw [if_pos c7] at H; have c7b0 := decide_eq_true c7; clear c7
    by_cases c8 : 1 < (t102.size : Int)
    ·rw [if_pos c8] at H; have c8b0 := decide_eq_true c8; have c8b1 : decide (1 < t102.size) = true := decide_eq_true (by omega); clear c8; obtain rfl := Option.some.inj H
     go_enter Tryd.func31, Tryd.ntmps31
     go_wp2_with (first | ((with_reducible refine gate_callee (f:=45) rfl ?_); refine gL_ (some 9) rfl rfl Tryd.func45 rfl #[.int .i64 a0] rfl ?_; (with_reducible refine (fname_row.calls k a0 t101 t102 _ A3.out).mono ?_); rintro e w' ⟨rfl, ⟨nd, rfl⟩⟩; refine ⟨_, rfl, ?_⟩; have p6 : 0 ≤ (0 : Int) := (by omega); have q6 : 0 < t102.size := (by have : (0 : Int) < (t102.size : Int) := of_decide_eq_true as_; omega); have hx6 : ∀ h : 0 < t102.size, ((t102[0]'h).toNat : Int) = bt t102 0 := bt_at t102 0; clear p6; have qi6 : (0 < (t102.size : Int)) = True := eq_true (of_decide_eq_true as_); replace q6 := eq_true q6; have p9 : 0 ≤ (1 : Int) := (by omega); have q9 : 1 < t102.size := (by have : (1 : Int) < (t102.size : Int) := of_decide_eq_true as_; omega); have hx9 : ∀ h : 1 < t102.size, ((t102[1]'h).toNat : Int) = bt t102 1 := bt_at t102 1; clear p9; have qi9 : (1 < (t102.size : Int)) = True := eq_true (of_decide_eq_true as_); replace q9 := eq_true q9))
     go_ret
     exact ⟨by first | rfl | (simp; done) | (simp [*]; done), dr_⟩
    ·rw [if_neg c8] at H
     exact absurd H (by simp)
   ·rw [if_neg c7] at H; have c7b0 := decide_eq_false c7; clear c7; obtain rfl := Option.some.inj H
    go_enter Tryd.func31, Tryd.ntmps31
    go_wp2_with (first | ((with_reducible refine gate_callee (f:=45) rfl ?_); refine gL_ (some 9) rfl rfl Tryd.func45 rfl #[.int .i64 a0] rfl ?_; (with_reducible refine (fname_row.calls k a0 t101 t102 _ A3.out).mono ?_); rintro e w' ⟨rfl, ⟨nd, rfl⟩⟩; refine ⟨_, rfl, ?_⟩; have p6 : 0 ≤ (0 : Int) := (by omega); have q6 : 0 < t102.size := (by have : (0 : Int) < (t102.size : Int) := of_decide_eq_true as_; omega); have hx6 : ∀ h : 0 < t102.size, ((t102[0]'h).toNat : Int) = bt t102 0 := bt_at t102 0; clear p6; have qi6 : (0 < (t102.size : Int)) = True := eq_true (of_decide_eq_true as_); replace q6 := eq_true q6))
    go_ret
    exact ⟨by first | rfl | (simp; done) | (simp [*]; done), dr_⟩
  ·rw [if_neg c5] at H
   exact absurd H (by simp)

def fname_Kind.j0 : Nat → Int → ByteArray → Option (Int)
 | 0, _, _ => none
 | k + 1, x1, x6 => if x6.toList = ([] : List UInt8) then (some 0) else (if x1 < 0 then (some 0) else (if 1 < (x6.size : Int) then (if x1 ≥ (((bt x6 1) - 48) % 256) then (some 0) else (if 0 ≤ (mn (wrap64 (2 + x1)) (wrap64 ((x6.size : Int) - 1))) then (if (mn (wrap64 (2 + x1)) (wrap64 ((x6.size : Int) - 1))) < (x6.size : Int) then (some (bt x6 (mn (wrap64 (2 + x1)) (wrap64 ((x6.size : Int) - 1))))) else (none)) else (none))) else (none)))
def fname_Kind.f (k : Nat) (a0 : Int) (a1 : Int) : Option (Int) := (fname_row.f k a0).bind fun bt101 => (fname_Kind.j0 k a1 bt101.2)
theorem fname_Kind.mono_l : ∀ k, (∀ y0 y1, LeO (fname_Kind.j0 k y0 y1) (fname_Kind.j0 (k + 1) y0 y1))
 | 0 => fun _ _ r h => by simp [fname_Kind.j0] at h
 | k + 1 => by
  have ih0 := fname_Kind.mono_l k
  ·intro y0 y1
   unfold fname_Kind.j0
   have m0 := @fname_row.mono; exact mo_
theorem fname_Kind.mono : ∀ a0 a1 k, LeO (fname_Kind.f k a0 a1) (fname_Kind.f (k + 1) a0 a1) := by
 intro a0 a1 k; have ih0 := fname_Kind.mono_l k
 unfold fname_Kind.f
 have m0 := @fname_row.mono; exact mo_
theorem fname_Kind.calls (k : Nat) (a0 : Int) (a1 : Int) (r : Int) (w : World) (h : fname_Kind.f k a0 a1 = some r) :
  Calls Tryd.prog 32 #[.int .i64 a0, .int .i64 a1] w fun e w' => e = .returned (.int .u8 r) ∧ Below w.heap.size w w' := by
 have HB := A_ (Below.refl w.heap.size w)
 have H : ((fname_row.f k a0).bind fun bt101 => (fname_Kind.j0 k a1 bt101.2)) = some r := h
 clear h; have HC3 := A_ H; clear H
 go_enter Tryd.func32, Tryd.ntmps32
 go_upto_region 1 with (fail)
 go_cut [6] (fun v6 wc => ∃ (kq : Nat) (x6_2 : ByteArray), v6 = .string x6_2 ∧ Aside0 (fname_Kind.j0 kq a1 x6_2 = some r) ∧ Aside0 (kq ≤ k) ∧ Aside0 (Below w.heap.size w wc))
 case first =>
  have H := HC3.out; clear HC3; obtain ⟨⟨t101, t102⟩, A4, H⟩ := bo_ H; dsimp only at H
  have H' := A_ H
  clear H
  go_wp2_with (first | ((with_reducible refine gate_callee (f:=45) rfl ?_); refine gL_ (some 9) rfl rfl Tryd.func45 rfl #[.int .i64 a0] rfl ?_; (with_reducible refine (fname_row.calls k a0 t101 t102 _ A4.out).mono ?_); rintro e w' ⟨rfl, ⟨nd, rfl⟩⟩; refine ⟨_, rfl, ?_⟩))
  go_meet
  case rel => exact ⟨_, (t102), (by first | rfl | (simp; done) | (simp [*]; done) | (cases t102 <;> simp; done)), H', le_, ⟨pbx HB⟩⟩
 case rest =>
  clear HC3; obtain ⟨kq, x6_2, rfl, HA, HJ2, HB⟩ := hcut
  cases kq with
  | zero => exact absurd HA.out (by simp [fname_Kind.j0])
  | succ kj2 =>
   have H := HA.out; clear HA
   simp only [fname_Kind.j0] at H
   by_cases c5 : x6_2.toList = ([] : List UInt8)
   ·rw [if_pos c5] at H; have ⟨c5b0,c5b1⟩ := e1_ c5; clear c5; obtain rfl := Option.some.inj H
    go_wp2
    go_ret
    exact fi_ (pbx HB)
   ·rw [if_neg c5] at H; have ⟨c5b0,c5b1⟩ := e0_ c5
    by_cases c6 : a1 < 0
    ·rw [if_pos c6] at H; have c6b0 := decide_eq_true c6; clear c6; obtain rfl := Option.some.inj H
     go_wp2
     go_ret
     exact fi_ (pbx HB)
    ·rw [if_neg c6] at H; have c6b0 := decide_eq_false c6; clear c6
     by_cases c7 : 1 < (x6_2.size : Int)
     ·rw [if_pos c7] at H; have c7b0 := decide_eq_true c7; have c7b1 : decide (1 < x6_2.size) = true := decide_eq_true (by omega); clear c7
      by_cases c9 : a1 ≥ (((bt x6_2 1) - 48) % 256)
      ·rw [if_pos c9] at H; have c9b0 := decide_eq_true c9; clear c9; obtain rfl := Option.some.inj H
       have p8 : 0 ≤ (1 : Int) := (by omega)
       have q8 : 1 < x6_2.size := (by have : (1 : Int) < (x6_2.size : Int) := of_decide_eq_true as_; omega)
       have hx8 : ∀ h : 1 < x6_2.size, ((x6_2[1]'h).toNat : Int) = bt x6_2 1 := bt_at x6_2 1
       clear p8; have qi8 : (1 < (x6_2.size : Int)) = True := eq_true (of_decide_eq_true as_); replace q8 := eq_true q8
       go_wp2
       go_ret
       exact fi_ (pbx HB)
      ·rw [if_neg c9] at H; have c9b0 := decide_eq_false c9; clear c9; obtain ⟨ji10, hji10⟩ : ∃ j_ : Int, (mn (wrap64 (2 + a1)) (wrap64 ((x6_2.size : Int) - 1))) = j_ := ⟨_, rfl⟩
       replace H : (if 0 ≤ (ji10) then (if (ji10) < (x6_2.size : Int) then (some (bt x6_2 (ji10))) else (none)) else (none)) = some r := by first | (rw [hji10] at H; exact H) | (simp only [hji10] at H ⊢; exact H)
       have hji10_ : (if (wrap64 ((x6_2.size : Int) - 1)) < (wrap64 (2 + a1)) then (wrap64 ((x6_2.size : Int) - 1)) else (wrap64 (2 + a1))) = ji10 := hji10
       by_cases c11 : 0 ≤ (ji10)
       ·rw [if_pos c11] at H; have c11b0 := decide_eq_true c11; clear c11
        by_cases c12 : (ji10) < (x6_2.size : Int)
        ·rw [if_pos c12] at H; have c12b0 := decide_eq_true c12; clear c12; obtain rfl := Option.some.inj H
         have p8 : 0 ≤ (1 : Int) := (by omega)
         have q8 : 1 < x6_2.size := (by have : (1 : Int) < (x6_2.size : Int) := of_decide_eq_true as_; omega)
         have hx8 : ∀ h : 1 < x6_2.size, ((x6_2[1]'h).toNat : Int) = bt x6_2 1 := bt_at x6_2 1
         clear p8; have qi8 : (1 < (x6_2.size : Int)) = True := eq_true (of_decide_eq_true as_); replace q8 := eq_true q8
         have p13 : 0 ≤ ((ji10) : Int) := of_decide_eq_true as_
         have q13 : (ji10) < (x6_2.size : Int) := of_decide_eq_true as_
         have hx13 := bt_at x6_2 (ji10); replace p13 := eq_true p13; replace q13 := eq_true q13
         go_wp2
         go_ret
         exact ⟨by first | rfl | (simp [errW_none, errW_some] <;> rfl) | (simp only [← hji10]; first | rfl | (simp [errW_none, errW_some] <;> rfl)) | (simp [*, errW_none, errW_some] <;> rfl), pbx HB⟩
        ·rw [if_neg c12] at H
         exact absurd H (by simp)
       ·rw [if_neg c11] at H
        exact absurd H (by simp)
     ·rw [if_neg c7] at H
      exact absurd H (by simp)

mutual
def node_called.l0 : Nat → List (S28) → Int → Int → Int → Int → Int → Int → ByteArray → Int → Int → Bool → Bool → Int → Int → Bool → Bool → List (S28) → Option (Bool)
 | 0, _, _, _, _, _, _, _, _, _, _, _, _, _, _, _, _, _ => none
 | k + 1, x13, x14, x15, x102000, x102001, x102002, x102003, x102004, x102005, x102006, x102007, x102008, x102009, x102010, x102011, x102012, x102013 => if x15 < x14 then (if 0 ≤ x15 then (if x15 < (x13.length : Int) then ((fname_Kind.f k x102001 x15).bind fun t105 => ((node_fits.f k t105 ((rd_T28 x13 x15).f0) ((rd_T28 x13 x15).f1) ((rd_T28 x13 x15).f2.f0) ((rd_T28 x13 x15).f2.f1) ((rd_T28 x13 x15).f2.f2) ((rd_T28 x13 x15).f3.f0) ((rd_T28 x13 x15).f3.f1) ((rd_T28 x13 x15).f3.f2) ((rd_T28 x13 x15).f3.f3) ((rd_T28 x13 x15).f4.f0) ((rd_T28 x13 x15).f4.f1) ((rd_T28 x13 x15).f4.f2) ((rd_T28 x13 x15).f4.f3) ((rd_T28 x13 x15).f5)).bind fun t106 => (node_called.j1 k x13 x14 x15 (!t106) x102000 x102001 x102002 x102003 x102004 x102005 x102006 x102007 x102008 x102009 x102010 x102011 x102012 x102013))) else (none)) else (none)) else (some true)
def node_called.j1 : Nat → List (S28) → Int → Int → Bool → Int → Int → Int → Int → ByteArray → Int → Int → Bool → Bool → Int → Int → Bool → Bool → List (S28) → Option (Bool)
 | 0, _, _, _, _, _, _, _, _, _, _, _, _, _, _, _, _, _, _ => none
 | k + 1, x13, x14, x15, x26, x102000, x102001, x102002, x102003, x102004, x102005, x102006, x102007, x102008, x102009, x102010, x102011, x102012, x102013 => if x26 = true then (some false) else (node_called.l0 k x13 x14 (wrap64 (x15 + 1)) x102000 x102001 x102002 x102003 x102004 x102005 x102006 x102007 x102008 x102009 x102010 x102011 x102012 x102013)
end
def node_called.f (k : Nat) (a0_0 : Int) (a0_1 : Int) (a0_2 : Int) (a0_3 : Int) (a0_4 : ByteArray) (a0_5 : Int) (a0_6 : Int) (a0_7 : Bool) (a0_8 : Bool) (a0_9 : Int) (a0_10 : Int) (a0_11 : Bool) (a0_12 : Bool) (l0_13 : List (S28)) : Option (Bool) := (fname_Fits.f k a0_1 (l0_13.length : Int)).bind fun t102 => (if t102 = true then (node_called.l0 k l0_13 (l0_13.length : Int) 0 a0_0 a0_1 a0_2 a0_3 a0_4 a0_5 a0_6 a0_7 a0_8 a0_9 a0_10 a0_11 a0_12 l0_13) else (some false))
theorem node_called.mono_l : ∀ k, (∀ y0 y1 y2 y3 y4 y5 y6 y7 y8 y9 y10 y11 y12 y13 y14 y15 y16, LeO (node_called.l0 k y0 y1 y2 y3 y4 y5 y6 y7 y8 y9 y10 y11 y12 y13 y14 y15 y16) (node_called.l0 (k + 1) y0 y1 y2 y3 y4 y5 y6 y7 y8 y9 y10 y11 y12 y13 y14 y15 y16)) ∧ (∀ y0 y1 y2 y3 y4 y5 y6 y7 y8 y9 y10 y11 y12 y13 y14 y15 y16 y17, LeO (node_called.j1 k y0 y1 y2 y3 y4 y5 y6 y7 y8 y9 y10 y11 y12 y13 y14 y15 y16 y17) (node_called.j1 (k + 1) y0 y1 y2 y3 y4 y5 y6 y7 y8 y9 y10 y11 y12 y13 y14 y15 y16 y17))
 | 0 => ⟨fun _ _ _ _ _ _ _ _ _ _ _ _ _ _ _ _ _ r h => by simp [node_called.l0] at h, fun _ _ _ _ _ _ _ _ _ _ _ _ _ _ _ _ _ _ r h => by simp [node_called.j1] at h⟩
 | k + 1 => by
  obtain ⟨ih0, ih1⟩ := node_called.mono_l k
  refine ⟨?_, ?_⟩
  ·intro y0 y1 y2 y3 y4 y5 y6 y7 y8 y9 y10 y11 y12 y13 y14 y15 y16
   unfold node_called.l0
   have m0 := @fname_Fits.mono; have m1 := @fname_Kind.mono; have m2 := @node_fits.mono; exact mo_
  ·intro y0 y1 y2 y3 y4 y5 y6 y7 y8 y9 y10 y11 y12 y13 y14 y15 y16 y17
   unfold node_called.j1
   have m0 := @fname_Fits.mono; have m1 := @fname_Kind.mono; have m2 := @node_fits.mono; exact mo_
theorem node_called.mono : ∀ a0 a1 a2 a3 a4 a5 a6 a7 a8 a9 a10 a11 a12 a13 k, LeO (node_called.f k a0 a1 a2 a3 a4 a5 a6 a7 a8 a9 a10 a11 a12 a13) (node_called.f (k + 1) a0 a1 a2 a3 a4 a5 a6 a7 a8 a9 a10 a11 a12 a13) := by
 intro a0 a1 a2 a3 a4 a5 a6 a7 a8 a9 a10 a11 a12 a13 k; obtain ⟨ih0, ih1⟩ := node_called.mono_l k
 unfold node_called.f
 have m0 := @fname_Fits.mono; have m1 := @fname_Kind.mono; have m2 := @node_fits.mono; exact mo_
theorem node_called.calls (k : Nat) (a0_0 : Int) (a0_1 : Int) (a0_2 : Int) (a0_3 : Int) (a0_4 : ByteArray) (a0_5 : Int) (a0_6 : Int) (a0_7 : Bool) (a0_8 : Bool) (a0_9 : Int) (a0_10 : Int) (a0_11 : Bool) (a0_12 : Bool) (A0_13 : Option Addr) (c0_13 : Nat) (l0_13 : List (S28)) (r : Bool) (w : World) (hT : Aside0 (Tab w)) (hr0_13 : Kd.C k28 w A0_13 l0_13.length l0_13) (hc0_13 : l0_13.length ≤ c0_13) (h : node_called.f k a0_0 a0_1 a0_2 a0_3 a0_4 a0_5 a0_6 a0_7 a0_8 a0_9 a0_10 a0_11 a0_12 l0_13 = some r) :
  Calls Tryd.prog 24 #[.agg #[.int .i64 a0_0, .int .i64 a0_1, .int .i64 a0_2, .int .i64 a0_3, .string a0_4, .int .i64 a0_5, .int .i64 a0_6, .bool a0_7, .bool a0_8, .int .i64 a0_9, .int .i64 a0_10, .bool a0_11, .bool a0_12, .slice A0_13 l0_13.length c0_13]] w fun e w' => e = .returned (.bool r) ∧ Below w.heap.size w w' := by
 have hu28 := Tryd.underlying28; have HR0_13 := A_ hr0_13; have HC0_13 := A_ hc0_13; clear hr0_13 hc0_13; have HB := A_ (Below.refl w.heap.size w)
 have H : ((fname_Fits.f k a0_1 (l0_13.length : Int)).bind fun t102 => (if t102 = true then (node_called.l0 k l0_13 (l0_13.length : Int) 0 a0_0 a0_1 a0_2 a0_3 a0_4 a0_5 a0_6 a0_7 a0_8 a0_9 a0_10 a0_11 a0_12 l0_13) else (some false))) = some r := h
 clear h; obtain ⟨t102, A2, H⟩ := bo_ H
 replace H := ib_ H; rcases H with ⟨rfl,H⟩|⟨rfl,H⟩
 ·have H' := A_ H
  clear H
  go_enter Tryd.func24, Tryd.ntmps24
  go_wp2_with (first | ((with_reducible refine gd_ 1 ?_); refine be_ (N:=1) (cs := #[.int .i64 a0_0, .int .i64 a0_1, .int .i64 a0_2, .int .i64 a0_3, .string a0_4, .int .i64 a0_5, .int .i64 a0_6, .bool a0_7, .bool a0_8, .int .i64 a0_9, .int .i64 a0_10, .bool a0_11, .bool a0_12, .slice A0_13 l0_13.length c0_13]) (t:=28) ?_; intro g1 hg w4 hbox hb; have B1 := A_ (hbox); have GW101 := hs_ HB hg; have GE101 := hs_ HB hg; replace HB := bs_ HB hb; clear hb hbox hg; have hcz5_0 : w4.cell? ⟨g1, 0, none⟩ = some (.int .i64 a0_0) := bc_ B1 0 rfl; have hcz5_1 : w4.cell? ⟨g1, 1, none⟩ = some (.int .i64 a0_1) := bc_ B1 1 rfl; have hcz5_2 : w4.cell? ⟨g1, 2, none⟩ = some (.int .i64 a0_2) := bc_ B1 2 rfl; have hcz5_3 : w4.cell? ⟨g1, 3, none⟩ = some (.int .i64 a0_3) := bc_ B1 3 rfl; have hcz5_4 : w4.cell? ⟨g1, 4, none⟩ = some (.string a0_4) := bc_ B1 4 rfl; have hcz5_5 : w4.cell? ⟨g1, 5, none⟩ = some (.int .i64 a0_5) := bc_ B1 5 rfl; have hcz5_6 : w4.cell? ⟨g1, 6, none⟩ = some (.int .i64 a0_6) := bc_ B1 6 rfl; have hcz5_7 : w4.cell? ⟨g1, 7, none⟩ = some (.bool a0_7) := bc_ B1 7 rfl; have hcz5_8 : w4.cell? ⟨g1, 8, none⟩ = some (.bool a0_8) := bc_ B1 8 rfl; have hcz5_9 : w4.cell? ⟨g1, 9, none⟩ = some (.int .i64 a0_9) := bc_ B1 9 rfl; have hcz5_10 : w4.cell? ⟨g1, 10, none⟩ = some (.int .i64 a0_10) := bc_ B1 10 rfl; have hcz5_11 : w4.cell? ⟨g1, 11, none⟩ = some (.bool a0_11) := bc_ B1 11 rfl; have hcz5_12 : w4.cell? ⟨g1, 12, none⟩ = some (.bool a0_12) := bc_ B1 12 rfl; have hcz5_13 : w4.cell? ⟨g1, 13, none⟩ = some (.slice A0_13 l0_13.length c0_13) := bc_ B1 13 rfl; have hfz5_0 := blk_frozen B1.out 0; have hfz5_1 := blk_frozen B1.out 1; have hfz5_2 := blk_frozen B1.out 2; have hfz5_3 := blk_frozen B1.out 3; have hfz5_4 := blk_frozen B1.out 4; have hfz5_5 := blk_frozen B1.out 5; have hfz5_6 := blk_frozen B1.out 6; have hfz5_7 := blk_frozen B1.out 7; have hfz5_8 := blk_frozen B1.out 8; have hfz5_9 := blk_frozen B1.out 9; have hfz5_10 := blk_frozen B1.out 10; have hfz5_11 := blk_frozen B1.out 11; have hfz5_12 := blk_frozen B1.out 12; have hfz5_13 := blk_frozen B1.out 13) | ((with_reducible refine gate_callee (f:=31) rfl ?_); refine gL_ (some 10) rfl rfl Tryd.func31 rfl #[.int .i64 a0_1, .int .i64 (l0_13.length : Int)] rfl ?_; (with_reducible refine (fname_Fits.calls k a0_1 (l0_13.length : Int) true _ A2.out).mono ?_); rintro e w' ⟨rfl, ⟨nd, rfl⟩⟩; refine ⟨_, rfl, ?_⟩))
  go_loopg [15] k (fun kq v15 w' => ∃ (x15_1 : Int), v15 = .int .i64 x15_1 ∧ Aside0 (node_called.l0 kq l0_13 (l0_13.length : Int) x15_1 a0_0 a0_1 a0_2 a0_3 a0_4 a0_5 a0_6 a0_7 a0_8 a0_9 a0_10 a0_11 a0_12 l0_13 = some r) ∧ Aside0 (kq ≤ k) ∧ Aside0 (w'.heap[g1]? = some (.cells #[.int .i64 a0_0, .int .i64 a0_1, .int .i64 a0_2, .int .i64 a0_3, .string a0_4, .int .i64 a0_5, .int .i64 a0_6, .bool a0_7, .bool a0_8, .int .i64 a0_9, .int .i64 a0_10, .bool a0_11, .bool a0_12, (.slice A0_13 l0_13.length c0_13)] 28 (0, 0))) ∧ Aside0 (Below w.heap.size w w'))
  case atStart => exact ⟨(0), sq_, H', ⟨Nat.le_refl _⟩, ⟨pkx B1⟩, ⟨pbx HB⟩⟩
  case round =>
   clear H'; (try clear c3); (try clear hcz5_0); (try clear hcz5_1); (try clear hcz5_10); (try clear hcz5_11); (try clear hcz5_12); (try clear hcz5_13); (try clear hcz5_2); (try clear hcz5_3); (try clear hcz5_4); (try clear hcz5_5); (try clear hcz5_6); (try clear hcz5_7); (try clear hcz5_8); (try clear hcz5_9); (try clear hfz5_0); (try clear hfz5_1); (try clear hfz5_10); (try clear hfz5_11); (try clear hfz5_12); (try clear hfz5_13); (try clear hfz5_2); (try clear hfz5_3); (try clear hfz5_4); (try clear hfz5_5); (try clear hfz5_6); (try clear hfz5_7); (try clear hfz5_8); (try clear hfz5_9); obtain ⟨x15_1, rfl, HA, HK1, B1, HB⟩ := hrel
   cases gk with
   | zero => exact absurd HA.out (by simp [node_called.l0])
   | succ k1 =>
    have H := HA.out; clear HA
    simp only [node_called.l0] at H
    by_cases c6 : x15_1 < (l0_13.length : Int)
    ·rw [if_pos c6] at H; have c6b0 := decide_eq_true c6; clear c6
     by_cases c7 : 0 ≤ x15_1
     ·rw [if_pos c7] at H; have c7b0 := decide_eq_true c7; clear c7
      by_cases c8 : x15_1 < (l0_13.length : Int)
      ·rw [if_pos c8] at H; have c8b0 := decide_eq_true c8; clear c8; have HC9 := A_ H; clear H
       have p103 : 0 ≤ (x15_1 : Int) := of_decide_eq_true as_
       have q103 : x15_1 < (l0_13.length : Int) := of_decide_eq_true as_
       obtain ⟨ad103, A103_13, c103_13, e103, hx103_0, hx103_1, hx103_2, hx103_3, hx103_4, hx103_5, hx103_6, hx103_7, hx103_8, hx103_9, hx103_10, hx103_11, hx103_12, hx103_13, hl103_13, hi103_13⟩ := at_T28 HR0_13.out x15_1 p103 q103
       cases e103
       replace hx103_0 := (HB.out.cell (World.block_lt_of_cell? w _ hx103_0)).trans hx103_0; replace hx103_1 := (HB.out.cell (World.block_lt_of_cell? w _ hx103_1)).trans hx103_1; replace hx103_2 := (HB.out.cell (World.block_lt_of_cell? w _ hx103_2)).trans hx103_2; replace hx103_3 := (HB.out.cell (World.block_lt_of_cell? w _ hx103_3)).trans hx103_3; replace hx103_4 := (HB.out.cell (World.block_lt_of_cell? w _ hx103_4)).trans hx103_4; replace hx103_5 := (HB.out.cell (World.block_lt_of_cell? w _ hx103_5)).trans hx103_5; replace hx103_6 := (HB.out.cell (World.block_lt_of_cell? w _ hx103_6)).trans hx103_6; replace hx103_7 := (HB.out.cell (World.block_lt_of_cell? w _ hx103_7)).trans hx103_7; replace hx103_8 := (HB.out.cell (World.block_lt_of_cell? w _ hx103_8)).trans hx103_8; replace hx103_9 := (HB.out.cell (World.block_lt_of_cell? w _ hx103_9)).trans hx103_9; replace hx103_10 := (HB.out.cell (World.block_lt_of_cell? w _ hx103_10)).trans hx103_10
       replace hx103_11 := (HB.out.cell (World.block_lt_of_cell? w _ hx103_11)).trans hx103_11; replace hx103_12 := (HB.out.cell (World.block_lt_of_cell? w _ hx103_12)).trans hx103_12; replace hx103_13 := (HB.out.cell (World.block_lt_of_cell? w _ hx103_13)).trans hx103_13; have HR103_13 := A_ hi103_13; have HC103_13 := A_ hl103_13; clear hi103_13 hl103_13; replace p103 := eq_true p103; replace q103 := eq_true q103
       go_upto_region 6 with (first | ((with_reducible refine gd_ 4 ?_); refine be_ (N:=4) (cs := #[.int .i64 0, .int .i64 0, .int .i64 0, .int .i64 0, .string (⟨#[]⟩ : ByteArray), .int .i64 0, .int .i64 0, .bool false, .bool false, .int .i64 0, .int .i64 0, .bool false, .bool false, .slice none 0 0]) (t:=28) ?_; intro g4 hg w10 hbox hb; have B4 := A_ (hbox); have GW104 := hs_ HB hg; have GE104 := hs_ HB hg; have N14 := hl_ B1 hg; have N41 := hr_ B1 hg; replace B1 := bb_ B1 hb; replace HB := bs_ HB hb; clear hb hbox hg; have hnb11 := N41.out; have hnc11 := N14.out; have hcz12_0 : w10.cell? ⟨g4, 0, none⟩ = some (.int .i64 0) := bc_ B4 0 rfl; have hcz12_1 : w10.cell? ⟨g4, 1, none⟩ = some (.int .i64 0) := bc_ B4 1 rfl; have hcz12_2 : w10.cell? ⟨g4, 2, none⟩ = some (.int .i64 0) := bc_ B4 2 rfl; have hcz12_3 : w10.cell? ⟨g4, 3, none⟩ = some (.int .i64 0) := bc_ B4 3 rfl; have hcz12_4 : w10.cell? ⟨g4, 4, none⟩ = some (.string (⟨#[]⟩ : ByteArray)) := bc_ B4 4 rfl; have hcz12_5 : w10.cell? ⟨g4, 5, none⟩ = some (.int .i64 0) := bc_ B4 5 rfl; have hcz12_6 : w10.cell? ⟨g4, 6, none⟩ = some (.int .i64 0) := bc_ B4 6 rfl; have hcz12_7 : w10.cell? ⟨g4, 7, none⟩ = some (.bool false) := bc_ B4 7 rfl; have hcz12_8 : w10.cell? ⟨g4, 8, none⟩ = some (.bool false) := bc_ B4 8 rfl; have hcz12_9 : w10.cell? ⟨g4, 9, none⟩ = some (.int .i64 0) := bc_ B4 9 rfl; have hcz12_10 : w10.cell? ⟨g4, 10, none⟩ = some (.int .i64 0) := bc_ B4 10 rfl; have hcz12_11 : w10.cell? ⟨g4, 11, none⟩ = some (.bool false) := bc_ B4 11 rfl; have hcz12_12 : w10.cell? ⟨g4, 12, none⟩ = some (.bool false) := bc_ B4 12 rfl; have hcz12_13 : w10.cell? ⟨g4, 13, none⟩ = some (.slice none 0 0) := bc_ B4 13 rfl; have hfz12_0 := blk_frozen B4.out 0; have hfz12_1 := blk_frozen B4.out 1; have hfz12_2 := blk_frozen B4.out 2; have hfz12_3 := blk_frozen B4.out 3; have hfz12_4 := blk_frozen B4.out 4; have hfz12_5 := blk_frozen B4.out 5; have hfz12_6 := blk_frozen B4.out 6; have hfz12_7 := blk_frozen B4.out 7; have hfz12_8 := blk_frozen B4.out 8; have hfz12_9 := blk_frozen B4.out 9; have hfz12_10 := blk_frozen B4.out 10; have hfz12_11 := blk_frozen B4.out 11; have hfz12_12 := blk_frozen B4.out 12; have hfz12_13 := blk_frozen B4.out 13))
       (try simp only [q_])
       go_cut [26] (fun v26 wc => ∃ (kq : Nat) (x26_8 : Bool), v26 = .bool x26_8 ∧ Aside0 (node_called.j1 kq l0_13 (l0_13.length : Int) x15_1 x26_8 a0_0 a0_1 a0_2 a0_3 a0_4 a0_5 a0_6 a0_7 a0_8 a0_9 a0_10 a0_11 a0_12 l0_13 = some r) ∧ Aside0 (kq ≤ k1) ∧ Aside0 (wc.heap[g1]? = some (.cells #[.int .i64 a0_0, .int .i64 a0_1, .int .i64 a0_2, .int .i64 a0_3, .string a0_4, .int .i64 a0_5, .int .i64 a0_6, .bool a0_7, .bool a0_8, .int .i64 a0_9, .int .i64 a0_10, .bool a0_11, .bool a0_12, (.slice (some ad103) l0_13.length c0_13)] 28 (0, 0))) ∧ Aside0 (wc.heap[g4]? = some (.cells #[.int .i64 ((rd_T28 l0_13 x15_1).f0), .int .i64 ((rd_T28 l0_13 x15_1).f1), .int .i64 ((rd_T28 l0_13 x15_1).f2.f0), .int .i64 ((rd_T28 l0_13 x15_1).f2.f1), .string ((rd_T28 l0_13 x15_1).f2.f2), .int .i64 ((rd_T28 l0_13 x15_1).f3.f0), .int .i64 ((rd_T28 l0_13 x15_1).f3.f1), .bool ((rd_T28 l0_13 x15_1).f3.f2), .bool ((rd_T28 l0_13 x15_1).f3.f3), .int .i64 ((rd_T28 l0_13 x15_1).f4.f0), .int .i64 ((rd_T28 l0_13 x15_1).f4.f1), .bool ((rd_T28 l0_13 x15_1).f4.f2), .bool ((rd_T28 l0_13 x15_1).f4.f3), (.slice A103_13 ((rd_T28 l0_13 x15_1).f5).length c103_13)] 28 (0, 0))) ∧ Aside0 (Below w.heap.size w wc))
       case first =>
        have H := HC9.out; clear HC9; obtain ⟨t105, A13, H⟩ := bo_ H; obtain ⟨t106, A14, H⟩ := bo_ H
        have H' := A_ H
        clear H
        try go_wp2
        have n0_ : Aside0 (((((((((((((((w10.setCell ⟨g4, 0, none⟩ (.int .i64 ((rd_T28 l0_13 x15_1).f0))).setCell ⟨g4, 1, none⟩ (.int .i64 ((rd_T28 l0_13 x15_1).f1))).setCell ⟨g4, 2, none⟩ (.int .i64 ((rd_T28 l0_13 x15_1).f2.f0))).setCell ⟨g4, 3, none⟩ (.int .i64 ((rd_T28 l0_13 x15_1).f2.f1))).setCell ⟨g4, 4, none⟩ (.string ((rd_T28 l0_13 x15_1).f2.f2))).setCell ⟨g4, 5, none⟩ (.int .i64 ((rd_T28 l0_13 x15_1).f3.f0))).setCell ⟨g4, 6, none⟩ (.int .i64 ((rd_T28 l0_13 x15_1).f3.f1))).setCell ⟨g4, 7, none⟩ (.bool ((rd_T28 l0_13 x15_1).f3.f2))).setCell ⟨g4, 8, none⟩ (.bool ((rd_T28 l0_13 x15_1).f3.f3))).setCell ⟨g4, 9, none⟩ (.int .i64 ((rd_T28 l0_13 x15_1).f4.f0))).setCell ⟨g4, 10, none⟩ (.int .i64 ((rd_T28 l0_13 x15_1).f4.f1))).setCell ⟨g4, 11, none⟩ (.bool ((rd_T28 l0_13 x15_1).f4.f2))).setCell ⟨g4, 12, none⟩ (.bool ((rd_T28 l0_13 x15_1).f4.f3))).setCell ⟨g4, 13, none⟩ (.slice A103_13 ((rd_T28 l0_13 x15_1).f5).length c103_13)).heap[g1]? = some (.cells #[.int .i64 a0_0, .int .i64 a0_1, .int .i64 a0_2, .int .i64 a0_3, .string a0_4, .int .i64 a0_5, .int .i64 a0_6, .bool a0_7, .bool a0_8, .int .i64 a0_9, .int .i64 a0_10, .bool a0_11, .bool a0_12, .slice (some ad103) l0_13.length c0_13] 28 (0, 0))) := ⟨by (iterate 14 refine pf_ ?_ N14.out); exact pkx B1⟩
        have n1_ : Aside0 (((((((((((((((w10.setCell ⟨g4, 0, none⟩ (.int .i64 ((rd_T28 l0_13 x15_1).f0))).setCell ⟨g4, 1, none⟩ (.int .i64 ((rd_T28 l0_13 x15_1).f1))).setCell ⟨g4, 2, none⟩ (.int .i64 ((rd_T28 l0_13 x15_1).f2.f0))).setCell ⟨g4, 3, none⟩ (.int .i64 ((rd_T28 l0_13 x15_1).f2.f1))).setCell ⟨g4, 4, none⟩ (.string ((rd_T28 l0_13 x15_1).f2.f2))).setCell ⟨g4, 5, none⟩ (.int .i64 ((rd_T28 l0_13 x15_1).f3.f0))).setCell ⟨g4, 6, none⟩ (.int .i64 ((rd_T28 l0_13 x15_1).f3.f1))).setCell ⟨g4, 7, none⟩ (.bool ((rd_T28 l0_13 x15_1).f3.f2))).setCell ⟨g4, 8, none⟩ (.bool ((rd_T28 l0_13 x15_1).f3.f3))).setCell ⟨g4, 9, none⟩ (.int .i64 ((rd_T28 l0_13 x15_1).f4.f0))).setCell ⟨g4, 10, none⟩ (.int .i64 ((rd_T28 l0_13 x15_1).f4.f1))).setCell ⟨g4, 11, none⟩ (.bool ((rd_T28 l0_13 x15_1).f4.f2))).setCell ⟨g4, 12, none⟩ (.bool ((rd_T28 l0_13 x15_1).f4.f3))).setCell ⟨g4, 13, none⟩ (.slice A103_13 ((rd_T28 l0_13 x15_1).f5).length c103_13)).heap[g4]? = some (.cells #[.int .i64 ((rd_T28 l0_13 x15_1).f0), .int .i64 ((rd_T28 l0_13 x15_1).f1), .int .i64 ((rd_T28 l0_13 x15_1).f2.f0), .int .i64 ((rd_T28 l0_13 x15_1).f2.f1), .string ((rd_T28 l0_13 x15_1).f2.f2), .int .i64 ((rd_T28 l0_13 x15_1).f3.f0), .int .i64 ((rd_T28 l0_13 x15_1).f3.f1), .bool ((rd_T28 l0_13 x15_1).f3.f2), .bool ((rd_T28 l0_13 x15_1).f3.f3), .int .i64 ((rd_T28 l0_13 x15_1).f4.f0), .int .i64 ((rd_T28 l0_13 x15_1).f4.f1), .bool ((rd_T28 l0_13 x15_1).f4.f2), .bool ((rd_T28 l0_13 x15_1).f4.f3), .slice A103_13 ((rd_T28 l0_13 x15_1).f5).length c103_13] 28 (0, 0))) := ⟨by refine pp_ (cs := #[.int .i64 ((rd_T28 l0_13 x15_1).f0), .int .i64 ((rd_T28 l0_13 x15_1).f1), .int .i64 ((rd_T28 l0_13 x15_1).f2.f0), .int .i64 ((rd_T28 l0_13 x15_1).f2.f1), .string ((rd_T28 l0_13 x15_1).f2.f2), .int .i64 ((rd_T28 l0_13 x15_1).f3.f0), .int .i64 ((rd_T28 l0_13 x15_1).f3.f1), .bool ((rd_T28 l0_13 x15_1).f3.f2), .bool ((rd_T28 l0_13 x15_1).f3.f3), .int .i64 ((rd_T28 l0_13 x15_1).f4.f0), .int .i64 ((rd_T28 l0_13 x15_1).f4.f1), .bool ((rd_T28 l0_13 x15_1).f4.f2), .bool ((rd_T28 l0_13 x15_1).f4.f3), .slice none 0 0]) 13 ?_ rfl; refine blk_put (cs := #[.int .i64 ((rd_T28 l0_13 x15_1).f0), .int .i64 ((rd_T28 l0_13 x15_1).f1), .int .i64 ((rd_T28 l0_13 x15_1).f2.f0), .int .i64 ((rd_T28 l0_13 x15_1).f2.f1), .string ((rd_T28 l0_13 x15_1).f2.f2), .int .i64 ((rd_T28 l0_13 x15_1).f3.f0), .int .i64 ((rd_T28 l0_13 x15_1).f3.f1), .bool ((rd_T28 l0_13 x15_1).f3.f2), .bool ((rd_T28 l0_13 x15_1).f3.f3), .int .i64 ((rd_T28 l0_13 x15_1).f4.f0), .int .i64 ((rd_T28 l0_13 x15_1).f4.f1), .bool ((rd_T28 l0_13 x15_1).f4.f2), .bool false, .slice none 0 0]) ?_ 12 _ rfl; refine blk_put (cs := #[.int .i64 ((rd_T28 l0_13 x15_1).f0), .int .i64 ((rd_T28 l0_13 x15_1).f1), .int .i64 ((rd_T28 l0_13 x15_1).f2.f0), .int .i64 ((rd_T28 l0_13 x15_1).f2.f1), .string ((rd_T28 l0_13 x15_1).f2.f2), .int .i64 ((rd_T28 l0_13 x15_1).f3.f0), .int .i64 ((rd_T28 l0_13 x15_1).f3.f1), .bool ((rd_T28 l0_13 x15_1).f3.f2), .bool ((rd_T28 l0_13 x15_1).f3.f3), .int .i64 ((rd_T28 l0_13 x15_1).f4.f0), .int .i64 ((rd_T28 l0_13 x15_1).f4.f1), .bool false, .bool false, .slice none 0 0]) ?_ 11 _ rfl; refine blk_put (cs := #[.int .i64 ((rd_T28 l0_13 x15_1).f0), .int .i64 ((rd_T28 l0_13 x15_1).f1), .int .i64 ((rd_T28 l0_13 x15_1).f2.f0), .int .i64 ((rd_T28 l0_13 x15_1).f2.f1), .string ((rd_T28 l0_13 x15_1).f2.f2), .int .i64 ((rd_T28 l0_13 x15_1).f3.f0), .int .i64 ((rd_T28 l0_13 x15_1).f3.f1), .bool ((rd_T28 l0_13 x15_1).f3.f2), .bool ((rd_T28 l0_13 x15_1).f3.f3), .int .i64 ((rd_T28 l0_13 x15_1).f4.f0), .int .i64 0, .bool false, .bool false, .slice none 0 0]) ?_ 10 _ rfl; refine blk_put (cs := #[.int .i64 ((rd_T28 l0_13 x15_1).f0), .int .i64 ((rd_T28 l0_13 x15_1).f1), .int .i64 ((rd_T28 l0_13 x15_1).f2.f0), .int .i64 ((rd_T28 l0_13 x15_1).f2.f1), .string ((rd_T28 l0_13 x15_1).f2.f2), .int .i64 ((rd_T28 l0_13 x15_1).f3.f0), .int .i64 ((rd_T28 l0_13 x15_1).f3.f1), .bool ((rd_T28 l0_13 x15_1).f3.f2), .bool ((rd_T28 l0_13 x15_1).f3.f3), .int .i64 0, .int .i64 0, .bool false, .bool false, .slice none 0 0]) ?_ 9 _ rfl; refine blk_put (cs := #[.int .i64 ((rd_T28 l0_13 x15_1).f0), .int .i64 ((rd_T28 l0_13 x15_1).f1), .int .i64 ((rd_T28 l0_13 x15_1).f2.f0), .int .i64 ((rd_T28 l0_13 x15_1).f2.f1), .string ((rd_T28 l0_13 x15_1).f2.f2), .int .i64 ((rd_T28 l0_13 x15_1).f3.f0), .int .i64 ((rd_T28 l0_13 x15_1).f3.f1), .bool ((rd_T28 l0_13 x15_1).f3.f2), .bool false, .int .i64 0, .int .i64 0, .bool false, .bool false, .slice none 0 0]) ?_ 8 _ rfl; refine blk_put (cs := #[.int .i64 ((rd_T28 l0_13 x15_1).f0), .int .i64 ((rd_T28 l0_13 x15_1).f1), .int .i64 ((rd_T28 l0_13 x15_1).f2.f0), .int .i64 ((rd_T28 l0_13 x15_1).f2.f1), .string ((rd_T28 l0_13 x15_1).f2.f2), .int .i64 ((rd_T28 l0_13 x15_1).f3.f0), .int .i64 ((rd_T28 l0_13 x15_1).f3.f1), .bool false, .bool false, .int .i64 0, .int .i64 0, .bool false, .bool false, .slice none 0 0]) ?_ 7 _ rfl; refine blk_put (cs := #[.int .i64 ((rd_T28 l0_13 x15_1).f0), .int .i64 ((rd_T28 l0_13 x15_1).f1), .int .i64 ((rd_T28 l0_13 x15_1).f2.f0), .int .i64 ((rd_T28 l0_13 x15_1).f2.f1), .string ((rd_T28 l0_13 x15_1).f2.f2), .int .i64 ((rd_T28 l0_13 x15_1).f3.f0), .int .i64 0, .bool false, .bool false, .int .i64 0, .int .i64 0, .bool false, .bool false, .slice none 0 0]) ?_ 6 _ rfl; refine blk_put (cs := #[.int .i64 ((rd_T28 l0_13 x15_1).f0), .int .i64 ((rd_T28 l0_13 x15_1).f1), .int .i64 ((rd_T28 l0_13 x15_1).f2.f0), .int .i64 ((rd_T28 l0_13 x15_1).f2.f1), .string ((rd_T28 l0_13 x15_1).f2.f2), .int .i64 0, .int .i64 0, .bool false, .bool false, .int .i64 0, .int .i64 0, .bool false, .bool false, .slice none 0 0]) ?_ 5 _ rfl; refine blk_put (cs := #[.int .i64 ((rd_T28 l0_13 x15_1).f0), .int .i64 ((rd_T28 l0_13 x15_1).f1), .int .i64 ((rd_T28 l0_13 x15_1).f2.f0), .int .i64 ((rd_T28 l0_13 x15_1).f2.f1), .string (⟨#[]⟩ : ByteArray), .int .i64 0, .int .i64 0, .bool false, .bool false, .int .i64 0, .int .i64 0, .bool false, .bool false, .slice none 0 0]) ?_ 4 _ rfl; (iterate 4 apply pp_); exact pkx B4; all_goals rfl⟩
        have n2_ : Aside0 (Below w.heap.size w ((((((((((((((w10.setCell ⟨g4, 0, none⟩ (.int .i64 ((rd_T28 l0_13 x15_1).f0))).setCell ⟨g4, 1, none⟩ (.int .i64 ((rd_T28 l0_13 x15_1).f1))).setCell ⟨g4, 2, none⟩ (.int .i64 ((rd_T28 l0_13 x15_1).f2.f0))).setCell ⟨g4, 3, none⟩ (.int .i64 ((rd_T28 l0_13 x15_1).f2.f1))).setCell ⟨g4, 4, none⟩ (.string ((rd_T28 l0_13 x15_1).f2.f2))).setCell ⟨g4, 5, none⟩ (.int .i64 ((rd_T28 l0_13 x15_1).f3.f0))).setCell ⟨g4, 6, none⟩ (.int .i64 ((rd_T28 l0_13 x15_1).f3.f1))).setCell ⟨g4, 7, none⟩ (.bool ((rd_T28 l0_13 x15_1).f3.f2))).setCell ⟨g4, 8, none⟩ (.bool ((rd_T28 l0_13 x15_1).f3.f3))).setCell ⟨g4, 9, none⟩ (.int .i64 ((rd_T28 l0_13 x15_1).f4.f0))).setCell ⟨g4, 10, none⟩ (.int .i64 ((rd_T28 l0_13 x15_1).f4.f1))).setCell ⟨g4, 11, none⟩ (.bool ((rd_T28 l0_13 x15_1).f4.f2))).setCell ⟨g4, 12, none⟩ (.bool ((rd_T28 l0_13 x15_1).f4.f3))).setCell ⟨g4, 13, none⟩ (.slice A103_13 ((rd_T28 l0_13 x15_1).f5).length c103_13))) := ⟨bl_⟩; (try clear B1); (try clear B4); (try clear HB); generalize ((((((((((((((w10.setCell ⟨g4, 0, none⟩ (.int .i64 ((rd_T28 l0_13 x15_1).f0))).setCell ⟨g4, 1, none⟩ (.int .i64 ((rd_T28 l0_13 x15_1).f1))).setCell ⟨g4, 2, none⟩ (.int .i64 ((rd_T28 l0_13 x15_1).f2.f0))).setCell ⟨g4, 3, none⟩ (.int .i64 ((rd_T28 l0_13 x15_1).f2.f1))).setCell ⟨g4, 4, none⟩ (.string ((rd_T28 l0_13 x15_1).f2.f2))).setCell ⟨g4, 5, none⟩ (.int .i64 ((rd_T28 l0_13 x15_1).f3.f0))).setCell ⟨g4, 6, none⟩ (.int .i64 ((rd_T28 l0_13 x15_1).f3.f1))).setCell ⟨g4, 7, none⟩ (.bool ((rd_T28 l0_13 x15_1).f3.f2))).setCell ⟨g4, 8, none⟩ (.bool ((rd_T28 l0_13 x15_1).f3.f3))).setCell ⟨g4, 9, none⟩ (.int .i64 ((rd_T28 l0_13 x15_1).f4.f0))).setCell ⟨g4, 10, none⟩ (.int .i64 ((rd_T28 l0_13 x15_1).f4.f1))).setCell ⟨g4, 11, none⟩ (.bool ((rd_T28 l0_13 x15_1).f4.f2))).setCell ⟨g4, 12, none⟩ (.bool ((rd_T28 l0_13 x15_1).f4.f3))).setCell ⟨g4, 13, none⟩ (.slice A103_13 ((rd_T28 l0_13 x15_1).f5).length c103_13)) = w15 at n0_ n1_ n2_ ⊢
        have B1 := n0_; have B4 := n1_; have HB := n2_; clear n0_ n1_ n2_; (try (rw [drewN_self w15]; generalize hq_ : World.drewN w15 _ = w15; have n0_ : Aside0 (w15.heap[g1]? = some (.cells #[.int .i64 a0_0, .int .i64 a0_1, .int .i64 a0_2, .int .i64 a0_3, .string a0_4, .int .i64 a0_5, .int .i64 a0_6, .bool a0_7, .bool a0_8, .int .i64 a0_9, .int .i64 a0_10, .bool a0_11, .bool a0_12, .slice (some ad103) l0_13.length c0_13] 28 (0, 0))) := ⟨by rw [← hq_]; exact (pkx B1)⟩; have n1_ : Aside0 (w15.heap[g4]? = some (.cells #[.int .i64 ((rd_T28 l0_13 x15_1).f0), .int .i64 ((rd_T28 l0_13 x15_1).f1), .int .i64 ((rd_T28 l0_13 x15_1).f2.f0), .int .i64 ((rd_T28 l0_13 x15_1).f2.f1), .string ((rd_T28 l0_13 x15_1).f2.f2), .int .i64 ((rd_T28 l0_13 x15_1).f3.f0), .int .i64 ((rd_T28 l0_13 x15_1).f3.f1), .bool ((rd_T28 l0_13 x15_1).f3.f2), .bool ((rd_T28 l0_13 x15_1).f3.f3), .int .i64 ((rd_T28 l0_13 x15_1).f4.f0), .int .i64 ((rd_T28 l0_13 x15_1).f4.f1), .bool ((rd_T28 l0_13 x15_1).f4.f2), .bool ((rd_T28 l0_13 x15_1).f4.f3), .slice A103_13 ((rd_T28 l0_13 x15_1).f5).length c103_13] 28 (0, 0))) := ⟨by rw [← hq_]; exact (pkx B4)⟩; have n2_ : Aside0 (Below w.heap.size w w15) := ⟨by rw [← hq_]; exact (pbx HB)⟩; clear B1 B4 HB hq_; have B1 := n0_; have B4 := n1_; have HB := n2_; clear n0_ n1_ n2_))
        replace B1 := A_ (blk_drew B1.out); replace B4 := A_ (blk_drew B4.out); replace HB := A_ (below_drew1 HB.out)
        refine start_ (n:=7) (S := fun w' => w'.cell? ⟨g1, 0, none⟩ = some (.int .i64 a0_0) ∧ w'.cell? ⟨g1, 1, none⟩ = some (.int .i64 a0_1) ∧ w'.cell? ⟨g1, 2, none⟩ = some (.int .i64 a0_2) ∧ w'.cell? ⟨g1, 3, none⟩ = some (.int .i64 a0_3) ∧ w'.cell? ⟨g1, 4, none⟩ = some (.string a0_4) ∧ w'.cell? ⟨g1, 5, none⟩ = some (.int .i64 a0_5) ∧ w'.cell? ⟨g1, 6, none⟩ = some (.int .i64 a0_6) ∧ w'.cell? ⟨g1, 7, none⟩ = some (.bool a0_7) ∧ w'.cell? ⟨g1, 8, none⟩ = some (.bool a0_8) ∧ w'.cell? ⟨g1, 9, none⟩ = some (.int .i64 a0_9) ∧ w'.cell? ⟨g1, 10, none⟩ = some (.int .i64 a0_10) ∧ w'.cell? ⟨g1, 11, none⟩ = some (.bool a0_11) ∧ w'.cell? ⟨g1, 12, none⟩ = some (.bool a0_12) ∧ w'.cell? ⟨g1, 13, none⟩ = some (.slice (some ad103) l0_13.length c0_13) ∧ w'.cell? ⟨g4, 0, none⟩ = some (.int .i64 ((rd_T28 l0_13 x15_1).f0)) ∧ w'.cell? ⟨g4, 1, none⟩ = some (.int .i64 ((rd_T28 l0_13 x15_1).f1)) ∧ w'.cell? ⟨g4, 2, none⟩ = some (.int .i64 ((rd_T28 l0_13 x15_1).f2.f0)) ∧ w'.cell? ⟨g4, 3, none⟩ = some (.int .i64 ((rd_T28 l0_13 x15_1).f2.f1)) ∧ w'.cell? ⟨g4, 4, none⟩ = some (.string ((rd_T28 l0_13 x15_1).f2.f2)) ∧ w'.cell? ⟨g4, 5, none⟩ = some (.int .i64 ((rd_T28 l0_13 x15_1).f3.f0)) ∧ w'.cell? ⟨g4, 6, none⟩ = some (.int .i64 ((rd_T28 l0_13 x15_1).f3.f1)) ∧ w'.cell? ⟨g4, 7, none⟩ = some (.bool ((rd_T28 l0_13 x15_1).f3.f2)) ∧ w'.cell? ⟨g4, 8, none⟩ = some (.bool ((rd_T28 l0_13 x15_1).f3.f3)) ∧ w'.cell? ⟨g4, 9, none⟩ = some (.int .i64 ((rd_T28 l0_13 x15_1).f4.f0)) ∧ w'.cell? ⟨g4, 10, none⟩ = some (.int .i64 ((rd_T28 l0_13 x15_1).f4.f1)) ∧ w'.cell? ⟨g4, 11, none⟩ = some (.bool ((rd_T28 l0_13 x15_1).f4.f2)) ∧ w'.cell? ⟨g4, 12, none⟩ = some (.bool ((rd_T28 l0_13 x15_1).f4.f3)) ∧ w'.cell? ⟨g4, 13, none⟩ = some (.slice A103_13 ((rd_T28 l0_13 x15_1).f5).length c103_13)) (ds := []) #[F,F,F,F,F,F,F] (by kernel_rfl) rfl rfl ⟨bc_ B1 0 rfl, bc_ B1 1 rfl, bc_ B1 2 rfl, bc_ B1 3 rfl, bc_ B1 4 rfl, bc_ B1 5 rfl, bc_ B1 6 rfl, bc_ B1 7 rfl, bc_ B1 8 rfl, bc_ B1 9 rfl, bc_ B1 10 rfl, bc_ B1 11 rfl, bc_ B1 12 rfl, bc_ B1 13 rfl, bc_ B4 0 rfl, bc_ B4 1 rfl, bc_ B4 2 rfl, bc_ B4 3 rfl, bc_ B4 4 rfl, bc_ B4 5 rfl, bc_ B4 6 rfl, bc_ B4 7 rfl, bc_ B4 8 rfl, bc_ B4 9 rfl, bc_ B4 10 rfl, bc_ B4 11 rfl, bc_ B4 12 rfl, bc_ B4 13 rfl⟩ (fun hHeld => ?_)
        generalize w15.drew = w16 at B1 B4 HB hHeld ⊢; refine pure_ (i:=0) (N:=some 20) (v:=?_) (a':=?_) ⟨m_ 7 1⟩ rfl rfl (by kernel_rfl) (fun _ _ _ h=>h) (Or.inl ⟨rfl, ?_⟩) ?_ ?_; rotate_left
        ·intro w'; go_simp; with_reducible rfl
        rotate_left
        ·simp only [q_, i64_w, i32_w]; rfl
        refine pure_ (i:=2) (N:=some 22) (v:=?_) (a':=?_) ⟨m_ 7 5⟩ rfl rfl (by kernel_rfl) (fun _ _ _ h=>h) (Or.inl ⟨rfl, ?_⟩) ?_ ?_; rotate_left
        ·intro w'; go_simp; with_reducible rfl
        rotate_left
        ·simp only [q_, i64_w, i32_w]; rfl
        refine take_ (i:=1) (N:=some 21) (v:=?_) (a':=?_) ⟨m_ 7 7⟩ rfl rfl (by kernel_rfl) (fun _ _ _ h=>h) (Or.inl ⟨rfl, ?_⟩) hHeld ?_ ?_; rotate_left
        ·rintro w' ⟨s0, s1, s2, s3, s4, s5, s6, s7, s8, s9, s10, s11, s12, s13, s14, s15, s16, s17, s18, s19, s20, s21, s22, s23, s24, s25, s26, s27⟩; go_simp; with_reducible rfl
        rotate_left
        ·simp only [q_, i64_w, i32_w]; rfl
        refine take_ (i:=4) (N:=some 24) (v:=?_) (a':=?_) ⟨m_ 7 23⟩ rfl rfl (by kernel_rfl) (fun _ _ _ h=>h) (Or.inl ⟨rfl, ?_⟩) hHeld ?_ ?_; rotate_left
        ·rintro w' ⟨s0, s1, s2, s3, s4, s5, s6, s7, s8, s9, s10, s11, s12, s13, s14, s15, s16, s17, s18, s19, s20, s21, s22, s23, s24, s25, s26, s27⟩; go_simp; with_reducible rfl
        rotate_left
        ·simp only [q_, i64_w, i32_w]; rfl
        refine one_ (i:=3) (N:=some 23) ⟨m_ 7 31⟩ rfl rfl (by kernel_rfl) (by decide) (fun K hK => ?_); refine goes_ Tryd.func32 (by kernel_rfl) rfl #[.int .i64 a0_1, .int .i64 x15_1] (by rfl) rfl rfl ha_ ?_; with_reducible refine (fname_Kind.calls k1 a0_1 x15_1 t105 _ A13.out).mono ?_; rintro e w17 ⟨rfl, hb⟩; refine ⟨_, rfl, ?_⟩
        replace B1 := bb_ B1 hb; replace B4 := bb_ B4 hb; replace HB := bs_ HB hb; (try clear hb); refine hK.out _ _ ⟨bc_ B1 0 rfl, bc_ B1 1 rfl, bc_ B1 2 rfl, bc_ B1 3 rfl, bc_ B1 4 rfl, bc_ B1 5 rfl, bc_ B1 6 rfl, bc_ B1 7 rfl, bc_ B1 8 rfl, bc_ B1 9 rfl, bc_ B1 10 rfl, bc_ B1 11 rfl, bc_ B1 12 rfl, bc_ B1 13 rfl, bc_ B4 0 rfl, bc_ B4 1 rfl, bc_ B4 2 rfl, bc_ B4 3 rfl, bc_ B4 4 rfl, bc_ B4 5 rfl, bc_ B4 6 rfl, bc_ B4 7 rfl, bc_ B4 8 rfl, bc_ B4 9 rfl, bc_ B4 10 rfl, bc_ B4 11 rfl, bc_ B4 12 rfl, bc_ B4 13 rfl⟩ (fun hHeld => ?_); clear hK K; refine norm_ (a':=?_) ?_ ?_; rotate_left
        ·show Act.put _ (some 23) _ = _; simp only [q_, i64_w, i32_w]; rfl
        refine one_ (i:=5) (N:=some 25) ⟨m_ 7 63⟩ rfl rfl (by kernel_rfl) (by decide) (fun K hK => ?_); refine goes_ Tryd.func23 (by kernel_rfl) rfl #[.int .u8 t105, .agg #[.int .i64 ((rd_T28 l0_13 x15_1).f0), .int .i64 ((rd_T28 l0_13 x15_1).f1), .int .i64 ((rd_T28 l0_13 x15_1).f2.f0), .int .i64 ((rd_T28 l0_13 x15_1).f2.f1), .string ((rd_T28 l0_13 x15_1).f2.f2), .int .i64 ((rd_T28 l0_13 x15_1).f3.f0), .int .i64 ((rd_T28 l0_13 x15_1).f3.f1), .bool ((rd_T28 l0_13 x15_1).f3.f2), .bool ((rd_T28 l0_13 x15_1).f3.f3), .int .i64 ((rd_T28 l0_13 x15_1).f4.f0), .int .i64 ((rd_T28 l0_13 x15_1).f4.f1), .bool ((rd_T28 l0_13 x15_1).f4.f2), .bool ((rd_T28 l0_13 x15_1).f4.f3), .slice A103_13 ((rd_T28 l0_13 x15_1).f5).length c103_13]] (by rfl) rfl rfl ha_ ?_; with_reducible refine (node_fits.calls k1 t105 ((rd_T28 l0_13 x15_1).f0) ((rd_T28 l0_13 x15_1).f1) ((rd_T28 l0_13 x15_1).f2.f0) ((rd_T28 l0_13 x15_1).f2.f1) ((rd_T28 l0_13 x15_1).f2.f2) ((rd_T28 l0_13 x15_1).f3.f0) ((rd_T28 l0_13 x15_1).f3.f1) ((rd_T28 l0_13 x15_1).f3.f2) ((rd_T28 l0_13 x15_1).f3.f3) ((rd_T28 l0_13 x15_1).f4.f0) ((rd_T28 l0_13 x15_1).f4.f1) ((rd_T28 l0_13 x15_1).f4.f2) ((rd_T28 l0_13 x15_1).f4.f3) _ _ ((rd_T28 l0_13 x15_1).f5) t106 _ (by refine tb_ ?_ hT; repeat' (first | exact pbx HB | assumption | refine below_set ?_ (Aside0.out ?_))) ?side1 ?side2 A14.out).mono ?_
        (case side1 => exact ca_ (Kd.C_below HR103_13.out HB.out)); (case side2 => exact HC103_13.out); rintro e w18 ⟨rfl, hb⟩; refine ⟨_, rfl, ?_⟩
        replace B1 := bb_ B1 hb; replace B4 := bb_ B4 hb; replace HB := bs_ HB hb; (try clear hb); refine hK.out _ _ ⟨bc_ B1 0 rfl, bc_ B1 1 rfl, bc_ B1 2 rfl, bc_ B1 3 rfl, bc_ B1 4 rfl, bc_ B1 5 rfl, bc_ B1 6 rfl, bc_ B1 7 rfl, bc_ B1 8 rfl, bc_ B1 9 rfl, bc_ B1 10 rfl, bc_ B1 11 rfl, bc_ B1 12 rfl, bc_ B1 13 rfl, bc_ B4 0 rfl, bc_ B4 1 rfl, bc_ B4 2 rfl, bc_ B4 3 rfl, bc_ B4 4 rfl, bc_ B4 5 rfl, bc_ B4 6 rfl, bc_ B4 7 rfl, bc_ B4 8 rfl, bc_ B4 9 rfl, bc_ B4 10 rfl, bc_ B4 11 rfl, bc_ B4 12 rfl, bc_ B4 13 rfl⟩ (fun hHeld => ?_); clear hK K; refine norm_ (a':=?_) ?_ ?_; rotate_left
        ·show Act.put _ (some 25) _ = _; simp only [q_, i64_w, i32_w]; rfl
        refine pure_ (i:=6) (N:=some 26) (v:=?_) (a':=?_) ⟨m_ 7 127⟩ rfl rfl (by kernel_rfl) (fun _ _ _ h=>h) (Or.inl ⟨rfl, ?_⟩) ?_ ?_; rotate_left
        ·intro w'; go_simp; with_reducible rfl
        rotate_left
        ·simp only [q_, i64_w, i32_w]; rfl
        refine done_ (by kernel_rfl) ?_
        try go_wp2
        go_meet
        case rel => exact ⟨_, (!t106), (by first | rfl | (simp; done) | (simp [*]; done) | (cases t106 <;> simp; done)), H', ⟨by have := HK1.out; first | omega | exact Nat.le_refl _⟩, ⟨pkx B1⟩, ⟨pkx B4⟩, ⟨pbx HB⟩⟩
       case rest =>
        clear HC9; (try clear c3); (try clear c6); (try clear c6b0); (try clear c7); (try clear c7b0); (try clear c8); (try clear c8b0); (try clear hcz12_0); (try clear hcz12_1); (try clear hcz12_10); (try clear hcz12_11); (try clear hcz12_12); (try clear hcz12_13); (try clear hcz12_2); (try clear hcz12_3); (try clear hcz12_4); (try clear hcz12_5); (try clear hcz12_6); (try clear hcz12_7); (try clear hcz12_8); (try clear hcz12_9); (try clear hcz5_0); (try clear hcz5_1); (try clear hcz5_10); (try clear hcz5_11); (try clear hcz5_12); (try clear hcz5_13); (try clear hcz5_2); (try clear hcz5_3); (try clear hcz5_4); (try clear hcz5_5); (try clear hcz5_6); (try clear hcz5_7); (try clear hcz5_8); (try clear hcz5_9); (try clear hfz12_0); (try clear hfz12_1); (try clear hfz12_10); (try clear hfz12_11); (try clear hfz12_12); (try clear hfz12_13); (try clear hfz12_2); (try clear hfz12_3); (try clear hfz12_4); (try clear hfz12_5); (try clear hfz12_6); (try clear hfz12_7); (try clear hfz12_8); (try clear hfz12_9); (try clear hfz5_0); (try clear hfz5_1); (try clear hfz5_10); (try clear hfz5_11); (try clear hfz5_12); (try clear hfz5_13); (try clear hfz5_2); (try clear hfz5_3); (try clear hfz5_4); (try clear hfz5_5); (try clear hfz5_6); (try clear hfz5_7); (try clear hfz5_8); (try clear hfz5_9); (try clear hx103_0); (try clear hx103_1); (try clear hx103_10); (try clear hx103_11); (try clear hx103_12); (try clear hx103_13); (try clear hx103_2); (try clear hx103_3); (try clear hx103_4); (try clear hx103_5); (try clear hx103_6); (try clear hx103_7); (try clear hx103_8); (try clear hx103_9); (try clear p103)
        (try clear q103); obtain ⟨kq, x26_8, rfl, HA, HJ8, B1, B4, HB⟩ := hcut
        cases kq with
        | zero => exact absurd HA.out (by simp [node_called.j1])
        | succ kj8 =>
         have H := HA.out; clear HA
         simp only [node_called.j1] at H
         replace H := ib_ H; rcases H with ⟨rfl,H⟩|⟨rfl,H⟩
         ·obtain rfl := Option.some.inj H
          go_wp2
          go_ret
          exact fi_ (pbx HB)
         ·have H' := A_ H
          clear H
          go_wp2
          go_roundg kj8
          case measure => have := HK1.out; have := HJ8.out; omega
          case rel => exact ⟨(wrap64 (x15_1 + 1)), sq_, H', ⟨by have := HK1.out; have := HJ8.out; omega⟩, ⟨pkx B1⟩, ⟨pbx HB⟩⟩
      ·rw [if_neg c8] at H
       exact absurd H (by simp)
     ·rw [if_neg c7] at H
      exact absurd H (by simp)
    ·rw [if_neg c6] at H; have c6b0 := decide_eq_false c6; clear c6; obtain rfl := Option.some.inj H
     go_wp2
     go_ret
     exact fi_ (pbx HB)
 ·obtain rfl := Option.some.inj H
  go_enter Tryd.func24, Tryd.ntmps24
  go_wp2_with (first | ((with_reducible refine gd_ 1 ?_); refine be_ (N:=1) (cs := #[.int .i64 a0_0, .int .i64 a0_1, .int .i64 a0_2, .int .i64 a0_3, .string a0_4, .int .i64 a0_5, .int .i64 a0_6, .bool a0_7, .bool a0_8, .int .i64 a0_9, .int .i64 a0_10, .bool a0_11, .bool a0_12, .slice A0_13 l0_13.length c0_13]) (t:=28) ?_; intro g1 hg w20 hbox hb; have B1 := A_ (hbox); have GW101 := hs_ HB hg; have GE101 := hs_ HB hg; replace HB := bs_ HB hb; clear hb hbox hg; have hcz21_0 : w20.cell? ⟨g1, 0, none⟩ = some (.int .i64 a0_0) := bc_ B1 0 rfl; have hcz21_1 : w20.cell? ⟨g1, 1, none⟩ = some (.int .i64 a0_1) := bc_ B1 1 rfl; have hcz21_2 : w20.cell? ⟨g1, 2, none⟩ = some (.int .i64 a0_2) := bc_ B1 2 rfl; have hcz21_3 : w20.cell? ⟨g1, 3, none⟩ = some (.int .i64 a0_3) := bc_ B1 3 rfl; have hcz21_4 : w20.cell? ⟨g1, 4, none⟩ = some (.string a0_4) := bc_ B1 4 rfl; have hcz21_5 : w20.cell? ⟨g1, 5, none⟩ = some (.int .i64 a0_5) := bc_ B1 5 rfl; have hcz21_6 : w20.cell? ⟨g1, 6, none⟩ = some (.int .i64 a0_6) := bc_ B1 6 rfl; have hcz21_7 : w20.cell? ⟨g1, 7, none⟩ = some (.bool a0_7) := bc_ B1 7 rfl; have hcz21_8 : w20.cell? ⟨g1, 8, none⟩ = some (.bool a0_8) := bc_ B1 8 rfl; have hcz21_9 : w20.cell? ⟨g1, 9, none⟩ = some (.int .i64 a0_9) := bc_ B1 9 rfl; have hcz21_10 : w20.cell? ⟨g1, 10, none⟩ = some (.int .i64 a0_10) := bc_ B1 10 rfl; have hcz21_11 : w20.cell? ⟨g1, 11, none⟩ = some (.bool a0_11) := bc_ B1 11 rfl; have hcz21_12 : w20.cell? ⟨g1, 12, none⟩ = some (.bool a0_12) := bc_ B1 12 rfl; have hcz21_13 : w20.cell? ⟨g1, 13, none⟩ = some (.slice A0_13 l0_13.length c0_13) := bc_ B1 13 rfl; have hfz21_0 := blk_frozen B1.out 0; have hfz21_1 := blk_frozen B1.out 1; have hfz21_2 := blk_frozen B1.out 2; have hfz21_3 := blk_frozen B1.out 3; have hfz21_4 := blk_frozen B1.out 4; have hfz21_5 := blk_frozen B1.out 5; have hfz21_6 := blk_frozen B1.out 6; have hfz21_7 := blk_frozen B1.out 7; have hfz21_8 := blk_frozen B1.out 8; have hfz21_9 := blk_frozen B1.out 9; have hfz21_10 := blk_frozen B1.out 10; have hfz21_11 := blk_frozen B1.out 11; have hfz21_12 := blk_frozen B1.out 12; have hfz21_13 := blk_frozen B1.out 13) | ((with_reducible refine gate_callee (f:=31) rfl ?_); refine gL_ (some 10) rfl rfl Tryd.func31 rfl #[.int .i64 a0_1, .int .i64 (l0_13.length : Int)] rfl ?_; (with_reducible refine (fname_Fits.calls k a0_1 (l0_13.length : Int) false _ A2.out).mono ?_); rintro e w' ⟨rfl, ⟨nd, rfl⟩⟩; refine ⟨_, rfl, ?_⟩))
  go_ret
  exact fi_ (pbx HB)

theorem eqA23 (d : Nat) (w : World) (x0 y0 : Int) (x1 y1 : Int) (x2 y2 : ByteArray) :
  (Op.equalIn (d + 2) 23 (.agg #[.int .i64 x0, .int .i64 x1, .string x2]) (.agg #[.int .i64 y0, .int .i64 y1, .string y2])).run Tryd.prog w = .ok (x0 == y0 && (x1 == y1 && (x2.toList == y2.toList))) w := by
 refine eqA_of Tryd.underlying23 (by kernel_rfl) ?_
 refine eqf_cons (by rfl) (by go_simp; rfl) (by go_simp; rfl) (by go_simp) ?_
 refine eqf_cons (by rfl) (by go_simp; rfl) (by go_simp; rfl) (by go_simp) ?_
 exact eqf_last (by rfl) (by go_simp; rfl) (by go_simp; rfl) (by go_simp)
theorem eqA25 (d : Nat) (w : World) (x0 y0 : Int) (x1 y1 : Int) (x2 y2 : Bool) (x3 y3 : Bool) :
  (Op.equalIn (d + 2) 25 (.agg #[.int .i64 x0, .int .i64 x1, .bool x2, .bool x3]) (.agg #[.int .i64 y0, .int .i64 y1, .bool y2, .bool y3])).run Tryd.prog w = .ok (x0 == y0 && (x1 == y1 && (x2 == y2 && (x3 == y3)))) w := by
 refine eqA_of Tryd.underlying25 (by kernel_rfl) ?_
 refine eqf_cons (by rfl) (by go_simp; rfl) (by go_simp; rfl) (by go_simp) ?_
 refine eqf_cons (by rfl) (by go_simp; rfl) (by go_simp; rfl) (by go_simp) ?_
 refine eqf_cons (by rfl) (by go_simp; rfl) (by go_simp; rfl) (by go_simp) ?_
 exact eqf_last (by rfl) (by go_simp; rfl) (by go_simp; rfl) (by go_simp)
end Go.Proofs.YtdddhabemdbooaaDoor.X
/- The contract of node.has: which parts of a node are not zero. -/
set_option linter.unusedVariables false
set_option linter.unusedSimpArgs false
namespace Go.Proofs.YtdddhabemdbooaaDoor.X
open Go.RowKit Go.Proofs.YtdddhabemdbooaaDoorW.PrintWords Go.Proofs.YtdddhabemdbooaaDoorW.PrintLast Go.Proofs.YtdddhabemdbooaaDoorW.PrintMore
attribute [local go_sem high] eqA23 eqA25
def hasB (b0 b1 b2 b3 b4 : Bool) : Nat → Int
 | 0 => 0
 | 1 => if b0 = true then 1 else 0
 | 2 => (if b0 = true then 1 else 0) + (if b1 = true then 2 else 0)
 | 3 => (if b0 = true then 1 else 0) + (if b1 = true then 2 else 0) + (if b2 = true then 4 else 0)
 | 4 => (if b0 = true then 1 else 0) + (if b1 = true then 2 else 0) + (if b2 = true then 4 else 0) + (if b3 = true then 8 else 0)
 | _ => (if b0 = true then 1 else 0) + (if b1 = true then 2 else 0) + (if b2 = true then 4 else 0) + (if b3 = true then 8 else 0) + (if b4 = true then 16 else 0)
def node_has.f (a0_0 a0_1 a0_2 a0_3 : Int) (a0_4 : ByteArray) (a0_5 a0_6 : Int) (a0_7 a0_8 : Bool) (a0_9 a0_10 : Int) (a0_11 a0_12 : Bool) (l0_13 : List S28) : Option Int :=
 some (hasB (a0_1 != 0) (!(a0_2 == 0) || (!(a0_3 == 0) || !a0_4.toList.isEmpty)) (!(a0_5 == 0) || (!(a0_6 == 0) || (a0_7 || a0_8))) (!(a0_9 == 0) || (!(a0_10 == 0) || (a0_11 || a0_12))) (decide (0 < l0_13.length)) 5)
theorem cast_K {K : Act → World → Prop} {a : Act} {d : Option Tmp} {v v2 : Value} {w : World} (e : v = v2) (h : K (a.put d v2) w) : K (a.put d v) w := e ▸ h
theorem node_has.calls (a0_0 : Int) (a0_1 : Int) (a0_2 : Int) (a0_3 : Int) (a0_4 : ByteArray) (a0_5 : Int) (a0_6 : Int) (a0_7 : Bool) (a0_8 : Bool) (a0_9 : Int) (a0_10 : Int) (a0_11 : Bool) (a0_12 : Bool) (A0_13 : Option Addr) (c0_13 : Nat) (l0_13 : List (S28)) (r : Int) (w : World) (hr0_13 : Kd.C k28 w A0_13 l0_13.length l0_13) (hc0_13 : l0_13.length ≤ c0_13) (h : node_has.f a0_0 a0_1 a0_2 a0_3 a0_4 a0_5 a0_6 a0_7 a0_8 a0_9 a0_10 a0_11 a0_12 l0_13 = some r) :
  Calls Tryd.prog 20 #[.agg #[.int .i64 a0_0, .int .i64 a0_1, .int .i64 a0_2, .int .i64 a0_3, .string a0_4, .int .i64 a0_5, .int .i64 a0_6, .bool a0_7, .bool a0_8, .int .i64 a0_9, .int .i64 a0_10, .bool a0_11, .bool a0_12, .slice A0_13 l0_13.length c0_13]] w fun e w' => e = .returned (.int .u64 r) ∧ Below w.heap.size w w' := by
 have HRR := Aside0.mk (Option.some.inj h)
 clear h hr0_13 hc0_13
 have hu28 := Tryd.underlying28
 have hu25 := Tryd.underlying25
 have hu23 := Tryd.underlying23
 have HB := Aside0.mk (Below.refl w.heap.size w)
 obtain ⟨hz, hes⟩ : ∃ h : 4 < Tryd.prog.types.size, (Tryd.prog.types[4]'h).size = 1 := ⟨of_decide_eq_true (by kernel_rfl), by kernel_rfl⟩
 go_enter Tryd.func20, Tryd.ntmps20
 go_wp2
 go_quiet (fail)
 have HB2 := Aside0.mk (pw_below_drewN (below_alloc HB.out (Obj.cells #[Value.int IntKind.i64 a0_0, Value.int IntKind.i64 a0_1, Value.int IntKind.i64 a0_2, Value.int IntKind.i64 a0_3, Value.string a0_4, Value.int IntKind.i64 a0_5, Value.int IntKind.i64 a0_6, Value.bool a0_7, Value.bool a0_8, Value.int IntKind.i64 a0_9, Value.int IntKind.i64 a0_10, Value.bool a0_11, Value.bool a0_12, Value.slice A0_13 l0_13.length c0_13] 28)) nq)
 generalize (World.drewN (w.alloc (Obj.cells #[Value.int IntKind.i64 a0_0, Value.int IntKind.i64 a0_1, Value.int IntKind.i64 a0_2, Value.int IntKind.i64 a0_3, Value.string a0_4, Value.int IntKind.i64 a0_5, Value.int IntKind.i64 a0_6, Value.bool a0_7, Value.bool a0_8, Value.int IntKind.i64 a0_9, Value.int IntKind.i64 a0_10, Value.bool a0_11, Value.bool a0_12, Value.slice A0_13 l0_13.length c0_13] 28)) nq) = w2 at HB2 ⊢
 generalize (a0_1 != 0) = b0 at *
 generalize (!(a0_2 == 0) || (!(a0_3 == 0) || !a0_4.toList.isEmpty)) = b1 at *
 generalize (!(a0_5 == 0) || (!(a0_6 == 0) || (a0_7 || a0_8))) = b2 at *
 generalize (!(a0_9 == 0) || (!(a0_10 == 0) || (a0_11 || a0_12))) = b3 at *
 generalize (decide (0 < l0_13.length)) = b4 at *
 clear HB
 go_wp2
 go_loop [3, 26] (fun o i => ∃ k : Nat, k ≤ 5 ∧ i = .int .i64 k ∧ o = .int .u64 (hasB b0 b1 b2 b3 b4 k)) (fun _ i => 5 - (intOf i).toNat)
 case atStart => exact ⟨0, by omega, rfl, rfl⟩
 case round =>
  obtain ⟨k, hk, rfl, rfl⟩ := hrel
  match k, hk with
  | 5, _ =>
   go_wp2
   go_ret
   exact ⟨by rw [← HRR.out]; rfl, HB2.out⟩
  | 0, _ =>
   cases b0
   all_goals
    go_wp2
    refine cast_K (by simp only [hes]; rfl) ?_
    go_wp2
    go_round
    case rel => exact ⟨1, by omega, rfl, by first | rfl | (refine congrArg (Value.int IntKind.u64) ?_; simp only [hasB, if_true, if_false, Bool.false_eq_true]; decide +kernel)⟩
    case measure => simp [intOf]
  | 1, _ =>
   cases b0 <;> cases b1
   all_goals
    go_wp2
    refine cast_K (by simp only [hes]; rfl) ?_
    go_wp2
    go_round
    case rel => exact ⟨2, by omega, rfl, by first | rfl | (refine congrArg (Value.int IntKind.u64) ?_; simp only [hasB, if_true, if_false, Bool.false_eq_true]; decide +kernel)⟩
    case measure => simp [intOf]
  | 2, _ =>
   cases b0 <;> cases b1 <;> cases b2
   all_goals
    go_wp2
    refine cast_K (by simp only [hes]; rfl) ?_
    go_wp2
    go_round
    case rel => exact ⟨3, by omega, rfl, by first | rfl | (refine congrArg (Value.int IntKind.u64) ?_; simp only [hasB, if_true, if_false, Bool.false_eq_true]; decide +kernel)⟩
    case measure => simp [intOf]
  | 3, _ =>
   cases b0 <;> cases b1 <;> cases b2 <;> cases b3
   all_goals
    go_wp2
    refine cast_K (by simp only [hes]; rfl) ?_
    go_wp2
    go_round
    case rel => exact ⟨4, by omega, rfl, by first | rfl | (refine congrArg (Value.int IntKind.u64) ?_; simp only [hasB, if_true, if_false, Bool.false_eq_true]; decide +kernel)⟩
    case measure => simp [intOf]
  | 4, _ =>
   cases b0 <;> cases b1 <;> cases b2 <;> cases b3 <;> cases b4
   all_goals
    go_wp2
    refine cast_K (by simp only [hes]; rfl) ?_
    go_wp2
    go_round
    case rel => exact ⟨5, by omega, rfl, by first | rfl | (refine congrArg (Value.int IntKind.u64) ?_; simp only [hasB, if_true, if_false, Bool.false_eq_true]; decide +kernel)⟩
    case measure => simp [intOf]
end Go.Proofs.YtdddhabemdbooaaDoor.X
