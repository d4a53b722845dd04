/- Contracts of the functions that the law NodeTells reaches, and what they answer (a session's own texts, joined; part 5). -/
import Derived.Test.YtdddhabemdbooaaDoorBNodeTells4
set_option maxHeartbeats 8000000
set_option maxRecDepth 100000
namespace Go.Proofs.YtdddhabemdbooaaDoor.X
open Go.RowKit Go.Proofs.YtdddhabemdbooaaDoorW.PrintWords Go.Proofs.YtdddhabemdbooaaDoorW.PrintLast Go.Proofs.YtdddhabemdbooaaDoorW.PrintMore
attribute [local go_sem] max2_int min2_int max_two min_two max_three min_three max_four min_four
set_option linter.unusedVariables false
set_option linter.unusedSimpArgs false
def oculusref01_Text.l0 : Nat → ByteArray → List Int → Int → Option (ByteArray)
 | 0, _, _, _ => none
 | k + 1, x3, x4, x5 => if x5 < (x4.length : Int) then (if x5 > 0 then (if x3.size + 1 ≤ 9223372036854775807 then (if 0 ≤ x5 then ((oculusref01_Digits.f k (rd x4 x5)).bind fun t105 => (if (x3 ++ (⟨#[44]⟩ : ByteArray)).size + t105.size ≤ 9223372036854775807 then (oculusref01_Text.l0 k ((x3 ++ (⟨#[44]⟩ : ByteArray)) ++ t105) x4 (wrap64 (x5 + 1))) else (none))) else (none)) else (none)) else (if 0 ≤ x5 then ((oculusref01_Digits.f k (rd x4 x5)).bind fun t107 => (if x3.size + t107.size ≤ 9223372036854775807 then (oculusref01_Text.l0 k (x3 ++ t107) x4 (wrap64 (x5 + 1))) else (none))) else (none))) else (some x3)
def oculusref01_Text.f (k : Nat) (a0 : Int) : Option (ByteArray) := (oculusref01_List.f k a0).bind fun t101 => (oculusref01_Text.l0 k (⟨#[]⟩ : ByteArray) t101 0)
theorem oculusref01_Text.calls (k : Nat) (a0 : Int) (r : ByteArray) (w : World) (h : oculusref01_Text.f k a0 = some r) :
  Calls Tryd.prog 64 #[.int .u64 a0] w fun e w' => e = .returned (.string r) ∧ Below w.heap.size w w' := by
 have HB := A_ (Below.refl w.heap.size w)
 have H : ((oculusref01_List.f k a0).bind fun t101 => (oculusref01_Text.l0 k (⟨#[]⟩ : ByteArray) t101 0)) = some r := h
 clear h; obtain ⟨t101, A2, H⟩ := bo_ H
 have H' := A_ H
 clear H
 go_enter Tryd.func64, Tryd.ntmps64
 go_wp2_with (first | ((with_reducible refine gate_callee (f:=77) rfl ?_); refine gL_ (some 7) rfl rfl Tryd.func77 rfl #[.int .u64 a0] rfl ?_; (with_reducible refine (oculusref01_List.calls k a0 t101 _ A2.out).mono ?_); rintro e w3 ⟨v102, rfl, ho0, hb⟩; refine ⟨_, rfl, ?_⟩; have HO103 := A_ (Kd.R_lower ho0 (below_size (pbx HB))); replace HB := bs_ HB hb; ))
 go_loopg [3, 5] k (fun kq v3 v5 w' => ∃ (x3_1 : ByteArray) (x5_1 : Int), v3 = .string x3_1 ∧ v5 = .int .i64 x5_1 ∧ Aside0 (oculusref01_Text.l0 kq x3_1 t101 x5_1 = some r) ∧ Aside0 (kq ≤ k) ∧ Aside0 (Kd.R (Kd.int .i64) 3 w' w.heap.size (fun _ => True) v102 t101) ∧ Aside0 (Below w.heap.size w w'))
 case atStart => exact ⟨((⟨#[]⟩ : ByteArray)), (0), sq_, sq_, H', ⟨Nat.le_refl _⟩, ⟨ra_ HO103.out⟩, ⟨pbx HB⟩⟩
 case round =>
  clear H'; obtain ⟨x3_1, x5_1, rfl, rfl, HA, HK1, HO_4, HB⟩ := hrel
  cases gk with
  | zero => exact absurd HA.out (by simp [oculusref01_Text.l0])
  | succ k1 =>
   have H := HA.out; clear HA
   simp only [oculusref01_Text.l0] at H
   by_cases c4 : x5_1 < (t101.length : Int)
   ·rw [if_pos c4] at H; have c4b0 := decide_eq_true c4; clear c4
    by_cases c5 : x5_1 > 0
    ·rw [if_pos c5] at H; have c5b0 := decide_eq_true c5; clear c5
     by_cases c6 : x3_1.size + 1 ≤ 9223372036854775807
     ·rw [if_pos c6] at H; have c6b0 := eq_true c6; have c6b1 := decide_eq_true c6
      try have c6b2 : (9223372036854775807 < x3_1.size + 1) = False := eq_false (Nat.not_lt.2 c6)
      by_cases c7 : 0 ≤ x5_1
      ·rw [if_pos c7] at H; have c7b0 := decide_eq_true c7; clear c7; obtain ⟨t105, A8, H⟩ := bo_ H
       by_cases c9 : (x3_1 ++ (⟨#[44]⟩ : ByteArray)).size + t105.size ≤ 9223372036854775807
       ·rw [if_pos c9] at H; have c9b0 := eq_true c9; have c9b1 := decide_eq_true c9
        try have c9b2 : (9223372036854775807 < (x3_1 ++ (⟨#[44]⟩ : ByteArray)).size + t105.size) = False := eq_false (Nat.not_lt.2 c9)
        try have c9b2z : (9223372036854775807 < x3_1.size + 1 + t105.size) = False := by have h9_ := c9b2; rw [ByteArray.size_append] at h9_; exact h9_
        have H' := A_ H
        clear H; obtain ⟨Ao10, co10, eo10⟩ := Kd.R_slice HO_4.out; subst eo10
        have p104 : 0 ≤ (x5_1 : Int) := of_decide_eq_true as_
        have q104 : x5_1 < (t101.length : Int) := of_decide_eq_true as_
        obtain ⟨ad104, e104, hx104_0⟩ := Kd.at_int (Kd.R_reads' HO_4.out).2.2 x5_1 p104 q104
        cases e104
        replace p104 := eq_true p104; replace q104 := eq_true q104
        go_wp2_with (first | ((with_reducible refine gate_callee (f:=55) rfl ?_); refine gL_ (some 23) rfl rfl Tryd.func55 rfl #[.int .i64 (rd t101 x5_1)] rfl ?_; (with_reducible refine (oculusref01_Digits.calls k1 (rd t101 x5_1) t105 _ A8.out).mono ?_); rintro e w11 ⟨rfl, hb⟩; refine ⟨_, rfl, ?_⟩; replace HO_4 := A_ (Kd.R_below (ra_ HO_4.out) hb); replace HB := bs_ HB hb; (try clear hb); ))
        go_roundg k1
        case measure => have := HK1.out; omega
        case rel => exact ⟨((x3_1 ++ (⟨#[44]⟩ : ByteArray)) ++ t105), (wrap64 (x5_1 + 1)), (by first | rfl | (simp; done) | (simp [*]; done) | (cases t105 <;> simp; done)), sq_, H', ⟨by have := HK1.out; omega⟩, ⟨ra_ HO_4.out⟩, ⟨pbx HB⟩⟩
       ·rw [if_neg c9] at H
        exact absurd H (by simp)
      ·rw [if_neg c7] at H
       exact absurd H (by simp)
     ·rw [if_neg c6] at H
      exact absurd H (by simp)
    ·rw [if_neg c5] at H; have c5b0 := decide_eq_false c5; clear c5
     by_cases c12 : 0 ≤ x5_1
     ·rw [if_pos c12] at H; have c12b0 := decide_eq_true c12; clear c12; obtain ⟨t107, A13, H⟩ := bo_ H
      by_cases c14 : x3_1.size + t107.size ≤ 9223372036854775807
      ·rw [if_pos c14] at H; have c14b0 := eq_true c14; have c14b1 := decide_eq_true c14
       try have c14b2 : (9223372036854775807 < x3_1.size + t107.size) = False := eq_false (Nat.not_lt.2 c14)
       have H' := A_ H
       clear H; obtain ⟨Ao15, co15, eo15⟩ := Kd.R_slice HO_4.out; subst eo15
       have p106 : 0 ≤ (x5_1 : Int) := of_decide_eq_true as_
       have q106 : x5_1 < (t101.length : Int) := of_decide_eq_true as_
       obtain ⟨ad106, e106, hx106_0⟩ := Kd.at_int (Kd.R_reads' HO_4.out).2.2 x5_1 p106 q106
       cases e106
       replace p106 := eq_true p106; replace q106 := eq_true q106
       go_wp2_with (first | ((with_reducible refine gate_callee (f:=55) rfl ?_); refine gL_ (some 23) rfl rfl Tryd.func55 rfl #[.int .i64 (rd t101 x5_1)] rfl ?_; (with_reducible refine (oculusref01_Digits.calls k1 (rd t101 x5_1) t107 _ A13.out).mono ?_); rintro e w16 ⟨rfl, hb⟩; refine ⟨_, rfl, ?_⟩; replace HO_4 := A_ (Kd.R_below (ra_ HO_4.out) hb); replace HB := bs_ HB hb; (try clear hb); ))
       go_roundg k1
       case measure => have := HK1.out; omega
       case rel => exact ⟨(x3_1 ++ t107), (wrap64 (x5_1 + 1)), (by first | rfl | (simp; done) | (simp [*]; done) | (cases t107 <;> simp; done)), sq_, H', ⟨by have := HK1.out; omega⟩, ⟨ra_ HO_4.out⟩, ⟨pbx HB⟩⟩
      ·rw [if_neg c14] at H
       exact absurd H (by simp)
     ·rw [if_neg c12] at H
      exact absurd H (by simp)
   ·rw [if_neg c4] at H; have c4b0 := decide_eq_false c4; clear c4; obtain rfl := Option.some.inj H; obtain ⟨Ao17, co17, eo17⟩ := Kd.R_slice HO_4.out; subst eo17
    go_wp2
    go_ret
    exact fi_ (pbx HB)

mutual
def oculusref01_Parse.l0 : Nat → ByteArray → Int → Int → Int → Option (Int × Bool)
 | 0, _, _, _, _ => none
 | k + 1, x0, x3, x4, x5 => if x5 ≤ (x0.size : Int) then (if x5 < (x0.size : Int) then (if 0 ≤ x5 then (if (bt x0 x5) ≥ 48 then (if (bt x0 x5) ≤ 57 then (oculusref01_Parse.j1 k x0 x3 x4 x5 (decide (x4 < 100))) else (oculusref01_Parse.j1 k x0 x3 x4 x5 false)) else (oculusref01_Parse.j1 k x0 x3 x4 x5 false)) else (none)) else (oculusref01_Parse.j1 k x0 x3 x4 x5 false)) else ((oculusref01_Text.f k x3).bind fun t102 => (if t102.toList = x0.toList then (some (x3, true)) else (some (0, false))))
def oculusref01_Parse.j1 : Nat → ByteArray → Int → Int → Int → Bool → Option (Int × Bool)
 | 0, _, _, _, _, _ => none
 | k + 1, x0, x3, x4, x5, x31 => if x31 = true then (if 0 ≤ x5 then (if x5 < (x0.size : Int) then (oculusref01_Parse.l0 k x0 x3 (wrap64 ((wrap64 ((wrap64 ((mx x4 0) * 10)) + (wrap64 (bt x0 x5)))) - 48)) (wrap64 (x5 + 1))) else (none)) else (none)) else (if x4 ≥ 0 then (oculusref01_Parse.j2 k x0 x3 x4 x5 (decide (x4 < 64))) else (oculusref01_Parse.j2 k x0 x3 x4 x5 false))
def oculusref01_Parse.j2 : Nat → ByteArray → Int → Int → Int → Bool → Option (Int × Bool)
 | 0, _, _, _, _, _ => none
 | k + 1, x0, x3, x4, x5, x46 => if x46 = true then ((oculusref01_One.f k x4).bind fun t103 => ((oculusref01_Join.f k x3 t103).bind fun t104 => (oculusref01_Parse.l0 k x0 t104 (-1) (wrap64 (x5 + 1))))) else (oculusref01_Parse.l0 k x0 x3 (-1) (wrap64 (x5 + 1)))
end
def oculusref01_Parse.f (k : Nat) (a0 : ByteArray) : Option (Int × Bool) := oculusref01_Parse.l0 k a0 0 (-1) 0
theorem oculusref01_Parse.calls (k : Nat) (a0 : ByteArray) (r1 : Int) (r2 : Bool) (w : World) (h : oculusref01_Parse.f k a0 = some (r1, r2)) :
  Calls Tryd.prog 56 #[.string a0] w fun e w' => e = .returned (.agg #[.int .u64 r1, .bool r2]) ∧ Below w.heap.size w w' := by
 have hu73 := Tryd.underlying73; have HB := A_ (Below.refl w.heap.size w)
 have H : (oculusref01_Parse.l0 k a0 0 (-1) 0) = some (r1, r2) := h
 clear h
 have H' := A_ H
 clear H
 go_enter Tryd.func56, Tryd.ntmps56
 go_wp2_with (first | ((with_reducible refine gd_ 2 ?_); refine be_ (N:=2) (cs := #[.int .u64 0, .bool false]) (t:=73) ?_; intro g1 hg w2 hbox hb; have B1 := A_ (hbox); have GW101 := hs_ HB hg; have GE101 := hs_ HB hg; replace HB := bs_ HB hb; clear hb hbox hg))
 go_loopg [3, 4, 5] k (fun kq v3 v4 v5 w' => ∃ (x3_1 : Int) (x4_1 : Int) (x5_1 : Int), v3 = .int .u64 x3_1 ∧ v4 = .int .i64 x4_1 ∧ v5 = .int .i64 x5_1 ∧ Aside0 (oculusref01_Parse.l0 kq a0 x3_1 x4_1 x5_1 = some (r1, r2)) ∧ Aside0 (kq ≤ k) ∧ Aside0 (w'.heap[g1]? = some (.cells #[.int .u64 0, .bool false] 73 (0, 0))) ∧ Aside0 (Below w.heap.size w w'))
 case atStart => exact ⟨(0), ((-1)), (0), sq_, sq_, sq_, H', ⟨Nat.le_refl _⟩, ⟨pkx B1⟩, ⟨pbx HB⟩⟩
 case round =>
  clear H'; obtain ⟨x3_1, x4_1, x5_1, rfl, rfl, rfl, HA, HK1, B1, HB⟩ := hrel
  cases gk with
  | zero => exact absurd HA.out (by simp [oculusref01_Parse.l0])
  | succ k1 =>
   have H := HA.out; clear HA
   simp only [oculusref01_Parse.l0] at H
   by_cases c3 : x5_1 ≤ (a0.size : Int)
   ·rw [if_pos c3] at H; have c3b0 := decide_eq_true c3; clear c3; have HC4 := A_ H; clear H
    go_upto_region 6 with (fail)
    go_cut [31] (fun v31 wc => ∃ (kq : Nat) (x31_3 : Bool), v31 = .bool x31_3 ∧ Aside0 (oculusref01_Parse.j1 kq a0 x3_1 x4_1 x5_1 x31_3 = some (r1, r2)) ∧ Aside0 (kq ≤ k1) ∧ Aside0 (wc.heap[g1]? = some (.cells #[.int .u64 0, .bool false] 73 (0, 0))) ∧ Aside0 (Below w.heap.size w wc))
    case first =>
     have H := HC4.out; clear HC4
     by_cases c5 : x5_1 < (a0.size : Int)
     ·rw [if_pos c5] at H; have c5b0 := decide_eq_true c5; clear c5; (first | rw [c5b0] | (simp only [i64_w, i32_w]; rw [c5b0]) | skip)
      by_cases c6 : 0 ≤ x5_1
      ·rw [if_pos c6] at H; have c6b0 := decide_eq_true c6; clear c6
       by_cases c8 : (bt a0 x5_1) ≥ 48
       ·rw [if_pos c8] at H; have c8b0 := decide_eq_true c8; clear c8
        by_cases c10 : (bt a0 x5_1) ≤ 57
        ·rw [if_pos c10] at H; have c10b0 := decide_eq_true c10; clear c10
         have H' := A_ H
         clear H
         have p7 : 0 ≤ (x5_1 : Int) := of_decide_eq_true as_
         have q7 : x5_1 < (a0.size : Int) := of_decide_eq_true as_
         have hx7 := bt_at a0 x5_1; replace p7 := eq_true p7; replace q7 := eq_true q7
         have p9 : 0 ≤ (x5_1 : Int) := of_decide_eq_true as_
         have q9 : x5_1 < (a0.size : Int) := of_decide_eq_true as_
         have hx9 := bt_at a0 x5_1; replace p9 := eq_true p9; replace q9 := eq_true q9
         go_wp2
         go_meet
         case rel => exact ⟨_, (decide (x4_1 < 100)), sq_, H', ⟨by have := HK1.out; first | omega | exact Nat.le_refl _⟩, ⟨pkx B1⟩, ⟨pbx HB⟩⟩
        ·rw [if_neg c10] at H; have c10b0 := decide_eq_false c10; clear c10
         have H' := A_ H
         clear H
         have p7 : 0 ≤ (x5_1 : Int) := of_decide_eq_true as_
         have q7 : x5_1 < (a0.size : Int) := of_decide_eq_true as_
         have hx7 := bt_at a0 x5_1; replace p7 := eq_true p7; replace q7 := eq_true q7
         have p9 : 0 ≤ (x5_1 : Int) := of_decide_eq_true as_
         have q9 : x5_1 < (a0.size : Int) := of_decide_eq_true as_
         have hx9 := bt_at a0 x5_1; replace p9 := eq_true p9; replace q9 := eq_true q9
         go_wp2
         go_meet
         case rel => exact ⟨_, (false), sq_, H', ⟨by have := HK1.out; first | omega | exact Nat.le_refl _⟩, ⟨pkx B1⟩, ⟨pbx HB⟩⟩
       ·rw [if_neg c8] at H; have c8b0 := decide_eq_false c8; clear c8
        have H' := A_ H
        clear H
        have p7 : 0 ≤ (x5_1 : Int) := of_decide_eq_true as_
        have q7 : x5_1 < (a0.size : Int) := of_decide_eq_true as_
        have hx7 := bt_at a0 x5_1; replace p7 := eq_true p7; replace q7 := eq_true q7
        go_wp2
        go_meet
        case rel => exact ⟨_, (false), sq_, H', ⟨by have := HK1.out; first | omega | exact Nat.le_refl _⟩, ⟨pkx B1⟩, ⟨pbx HB⟩⟩
      ·rw [if_neg c6] at H
       exact absurd H (by simp)
     ·rw [if_neg c5] at H; have c5b0 := decide_eq_false c5; clear c5; (first | rw [c5b0] | (simp only [i64_w, i32_w]; rw [c5b0]) | skip)
      have H' := A_ H
      clear H
      go_wp2
      go_meet
      case rel => exact ⟨_, (false), sq_, H', ⟨by have := HK1.out; first | omega | exact Nat.le_refl _⟩, ⟨pkx B1⟩, ⟨pbx HB⟩⟩
    case rest =>
     clear HC4; (try clear c3); (try clear c3b0); obtain ⟨kq, x31_3, rfl, HA, HJ3, B1, HB⟩ := hcut
     cases kq with
     | zero => exact absurd HA.out (by simp [oculusref01_Parse.j1])
     | succ kj3 =>
      have H := HA.out; clear HA
      simp only [oculusref01_Parse.j1] at H
      replace H := ib_ H; rcases H with ⟨rfl,H⟩|⟨rfl,H⟩
      ·obtain ⟨ji12, hji12⟩ : ∃ j_ : Int, (mx x4_1 0) = j_ := ⟨_, rfl⟩
       replace H : (if 0 ≤ x5_1 then (if x5_1 < (a0.size : Int) then (oculusref01_Parse.l0 kj3 a0 x3_1 (wrap64 ((wrap64 ((wrap64 ((ji12) * 10)) + (wrap64 (bt a0 x5_1)))) - 48)) (wrap64 (x5_1 + 1))) else (none)) else (none)) = some (r1, r2) := by first | (rw [hji12] at H; exact H) | (simp only [hji12] at H ⊢; exact H)
       have hji12_ : (if x4_1 < 0 then 0 else x4_1) = ji12 := hji12
       by_cases c13 : 0 ≤ x5_1
       ·rw [if_pos c13] at H; have c13b0 := decide_eq_true c13; clear c13
        by_cases c14 : x5_1 < (a0.size : Int)
        ·rw [if_pos c14] at H; have c14b0 := decide_eq_true c14; clear c14
         have H' := A_ H
         clear H
         have p15 : 0 ≤ (x5_1 : Int) := of_decide_eq_true as_
         have q15 : x5_1 < (a0.size : Int) := of_decide_eq_true as_
         have hx15 := bt_at a0 x5_1; replace p15 := eq_true p15; replace q15 := eq_true q15
         go_wp2
         go_roundg kj3
         case measure => have := HK1.out; have := HJ3.out; omega
         case rel => exact ⟨(x3_1), (wrap64 ((wrap64 ((wrap64 ((ji12) * 10)) + (wrap64 (bt a0 x5_1)))) - 48)), (wrap64 (x5_1 + 1)), sq_, (by first | rfl | (simp; done) | (simp only [← hji12] <;> (first | rfl | simp)) | (simp [*]; done)), sq_, H', ⟨by have := HK1.out; have := HJ3.out; omega⟩, ⟨pkx B1⟩, ⟨pbx HB⟩⟩
        ·rw [if_neg c14] at H
         exact absurd H (by simp)
       ·rw [if_neg c13] at H
        exact absurd H (by simp)
      ·have HC16 := A_ H; clear H
       go_upto_region 8 with (fail)
       go_cut [46] (fun v46 wc => ∃ (kq : Nat) (x46_15 : Bool), v46 = .bool x46_15 ∧ Aside0 (oculusref01_Parse.j2 kq a0 x3_1 x4_1 x5_1 x46_15 = some (r1, r2)) ∧ Aside0 (kq ≤ kj3) ∧ Aside0 (wc.heap[g1]? = some (.cells #[.int .u64 0, .bool false] 73 (0, 0))) ∧ Aside0 (Below w.heap.size w wc))
       case first =>
        have H := HC16.out; clear HC16
        by_cases c17 : x4_1 ≥ 0
        ·rw [if_pos c17] at H; have c17b0 := decide_eq_true c17; clear c17; (first | rw [c17b0] | (simp only [i64_w, i32_w]; rw [c17b0]) | skip)
         have H' := A_ H
         clear H
         go_wp2
         go_meet
         case rel => exact ⟨_, (decide (x4_1 < 64)), sq_, H', ⟨by have := HK1.out; have := HJ3.out; first | omega | exact Nat.le_refl _⟩, ⟨pkx B1⟩, ⟨pbx HB⟩⟩
        ·rw [if_neg c17] at H; have c17b0 := decide_eq_false c17; clear c17; (first | rw [c17b0] | (simp only [i64_w, i32_w]; rw [c17b0]) | skip)
         have H' := A_ H
         clear H
         go_wp2
         go_meet
         case rel => exact ⟨_, (false), sq_, H', ⟨by have := HK1.out; have := HJ3.out; first | omega | exact Nat.le_refl _⟩, ⟨pkx B1⟩, ⟨pbx HB⟩⟩
       case rest =>
        clear HC16; (try clear c3); (try clear c3b0); (try clear c11); obtain ⟨kq, x46_15, rfl, HA, HJ15, B1, HB⟩ := hcut
        cases kq with
        | zero => exact absurd HA.out (by simp [oculusref01_Parse.j2])
        | succ kj15 =>
         have H := HA.out; clear HA
         simp only [oculusref01_Parse.j2] at H
         replace H := ib_ H; rcases H with ⟨rfl,H⟩|⟨rfl,H⟩
         ·obtain ⟨t103, A19, H⟩ := bo_ H; obtain ⟨t104, A20, H⟩ := bo_ H
          have H' := A_ H
          clear H
          go_wp2_with (first | ((with_reducible refine gate_callee (f:=63) rfl ?_); refine gL_ (some 49) rfl rfl Tryd.func63 rfl #[.int .i64 x4_1] rfl ?_; (with_reducible refine (oculusref01_One.calls kj15 x4_1 t103 _ A19.out).mono ?_); rintro e w' ⟨rfl, ⟨nd, rfl⟩⟩; refine ⟨_, rfl, ?_⟩) | ((with_reducible refine gate_callee (f:=62) rfl ?_); refine gL_ (some 50) rfl rfl Tryd.func62 rfl #[.int .u64 x3_1, .int .u64 t103] rfl ?_; (with_reducible refine (oculusref01_Join.calls kj15 x3_1 t103 t104 _ A20.out).mono ?_); rintro e w' ⟨rfl, ⟨nd, rfl⟩⟩; refine ⟨_, rfl, ?_⟩))
          go_roundg kj15
          case measure => have := HK1.out; have := HJ3.out; have := HJ15.out; omega
          case rel => exact ⟨(t104), ((-1)), (wrap64 (x5_1 + 1)), (by first | rfl | (simp; done) | (simp [*]; done) | (cases t104 <;> simp; done)), sq_, sq_, H', ⟨by have := HK1.out; have := HJ3.out; have := HJ15.out; omega⟩, ⟨pkx B1⟩, ⟨pbx HB⟩⟩
         ·have H' := A_ H
          clear H
          go_wp2
          go_roundg kj15
          case measure => have := HK1.out; have := HJ3.out; have := HJ15.out; omega
          case rel => exact ⟨(x3_1), ((-1)), (wrap64 (x5_1 + 1)), sq_, sq_, sq_, H', ⟨by have := HK1.out; have := HJ3.out; have := HJ15.out; omega⟩, ⟨pkx B1⟩, ⟨pbx HB⟩⟩
   ·rw [if_neg c3] at H; have c3b0 := decide_eq_false c3; clear c3; obtain ⟨t102, A21, H⟩ := bo_ H
    by_cases c22 : t102.toList = a0.toList
    ·rw [if_pos c22] at H; have ⟨c22b0,c22b1⟩ := e1_ c22; clear c22
     simp only [Option.some.injEq, Prod.mk.injEq] at H
     obtain ⟨rfl, rfl⟩ := H
     go_wp2_with (first | ((with_reducible refine gate_callee (f:=64) rfl ?_); refine gL_ (some 52) rfl rfl Tryd.func64 rfl #[.int .u64 x3_1] rfl ?_; (with_reducible refine (oculusref01_Text.calls k1 x3_1 t102 _ A21.out).mono ?_); rintro e w23 ⟨rfl, hb⟩; refine ⟨_, rfl, ?_⟩; replace B1 := bb_ B1 hb; replace HB := bs_ HB hb; (try clear hb); have ⟨hcz24_0,hcz24_1,hfz24_0,hfz24_1⟩ := z2_ B1))
     refine bodyPost_ret (results_cell_row rfl _ _ g1 73 #[.int .u64 x3_1, .bool true] (0, 0) _ rfl (by refine pp_ (cs := #[.int .u64 x3_1, .bool false]) 1 ?_ rfl; refine blk_put (cs := #[.int .u64 0, .bool false]) ?_ 0 _ rfl; exact pkx B1) Tryd.underlying73 rfl (by kernel_rfl)) rfl ?_
     exact fi_ bl_
    ·rw [if_neg c22] at H; have ⟨c22b0,c22b1⟩ := e0_ c22
     simp only [Option.some.injEq, Prod.mk.injEq] at H
     obtain ⟨rfl, rfl⟩ := H
     go_wp2_with (first | ((with_reducible refine gate_callee (f:=64) rfl ?_); refine gL_ (some 52) rfl rfl Tryd.func64 rfl #[.int .u64 x3_1] rfl ?_; (with_reducible refine (oculusref01_Text.calls k1 x3_1 t102 _ A21.out).mono ?_); rintro e w25 ⟨rfl, hb⟩; refine ⟨_, rfl, ?_⟩; replace B1 := bb_ B1 hb; replace HB := bs_ HB hb; (try clear hb); have ⟨hcz26_0,hcz26_1,hfz26_0,hfz26_1⟩ := z2_ B1))
     refine bodyPost_ret (results_cell_row rfl _ _ g1 73 #[.int .u64 0, .bool false] (0, 0) _ rfl (by refine pp_ (cs := #[.int .u64 0, .bool false]) 1 ?_ rfl; refine blk_put (cs := #[.int .u64 0, .bool false]) ?_ 0 _ rfl; exact pkx B1) Tryd.underlying73 rfl (by kernel_rfl)) rfl ?_
     exact fi_ bl_

end Go.Proofs.YtdddhabemdbooaaDoor.X
namespace Go.Proofs.YtdddhabemdbooaaDoor.X
open Go.RowKit Go.Proofs.YtdddhabemdbooaaDoorW.PrintWords Go.Proofs.YtdddhabemdbooaaDoorW.PrintLast Go.Proofs.YtdddhabemdbooaaDoorW.PrintMore
attribute [local go_sem] max2_int min2_int max_two min_two max_three min_three max_four min_four
set_option linter.unusedVariables false
set_option linter.unusedSimpArgs false
attribute [local go_sem high] eqA49
mutual
def oculusref02_Text.j0 : Nat → Bool → Int → Int → Option (ByteArray)
 | 0, _, _, _ => none
 | k + 1, x11, x102000, x102001 => if x11 = true then (some (⟨#[]⟩ : ByteArray)) else ((oculusref02_Top.f k).bind fun bt102 => (oculusref02_Text.j1 k (x102000 == bt102.1 && (x102001 == bt102.2)) x102000 x102001))
def oculusref02_Text.j1 : Nat → Bool → Int → Int → Option (ByteArray)
 | 0, _, _, _ => none
 | k + 1, x14, x102000, x102001 => if x14 = true then (some (⟨#[116, 111, 112]⟩ : ByteArray)) else ((oculusref01_Digits.f k x102000).bind fun t104 => (if x102001 = 0 then (some t104) else (if t104.size + 1 ≤ 9223372036854775807 then ((oculusref01_Text.f k x102001).bind fun t105 => (if (t104 ++ (⟨#[58]⟩ : ByteArray)).size + t105.size ≤ 9223372036854775807 then (some ((t104 ++ (⟨#[58]⟩ : ByteArray)) ++ t105)) else (none))) else (none))))
end
def oculusref02_Text.f (k : Nat) (a0_0 : Int) (a0_1 : Int) : Option (ByteArray) := if a0_0 < 0 then (oculusref02_Text.j0 k true a0_0 a0_1) else (oculusref02_Text.j0 k (decide (a0_0 > 15)) a0_0 a0_1)
theorem oculusref02_Text.calls (k : Nat) (a0_0 : Int) (a0_1 : Int) (r : ByteArray) (w : World) (h : oculusref02_Text.f k a0_0 a0_1 = some r) :
  Calls Tryd.prog 57 #[.agg #[.int .i64 a0_0, .int .u64 a0_1]] w fun e w' => e = .returned (.string r) ∧ Below w.heap.size w w' := by
 have hu49 := Tryd.underlying49; have HB := A_ (Below.refl w.heap.size w)
 have H : (if a0_0 < 0 then (oculusref02_Text.j0 k true a0_0 a0_1) else (oculusref02_Text.j0 k (decide (a0_0 > 15)) a0_0 a0_1)) = some r := h
 clear h; have HC2 := A_ H; clear H
 go_enter Tryd.func57, Tryd.ntmps57
 go_upto_region 1 with (first | ((with_reducible refine gd_ 1 ?_); refine be_ (N:=1) (cs := #[.int .i64 a0_0, .int .u64 a0_1]) (t:=49) ?_; intro g1 hg w3 hbox hb; have B1 := A_ (hbox); have GW101 := hs_ HB hg; have GE101 := hs_ HB hg; replace HB := bs_ HB hb; clear hb hbox hg))
 (try simp only [q_])
 go_cut [11] (fun v11 wc => ∃ (kq : Nat) (x11_1 : Bool), v11 = .bool x11_1 ∧ Aside0 (oculusref02_Text.j0 kq x11_1 a0_0 a0_1 = some r) ∧ Aside0 (kq ≤ k) ∧ Aside0 (wc.heap[g1]? = some (.cells #[.int .i64 a0_0, .int .u64 a0_1] 49 (0, 0))) ∧ Aside0 (Below w.heap.size w wc))
 case first =>
  have H := HC2.out; clear HC2
  by_cases c4 : a0_0 < 0
  ·rw [if_pos c4] at H; have c4b0 := decide_eq_true c4; clear c4; (first | rw [c4b0] | (simp only [i64_w, i32_w]; rw [c4b0]) | skip)
   have H' := A_ H
   clear H; obtain ⟨⟨hcz5_0, hcz5_1⟩, hfz5_0, hfz5_1⟩ := bk2_ B1.out
   go_wp2
   go_meet
   case rel => exact ⟨_, (true), sq_, H', le_, ⟨pkx B1⟩, ⟨pbx HB⟩⟩
  ·rw [if_neg c4] at H; have c4b0 := decide_eq_false c4; clear c4; (first | rw [c4b0] | (simp only [i64_w, i32_w]; rw [c4b0]) | skip)
   have H' := A_ H
   clear H; obtain ⟨⟨hcz6_0, hcz6_1⟩, hfz6_0, hfz6_1⟩ := bk2_ B1.out
   go_wp2
   go_meet
   case rel => exact ⟨_, (decide (a0_0 > 15)), sq_, H', le_, ⟨pkx B1⟩, ⟨pbx HB⟩⟩
 case rest =>
  clear HC2; obtain ⟨kq, x11_1, rfl, HA, HJ1, B1, HB⟩ := hcut
  cases kq with
  | zero => exact absurd HA.out (by simp [oculusref02_Text.j0])
  | succ kj1 =>
   have H := HA.out; clear HA
   simp only [oculusref02_Text.j0] at H
   replace H := ib_ H; rcases H with ⟨rfl,H⟩|⟨rfl,H⟩
   ·obtain rfl := Option.some.inj H
    go_wp2
    go_ret
    exact fi_ (pbx HB)
   ·have HC8 := A_ H; clear H
    go_upto_region 3 with (fail)
    go_cut [14] (fun v14 wc => ∃ (kq : Nat) (x14_7 : Bool), v14 = .bool x14_7 ∧ Aside0 (oculusref02_Text.j1 kq x14_7 a0_0 a0_1 = some r) ∧ Aside0 (kq ≤ kj1) ∧ Aside0 (wc.heap[g1]? = some (.cells #[.int .i64 a0_0, .int .u64 a0_1] 49 (0, 0))) ∧ Aside0 (Below w.heap.size w wc))
    case first =>
     have H := HC8.out; clear HC8; obtain ⟨⟨t102, t103⟩, A9, H⟩ := bo_ H; dsimp only at H
     have H' := A_ H
     clear H
     try go_wp2
     (try (rw [drewN_self wc]; generalize hq_ : World.drewN wc _ = wc; have n0_ : Aside0 (wc.heap[g1]? = some (.cells #[.int .i64 a0_0, .int .u64 a0_1] 49 (0, 0))) := ⟨by rw [← hq_]; exact (pkx B1)⟩; have n1_ : Aside0 (Below w.heap.size w wc) := ⟨by rw [← hq_]; exact (pbx HB)⟩; clear B1 HB hq_; have B1 := n0_; have HB := n1_; clear n0_ n1_))
     replace B1 := A_ (blk_drew B1.out); replace HB := A_ (below_drew1 HB.out)
     refine start_ (n:=3) (S := fun w' => w'.cell? ⟨g1, 0, none⟩ = some (.int .i64 a0_0) ∧ w'.cell? ⟨g1, 1, none⟩ = some (.int .u64 a0_1)) (ds := []) #[F,F,F] (by kernel_rfl) rfl rfl ⟨bc_ B1 0 rfl, bc_ B1 1 rfl⟩ (fun hHeld => ?_)
     generalize wc.drew = w10 at B1 HB hHeld ⊢; refine take_ (i:=0) (N:=some 12) (v:=?_) (a':=?_) #[T,F,F] rfl rfl (by kernel_rfl) (fun _ _ _ h=>h) (Or.inl ⟨rfl, ?_⟩) hHeld ?_ ?_; rotate_left
     ·rintro w' ⟨s0, s1⟩; go_simp; with_reducible rfl
     rotate_left
     ·simp only [q_, i64_w, i32_w]; rfl
     refine one_ (i:=1) (N:=some 13) #[T,T,F] rfl rfl (by kernel_rfl) (by decide) (fun K hK => ?_); refine goes_ Tryd.func54 (by kernel_rfl) rfl #[] (by rfl) rfl rfl ha_ ?_; with_reducible refine (oculusref02_Top.calls kj1  t102 t103 _ A9.out).mono ?_; rintro e w11 ⟨rfl, hb⟩; refine ⟨_, rfl, ?_⟩
     replace B1 := bb_ B1 hb; replace HB := bs_ HB hb; (try clear hb); refine hK.out _ _ ⟨bc_ B1 0 rfl, bc_ B1 1 rfl⟩ (fun hHeld => ?_); clear hK K; refine norm_ (a':=?_) ?_ ?_; rotate_left
     ·show Act.put _ (some 13) _ = _; simp only [q_, i64_w, i32_w]; rfl
     refine pure_ (i:=2) (N:=some 14) (v:=?_) (a':=?_) #[T,T,T] rfl rfl (by kernel_rfl) (fun _ _ _ h=>h) (Or.inl ⟨rfl, ?_⟩) ?_ ?_; rotate_left
     ·intro w'; go_simp; with_reducible rfl
     rotate_left
     ·simp only [q_, i64_w, i32_w]; rfl
     refine done_ (by kernel_rfl) ?_
     try go_wp2
     go_meet
     case rel => exact ⟨_, ((a0_0 == t102 && (a0_1 == t103))), (by first | rfl | (simp; done) | (simp [*]; done) | (cases t102 <;> simp; done) | (cases t103 <;> simp; done)), H', ⟨by have := HJ1.out; first | omega | exact Nat.le_refl _⟩, ⟨pkx B1⟩, ⟨pbx HB⟩⟩
    case rest =>
     clear HC8; (try clear c7); obtain ⟨kq, x14_7, rfl, HA, HJ7, B1, HB⟩ := hcut
     cases kq with
     | zero => exact absurd HA.out (by simp [oculusref02_Text.j1])
     | succ kj7 =>
      have H := HA.out; clear HA
      simp only [oculusref02_Text.j1] at H
      replace H := ib_ H; rcases H with ⟨rfl,H⟩|⟨rfl,H⟩
      ·obtain rfl := Option.some.inj H
       go_wp2
       go_ret
       exact fi_ (pbx HB)
      ·obtain ⟨t104, A13, H⟩ := bo_ H
       by_cases c14 : a0_1 = 0
       ·rw [if_pos c14] at H; have ⟨c14b0,c14b1⟩ := e1_ c14; clear c14; obtain rfl := Option.some.inj H; obtain ⟨⟨hcz15_0, hcz15_1⟩, hfz15_0, hfz15_1⟩ := bk2_ B1.out
        go_wp2_with (first | ((with_reducible refine gate_callee (f:=55) rfl ?_); refine gL_ (some 17) rfl rfl Tryd.func55 rfl #[.int .i64 a0_0] rfl ?_; (with_reducible refine (oculusref01_Digits.calls kj7 a0_0 t104 _ A13.out).mono ?_); rintro e w16 ⟨rfl, hb⟩; refine ⟨_, rfl, ?_⟩; replace B1 := bb_ B1 hb; replace HB := bs_ HB hb; (try clear hb); have ⟨hcz17_0,hcz17_1,hfz17_0,hfz17_1⟩ := z2_ B1))
        go_ret
        exact fi_ (pbx HB)
       ·rw [if_neg c14] at H; have ⟨c14b0,c14b1⟩ := e0_ c14
        by_cases c18 : t104.size + 1 ≤ 9223372036854775807
        ·rw [if_pos c18] at H; have c18b0 := eq_true c18; have c18b1 := decide_eq_true c18
         try have c18b2 : (9223372036854775807 < t104.size + 1) = False := eq_false (Nat.not_lt.2 c18)
         obtain ⟨t105, A19, H⟩ := bo_ H
         by_cases c20 : (t104 ++ (⟨#[58]⟩ : ByteArray)).size + t105.size ≤ 9223372036854775807
         ·rw [if_pos c20] at H; have c20b0 := eq_true c20; have c20b1 := decide_eq_true c20
          try have c20b2 : (9223372036854775807 < (t104 ++ (⟨#[58]⟩ : ByteArray)).size + t105.size) = False := eq_false (Nat.not_lt.2 c20)
          try have c20b2z : (9223372036854775807 < t104.size + 1 + t105.size) = False := by have h9_ := c20b2; rw [ByteArray.size_append] at h9_; exact h9_
          obtain rfl := Option.some.inj H; obtain ⟨⟨hcz21_0, hcz21_1⟩, hfz21_0, hfz21_1⟩ := bk2_ B1.out
          go_wp2_with (first | ((with_reducible refine gate_callee (f:=55) rfl ?_); refine gL_ (some 17) rfl rfl Tryd.func55 rfl #[.int .i64 a0_0] rfl ?_; (with_reducible refine (oculusref01_Digits.calls kj7 a0_0 t104 _ A13.out).mono ?_); rintro e w22 ⟨rfl, hb⟩; refine ⟨_, rfl, ?_⟩; replace B1 := bb_ B1 hb; replace HB := bs_ HB hb; (try clear hb); have ⟨hcz23_0,hcz23_1,hfz23_0,hfz23_1⟩ := z2_ B1) | ((with_reducible refine gate_callee (f:=64) rfl ?_); refine gL_ (some 25) rfl rfl Tryd.func64 rfl #[.int .u64 a0_1] rfl ?_; (with_reducible refine (oculusref01_Text.calls kj7 a0_1 t105 _ A19.out).mono ?_); rintro e w24 ⟨rfl, hb⟩; refine ⟨_, rfl, ?_⟩; replace B1 := bb_ B1 hb; replace HB := bs_ HB hb; (try clear hb); ))
          go_ret
          exact fi_ (pbx HB)
         ·rw [if_neg c20] at H
          exact absurd H (by simp)
        ·rw [if_neg c18] at H
         exact absurd H (by simp)

end Go.Proofs.YtdddhabemdbooaaDoor.X
namespace Go.Proofs.YtdddhabemdbooaaDoor.X
open Go.RowKit Go.Proofs.YtdddhabemdbooaaDoorW.PrintWords Go.Proofs.YtdddhabemdbooaaDoorW.PrintLast Go.Proofs.YtdddhabemdbooaaDoorW.PrintMore
attribute [local go_sem] max2_int min2_int max_two min_two max_three min_three max_four min_four
set_option linter.unusedVariables false
set_option linter.unusedSimpArgs false
mutual
def oculusref02_Parse.l0 : Nat → ByteArray → Int → Option (Int × Int × Bool)
 | 0, _, _ => none
 | k + 1, x0, x3 => if x3 ≤ 15 then ((oculusref01_Digits.f k x3).bind fun t104 => (if x0.toList = t104.toList then (some (x3, 0, true)) else (if (x0.size : Int) ≤ (t104.size : Int) then (oculusref02_Parse.j1 k x0 x3 t104 true) else (if 0 ≤ (wrap64 ((t104.size : Int) + 1)) then (if (wrap64 ((t104.size : Int) + 1)) ≤ (x0.size : Int) then (if t104.size + 1 ≤ 9223372036854775807 then (oculusref02_Parse.j1 k x0 x3 t104 ((x0.extract 0 ((wrap64 ((t104.size : Int) + 1)) : Int).toNat).toList != (t104 ++ (⟨#[58]⟩ : ByteArray)).toList)) else (none)) else (none)) else (none))))) else (some (0, 0, false))
def oculusref02_Parse.j1 : Nat → ByteArray → Int → ByteArray → Bool → Option (Int × Int × Bool)
 | 0, _, _, _, _ => none
 | k + 1, x0, x3, x4, x37 => if x37 = true then (oculusref02_Parse.l0 k x0 (wrap64 (x3 + 1))) else (if 0 ≤ (wrap64 ((x4.size : Int) + 1)) then (if (wrap64 ((x4.size : Int) + 1)) ≤ (x0.size : Int) then ((oculusref01_Parse.f k (x0.extract ((wrap64 ((x4.size : Int) + 1)) : Int).toNat x0.size)).bind fun bt105 => (if bt105.2 = true then ((oculusref02_Text.f k x3 bt105.1).bind fun t109 => (if t109.toList = x0.toList then (some (x3, bt105.1, true)) else (oculusref02_Parse.l0 k x0 (wrap64 (x3 + 1))))) else (oculusref02_Parse.l0 k x0 (wrap64 (x3 + 1))))) else (none)) else (none))
end
def oculusref02_Parse.f (k : Nat) (a0 : ByteArray) : Option (Int × Int × Bool) := if a0.toList = ([116, 111, 112] : List UInt8) then ((oculusref02_Top.f k).bind fun bt102 => (some (bt102.1, bt102.2, true))) else (oculusref02_Parse.l0 k a0 0)
theorem oculusref02_Parse.calls (k : Nat) (a0 : ByteArray) (r1 : Int) (r2 : Int) (r3 : Bool) (w : World) (h : oculusref02_Parse.f k a0 = some (r1, r2, r3)) :
  Calls Tryd.prog 48 #[.string a0] w fun e w' => e = .returned (.agg #[.int .i64 r1, .int .u64 r2, .bool r3]) ∧ Below w.heap.size w w' := by
 have hu65 := Tryd.underlying65; have hu49 := Tryd.underlying49; have hu73 := Tryd.underlying73; have HB := A_ (Below.refl w.heap.size w)
 have H : (if a0.toList = ([116, 111, 112] : List UInt8) then ((oculusref02_Top.f k).bind fun bt102 => (some (bt102.1, bt102.2, true))) else (oculusref02_Parse.l0 k a0 0)) = some (r1, r2, r3) := h
 clear h
 by_cases c2 : a0.toList = ([116, 111, 112] : List UInt8)
 ·rw [if_pos c2] at H; have ⟨c2b0,c2b1⟩ := e1_ c2; clear c2; obtain ⟨⟨t102, t103⟩, A3, H⟩ := bo_ H; dsimp only at H
  simp only [Option.some.injEq, Prod.mk.injEq] at H
  obtain ⟨rfl, rfl, rfl⟩ := H
  go_enter Tryd.func48, Tryd.ntmps48
  go_wp2_with (first | ((with_reducible refine gd_ 2 ?_); (try (refine gate_guard (by rfl) ?_; dsimp only)); refine be_ (N:=2) (cs := #[.int .i64 0, .int .u64 0, .bool false]) (t:=65) ?_; intro g1 hg w4 hbox hb; have B1 := A_ (hbox); have GW101 := hs_ HB hg; have GE101 := hs_ HB hg; replace HB := bs_ HB hb; clear hb hbox hg) | ((with_reducible refine gate_callee (f:=54) rfl ?_); refine gL_ (some 9) rfl rfl Tryd.func54 rfl #[] rfl ?_; (with_reducible refine (oculusref02_Top.calls k  t102 t103 _ A3.out).mono ?_); rintro e w5 ⟨rfl, hb⟩; refine ⟨_, rfl, ?_⟩; replace B1 := bb_ B1 hb; replace HB := bs_ HB hb; have ⟨hcz6_0,hcz6_1,hcz6_2,hfz6_0,hfz6_1,hfz6_2⟩ := z3_ B1))
  refine bodyPost_ret (results_cell_row rfl _ _ g1 65 #[.int .i64 t102, .int .u64 t103, .bool true] (0, 0) _ rfl (by refine pp_ (cs := #[.int .i64 t102, .int .u64 t103, .bool false]) 2 ?_ rfl; refine blk_put (cs := #[.int .i64 t102, .int .u64 0, .bool false]) ?_ 1 _ rfl; refine blk_put (cs := #[.int .i64 0, .int .u64 0, .bool false]) ?_ 0 _ rfl; exact pkx B1) Tryd.underlying65 rfl (by kernel_rfl)) rfl ?_
  exact fi_ bl_
 ·rw [if_neg c2] at H; have ⟨c2b0,c2b1⟩ := e0_ c2
  have H' := A_ H
  clear H
  go_enter Tryd.func48, Tryd.ntmps48
  go_wp2_with (first | ((with_reducible refine gd_ 2 ?_); (try (refine gate_guard (by rfl) ?_; dsimp only)); refine be_ (N:=2) (cs := #[.int .i64 0, .int .u64 0, .bool false]) (t:=65) ?_; intro g1 hg w7 hbox hb; have B1 := A_ (hbox); have GW101 := hs_ HB hg; have GE101 := hs_ HB hg; replace HB := bs_ HB hb; clear hb hbox hg))
  go_loopg [3] k (fun kq v3 w' => ∃ (x3_1 : Int) (x102000_1 : Int) (x102001_1 : Int) (x102002_1 : Bool), v3 = .int .i64 x3_1 ∧ Aside0 (oculusref02_Parse.l0 kq a0 x3_1 = some (r1, r2, r3)) ∧ Aside0 (kq ≤ k) ∧ Aside0 (w'.heap[g1]? = some (.cells #[.int .i64 x102000_1, .int .u64 x102001_1, .bool x102002_1] 65 (0, 0))) ∧ Aside0 (Below w.heap.size w w'))
  case atStart => exact ⟨(0), (0), (0), (false), sq_, H', ⟨Nat.le_refl _⟩, ⟨pkx B1⟩, ⟨pbx HB⟩⟩
  case round =>
   clear H'; (try clear c2); (try clear c2b0); (try clear c2b1); obtain ⟨x3_1, x102000_1, x102001_1, x102002_1, rfl, HA, HK1, B1, HB⟩ := hrel
   cases gk with
   | zero => exact absurd HA.out (by simp [oculusref02_Parse.l0])
   | succ k1 =>
    have H := HA.out; clear HA
    simp only [oculusref02_Parse.l0] at H
    by_cases c8 : x3_1 ≤ 15
    ·rw [if_pos c8] at H; have c8b0 := decide_eq_true c8; clear c8; obtain ⟨t104, A9, H⟩ := bo_ H
     by_cases c10 : a0.toList = t104.toList
     ·rw [if_pos c10] at H; have ⟨c10b0,c10b1⟩ := e1_ c10; clear c10
      simp only [Option.some.injEq, Prod.mk.injEq] at H
      obtain ⟨rfl, rfl, rfl⟩ := H
      go_wp2_with (first | ((with_reducible refine gate_callee (f:=55) rfl ?_); refine gL_ (some 16) rfl rfl Tryd.func55 rfl #[.int .i64 x3_1] rfl ?_; (with_reducible refine (oculusref01_Digits.calls k1 x3_1 t104 _ A9.out).mono ?_); rintro e w11 ⟨rfl, hb⟩; refine ⟨_, rfl, ?_⟩; replace B1 := bb_ B1 hb; replace HB := bs_ HB hb; (try clear hb); have ⟨hcz12_0,hcz12_1,hcz12_2,hfz12_0,hfz12_1,hfz12_2⟩ := z3_ B1))
      refine bodyPost_ret (results_cell_row rfl _ _ g1 65 #[.int .i64 x3_1, .int .u64 0, .bool true] (0, 0) _ rfl (by refine pp_ (cs := #[.int .i64 x3_1, .int .u64 0, .bool x102002_1]) 2 ?_ rfl; refine blk_put (cs := #[.int .i64 x3_1, .int .u64 x102001_1, .bool x102002_1]) ?_ 1 _ rfl; refine blk_put (cs := #[.int .i64 x102000_1, .int .u64 x102001_1, .bool x102002_1]) ?_ 0 _ rfl; exact pkx B1) Tryd.underlying65 rfl (by kernel_rfl)) rfl ?_
      exact fi_ bl_
     ·rw [if_neg c10] at H; have ⟨c10b0,c10b1⟩ := e0_ c10; have HC13 := A_ H; clear H
      go_upto_region 9 with (first | ((with_reducible refine gate_callee (f:=55) rfl ?_); refine gL_ (some 16) rfl rfl Tryd.func55 rfl #[.int .i64 x3_1] rfl ?_; (with_reducible refine (oculusref01_Digits.calls k1 x3_1 t104 _ A9.out).mono ?_); rintro e w14 ⟨rfl, hb⟩; refine ⟨_, rfl, ?_⟩; replace B1 := bb_ B1 hb; replace HB := bs_ HB hb; (try clear hb); ))
      (try simp only [q_])
      go_cut [37] (fun v37 wc => ∃ (kq : Nat) (x37_12 : Bool), v37 = .bool x37_12 ∧ Aside0 (oculusref02_Parse.j1 kq a0 x3_1 t104 x37_12 = some (r1, r2, r3)) ∧ Aside0 (kq ≤ k1) ∧ Aside0 (wc.heap[g1]? = some (.cells #[.int .i64 x102000_1, .int .u64 x102001_1, .bool x102002_1] 65 (0, 0))) ∧ Aside0 (Below w.heap.size w wc))
      case first =>
       have H := HC13.out; clear HC13
       by_cases c15 : (a0.size : Int) ≤ (t104.size : Int)
       ·rw [if_pos c15] at H; have c15b0 := decide_eq_true c15; have c15b1 : decide (a0.size ≤ t104.size) = true := decide_eq_true (Int.ofNat_le.mp c15); clear c15; (first | rw [c15b0] | (simp only [i64_w, i32_w]; rw [c15b0]) | skip)
        have H' := A_ H
        clear H
        go_wp2
        go_meet
        case rel => exact ⟨_, (true), sq_, H', ⟨by have := HK1.out; first | omega | exact Nat.le_refl _⟩, ⟨pkx B1⟩, ⟨pbx HB⟩⟩
       ·rw [if_neg c15] at H; have c15b0 := decide_eq_false c15; have c15b1 : decide (a0.size ≤ t104.size) = false := decide_eq_false (fun h => c15 (Int.ofNat_le.mpr h)); clear c15; (first | rw [c15b0] | (simp only [i64_w, i32_w]; rw [c15b0]) | skip); obtain ⟨ji16, hji16⟩ : ∃ j_ : Int, (wrap64 ((t104.size : Int) + 1)) = j_ := ⟨_, rfl⟩
        replace H : (if 0 ≤ (ji16) then (if (ji16) ≤ (a0.size : Int) then (if t104.size + 1 ≤ 9223372036854775807 then (oculusref02_Parse.j1 k1 a0 x3_1 t104 ((a0.extract 0 ((ji16) : Int).toNat).toList != (t104 ++ (⟨#[58]⟩ : ByteArray)).toList)) else (none)) else (none)) else (none)) = some (r1, r2, r3) := by first | (rw [hji16] at H; exact H) | (simp only [hji16] at H ⊢; exact H)
        have hji16w : (IntKind.i64.wrap ((t104.size : Int) + 1)) = ji16 := (i64_w _).trans hji16
        by_cases c17 : 0 ≤ (ji16)
        ·rw [if_pos c17] at H; have c17b0 := eq_true c17; have c17b1 := decide_eq_true c17; clear c17
         by_cases c18 : (ji16) ≤ (a0.size : Int)
         ·rw [if_pos c18] at H; have c18b0 := eq_true c18; have c18b1 := decide_eq_true c18; clear c18
          by_cases c19 : t104.size + 1 ≤ 9223372036854775807
          ·rw [if_pos c19] at H; have c19b0 := eq_true c19; have c19b1 := decide_eq_true c19
           try have c19b2 : (9223372036854775807 < t104.size + 1) = False := eq_false (Nat.not_lt.2 c19)
           have H' := A_ H
           clear H
           go_wp2
           go_meet
           case rel => exact ⟨_, (((a0.extract 0 ((ji16) : Int).toNat).toList != (t104 ++ (⟨#[58]⟩ : ByteArray)).toList)), (by first | rfl | (simp; done) | (simp only [← hji16] <;> (first | rfl | simp)) | (simp [*]; done)), H', ⟨by have := HK1.out; first | omega | exact Nat.le_refl _⟩, ⟨pkx B1⟩, ⟨pbx HB⟩⟩
          ·rw [if_neg c19] at H
           exact absurd H (by simp)
         ·rw [if_neg c18] at H
          exact absurd H (by simp)
        ·rw [if_neg c17] at H
         exact absurd H (by simp)
      case rest =>
       clear HC13; (try clear c2); (try clear c2b0); (try clear c2b1); (try clear c8); (try clear c8b0); (try clear c10); (try clear c10b0); (try clear c10b1); obtain ⟨kq, x37_12, rfl, HA, HJ12, B1, HB⟩ := hcut
       cases kq with
       | zero => exact absurd HA.out (by simp [oculusref02_Parse.j1])
       | succ kj12 =>
        have H := HA.out; clear HA
        simp only [oculusref02_Parse.j1] at H
        replace H := ib_ H; rcases H with ⟨rfl,H⟩|⟨rfl,H⟩
        ·have H' := A_ H
         clear H
         go_wp2
         go_roundg kj12
         case measure => have := HK1.out; have := HJ12.out; omega
         case rel => exact ⟨(wrap64 (x3_1 + 1)), (x102000_1), (x102001_1), (x102002_1), sq_, H', ⟨by have := HK1.out; have := HJ12.out; omega⟩, ⟨pkx B1⟩, ⟨pbx HB⟩⟩
        ·obtain ⟨ji21, hji21⟩ : ∃ j_ : Int, (wrap64 ((t104.size : Int) + 1)) = j_ := ⟨_, rfl⟩
         replace H : (if 0 ≤ (ji21) then (if (ji21) ≤ (a0.size : Int) then ((oculusref01_Parse.f kj12 (a0.extract ((ji21) : Int).toNat a0.size)).bind fun bt105 => (if bt105.2 = true then ((oculusref02_Text.f kj12 x3_1 bt105.1).bind fun t109 => (if t109.toList = a0.toList then (some (x3_1, bt105.1, true)) else (oculusref02_Parse.l0 kj12 a0 (wrap64 (x3_1 + 1))))) else (oculusref02_Parse.l0 kj12 a0 (wrap64 (x3_1 + 1))))) else (none)) else (none)) = some (r1, r2, r3) := by first | (rw [hji21] at H; exact H) | (simp only [hji21] at H ⊢; exact H)
         have hji21w : (IntKind.i64.wrap ((t104.size : Int) + 1)) = ji21 := (i64_w _).trans hji21
         by_cases c22 : 0 ≤ (ji21)
         ·rw [if_pos c22] at H; have c22b0 := eq_true c22; have c22b1 := decide_eq_true c22; clear c22
          by_cases c23 : (ji21) ≤ (a0.size : Int)
          ·rw [if_pos c23] at H; have c23b0 := eq_true c23; have c23b1 := decide_eq_true c23; clear c23; obtain ⟨⟨t105, t106⟩, A24, H⟩ := bo_ H; dsimp only at H
           replace H := ib_ H; rcases H with ⟨rfl,H⟩|⟨rfl,H⟩
           ·obtain ⟨t109, A26, H⟩ := bo_ H
            by_cases c27 : t109.toList = a0.toList
            ·rw [if_pos c27] at H; have ⟨c27b0,c27b1⟩ := e1_ c27; clear c27
             simp only [Option.some.injEq, Prod.mk.injEq] at H
             obtain ⟨rfl, rfl, rfl⟩ := H
             go_wp2_with (first | ((with_reducible refine gate_callee (f:=56) rfl ?_); refine goesL_ (some 43) rfl rfl Tryd.func56 (by kernel_rfl) rfl #[.string (a0.extract ((ji21) : Int).toNat a0.size)] rfl (by (try simp only [List.map_toArray, List.map_cons, List.map_nil]); first | done | (simp only [hji21]; rfl) | rfl | (simp only [List.length_drop, List.length_take]; rfl)) ?_; (with_reducible refine (oculusref01_Parse.calls kj12 (a0.extract ((ji21) : Int).toNat a0.size) t105 true _ A24.out).mono ?_); rintro e w28 ⟨rfl, hb⟩; refine ⟨_, rfl, ?_⟩; replace B1 := bb_ B1 hb; replace HB := bs_ HB hb; (try clear hb); ) | ((with_reducible refine gd_ 5 ?_); (try (refine gate_guard (by rfl) ?_; dsimp only)); refine be_ (N:=5) (cs := #[.int .u64 0, .bool false]) (t:=73) ?_; intro g7 hg w29 hbox hb; have B7 := A_ (hbox); have GW107 := hs_ HB hg; have GE107 := hs_ HB hg; have N17 := hl_ B1 hg; have N71 := hr_ B1 hg; replace B1 := bb_ B1 hb; replace HB := bs_ HB hb; clear hb hbox hg; have hnb30 := N71.out; have hnc30 := N17.out; have ⟨hcz31_0,hcz31_1,hfz31_0,hfz31_1⟩ := z2_ B7) | ((with_reducible refine gd_ 6 ?_); (try (refine gate_guard (by rfl) ?_; dsimp only)); refine be_ (N:=6) (cs := #[.int .i64 0, .int .u64 0]) (t:=49) ?_; intro g8 hg w32 hbox hb; have B8 := A_ (hbox); have GW108 := A_ ((by rw [hg]; exact (below_size bl_) : w.heap.size ≤ g8)); have GE108 := A_ ((by rw [hg]; exact (below_size bl_) : w.heap.size ≤ g8)); have N18 := A_ ((by rw [hg]; exact Nat.ne_of_lt (blk_lt (g:=g1) (o := .cells #[.int .i64 x102000_1, .int .u64 x102001_1, .bool x102002_1] 65 (0, 0)) (by (iterate 2 refine pf_ ?_ N17.out); exact pkx B1)) : g1 ≠ g8)); have N81 := A_ ((by rw [hg]; exact Nat.ne_of_gt (blk_lt (g:=g1) (o := .cells #[.int .i64 x102000_1, .int .u64 x102001_1, .bool x102002_1] 65 (0, 0)) (by (iterate 2 refine pf_ ?_ N17.out); exact pkx B1)) : g8 ≠ g1)); have N78 := A_ ((by rw [hg]; exact Nat.ne_of_lt (blk_lt (g:=g7) (o := .cells #[.int .u64 t105, .bool true] 73 (0, 0)) (by refine pp_ (cs := #[.int .u64 t105, .bool false]) 1 ?_ rfl; refine blk_put (cs := #[.int .u64 0, .bool false]) ?_ 0 _ rfl; exact pkx B7)) : g7 ≠ g8)); have N87 := A_ ((by rw [hg]; exact Nat.ne_of_gt (blk_lt (g:=g7) (o := .cells #[.int .u64 t105, .bool true] 73 (0, 0)) (by refine pp_ (cs := #[.int .u64 t105, .bool false]) 1 ?_ rfl; refine blk_put (cs := #[.int .u64 0, .bool false]) ?_ 0 _ rfl; exact pkx B7)) : g8 ≠ g7)); replace B1 := A_ (blk_below (g:=g1) (o := .cells #[.int .i64 x102000_1, .int .u64 x102001_1, .bool x102002_1] 65 (0, 0)) (by (iterate 2 refine pf_ ?_ N17.out); exact pkx B1) hb); replace B7 := A_ (blk_below (g:=g7) (o := .cells #[.int .u64 t105, .bool true] 73 (0, 0)) (by refine pp_ (cs := #[.int .u64 t105, .bool false]) 1 ?_ rfl; refine blk_put (cs := #[.int .u64 0, .bool false]) ?_ 0 _ rfl; exact pkx B7) hb); replace HB := A_ (below_step (by repeat (first | (with_reducible first | exact HB.out | apply below_alloc | apply pw_below_drewN | apply below_drew1 | refine below_set ?_ GE101.out | refine below_set ?_ GE107.out) | exact HB.out)) hb); clear hb hbox hg; have hnb33 := N81.out; have hnc33 := N18.out; have hnb34 := N87.out; have hnc34 := N78.out; have ⟨hcz35_0,hcz35_1,hfz35_0,hfz35_1⟩ := z2_ B8; have ⟨hcz36_0,hcz36_1,hfz36_0,hfz36_1⟩ := z2_ B7) | (go_at_call 57; (with_reducible refine (oculusref02_Text.calls kj12 x3_1 t105 t109 _ A26.out).mono ?_); rintro e w37 ⟨rfl, hb⟩; replace B1 := A_ (blk_below (g:=g1) (o := .cells #[.int .i64 x102000_1, .int .u64 x102001_1, .bool x102002_1] 65 (0, 0)) (by (iterate 2 refine pf_ ?_ N18.out); exact pkx B1) hb); replace B7 := A_ (blk_below (g:=g7) (o := .cells #[.int .u64 t105, .bool true] 73 (0, 0)) (by (iterate 2 refine pf_ ?_ N78.out); exact pkx B7) hb); replace B8 := A_ (blk_below (g:=g8) (o := .cells #[.int .i64 x3_1, .int .u64 t105] 49 (0, 0)) (by refine pp_ (cs := #[.int .i64 x3_1, .int .u64 0]) 1 ?_ rfl; refine blk_put (cs := #[.int .i64 0, .int .u64 0]) ?_ 0 _ rfl; exact pkx B8) hb); replace HB := A_ (below_step (by repeat (first | (with_reducible first | exact HB.out | apply below_alloc | apply pw_below_drewN | apply below_drew1 | refine below_set ?_ GE101.out | refine below_set ?_ GE107.out | refine below_set ?_ GE108.out) | exact HB.out)) hb); (try clear hb); have ⟨hcz38_0,hcz38_1,hfz38_0,hfz38_1⟩ := z2_ B8; have ⟨hcz39_0,hcz39_1,hcz39_2,hfz39_0,hfz39_1,hfz39_2⟩ := z3_ B1))
             refine bodyPost_ret (results_cell_row rfl _ _ g1 65 #[.int .i64 x3_1, .int .u64 t105, .bool true] (0, 0) _ rfl (by refine pp_ (cs := #[.int .i64 x3_1, .int .u64 t105, .bool x102002_1]) 2 ?_ rfl; refine blk_put (cs := #[.int .i64 x3_1, .int .u64 x102001_1, .bool x102002_1]) ?_ 1 _ rfl; refine blk_put (cs := #[.int .i64 x102000_1, .int .u64 x102001_1, .bool x102002_1]) ?_ 0 _ rfl; exact pkx B1) Tryd.underlying65 rfl (by kernel_rfl)) rfl ?_
             exact ⟨by first | rfl | (simp [errW_none, errW_some] <;> rfl) | (simp only [← hji21]; first | rfl | (simp [errW_none, errW_some] <;> rfl)) | (simp [*, errW_none, errW_some] <;> rfl), by repeat (first | (with_reducible first | exact HB.out | apply below_alloc | apply pw_below_drewN | apply below_drew1 | refine below_set ?_ GE101.out | refine below_set ?_ GE107.out | refine below_set ?_ GE108.out) | exact HB.out)⟩
            ·rw [if_neg c27] at H; have ⟨c27b0,c27b1⟩ := e0_ c27
             have H' := A_ H
             clear H
             go_wp2_with (first | ((with_reducible refine gate_callee (f:=56) rfl ?_); refine goesL_ (some 43) rfl rfl Tryd.func56 (by kernel_rfl) rfl #[.string (a0.extract ((ji21) : Int).toNat a0.size)] rfl (by (try simp only [List.map_toArray, List.map_cons, List.map_nil]); first | done | (simp only [hji21]; rfl) | rfl | (simp only [List.length_drop, List.length_take]; rfl)) ?_; (with_reducible refine (oculusref01_Parse.calls kj12 (a0.extract ((ji21) : Int).toNat a0.size) t105 true _ A24.out).mono ?_); rintro e w40 ⟨rfl, hb⟩; refine ⟨_, rfl, ?_⟩; replace B1 := bb_ B1 hb; replace HB := bs_ HB hb; (try clear hb); ) | ((with_reducible refine gd_ 5 ?_); (try (refine gate_guard (by rfl) ?_; dsimp only)); refine be_ (N:=5) (cs := #[.int .u64 0, .bool false]) (t:=73) ?_; intro g7 hg w41 hbox hb; have B7 := A_ (hbox); have GW107 := hs_ HB hg; have GE107 := hs_ HB hg; have N17 := hl_ B1 hg; have N71 := hr_ B1 hg; replace B1 := bb_ B1 hb; replace HB := bs_ HB hb; clear hb hbox hg; have hnb42 := N71.out; have hnc42 := N17.out; have ⟨hcz43_0,hcz43_1,hfz43_0,hfz43_1⟩ := z2_ B7) | ((with_reducible refine gd_ 6 ?_); (try (refine gate_guard (by rfl) ?_; dsimp only)); refine be_ (N:=6) (cs := #[.int .i64 0, .int .u64 0]) (t:=49) ?_; intro g8 hg w44 hbox hb; have B8 := A_ (hbox); have GW108 := A_ ((by rw [hg]; exact (below_size bl_) : w.heap.size ≤ g8)); have GE108 := A_ ((by rw [hg]; exact (below_size bl_) : w.heap.size ≤ g8)); have N18 := A_ ((by rw [hg]; exact Nat.ne_of_lt (blk_lt (g:=g1) (o := .cells #[.int .i64 x102000_1, .int .u64 x102001_1, .bool x102002_1] 65 (0, 0)) (by (iterate 2 refine pf_ ?_ N17.out); exact pkx B1)) : g1 ≠ g8)); have N81 := A_ ((by rw [hg]; exact Nat.ne_of_gt (blk_lt (g:=g1) (o := .cells #[.int .i64 x102000_1, .int .u64 x102001_1, .bool x102002_1] 65 (0, 0)) (by (iterate 2 refine pf_ ?_ N17.out); exact pkx B1)) : g8 ≠ g1)); have N78 := A_ ((by rw [hg]; exact Nat.ne_of_lt (blk_lt (g:=g7) (o := .cells #[.int .u64 t105, .bool true] 73 (0, 0)) (by refine pp_ (cs := #[.int .u64 t105, .bool false]) 1 ?_ rfl; refine blk_put (cs := #[.int .u64 0, .bool false]) ?_ 0 _ rfl; exact pkx B7)) : g7 ≠ g8)); have N87 := A_ ((by rw [hg]; exact Nat.ne_of_gt (blk_lt (g:=g7) (o := .cells #[.int .u64 t105, .bool true] 73 (0, 0)) (by refine pp_ (cs := #[.int .u64 t105, .bool false]) 1 ?_ rfl; refine blk_put (cs := #[.int .u64 0, .bool false]) ?_ 0 _ rfl; exact pkx B7)) : g8 ≠ g7)); replace B1 := A_ (blk_below (g:=g1) (o := .cells #[.int .i64 x102000_1, .int .u64 x102001_1, .bool x102002_1] 65 (0, 0)) (by (iterate 2 refine pf_ ?_ N17.out); exact pkx B1) hb); replace B7 := A_ (blk_below (g:=g7) (o := .cells #[.int .u64 t105, .bool true] 73 (0, 0)) (by refine pp_ (cs := #[.int .u64 t105, .bool false]) 1 ?_ rfl; refine blk_put (cs := #[.int .u64 0, .bool false]) ?_ 0 _ rfl; exact pkx B7) hb); replace HB := A_ (below_step (by repeat (first | (with_reducible first | exact HB.out | apply below_alloc | apply pw_below_drewN | apply below_drew1 | refine below_set ?_ GE101.out | refine below_set ?_ GE107.out) | exact HB.out)) hb); clear hb hbox hg; have hnb45 := N81.out; have hnc45 := N18.out; have hnb46 := N87.out; have hnc46 := N78.out; have ⟨hcz47_0,hcz47_1,hfz47_0,hfz47_1⟩ := z2_ B8; have ⟨hcz48_0,hcz48_1,hfz48_0,hfz48_1⟩ := z2_ B7) | (go_at_call 57; (with_reducible refine (oculusref02_Text.calls kj12 x3_1 t105 t109 _ A26.out).mono ?_); rintro e w49 ⟨rfl, hb⟩; replace B1 := A_ (blk_below (g:=g1) (o := .cells #[.int .i64 x102000_1, .int .u64 x102001_1, .bool x102002_1] 65 (0, 0)) (by (iterate 2 refine pf_ ?_ N18.out); exact pkx B1) hb); replace B7 := A_ (blk_below (g:=g7) (o := .cells #[.int .u64 t105, .bool true] 73 (0, 0)) (by (iterate 2 refine pf_ ?_ N78.out); exact pkx B7) hb); replace B8 := A_ (blk_below (g:=g8) (o := .cells #[.int .i64 x3_1, .int .u64 t105] 49 (0, 0)) (by refine pp_ (cs := #[.int .i64 x3_1, .int .u64 0]) 1 ?_ rfl; refine blk_put (cs := #[.int .i64 0, .int .u64 0]) ?_ 0 _ rfl; exact pkx B8) hb); replace HB := A_ (below_step (by repeat (first | (with_reducible first | exact HB.out | apply below_alloc | apply pw_below_drewN | apply below_drew1 | refine below_set ?_ GE101.out | refine below_set ?_ GE107.out | refine below_set ?_ GE108.out) | exact HB.out)) hb); (try clear hb); ))
             go_roundg kj12
             case measure => have := HK1.out; have := HJ12.out; omega
             case rel => exact ⟨(wrap64 (x3_1 + 1)), (x102000_1), (x102001_1), (x102002_1), sq_, H', ⟨by have := HK1.out; have := HJ12.out; omega⟩, ⟨pkx B1⟩, ⟨pbx HB⟩⟩
           ·have H' := A_ H
            clear H
            go_wp2_with (first | ((with_reducible refine gate_callee (f:=56) rfl ?_); refine goesL_ (some 43) rfl rfl Tryd.func56 (by kernel_rfl) rfl #[.string (a0.extract ((ji21) : Int).toNat a0.size)] rfl (by (try simp only [List.map_toArray, List.map_cons, List.map_nil]); first | done | (simp only [hji21]; rfl) | rfl | (simp only [List.length_drop, List.length_take]; rfl)) ?_; (with_reducible refine (oculusref01_Parse.calls kj12 (a0.extract ((ji21) : Int).toNat a0.size) t105 false _ A24.out).mono ?_); rintro e w50 ⟨rfl, hb⟩; refine ⟨_, rfl, ?_⟩; replace B1 := bb_ B1 hb; replace HB := bs_ HB hb; (try clear hb); ) | ((with_reducible refine gd_ 5 ?_); (try (refine gate_guard (by rfl) ?_; dsimp only)); refine be_ (N:=5) (cs := #[.int .u64 0, .bool false]) (t:=73) ?_; intro g7 hg w51 hbox hb; have B7 := A_ (hbox); have GW107 := hs_ HB hg; have GE107 := hs_ HB hg; have N17 := hl_ B1 hg; have N71 := hr_ B1 hg; replace B1 := bb_ B1 hb; replace HB := bs_ HB hb; clear hb hbox hg; have hnb52 := N71.out; have hnc52 := N17.out; have ⟨hcz53_0,hcz53_1,hfz53_0,hfz53_1⟩ := z2_ B7) | ((with_reducible refine gd_ 6 ?_); (try (refine gate_guard (by rfl) ?_; dsimp only)); refine be_ (N:=6) (cs := #[.int .i64 0, .int .u64 0]) (t:=49) ?_; intro g8 hg w54 hbox hb; have B8 := A_ (hbox); have GW108 := A_ ((by rw [hg]; exact (below_size bl_) : w.heap.size ≤ g8)); have GE108 := A_ ((by rw [hg]; exact (below_size bl_) : w.heap.size ≤ g8)); have N18 := A_ ((by rw [hg]; exact Nat.ne_of_lt (blk_lt (g:=g1) (o := .cells #[.int .i64 x102000_1, .int .u64 x102001_1, .bool x102002_1] 65 (0, 0)) (by (iterate 2 refine pf_ ?_ N17.out); exact pkx B1)) : g1 ≠ g8)); have N81 := A_ ((by rw [hg]; exact Nat.ne_of_gt (blk_lt (g:=g1) (o := .cells #[.int .i64 x102000_1, .int .u64 x102001_1, .bool x102002_1] 65 (0, 0)) (by (iterate 2 refine pf_ ?_ N17.out); exact pkx B1)) : g8 ≠ g1)); have N78 := A_ ((by rw [hg]; exact Nat.ne_of_lt (blk_lt (g:=g7) (o := .cells #[.int .u64 t105, .bool false] 73 (0, 0)) (by refine pp_ (cs := #[.int .u64 t105, .bool false]) 1 ?_ rfl; refine blk_put (cs := #[.int .u64 0, .bool false]) ?_ 0 _ rfl; exact pkx B7)) : g7 ≠ g8)); have N87 := A_ ((by rw [hg]; exact Nat.ne_of_gt (blk_lt (g:=g7) (o := .cells #[.int .u64 t105, .bool false] 73 (0, 0)) (by refine pp_ (cs := #[.int .u64 t105, .bool false]) 1 ?_ rfl; refine blk_put (cs := #[.int .u64 0, .bool false]) ?_ 0 _ rfl; exact pkx B7)) : g8 ≠ g7)); replace B1 := A_ (blk_below (g:=g1) (o := .cells #[.int .i64 x102000_1, .int .u64 x102001_1, .bool x102002_1] 65 (0, 0)) (by (iterate 2 refine pf_ ?_ N17.out); exact pkx B1) hb); replace B7 := A_ (blk_below (g:=g7) (o := .cells #[.int .u64 t105, .bool false] 73 (0, 0)) (by refine pp_ (cs := #[.int .u64 t105, .bool false]) 1 ?_ rfl; refine blk_put (cs := #[.int .u64 0, .bool false]) ?_ 0 _ rfl; exact pkx B7) hb); replace HB := A_ (below_step (by repeat (first | (with_reducible first | exact HB.out | apply below_alloc | apply pw_below_drewN | apply below_drew1 | refine below_set ?_ GE101.out | refine below_set ?_ GE107.out) | exact HB.out)) hb); clear hb hbox hg; have hnb55 := N81.out; have hnc55 := N18.out; have hnb56 := N87.out; have hnc56 := N78.out; have ⟨hcz57_0,hcz57_1,hfz57_0,hfz57_1⟩ := z2_ B8; have ⟨hcz58_0,hcz58_1,hfz58_0,hfz58_1⟩ := z2_ B7))
            go_roundg kj12
            case measure => have := HK1.out; have := HJ12.out; omega
            case rel => exact ⟨(wrap64 (x3_1 + 1)), (x102000_1), (x102001_1), (x102002_1), sq_, H', ⟨by have := HK1.out; have := HJ12.out; omega⟩, ⟨by (iterate 2 refine pf_ ?_ N18.out); exact pkx B1⟩, ⟨bl_⟩⟩
          ·rw [if_neg c23] at H
           exact absurd H (by simp)
         ·rw [if_neg c22] at H
          exact absurd H (by simp)
    ·rw [if_neg c8] at H; have c8b0 := decide_eq_false c8; clear c8
     simp only [Option.some.injEq, Prod.mk.injEq] at H
     obtain ⟨rfl, rfl, rfl⟩ := H; obtain ⟨⟨hcz59_0, hcz59_1, hcz59_2⟩, hfz59_0, hfz59_1, hfz59_2⟩ := bk3_ B1.out
     go_wp2
     refine bodyPost_ret (results_cell_row rfl _ _ g1 65 #[.int .i64 0, .int .u64 0, .bool false] (0, 0) _ rfl (by refine pp_ (cs := #[.int .i64 0, .int .u64 0, .bool x102002_1]) 2 ?_ rfl; refine blk_put (cs := #[.int .i64 0, .int .u64 x102001_1, .bool x102002_1]) ?_ 1 _ rfl; refine blk_put (cs := #[.int .i64 x102000_1, .int .u64 x102001_1, .bool x102002_1]) ?_ 0 _ rfl; exact pkx B1) Tryd.underlying65 rfl (by kernel_rfl)) rfl ?_
     exact fi_ bl_

end Go.Proofs.YtdddhabemdbooaaDoor.X
namespace Go.Proofs.YtdddhabemdbooaaDoor.X
open Go.RowKit Go.Proofs.YtdddhabemdbooaaDoorW.PrintWords Go.Proofs.YtdddhabemdbooaaDoorW.PrintLast Go.Proofs.YtdddhabemdbooaaDoorW.PrintMore
attribute [local go_sem] Instr.field asAgg max2_int min2_int max_two min_two max_three min_three max_four min_four
set_option linter.unusedVariables false
set_option linter.unusedSimpArgs false
mutual
def oculusref22_arg.j0 : Nat → Int → Bool → Int → Int → Int → Int → ByteArray → Int → Int → Bool → Bool → Int → Int → Bool → Bool → List (S28) → Option (Bool)
 | 0, _, _, _, _, _, _, _, _, _, _, _, _, _, _, _, _ => none
 | k + 1, x0, x10, x102000, x102001, x102002, x102003, x102004, x102005, x102006, x102007, x102008, x102009, x102010, x102011, x102012, x102013 => if x10 = true then (some (x102000 != 4)) else (if x0 = 114 then (oculusref22_arg.j1 k x0 true x102000 x102001 x102002 x102003 x102004 x102005 x102006 x102007 x102008 x102009 x102010 x102011 x102012 x102013) else (oculusref22_arg.j1 k x0 (x0 == 110) x102000 x102001 x102002 x102003 x102004 x102005 x102006 x102007 x102008 x102009 x102010 x102011 x102012 x102013))
def oculusref22_arg.j1 : Nat → Int → Bool → Int → Int → Int → Int → ByteArray → Int → Int → Bool → Bool → Int → Int → Bool → Bool → List (S28) → Option (Bool)
 | 0, _, _, _, _, _, _, _, _, _, _, _, _, _, _, _, _ => none
 | k + 1, x0, x19, x102000, x102001, x102002, x102003, x102004, x102005, x102006, x102007, x102008, x102009, x102010, x102011, x102012, x102013 => if x19 = true then (if x102000 ≥ 2 then (some (decide (x102000 ≤ 4))) else (some false)) else (if x0 = 116 then (if x102000 = 1 then (if x102002 = 2 then ((oculusref02_Parse.f k x102004).bind fun bt102 => (some bt102.2.2)) else (some false)) else (some false)) else (some (x0 == 108)))
end
def oculusref22_arg.f (k : Nat) (a0 : Int) (a1_0 : Int) (a1_1 : Int) (a1_2 : Int) (a1_3 : Int) (a1_4 : ByteArray) (a1_5 : Int) (a1_6 : Int) (a1_7 : Bool) (a1_8 : Bool) (a1_9 : Int) (a1_10 : Int) (a1_11 : Bool) (a1_12 : Bool) (l1_13 : List (S28)) : Option (Bool) := if a0 = 118 then (oculusref22_arg.j0 k a0 true a1_0 a1_1 a1_2 a1_3 a1_4 a1_5 a1_6 a1_7 a1_8 a1_9 a1_10 a1_11 a1_12 l1_13) else (oculusref22_arg.j0 k a0 (a0 == 101) a1_0 a1_1 a1_2 a1_3 a1_4 a1_5 a1_6 a1_7 a1_8 a1_9 a1_10 a1_11 a1_12 l1_13)
theorem oculusref22_arg.calls (k : Nat) (a0 : Int) (a1_0 : Int) (a1_1 : Int) (a1_2 : Int) (a1_3 : Int) (a1_4 : ByteArray) (a1_5 : Int) (a1_6 : Int) (a1_7 : Bool) (a1_8 : Bool) (a1_9 : Int) (a1_10 : Int) (a1_11 : Bool) (a1_12 : Bool) (A1_13 : Option Addr) (c1_13 : Nat) (l1_13 : List (S28)) (r : Bool) (w : World) (hr1_13 : Kd.C k28 w A1_13 l1_13.length l1_13) (hc1_13 : l1_13.length ≤ c1_13) (h : oculusref22_arg.f k a0 a1_0 a1_1 a1_2 a1_3 a1_4 a1_5 a1_6 a1_7 a1_8 a1_9 a1_10 a1_11 a1_12 l1_13 = some r) :
  Calls Tryd.prog 36 #[.int .u8 a0, .agg #[.int .i64 a1_0, .int .i64 a1_1, .int .i64 a1_2, .int .i64 a1_3, .string a1_4, .int .i64 a1_5, .int .i64 a1_6, .bool a1_7, .bool a1_8, .int .i64 a1_9, .int .i64 a1_10, .bool a1_11, .bool a1_12, .slice A1_13 l1_13.length c1_13]] w fun e w' => e = .returned (.bool r) ∧ Below w.heap.size w w' := by
 have hu28 := Tryd.underlying28; have HR1_13 := A_ hr1_13; have HC1_13 := A_ hc1_13; clear hr1_13 hc1_13; have HB := A_ (Below.refl w.heap.size w)
 have H : (if a0 = 118 then (oculusref22_arg.j0 k a0 true a1_0 a1_1 a1_2 a1_3 a1_4 a1_5 a1_6 a1_7 a1_8 a1_9 a1_10 a1_11 a1_12 l1_13) else (oculusref22_arg.j0 k a0 (a0 == 101) a1_0 a1_1 a1_2 a1_3 a1_4 a1_5 a1_6 a1_7 a1_8 a1_9 a1_10 a1_11 a1_12 l1_13)) = some r := h
 clear h; have HC3 := A_ H; clear H
 go_enter Tryd.func36, Tryd.ntmps36
 go_upto_region 1 with (first | ((with_reducible refine gd_ 3 ?_); refine be_ (N:=3) (cs := #[.int .i64 a1_0, .int .i64 a1_1, .int .i64 a1_2, .int .i64 a1_3, .string a1_4, .int .i64 a1_5, .int .i64 a1_6, .bool a1_7, .bool a1_8, .int .i64 a1_9, .int .i64 a1_10, .bool a1_11, .bool a1_12, .slice A1_13 l1_13.length c1_13]) (t:=28) ?_; intro g1 hg w4 hbox hb; have B1 := A_ (hbox); replace HB := bs_ HB hb; clear hb hbox hg))
 (try simp only [q_])
 go_cut [10] (fun v10 wc => ∃ (kq : Nat) (x10_2 : Bool), v10 = .bool x10_2 ∧ Aside0 (oculusref22_arg.j0 kq a0 x10_2 a1_0 a1_1 a1_2 a1_3 a1_4 a1_5 a1_6 a1_7 a1_8 a1_9 a1_10 a1_11 a1_12 l1_13 = some r) ∧ Aside0 (kq ≤ k) ∧ Aside0 (wc.heap[g1]? = some (.cells #[.int .i64 a1_0, .int .i64 a1_1, .int .i64 a1_2, .int .i64 a1_3, .string a1_4, .int .i64 a1_5, .int .i64 a1_6, .bool a1_7, .bool a1_8, .int .i64 a1_9, .int .i64 a1_10, .bool a1_11, .bool a1_12, (.slice A1_13 l1_13.length c1_13)] 28 (0, 0))) ∧ Aside0 (Below w.heap.size w wc))
 case first =>
  have H := HC3.out; clear HC3
  by_cases c5 : a0 = 118
  ·rw [if_pos c5] at H; have ⟨c5b0,c5b1⟩ := e1_ c5; clear c5; (first | rw [c5b0] | (simp only [i64_w, i32_w]; rw [c5b0]) | skip)
   have H' := A_ H
   clear H
   go_wp2
   go_meet
   case rel => exact ⟨_, (true), sq_, H', le_, ⟨pkx B1⟩, ⟨pbx HB⟩⟩
  ·rw [if_neg c5] at H; have ⟨c5b0,c5b1⟩ := e0_ c5; (first | rw [c5b0] | (simp only [i64_w, i32_w]; rw [c5b0]) | skip)
   have H' := A_ H
   clear H
   go_wp2
   go_meet
   case rel => exact ⟨_, ((a0 == 101)), sq_, H', le_, ⟨pkx B1⟩, ⟨pbx HB⟩⟩
 case rest =>
  clear HC3; obtain ⟨kq, x10_2, rfl, HA, HJ2, B1, HB⟩ := hcut
  cases kq with
  | zero => exact absurd HA.out (by simp [oculusref22_arg.j0])
  | succ kj2 =>
   have H := HA.out; clear HA
   simp only [oculusref22_arg.j0] at H
   replace H := ib_ H; rcases H with ⟨rfl,H⟩|⟨rfl,H⟩
   ·obtain rfl := Option.some.inj H
    have hcz7_0 : wc.cell? ⟨g1, 0, none⟩ = some (.int .i64 a1_0) := bc_ B1 0 rfl
    have hcz7_1 : wc.cell? ⟨g1, 1, none⟩ = some (.int .i64 a1_1) := bc_ B1 1 rfl
    have hcz7_2 : wc.cell? ⟨g1, 2, none⟩ = some (.int .i64 a1_2) := bc_ B1 2 rfl
    have hcz7_3 : wc.cell? ⟨g1, 3, none⟩ = some (.int .i64 a1_3) := bc_ B1 3 rfl
    have hcz7_4 : wc.cell? ⟨g1, 4, none⟩ = some (.string a1_4) := bc_ B1 4 rfl
    have hcz7_5 : wc.cell? ⟨g1, 5, none⟩ = some (.int .i64 a1_5) := bc_ B1 5 rfl
    have hcz7_6 : wc.cell? ⟨g1, 6, none⟩ = some (.int .i64 a1_6) := bc_ B1 6 rfl
    have hcz7_7 : wc.cell? ⟨g1, 7, none⟩ = some (.bool a1_7) := bc_ B1 7 rfl
    have hcz7_8 : wc.cell? ⟨g1, 8, none⟩ = some (.bool a1_8) := bc_ B1 8 rfl
    have hcz7_9 : wc.cell? ⟨g1, 9, none⟩ = some (.int .i64 a1_9) := bc_ B1 9 rfl
    have hcz7_10 : wc.cell? ⟨g1, 10, none⟩ = some (.int .i64 a1_10) := bc_ B1 10 rfl
    have hcz7_11 : wc.cell? ⟨g1, 11, none⟩ = some (.bool a1_11) := bc_ B1 11 rfl
    have hcz7_12 : wc.cell? ⟨g1, 12, none⟩ = some (.bool a1_12) := bc_ B1 12 rfl
    have hcz7_13 : wc.cell? ⟨g1, 13, none⟩ = some (.slice A1_13 l1_13.length c1_13) := bc_ B1 13 rfl
    go_wp2
    go_ret
    exact fi_ (pbx HB)
   ·have HC8 := A_ H; clear H
    go_upto_region 3 with (fail)
    go_cut [19] (fun v19 wc => ∃ (kq : Nat) (x19_7 : Bool), v19 = .bool x19_7 ∧ Aside0 (oculusref22_arg.j1 kq a0 x19_7 a1_0 a1_1 a1_2 a1_3 a1_4 a1_5 a1_6 a1_7 a1_8 a1_9 a1_10 a1_11 a1_12 l1_13 = some r) ∧ Aside0 (kq ≤ kj2) ∧ Aside0 (wc.heap[g1]? = some (.cells #[.int .i64 a1_0, .int .i64 a1_1, .int .i64 a1_2, .int .i64 a1_3, .string a1_4, .int .i64 a1_5, .int .i64 a1_6, .bool a1_7, .bool a1_8, .int .i64 a1_9, .int .i64 a1_10, .bool a1_11, .bool a1_12, (.slice A1_13 l1_13.length c1_13)] 28 (0, 0))) ∧ Aside0 (Below w.heap.size w wc))
    case first =>
     have H := HC8.out; clear HC8
     by_cases c9 : a0 = 114
     ·rw [if_pos c9] at H; have ⟨c9b0,c9b1⟩ := e1_ c9; clear c9; (first | rw [c9b0] | (simp only [i64_w, i32_w]; rw [c9b0]) | skip)
      have H' := A_ H
      clear H
      go_wp2
      go_meet
      case rel => exact ⟨_, (true), sq_, H', ⟨by have := HJ2.out; first | omega | exact Nat.le_refl _⟩, ⟨pkx B1⟩, ⟨pbx HB⟩⟩
     ·rw [if_neg c9] at H; have ⟨c9b0,c9b1⟩ := e0_ c9; (first | rw [c9b0] | (simp only [i64_w, i32_w]; rw [c9b0]) | skip)
      have H' := A_ H
      clear H
      go_wp2
      go_meet
      case rel => exact ⟨_, ((a0 == 110)), sq_, H', ⟨by have := HJ2.out; first | omega | exact Nat.le_refl _⟩, ⟨pkx B1⟩, ⟨pbx HB⟩⟩
    case rest =>
     clear HC8; (try clear c6); obtain ⟨kq, x19_7, rfl, HA, HJ7, B1, HB⟩ := hcut
     cases kq with
     | zero => exact absurd HA.out (by simp [oculusref22_arg.j1])
     | succ kj7 =>
      have H := HA.out; clear HA
      simp only [oculusref22_arg.j1] at H
      replace H := ib_ H; rcases H with ⟨rfl,H⟩|⟨rfl,H⟩
      ·by_cases c11 : a1_0 ≥ 2
       ·rw [if_pos c11] at H; have c11b0 := decide_eq_true c11; clear c11; obtain rfl := Option.some.inj H
        have hcz12_0 : wc.cell? ⟨g1, 0, none⟩ = some (.int .i64 a1_0) := bc_ B1 0 rfl
        have hcz12_1 : wc.cell? ⟨g1, 1, none⟩ = some (.int .i64 a1_1) := bc_ B1 1 rfl
        have hcz12_2 : wc.cell? ⟨g1, 2, none⟩ = some (.int .i64 a1_2) := bc_ B1 2 rfl
        have hcz12_3 : wc.cell? ⟨g1, 3, none⟩ = some (.int .i64 a1_3) := bc_ B1 3 rfl
        have hcz12_4 : wc.cell? ⟨g1, 4, none⟩ = some (.string a1_4) := bc_ B1 4 rfl
        have hcz12_5 : wc.cell? ⟨g1, 5, none⟩ = some (.int .i64 a1_5) := bc_ B1 5 rfl
        have hcz12_6 : wc.cell? ⟨g1, 6, none⟩ = some (.int .i64 a1_6) := bc_ B1 6 rfl
        have hcz12_7 : wc.cell? ⟨g1, 7, none⟩ = some (.bool a1_7) := bc_ B1 7 rfl
        have hcz12_8 : wc.cell? ⟨g1, 8, none⟩ = some (.bool a1_8) := bc_ B1 8 rfl
        have hcz12_9 : wc.cell? ⟨g1, 9, none⟩ = some (.int .i64 a1_9) := bc_ B1 9 rfl
        have hcz12_10 : wc.cell? ⟨g1, 10, none⟩ = some (.int .i64 a1_10) := bc_ B1 10 rfl
        have hcz12_11 : wc.cell? ⟨g1, 11, none⟩ = some (.bool a1_11) := bc_ B1 11 rfl
        have hcz12_12 : wc.cell? ⟨g1, 12, none⟩ = some (.bool a1_12) := bc_ B1 12 rfl
        have hcz12_13 : wc.cell? ⟨g1, 13, none⟩ = some (.slice A1_13 l1_13.length c1_13) := bc_ B1 13 rfl
        go_wp2
        go_ret
        exact fi_ (pbx HB)
       ·rw [if_neg c11] at H; have c11b0 := decide_eq_false c11; clear c11; obtain rfl := Option.some.inj H
        have hcz13_0 : wc.cell? ⟨g1, 0, none⟩ = some (.int .i64 a1_0) := bc_ B1 0 rfl
        have hcz13_1 : wc.cell? ⟨g1, 1, none⟩ = some (.int .i64 a1_1) := bc_ B1 1 rfl
        have hcz13_2 : wc.cell? ⟨g1, 2, none⟩ = some (.int .i64 a1_2) := bc_ B1 2 rfl
        have hcz13_3 : wc.cell? ⟨g1, 3, none⟩ = some (.int .i64 a1_3) := bc_ B1 3 rfl
        have hcz13_4 : wc.cell? ⟨g1, 4, none⟩ = some (.string a1_4) := bc_ B1 4 rfl
        have hcz13_5 : wc.cell? ⟨g1, 5, none⟩ = some (.int .i64 a1_5) := bc_ B1 5 rfl
        have hcz13_6 : wc.cell? ⟨g1, 6, none⟩ = some (.int .i64 a1_6) := bc_ B1 6 rfl
        have hcz13_7 : wc.cell? ⟨g1, 7, none⟩ = some (.bool a1_7) := bc_ B1 7 rfl
        have hcz13_8 : wc.cell? ⟨g1, 8, none⟩ = some (.bool a1_8) := bc_ B1 8 rfl
        have hcz13_9 : wc.cell? ⟨g1, 9, none⟩ = some (.int .i64 a1_9) := bc_ B1 9 rfl
        have hcz13_10 : wc.cell? ⟨g1, 10, none⟩ = some (.int .i64 a1_10) := bc_ B1 10 rfl
        have hcz13_11 : wc.cell? ⟨g1, 11, none⟩ = some (.bool a1_11) := bc_ B1 11 rfl
        have hcz13_12 : wc.cell? ⟨g1, 12, none⟩ = some (.bool a1_12) := bc_ B1 12 rfl
        have hcz13_13 : wc.cell? ⟨g1, 13, none⟩ = some (.slice A1_13 l1_13.length c1_13) := bc_ B1 13 rfl
        go_wp2
        go_ret
        exact fi_ (pbx HB)
      ·by_cases c14 : a0 = 116
       ·rw [if_pos c14] at H; have ⟨c14b0,c14b1⟩ := e1_ c14; clear c14
        by_cases c15 : a1_0 = 1
        ·rw [if_pos c15] at H; have ⟨c15b0,c15b1⟩ := e1_ c15; clear c15
         by_cases c16 : a1_2 = 2
         ·rw [if_pos c16] at H; have ⟨c16b0,c16b1⟩ := e1_ c16; clear c16; obtain ⟨⟨t102, t103, t104⟩, A17, H⟩ := bo_ H; dsimp only at H; obtain rfl := Option.some.inj H
          have hcz18_0 : wc.cell? ⟨g1, 0, none⟩ = some (.int .i64 a1_0) := bc_ B1 0 rfl
          have hcz18_1 : wc.cell? ⟨g1, 1, none⟩ = some (.int .i64 a1_1) := bc_ B1 1 rfl
          have hcz18_2 : wc.cell? ⟨g1, 2, none⟩ = some (.int .i64 a1_2) := bc_ B1 2 rfl
          have hcz18_3 : wc.cell? ⟨g1, 3, none⟩ = some (.int .i64 a1_3) := bc_ B1 3 rfl
          have hcz18_4 : wc.cell? ⟨g1, 4, none⟩ = some (.string a1_4) := bc_ B1 4 rfl
          have hcz18_5 : wc.cell? ⟨g1, 5, none⟩ = some (.int .i64 a1_5) := bc_ B1 5 rfl
          have hcz18_6 : wc.cell? ⟨g1, 6, none⟩ = some (.int .i64 a1_6) := bc_ B1 6 rfl
          have hcz18_7 : wc.cell? ⟨g1, 7, none⟩ = some (.bool a1_7) := bc_ B1 7 rfl
          have hcz18_8 : wc.cell? ⟨g1, 8, none⟩ = some (.bool a1_8) := bc_ B1 8 rfl
          have hcz18_9 : wc.cell? ⟨g1, 9, none⟩ = some (.int .i64 a1_9) := bc_ B1 9 rfl
          have hcz18_10 : wc.cell? ⟨g1, 10, none⟩ = some (.int .i64 a1_10) := bc_ B1 10 rfl
          have hcz18_11 : wc.cell? ⟨g1, 11, none⟩ = some (.bool a1_11) := bc_ B1 11 rfl
          have hcz18_12 : wc.cell? ⟨g1, 12, none⟩ = some (.bool a1_12) := bc_ B1 12 rfl
          have hcz18_13 : wc.cell? ⟨g1, 13, none⟩ = some (.slice A1_13 l1_13.length c1_13) := bc_ B1 13 rfl
          go_wp2_with (first | (go_at_call 48; (with_reducible refine (oculusref02_Parse.calls kj7 a1_4 t102 t103 t104 _ A17.out).mono ?_); rintro e w19 ⟨rfl, hb⟩; replace B1 := bb_ B1 hb; replace HB := bs_ HB hb; (try clear hb); ))
          go_ret
          exact fi_ (pbx HB)
         ·rw [if_neg c16] at H; have ⟨c16b0,c16b1⟩ := e0_ c16; obtain rfl := Option.some.inj H
          have hcz20_0 : wc.cell? ⟨g1, 0, none⟩ = some (.int .i64 a1_0) := bc_ B1 0 rfl
          have hcz20_1 : wc.cell? ⟨g1, 1, none⟩ = some (.int .i64 a1_1) := bc_ B1 1 rfl
          have hcz20_2 : wc.cell? ⟨g1, 2, none⟩ = some (.int .i64 a1_2) := bc_ B1 2 rfl
          have hcz20_3 : wc.cell? ⟨g1, 3, none⟩ = some (.int .i64 a1_3) := bc_ B1 3 rfl
          have hcz20_4 : wc.cell? ⟨g1, 4, none⟩ = some (.string a1_4) := bc_ B1 4 rfl
          have hcz20_5 : wc.cell? ⟨g1, 5, none⟩ = some (.int .i64 a1_5) := bc_ B1 5 rfl
          have hcz20_6 : wc.cell? ⟨g1, 6, none⟩ = some (.int .i64 a1_6) := bc_ B1 6 rfl
          have hcz20_7 : wc.cell? ⟨g1, 7, none⟩ = some (.bool a1_7) := bc_ B1 7 rfl
          have hcz20_8 : wc.cell? ⟨g1, 8, none⟩ = some (.bool a1_8) := bc_ B1 8 rfl
          have hcz20_9 : wc.cell? ⟨g1, 9, none⟩ = some (.int .i64 a1_9) := bc_ B1 9 rfl
          have hcz20_10 : wc.cell? ⟨g1, 10, none⟩ = some (.int .i64 a1_10) := bc_ B1 10 rfl
          have hcz20_11 : wc.cell? ⟨g1, 11, none⟩ = some (.bool a1_11) := bc_ B1 11 rfl
          have hcz20_12 : wc.cell? ⟨g1, 12, none⟩ = some (.bool a1_12) := bc_ B1 12 rfl
          have hcz20_13 : wc.cell? ⟨g1, 13, none⟩ = some (.slice A1_13 l1_13.length c1_13) := bc_ B1 13 rfl
          go_wp2
          go_ret
          exact fi_ (pbx HB)
        ·rw [if_neg c15] at H; have ⟨c15b0,c15b1⟩ := e0_ c15; obtain rfl := Option.some.inj H
         have hcz21_0 : wc.cell? ⟨g1, 0, none⟩ = some (.int .i64 a1_0) := bc_ B1 0 rfl
         have hcz21_1 : wc.cell? ⟨g1, 1, none⟩ = some (.int .i64 a1_1) := bc_ B1 1 rfl
         have hcz21_2 : wc.cell? ⟨g1, 2, none⟩ = some (.int .i64 a1_2) := bc_ B1 2 rfl
         have hcz21_3 : wc.cell? ⟨g1, 3, none⟩ = some (.int .i64 a1_3) := bc_ B1 3 rfl
         have hcz21_4 : wc.cell? ⟨g1, 4, none⟩ = some (.string a1_4) := bc_ B1 4 rfl
         have hcz21_5 : wc.cell? ⟨g1, 5, none⟩ = some (.int .i64 a1_5) := bc_ B1 5 rfl
         have hcz21_6 : wc.cell? ⟨g1, 6, none⟩ = some (.int .i64 a1_6) := bc_ B1 6 rfl
         have hcz21_7 : wc.cell? ⟨g1, 7, none⟩ = some (.bool a1_7) := bc_ B1 7 rfl
         have hcz21_8 : wc.cell? ⟨g1, 8, none⟩ = some (.bool a1_8) := bc_ B1 8 rfl
         have hcz21_9 : wc.cell? ⟨g1, 9, none⟩ = some (.int .i64 a1_9) := bc_ B1 9 rfl
         have hcz21_10 : wc.cell? ⟨g1, 10, none⟩ = some (.int .i64 a1_10) := bc_ B1 10 rfl
         have hcz21_11 : wc.cell? ⟨g1, 11, none⟩ = some (.bool a1_11) := bc_ B1 11 rfl
         have hcz21_12 : wc.cell? ⟨g1, 12, none⟩ = some (.bool a1_12) := bc_ B1 12 rfl
         have hcz21_13 : wc.cell? ⟨g1, 13, none⟩ = some (.slice A1_13 l1_13.length c1_13) := bc_ B1 13 rfl
         go_wp2
         go_ret
         exact fi_ (pbx HB)
       ·rw [if_neg c14] at H; have ⟨c14b0,c14b1⟩ := e0_ c14; obtain rfl := Option.some.inj H
        go_wp2
        go_ret
        exact fi_ (pbx HB)

end Go.Proofs.YtdddhabemdbooaaDoor.X
namespace Go.Proofs.YtdddhabemdbooaaDoor.X
open Go.RowKit Go.Proofs.YtdddhabemdbooaaDoorW.PrintWords Go.Proofs.YtdddhabemdbooaaDoorW.PrintLast Go.Proofs.YtdddhabemdbooaaDoorW.PrintMore
attribute [local go_sem] max2_int min2_int max_two min_two max_three min_three max_four min_four
set_option linter.unusedVariables false
set_option linter.unusedSimpArgs false
def oculusref19_Rows.f  : Option (List ByteArray) := some (([(⟨#[49, 49, 118]⟩ : ByteArray), (⟨#[49, 56, 101]⟩ : ByteArray), (⟨#[49, 56, 108]⟩ : ByteArray), (⟨#[50, 50, 114, 118]⟩ : ByteArray), (⟨#[50, 50, 118]⟩ : ByteArray), (⟨#[49, 49, 118]⟩ : ByteArray), (⟨#[50, 56, 101]⟩ : ByteArray), (⟨#[49, 49, 118]⟩ : ByteArray), (⟨#[49, 49, 110]⟩ : ByteArray), (⟨#[49, 49, 110]⟩ : ByteArray), (⟨#[50, 50, 118]⟩ : ByteArray), (⟨#[49, 56, 108]⟩ : ByteArray), (⟨#[49, 56, 108]⟩ : ByteArray), (⟨#[49, 56, 108]⟩ : ByteArray), (⟨#[49, 56, 108]⟩ : ByteArray), (⟨#[50, 50, 114, 118]⟩ : ByteArray), (⟨#[50, 50, 101, 116]⟩ : ByteArray), (⟨#[49, 49, 118]⟩ : ByteArray), (⟨#[50, 50, 118]⟩ : ByteArray), (⟨#[49, 49, 118]⟩ : ByteArray), (⟨#[50, 50, 118]⟩ : ByteArray), (⟨#[50, 50, 118]⟩ : ByteArray), (⟨#[50, 50, 118]⟩ : ByteArray), (⟨#[51, 51, 118, 114, 118]⟩ : ByteArray), (⟨#[50, 51, 101]⟩ : ByteArray), (⟨#[50, 50, 101]⟩ : ByteArray), (⟨#[50, 51, 114, 118]⟩ : ByteArray), (⟨#[49, 49, 118]⟩ : ByteArray), (⟨#[49, 49, 118]⟩ : ByteArray), (⟨#[49, 49, 118]⟩ : ByteArray), (⟨#[49, 49, 118]⟩ : ByteArray), (⟨#[49, 49, 118]⟩ : ByteArray), (⟨#[49, 49, 118]⟩ : ByteArray), (⟨#[50, 50, 114, 118]⟩ : ByteArray), (⟨#[50, 50, 118]⟩ : ByteArray), (⟨#[50, 50, 118]⟩ : ByteArray), (⟨#[49, 49, 118]⟩ : ByteArray), (⟨#[49, 49, 118]⟩ : ByteArray), (⟨#[50, 50, 118, 114]⟩ : ByteArray), (⟨#[49, 56, 108]⟩ : ByteArray), (⟨#[49, 56, 108]⟩ : ByteArray), (⟨#[51, 51, 118]⟩ : ByteArray), (⟨#[49, 56, 108]⟩ : ByteArray), (⟨#[50, 50, 118]⟩ : ByteArray), (⟨#[49, 56, 108]⟩ : ByteArray), (⟨#[48, 48]⟩ : ByteArray), (⟨#[49, 49, 118]⟩ : ByteArray), (⟨#[49, 49, 118]⟩ : ByteArray), (⟨#[49, 56, 101]⟩ : ByteArray), (⟨#[50, 50, 118]⟩ : ByteArray), (⟨#[49, 56, 108]⟩ : ByteArray), (⟨#[49, 49, 118]⟩ : ByteArray), (⟨#[50, 50, 118]⟩ : ByteArray), (⟨#[50, 50, 118, 114]⟩ : ByteArray), (⟨#[50, 50, 118]⟩ : ByteArray), (⟨#[49, 49, 118]⟩ : ByteArray), (⟨#[50, 50, 118]⟩ : ByteArray), (⟨#[50, 50, 118]⟩ : ByteArray), (⟨#[50, 50, 118]⟩ : ByteArray), (⟨#[50, 50, 118]⟩ : ByteArray), (⟨#[49, 49, 110]⟩ : ByteArray), (⟨#[49, 49, 110]⟩ : ByteArray), (⟨#[49, 49, 118]⟩ : ByteArray), (⟨#[50, 50, 114, 118]⟩ : ByteArray), (⟨#[49, 49, 118]⟩ : ByteArray), (⟨#[51, 51, 118]⟩ : ByteArray), (⟨#[49, 56, 108]⟩ : ByteArray), (⟨#[50, 50, 114, 118]⟩ : ByteArray), (⟨#[50, 50, 114]⟩ : ByteArray), (⟨#[49, 56, 108]⟩ : ByteArray), (⟨#[51, 56, 101]⟩ : ByteArray), (⟨#[50, 50, 118]⟩ : ByteArray), (⟨#[49, 49, 118]⟩ : ByteArray), (⟨#[49, 49, 118]⟩ : ByteArray), (⟨#[49, 49, 118]⟩ : ByteArray), (⟨#[49, 49, 118]⟩ : ByteArray), (⟨#[51, 51, 118, 114, 118]⟩ : ByteArray), (⟨#[49, 56, 108]⟩ : ByteArray)] : List ByteArray))
theorem oculusref19_Rows.calls  (r : List ByteArray) (w : World) (h : oculusref19_Rows.f  = some r) :
  Calls Tryd.prog 49 #[] w fun e w' => ∃ v0_ : Value, e = .returned (v0_) ∧ Kd.R Kd.string 9 w' w.heap.size (fun _ => True) v0_ r ∧ Below w.heap.size w w' := by
 have HB := A_ (Below.refl w.heap.size w)
 have H : (some (([(⟨#[49, 49, 118]⟩ : ByteArray), (⟨#[49, 56, 101]⟩ : ByteArray), (⟨#[49, 56, 108]⟩ : ByteArray), (⟨#[50, 50, 114, 118]⟩ : ByteArray), (⟨#[50, 50, 118]⟩ : ByteArray), (⟨#[49, 49, 118]⟩ : ByteArray), (⟨#[50, 56, 101]⟩ : ByteArray), (⟨#[49, 49, 118]⟩ : ByteArray), (⟨#[49, 49, 110]⟩ : ByteArray), (⟨#[49, 49, 110]⟩ : ByteArray), (⟨#[50, 50, 118]⟩ : ByteArray), (⟨#[49, 56, 108]⟩ : ByteArray), (⟨#[49, 56, 108]⟩ : ByteArray), (⟨#[49, 56, 108]⟩ : ByteArray), (⟨#[49, 56, 108]⟩ : ByteArray), (⟨#[50, 50, 114, 118]⟩ : ByteArray), (⟨#[50, 50, 101, 116]⟩ : ByteArray), (⟨#[49, 49, 118]⟩ : ByteArray), (⟨#[50, 50, 118]⟩ : ByteArray), (⟨#[49, 49, 118]⟩ : ByteArray), (⟨#[50, 50, 118]⟩ : ByteArray), (⟨#[50, 50, 118]⟩ : ByteArray), (⟨#[50, 50, 118]⟩ : ByteArray), (⟨#[51, 51, 118, 114, 118]⟩ : ByteArray), (⟨#[50, 51, 101]⟩ : ByteArray), (⟨#[50, 50, 101]⟩ : ByteArray), (⟨#[50, 51, 114, 118]⟩ : ByteArray), (⟨#[49, 49, 118]⟩ : ByteArray), (⟨#[49, 49, 118]⟩ : ByteArray), (⟨#[49, 49, 118]⟩ : ByteArray), (⟨#[49, 49, 118]⟩ : ByteArray), (⟨#[49, 49, 118]⟩ : ByteArray), (⟨#[49, 49, 118]⟩ : ByteArray), (⟨#[50, 50, 114, 118]⟩ : ByteArray), (⟨#[50, 50, 118]⟩ : ByteArray), (⟨#[50, 50, 118]⟩ : ByteArray), (⟨#[49, 49, 118]⟩ : ByteArray), (⟨#[49, 49, 118]⟩ : ByteArray), (⟨#[50, 50, 118, 114]⟩ : ByteArray), (⟨#[49, 56, 108]⟩ : ByteArray), (⟨#[49, 56, 108]⟩ : ByteArray), (⟨#[51, 51, 118]⟩ : ByteArray), (⟨#[49, 56, 108]⟩ : ByteArray), (⟨#[50, 50, 118]⟩ : ByteArray), (⟨#[49, 56, 108]⟩ : ByteArray), (⟨#[48, 48]⟩ : ByteArray), (⟨#[49, 49, 118]⟩ : ByteArray), (⟨#[49, 49, 118]⟩ : ByteArray), (⟨#[49, 56, 101]⟩ : ByteArray), (⟨#[50, 50, 118]⟩ : ByteArray), (⟨#[49, 56, 108]⟩ : ByteArray), (⟨#[49, 49, 118]⟩ : ByteArray), (⟨#[50, 50, 118]⟩ : ByteArray), (⟨#[50, 50, 118, 114]⟩ : ByteArray), (⟨#[50, 50, 118]⟩ : ByteArray), (⟨#[49, 49, 118]⟩ : ByteArray), (⟨#[50, 50, 118]⟩ : ByteArray), (⟨#[50, 50, 118]⟩ : ByteArray), (⟨#[50, 50, 118]⟩ : ByteArray), (⟨#[50, 50, 118]⟩ : ByteArray), (⟨#[49, 49, 110]⟩ : ByteArray), (⟨#[49, 49, 110]⟩ : ByteArray), (⟨#[49, 49, 118]⟩ : ByteArray), (⟨#[50, 50, 114, 118]⟩ : ByteArray), (⟨#[49, 49, 118]⟩ : ByteArray), (⟨#[51, 51, 118]⟩ : ByteArray), (⟨#[49, 56, 108]⟩ : ByteArray), (⟨#[50, 50, 114, 118]⟩ : ByteArray), (⟨#[50, 50, 114]⟩ : ByteArray), (⟨#[49, 56, 108]⟩ : ByteArray), (⟨#[51, 56, 101]⟩ : ByteArray), (⟨#[50, 50, 118]⟩ : ByteArray), (⟨#[49, 49, 118]⟩ : ByteArray), (⟨#[49, 49, 118]⟩ : ByteArray), (⟨#[49, 49, 118]⟩ : ByteArray), (⟨#[49, 49, 118]⟩ : ByteArray), (⟨#[51, 51, 118, 114, 118]⟩ : ByteArray), (⟨#[49, 56, 108]⟩ : ByteArray)] : List ByteArray))) = some r := h
 clear h; obtain ⟨y101, hy101⟩ : ∃ y_ : List ByteArray, y_ = (([(⟨#[49, 49, 118]⟩ : ByteArray), (⟨#[49, 56, 101]⟩ : ByteArray), (⟨#[49, 56, 108]⟩ : ByteArray), (⟨#[50, 50, 114, 118]⟩ : ByteArray), (⟨#[50, 50, 118]⟩ : ByteArray), (⟨#[49, 49, 118]⟩ : ByteArray), (⟨#[50, 56, 101]⟩ : ByteArray), (⟨#[49, 49, 118]⟩ : ByteArray), (⟨#[49, 49, 110]⟩ : ByteArray), (⟨#[49, 49, 110]⟩ : ByteArray), (⟨#[50, 50, 118]⟩ : ByteArray), (⟨#[49, 56, 108]⟩ : ByteArray), (⟨#[49, 56, 108]⟩ : ByteArray), (⟨#[49, 56, 108]⟩ : ByteArray), (⟨#[49, 56, 108]⟩ : ByteArray), (⟨#[50, 50, 114, 118]⟩ : ByteArray), (⟨#[50, 50, 101, 116]⟩ : ByteArray), (⟨#[49, 49, 118]⟩ : ByteArray), (⟨#[50, 50, 118]⟩ : ByteArray), (⟨#[49, 49, 118]⟩ : ByteArray), (⟨#[50, 50, 118]⟩ : ByteArray), (⟨#[50, 50, 118]⟩ : ByteArray), (⟨#[50, 50, 118]⟩ : ByteArray), (⟨#[51, 51, 118, 114, 118]⟩ : ByteArray), (⟨#[50, 51, 101]⟩ : ByteArray), (⟨#[50, 50, 101]⟩ : ByteArray), (⟨#[50, 51, 114, 118]⟩ : ByteArray), (⟨#[49, 49, 118]⟩ : ByteArray), (⟨#[49, 49, 118]⟩ : ByteArray), (⟨#[49, 49, 118]⟩ : ByteArray), (⟨#[49, 49, 118]⟩ : ByteArray), (⟨#[49, 49, 118]⟩ : ByteArray), (⟨#[49, 49, 118]⟩ : ByteArray), (⟨#[50, 50, 114, 118]⟩ : ByteArray), (⟨#[50, 50, 118]⟩ : ByteArray), (⟨#[50, 50, 118]⟩ : ByteArray), (⟨#[49, 49, 118]⟩ : ByteArray), (⟨#[49, 49, 118]⟩ : ByteArray), (⟨#[50, 50, 118, 114]⟩ : ByteArray), (⟨#[49, 56, 108]⟩ : ByteArray), (⟨#[49, 56, 108]⟩ : ByteArray), (⟨#[51, 51, 118]⟩ : ByteArray), (⟨#[49, 56, 108]⟩ : ByteArray), (⟨#[50, 50, 118]⟩ : ByteArray), (⟨#[49, 56, 108]⟩ : ByteArray), (⟨#[48, 48]⟩ : ByteArray), (⟨#[49, 49, 118]⟩ : ByteArray), (⟨#[49, 49, 118]⟩ : ByteArray), (⟨#[49, 56, 101]⟩ : ByteArray), (⟨#[50, 50, 118]⟩ : ByteArray), (⟨#[49, 56, 108]⟩ : ByteArray), (⟨#[49, 49, 118]⟩ : ByteArray), (⟨#[50, 50, 118]⟩ : ByteArray), (⟨#[50, 50, 118, 114]⟩ : ByteArray), (⟨#[50, 50, 118]⟩ : ByteArray), (⟨#[49, 49, 118]⟩ : ByteArray), (⟨#[50, 50, 118]⟩ : ByteArray), (⟨#[50, 50, 118]⟩ : ByteArray), (⟨#[50, 50, 118]⟩ : ByteArray), (⟨#[50, 50, 118]⟩ : ByteArray), (⟨#[49, 49, 110]⟩ : ByteArray), (⟨#[49, 49, 110]⟩ : ByteArray), (⟨#[49, 49, 118]⟩ : ByteArray), (⟨#[50, 50, 114, 118]⟩ : ByteArray), (⟨#[49, 49, 118]⟩ : ByteArray), (⟨#[51, 51, 118]⟩ : ByteArray), (⟨#[49, 56, 108]⟩ : ByteArray), (⟨#[50, 50, 114, 118]⟩ : ByteArray), (⟨#[50, 50, 114]⟩ : ByteArray), (⟨#[49, 56, 108]⟩ : ByteArray), (⟨#[51, 56, 101]⟩ : ByteArray), (⟨#[50, 50, 118]⟩ : ByteArray), (⟨#[49, 49, 118]⟩ : ByteArray), (⟨#[49, 49, 118]⟩ : ByteArray), (⟨#[49, 49, 118]⟩ : ByteArray), (⟨#[49, 49, 118]⟩ : ByteArray), (⟨#[51, 51, 118, 114, 118]⟩ : ByteArray), (⟨#[49, 56, 108]⟩ : ByteArray)] : List ByteArray)) := ⟨_, rfl⟩
 replace H : (some y101) = some r := by first | (rw [hy101]; with_reducible exact H) | (have H2_ := (Option.bind_some _ _).symm.trans H; rw [hy101]; with_reducible exact H2_) | (have H2_ := (Option.bind_some _ _).symm.trans H; with_reducible exact H2_) | with_reducible exact H | (rw [hy101]; exact H) | exact H
 have Ny101 := A_ hy101; clear hy101; obtain rfl := Option.some.inj H
 go_enter Tryd.func49, Tryd.ntmps49
 go_wp2_with (first | ((with_reducible refine gd_ 1 ?_); refine Kd.R_lit Kd.string _ 9 ?hg (N:=1) ?hd (xs := ([(⟨#[49, 49, 118]⟩ : ByteArray), (⟨#[49, 56, 101]⟩ : ByteArray), (⟨#[49, 56, 108]⟩ : ByteArray), (⟨#[50, 50, 114, 118]⟩ : ByteArray), (⟨#[50, 50, 118]⟩ : ByteArray), (⟨#[49, 49, 118]⟩ : ByteArray), (⟨#[50, 56, 101]⟩ : ByteArray), (⟨#[49, 49, 118]⟩ : ByteArray), (⟨#[49, 49, 110]⟩ : ByteArray), (⟨#[49, 49, 110]⟩ : ByteArray), (⟨#[50, 50, 118]⟩ : ByteArray), (⟨#[49, 56, 108]⟩ : ByteArray), (⟨#[49, 56, 108]⟩ : ByteArray), (⟨#[49, 56, 108]⟩ : ByteArray), (⟨#[49, 56, 108]⟩ : ByteArray), (⟨#[50, 50, 114, 118]⟩ : ByteArray), (⟨#[50, 50, 101, 116]⟩ : ByteArray), (⟨#[49, 49, 118]⟩ : ByteArray), (⟨#[50, 50, 118]⟩ : ByteArray), (⟨#[49, 49, 118]⟩ : ByteArray), (⟨#[50, 50, 118]⟩ : ByteArray), (⟨#[50, 50, 118]⟩ : ByteArray), (⟨#[50, 50, 118]⟩ : ByteArray), (⟨#[51, 51, 118, 114, 118]⟩ : ByteArray), (⟨#[50, 51, 101]⟩ : ByteArray), (⟨#[50, 50, 101]⟩ : ByteArray), (⟨#[50, 51, 114, 118]⟩ : ByteArray), (⟨#[49, 49, 118]⟩ : ByteArray), (⟨#[49, 49, 118]⟩ : ByteArray), (⟨#[49, 49, 118]⟩ : ByteArray), (⟨#[49, 49, 118]⟩ : ByteArray), (⟨#[49, 49, 118]⟩ : ByteArray), (⟨#[49, 49, 118]⟩ : ByteArray), (⟨#[50, 50, 114, 118]⟩ : ByteArray), (⟨#[50, 50, 118]⟩ : ByteArray), (⟨#[50, 50, 118]⟩ : ByteArray), (⟨#[49, 49, 118]⟩ : ByteArray), (⟨#[49, 49, 118]⟩ : ByteArray), (⟨#[50, 50, 118, 114]⟩ : ByteArray), (⟨#[49, 56, 108]⟩ : ByteArray), (⟨#[49, 56, 108]⟩ : ByteArray), (⟨#[51, 51, 118]⟩ : ByteArray), (⟨#[49, 56, 108]⟩ : ByteArray), (⟨#[50, 50, 118]⟩ : ByteArray), (⟨#[49, 56, 108]⟩ : ByteArray), (⟨#[48, 48]⟩ : ByteArray), (⟨#[49, 49, 118]⟩ : ByteArray), (⟨#[49, 49, 118]⟩ : ByteArray), (⟨#[49, 56, 101]⟩ : ByteArray), (⟨#[50, 50, 118]⟩ : ByteArray), (⟨#[49, 56, 108]⟩ : ByteArray), (⟨#[49, 49, 118]⟩ : ByteArray), (⟨#[50, 50, 118]⟩ : ByteArray), (⟨#[50, 50, 118, 114]⟩ : ByteArray), (⟨#[50, 50, 118]⟩ : ByteArray), (⟨#[49, 49, 118]⟩ : ByteArray), (⟨#[50, 50, 118]⟩ : ByteArray), (⟨#[50, 50, 118]⟩ : ByteArray), (⟨#[50, 50, 118]⟩ : ByteArray), (⟨#[50, 50, 118]⟩ : ByteArray), (⟨#[49, 49, 110]⟩ : ByteArray), (⟨#[49, 49, 110]⟩ : ByteArray), (⟨#[49, 49, 118]⟩ : ByteArray), (⟨#[50, 50, 114, 118]⟩ : ByteArray), (⟨#[49, 49, 118]⟩ : ByteArray), (⟨#[51, 51, 118]⟩ : ByteArray), (⟨#[49, 56, 108]⟩ : ByteArray), (⟨#[50, 50, 114, 118]⟩ : ByteArray), (⟨#[50, 50, 114]⟩ : ByteArray), (⟨#[49, 56, 108]⟩ : ByteArray), (⟨#[51, 56, 101]⟩ : ByteArray), (⟨#[50, 50, 118]⟩ : ByteArray), (⟨#[49, 49, 118]⟩ : ByteArray), (⟨#[49, 49, 118]⟩ : ByteArray), (⟨#[49, 49, 118]⟩ : ByteArray), (⟨#[49, 49, 118]⟩ : ByteArray), (⟨#[51, 51, 118, 114, 118]⟩ : ByteArray), (⟨#[49, 56, 108]⟩ : ByteArray)] : List ByteArray)) (inner := [.string (⟨#[49, 49, 118]⟩ : ByteArray), .string (⟨#[49, 56, 101]⟩ : ByteArray), .string (⟨#[49, 56, 108]⟩ : ByteArray), .string (⟨#[50, 50, 114, 118]⟩ : ByteArray), .string (⟨#[50, 50, 118]⟩ : ByteArray), .string (⟨#[49, 49, 118]⟩ : ByteArray), .string (⟨#[50, 56, 101]⟩ : ByteArray), .string (⟨#[49, 49, 118]⟩ : ByteArray), .string (⟨#[49, 49, 110]⟩ : ByteArray), .string (⟨#[49, 49, 110]⟩ : ByteArray), .string (⟨#[50, 50, 118]⟩ : ByteArray), .string (⟨#[49, 56, 108]⟩ : ByteArray), .string (⟨#[49, 56, 108]⟩ : ByteArray), .string (⟨#[49, 56, 108]⟩ : ByteArray), .string (⟨#[49, 56, 108]⟩ : ByteArray), .string (⟨#[50, 50, 114, 118]⟩ : ByteArray), .string (⟨#[50, 50, 101, 116]⟩ : ByteArray), .string (⟨#[49, 49, 118]⟩ : ByteArray), .string (⟨#[50, 50, 118]⟩ : ByteArray), .string (⟨#[49, 49, 118]⟩ : ByteArray), .string (⟨#[50, 50, 118]⟩ : ByteArray), .string (⟨#[50, 50, 118]⟩ : ByteArray), .string (⟨#[50, 50, 118]⟩ : ByteArray), .string (⟨#[51, 51, 118, 114, 118]⟩ : ByteArray), .string (⟨#[50, 51, 101]⟩ : ByteArray), .string (⟨#[50, 50, 101]⟩ : ByteArray), .string (⟨#[50, 51, 114, 118]⟩ : ByteArray), .string (⟨#[49, 49, 118]⟩ : ByteArray), .string (⟨#[49, 49, 118]⟩ : ByteArray), .string (⟨#[49, 49, 118]⟩ : ByteArray), .string (⟨#[49, 49, 118]⟩ : ByteArray), .string (⟨#[49, 49, 118]⟩ : ByteArray), .string (⟨#[49, 49, 118]⟩ : ByteArray), .string (⟨#[50, 50, 114, 118]⟩ : ByteArray), .string (⟨#[50, 50, 118]⟩ : ByteArray), .string (⟨#[50, 50, 118]⟩ : ByteArray), .string (⟨#[49, 49, 118]⟩ : ByteArray), .string (⟨#[49, 49, 118]⟩ : ByteArray), .string (⟨#[50, 50, 118, 114]⟩ : ByteArray), .string (⟨#[49, 56, 108]⟩ : ByteArray), .string (⟨#[49, 56, 108]⟩ : ByteArray), .string (⟨#[51, 51, 118]⟩ : ByteArray), .string (⟨#[49, 56, 108]⟩ : ByteArray), .string (⟨#[50, 50, 118]⟩ : ByteArray), .string (⟨#[49, 56, 108]⟩ : ByteArray), .string (⟨#[48, 48]⟩ : ByteArray), .string (⟨#[49, 49, 118]⟩ : ByteArray), .string (⟨#[49, 49, 118]⟩ : ByteArray), .string (⟨#[49, 56, 101]⟩ : ByteArray), .string (⟨#[50, 50, 118]⟩ : ByteArray), .string (⟨#[49, 56, 108]⟩ : ByteArray), .string (⟨#[49, 49, 118]⟩ : ByteArray), .string (⟨#[50, 50, 118]⟩ : ByteArray), .string (⟨#[50, 50, 118, 114]⟩ : ByteArray), .string (⟨#[50, 50, 118]⟩ : ByteArray), .string (⟨#[49, 49, 118]⟩ : ByteArray), .string (⟨#[50, 50, 118]⟩ : ByteArray), .string (⟨#[50, 50, 118]⟩ : ByteArray), .string (⟨#[50, 50, 118]⟩ : ByteArray), .string (⟨#[50, 50, 118]⟩ : ByteArray), .string (⟨#[49, 49, 110]⟩ : ByteArray), .string (⟨#[49, 49, 110]⟩ : ByteArray), .string (⟨#[49, 49, 118]⟩ : ByteArray), .string (⟨#[50, 50, 114, 118]⟩ : ByteArray), .string (⟨#[49, 49, 118]⟩ : ByteArray), .string (⟨#[51, 51, 118]⟩ : ByteArray), .string (⟨#[49, 56, 108]⟩ : ByteArray), .string (⟨#[50, 50, 114, 118]⟩ : ByteArray), .string (⟨#[50, 50, 114]⟩ : ByteArray), .string (⟨#[49, 56, 108]⟩ : ByteArray), .string (⟨#[51, 56, 101]⟩ : ByteArray), .string (⟨#[50, 50, 118]⟩ : ByteArray), .string (⟨#[49, 49, 118]⟩ : ByteArray), .string (⟨#[49, 49, 118]⟩ : ByteArray), .string (⟨#[49, 49, 118]⟩ : ByteArray), .string (⟨#[49, 49, 118]⟩ : ByteArray), .string (⟨#[51, 51, 118, 114, 118]⟩ : ByteArray), .string (⟨#[49, 56, 108]⟩ : ByteArray)]) (ok := fun _ => True) (okp := fun _ => True) ?hr ?hp (fun _ hk => hk) trivial (Below.refl _ _) (Nat.le_refl _) (by simp) ?_; (case hd => rfl); (case hg => rfl); (case hr => first | (go_simp; done) | (go_simp; rfl)); (case hp => exact (Reps.one (show Kd.M Kd.string _ _ _ (⟨#[49, 49, 118]⟩ : ByteArray) [.string (⟨#[49, 49, 118]⟩ : ByteArray)] from rfl) (Reps.one (show Kd.M Kd.string _ _ _ (⟨#[49, 56, 101]⟩ : ByteArray) [.string (⟨#[49, 56, 101]⟩ : ByteArray)] from rfl) (Reps.one (show Kd.M Kd.string _ _ _ (⟨#[49, 56, 108]⟩ : ByteArray) [.string (⟨#[49, 56, 108]⟩ : ByteArray)] from rfl) (Reps.one (show Kd.M Kd.string _ _ _ (⟨#[50, 50, 114, 118]⟩ : ByteArray) [.string (⟨#[50, 50, 114, 118]⟩ : ByteArray)] from rfl) (Reps.one (show Kd.M Kd.string _ _ _ (⟨#[50, 50, 118]⟩ : ByteArray) [.string (⟨#[50, 50, 118]⟩ : ByteArray)] from rfl) (Reps.one (show Kd.M Kd.string _ _ _ (⟨#[49, 49, 118]⟩ : ByteArray) [.string (⟨#[49, 49, 118]⟩ : ByteArray)] from rfl) (Reps.one (show Kd.M Kd.string _ _ _ (⟨#[50, 56, 101]⟩ : ByteArray) [.string (⟨#[50, 56, 101]⟩ : ByteArray)] from rfl) (Reps.one (show Kd.M Kd.string _ _ _ (⟨#[49, 49, 118]⟩ : ByteArray) [.string (⟨#[49, 49, 118]⟩ : ByteArray)] from rfl) (Reps.one (show Kd.M Kd.string _ _ _ (⟨#[49, 49, 110]⟩ : ByteArray) [.string (⟨#[49, 49, 110]⟩ : ByteArray)] from rfl) (Reps.one (show Kd.M Kd.string _ _ _ (⟨#[49, 49, 110]⟩ : ByteArray) [.string (⟨#[49, 49, 110]⟩ : ByteArray)] from rfl) (Reps.one (show Kd.M Kd.string _ _ _ (⟨#[50, 50, 118]⟩ : ByteArray) [.string (⟨#[50, 50, 118]⟩ : ByteArray)] from rfl) (Reps.one (show Kd.M Kd.string _ _ _ (⟨#[49, 56, 108]⟩ : ByteArray) [.string (⟨#[49, 56, 108]⟩ : ByteArray)] from rfl) (Reps.one (show Kd.M Kd.string _ _ _ (⟨#[49, 56, 108]⟩ : ByteArray) [.string (⟨#[49, 56, 108]⟩ : ByteArray)] from rfl) (Reps.one (show Kd.M Kd.string _ _ _ (⟨#[49, 56, 108]⟩ : ByteArray) [.string (⟨#[49, 56, 108]⟩ : ByteArray)] from rfl) (Reps.one (show Kd.M Kd.string _ _ _ (⟨#[49, 56, 108]⟩ : ByteArray) [.string (⟨#[49, 56, 108]⟩ : ByteArray)] from rfl) (Reps.one (show Kd.M Kd.string _ _ _ (⟨#[50, 50, 114, 118]⟩ : ByteArray) [.string (⟨#[50, 50, 114, 118]⟩ : ByteArray)] from rfl) (Reps.one (show Kd.M Kd.string _ _ _ (⟨#[50, 50, 101, 116]⟩ : ByteArray) [.string (⟨#[50, 50, 101, 116]⟩ : ByteArray)] from rfl) (Reps.one (show Kd.M Kd.string _ _ _ (⟨#[49, 49, 118]⟩ : ByteArray) [.string (⟨#[49, 49, 118]⟩ : ByteArray)] from rfl) (Reps.one (show Kd.M Kd.string _ _ _ (⟨#[50, 50, 118]⟩ : ByteArray) [.string (⟨#[50, 50, 118]⟩ : ByteArray)] from rfl) (Reps.one (show Kd.M Kd.string _ _ _ (⟨#[49, 49, 118]⟩ : ByteArray) [.string (⟨#[49, 49, 118]⟩ : ByteArray)] from rfl) (Reps.one (show Kd.M Kd.string _ _ _ (⟨#[50, 50, 118]⟩ : ByteArray) [.string (⟨#[50, 50, 118]⟩ : ByteArray)] from rfl) (Reps.one (show Kd.M Kd.string _ _ _ (⟨#[50, 50, 118]⟩ : ByteArray) [.string (⟨#[50, 50, 118]⟩ : ByteArray)] from rfl) (Reps.one (show Kd.M Kd.string _ _ _ (⟨#[50, 50, 118]⟩ : ByteArray) [.string (⟨#[50, 50, 118]⟩ : ByteArray)] from rfl) (Reps.one (show Kd.M Kd.string _ _ _ (⟨#[51, 51, 118, 114, 118]⟩ : ByteArray) [.string (⟨#[51, 51, 118, 114, 118]⟩ : ByteArray)] from rfl) (Reps.one (show Kd.M Kd.string _ _ _ (⟨#[50, 51, 101]⟩ : ByteArray) [.string (⟨#[50, 51, 101]⟩ : ByteArray)] from rfl) (Reps.one (show Kd.M Kd.string _ _ _ (⟨#[50, 50, 101]⟩ : ByteArray) [.string (⟨#[50, 50, 101]⟩ : ByteArray)] from rfl) (Reps.one (show Kd.M Kd.string _ _ _ (⟨#[50, 51, 114, 118]⟩ : ByteArray) [.string (⟨#[50, 51, 114, 118]⟩ : ByteArray)] from rfl) (Reps.one (show Kd.M Kd.string _ _ _ (⟨#[49, 49, 118]⟩ : ByteArray) [.string (⟨#[49, 49, 118]⟩ : ByteArray)] from rfl) (Reps.one (show Kd.M Kd.string _ _ _ (⟨#[49, 49, 118]⟩ : ByteArray) [.string (⟨#[49, 49, 118]⟩ : ByteArray)] from rfl) (Reps.one (show Kd.M Kd.string _ _ _ (⟨#[49, 49, 118]⟩ : ByteArray) [.string (⟨#[49, 49, 118]⟩ : ByteArray)] from rfl) (Reps.one (show Kd.M Kd.string _ _ _ (⟨#[49, 49, 118]⟩ : ByteArray) [.string (⟨#[49, 49, 118]⟩ : ByteArray)] from rfl) (Reps.one (show Kd.M Kd.string _ _ _ (⟨#[49, 49, 118]⟩ : ByteArray) [.string (⟨#[49, 49, 118]⟩ : ByteArray)] from rfl) (Reps.one (show Kd.M Kd.string _ _ _ (⟨#[49, 49, 118]⟩ : ByteArray) [.string (⟨#[49, 49, 118]⟩ : ByteArray)] from rfl) (Reps.one (show Kd.M Kd.string _ _ _ (⟨#[50, 50, 114, 118]⟩ : ByteArray) [.string (⟨#[50, 50, 114, 118]⟩ : ByteArray)] from rfl) (Reps.one (show Kd.M Kd.string _ _ _ (⟨#[50, 50, 118]⟩ : ByteArray) [.string (⟨#[50, 50, 118]⟩ : ByteArray)] from rfl) (Reps.one (show Kd.M Kd.string _ _ _ (⟨#[50, 50, 118]⟩ : ByteArray) [.string (⟨#[50, 50, 118]⟩ : ByteArray)] from rfl) (Reps.one (show Kd.M Kd.string _ _ _ (⟨#[49, 49, 118]⟩ : ByteArray) [.string (⟨#[49, 49, 118]⟩ : ByteArray)] from rfl) (Reps.one (show Kd.M Kd.string _ _ _ (⟨#[49, 49, 118]⟩ : ByteArray) [.string (⟨#[49, 49, 118]⟩ : ByteArray)] from rfl) (Reps.one (show Kd.M Kd.string _ _ _ (⟨#[50, 50, 118, 114]⟩ : ByteArray) [.string (⟨#[50, 50, 118, 114]⟩ : ByteArray)] from rfl) (Reps.one (show Kd.M Kd.string _ _ _ (⟨#[49, 56, 108]⟩ : ByteArray) [.string (⟨#[49, 56, 108]⟩ : ByteArray)] from rfl) (Reps.one (show Kd.M Kd.string _ _ _ (⟨#[49, 56, 108]⟩ : ByteArray) [.string (⟨#[49, 56, 108]⟩ : ByteArray)] from rfl) (Reps.one (show Kd.M Kd.string _ _ _ (⟨#[51, 51, 118]⟩ : ByteArray) [.string (⟨#[51, 51, 118]⟩ : ByteArray)] from rfl) (Reps.one (show Kd.M Kd.string _ _ _ (⟨#[49, 56, 108]⟩ : ByteArray) [.string (⟨#[49, 56, 108]⟩ : ByteArray)] from rfl) (Reps.one (show Kd.M Kd.string _ _ _ (⟨#[50, 50, 118]⟩ : ByteArray) [.string (⟨#[50, 50, 118]⟩ : ByteArray)] from rfl) (Reps.one (show Kd.M Kd.string _ _ _ (⟨#[49, 56, 108]⟩ : ByteArray) [.string (⟨#[49, 56, 108]⟩ : ByteArray)] from rfl) (Reps.one (show Kd.M Kd.string _ _ _ (⟨#[48, 48]⟩ : ByteArray) [.string (⟨#[48, 48]⟩ : ByteArray)] from rfl) (Reps.one (show Kd.M Kd.string _ _ _ (⟨#[49, 49, 118]⟩ : ByteArray) [.string (⟨#[49, 49, 118]⟩ : ByteArray)] from rfl) (Reps.one (show Kd.M Kd.string _ _ _ (⟨#[49, 49, 118]⟩ : ByteArray) [.string (⟨#[49, 49, 118]⟩ : ByteArray)] from rfl) (Reps.one (show Kd.M Kd.string _ _ _ (⟨#[49, 56, 101]⟩ : ByteArray) [.string (⟨#[49, 56, 101]⟩ : ByteArray)] from rfl) (Reps.one (show Kd.M Kd.string _ _ _ (⟨#[50, 50, 118]⟩ : ByteArray) [.string (⟨#[50, 50, 118]⟩ : ByteArray)] from rfl) (Reps.one (show Kd.M Kd.string _ _ _ (⟨#[49, 56, 108]⟩ : ByteArray) [.string (⟨#[49, 56, 108]⟩ : ByteArray)] from rfl) (Reps.one (show Kd.M Kd.string _ _ _ (⟨#[49, 49, 118]⟩ : ByteArray) [.string (⟨#[49, 49, 118]⟩ : ByteArray)] from rfl) (Reps.one (show Kd.M Kd.string _ _ _ (⟨#[50, 50, 118]⟩ : ByteArray) [.string (⟨#[50, 50, 118]⟩ : ByteArray)] from rfl) (Reps.one (show Kd.M Kd.string _ _ _ (⟨#[50, 50, 118, 114]⟩ : ByteArray) [.string (⟨#[50, 50, 118, 114]⟩ : ByteArray)] from rfl) (Reps.one (show Kd.M Kd.string _ _ _ (⟨#[50, 50, 118]⟩ : ByteArray) [.string (⟨#[50, 50, 118]⟩ : ByteArray)] from rfl) (Reps.one (show Kd.M Kd.string _ _ _ (⟨#[49, 49, 118]⟩ : ByteArray) [.string (⟨#[49, 49, 118]⟩ : ByteArray)] from rfl) (Reps.one (show Kd.M Kd.string _ _ _ (⟨#[50, 50, 118]⟩ : ByteArray) [.string (⟨#[50, 50, 118]⟩ : ByteArray)] from rfl) (Reps.one (show Kd.M Kd.string _ _ _ (⟨#[50, 50, 118]⟩ : ByteArray) [.string (⟨#[50, 50, 118]⟩ : ByteArray)] from rfl) (Reps.one (show Kd.M Kd.string _ _ _ (⟨#[50, 50, 118]⟩ : ByteArray) [.string (⟨#[50, 50, 118]⟩ : ByteArray)] from rfl) (Reps.one (show Kd.M Kd.string _ _ _ (⟨#[50, 50, 118]⟩ : ByteArray) [.string (⟨#[50, 50, 118]⟩ : ByteArray)] from rfl) (Reps.one (show Kd.M Kd.string _ _ _ (⟨#[49, 49, 110]⟩ : ByteArray) [.string (⟨#[49, 49, 110]⟩ : ByteArray)] from rfl) (Reps.one (show Kd.M Kd.string _ _ _ (⟨#[49, 49, 110]⟩ : ByteArray) [.string (⟨#[49, 49, 110]⟩ : ByteArray)] from rfl) (Reps.one (show Kd.M Kd.string _ _ _ (⟨#[49, 49, 118]⟩ : ByteArray) [.string (⟨#[49, 49, 118]⟩ : ByteArray)] from rfl) (Reps.one (show Kd.M Kd.string _ _ _ (⟨#[50, 50, 114, 118]⟩ : ByteArray) [.string (⟨#[50, 50, 114, 118]⟩ : ByteArray)] from rfl) (Reps.one (show Kd.M Kd.string _ _ _ (⟨#[49, 49, 118]⟩ : ByteArray) [.string (⟨#[49, 49, 118]⟩ : ByteArray)] from rfl) (Reps.one (show Kd.M Kd.string _ _ _ (⟨#[51, 51, 118]⟩ : ByteArray) [.string (⟨#[51, 51, 118]⟩ : ByteArray)] from rfl) (Reps.one (show Kd.M Kd.string _ _ _ (⟨#[49, 56, 108]⟩ : ByteArray) [.string (⟨#[49, 56, 108]⟩ : ByteArray)] from rfl) (Reps.one (show Kd.M Kd.string _ _ _ (⟨#[50, 50, 114, 118]⟩ : ByteArray) [.string (⟨#[50, 50, 114, 118]⟩ : ByteArray)] from rfl) (Reps.one (show Kd.M Kd.string _ _ _ (⟨#[50, 50, 114]⟩ : ByteArray) [.string (⟨#[50, 50, 114]⟩ : ByteArray)] from rfl) (Reps.one (show Kd.M Kd.string _ _ _ (⟨#[49, 56, 108]⟩ : ByteArray) [.string (⟨#[49, 56, 108]⟩ : ByteArray)] from rfl) (Reps.one (show Kd.M Kd.string _ _ _ (⟨#[51, 56, 101]⟩ : ByteArray) [.string (⟨#[51, 56, 101]⟩ : ByteArray)] from rfl) (Reps.one (show Kd.M Kd.string _ _ _ (⟨#[50, 50, 118]⟩ : ByteArray) [.string (⟨#[50, 50, 118]⟩ : ByteArray)] from rfl) (Reps.one (show Kd.M Kd.string _ _ _ (⟨#[49, 49, 118]⟩ : ByteArray) [.string (⟨#[49, 49, 118]⟩ : ByteArray)] from rfl) (Reps.one (show Kd.M Kd.string _ _ _ (⟨#[49, 49, 118]⟩ : ByteArray) [.string (⟨#[49, 49, 118]⟩ : ByteArray)] from rfl) (Reps.one (show Kd.M Kd.string _ _ _ (⟨#[49, 49, 118]⟩ : ByteArray) [.string (⟨#[49, 49, 118]⟩ : ByteArray)] from rfl) (Reps.one (show Kd.M Kd.string _ _ _ (⟨#[49, 49, 118]⟩ : ByteArray) [.string (⟨#[49, 49, 118]⟩ : ByteArray)] from rfl) (Reps.one (show Kd.M Kd.string _ _ _ (⟨#[51, 51, 118, 114, 118]⟩ : ByteArray) [.string (⟨#[51, 51, 118, 114, 118]⟩ : ByteArray)] from rfl) (Reps.one (show Kd.M Kd.string _ _ _ (⟨#[49, 56, 108]⟩ : ByteArray) [.string (⟨#[49, 56, 108]⟩ : ByteArray)] from rfl) (Reps.none _ _)))))))))))))))))))))))))))))))))))))))))))))))))))))))))))))))))))))))))))))))); intro v102 w1 ho2 hb hg_ hnew_; clear hg_ hnew_; (first | rw [← Ny101.out] at ho2 | (simp only [Int.reduceToNat] at ho2; rw [← Ny101.out] at ho2)); have HO103 := A_ (Kd.R_lower ho2 (below_size (pbx HB))); replace HB := bs_ HB hb; clear hb ho2))
 go_ret
 exact ⟨_, by first | rfl | (simp [errW_none, errW_some] <;> rfl) | (simp [*, errW_none, errW_some] <;> rfl), ra_ HO103.out, pbx HB⟩

def oculusref19_Fits.f (a0 : Int) (a1 : Int) : Option (Bool) := if a0 < 1 then (some false) else (if a0 > 78 then (some false) else ((oculusref19_Rows.f).bind fun t101 => (if 0 ≤ (wrap64 (a0 - 1)) then (if (wrap64 (a0 - 1)) < (t101.length : Int) then (if 0 < ((rdOf ByteArray.empty t101 (wrap64 (a0 - 1))).size : Int) then (if a1 ≥ (wrap64 ((wrap64 (bt (rdOf ByteArray.empty t101 (wrap64 (a0 - 1))) 0)) - 48)) then (if 1 < ((rdOf ByteArray.empty t101 (wrap64 (a0 - 1))).size : Int) then (some (decide (a1 ≤ (wrap64 ((wrap64 (bt (rdOf ByteArray.empty t101 (wrap64 (a0 - 1))) 1)) - 48))))) else (none)) else (some false)) else (none)) else (none)) else (none))))
theorem oculusref19_Fits.calls (a0 : Int) (a1 : Int) (r : Bool) (w : World) (h : oculusref19_Fits.f a0 a1 = some r) :
  Calls Tryd.prog 37 #[.int .i64 a0, .int .i64 a1] w fun e w' => e = .returned (.bool r) ∧ Below w.heap.size w w' := by
 have HB := A_ (Below.refl w.heap.size w)
 have H : (if a0 < 1 then (some false) else (if a0 > 78 then (some false) else ((oculusref19_Rows.f).bind fun t101 => (if 0 ≤ (wrap64 (a0 - 1)) then (if (wrap64 (a0 - 1)) < (t101.length : Int) then (if 0 < ((rdOf ByteArray.empty t101 (wrap64 (a0 - 1))).size : Int) then (if a1 ≥ (wrap64 ((wrap64 (bt (rdOf ByteArray.empty t101 (wrap64 (a0 - 1))) 0)) - 48)) then (if 1 < ((rdOf ByteArray.empty t101 (wrap64 (a0 - 1))).size : Int) then (some (decide (a1 ≤ (wrap64 ((wrap64 (bt (rdOf ByteArray.empty t101 (wrap64 (a0 - 1))) 1)) - 48))))) else (none)) else (some false)) else (none)) else (none)) else (none))))) = some r := h
 clear h
 by_cases c3 : a0 < 1
 ·rw [if_pos c3] at H; have c3b0 := decide_eq_true c3; clear c3; obtain rfl := Option.some.inj H
  go_enter Tryd.func37, Tryd.ntmps37
  go_wp2
  go_ret
  exact fi_ (pbx HB)
 ·rw [if_neg c3] at H; have c3b0 := decide_eq_false c3; clear c3
  by_cases c4 : a0 > 78
  ·rw [if_pos c4] at H; have c4b0 := decide_eq_true c4; clear c4; obtain rfl := Option.some.inj H
   go_enter Tryd.func37, Tryd.ntmps37
   go_wp2
   go_ret
   exact fi_ (pbx HB)
  ·rw [if_neg c4] at H; have c4b0 := decide_eq_false c4; clear c4; obtain ⟨t101, A5, H⟩ := bo_ H; obtain ⟨ji6, hji6⟩ : ∃ j_ : Int, (wrap64 (a0 - 1)) = j_ := ⟨_, rfl⟩
   replace H : (if 0 ≤ (ji6) then (if (ji6) < (t101.length : Int) then (if 0 < ((rdOf ByteArray.empty t101 (ji6)).size : Int) then (if a1 ≥ (wrap64 ((wrap64 (bt (rdOf ByteArray.empty t101 (ji6)) 0)) - 48)) then (if 1 < ((rdOf ByteArray.empty t101 (ji6)).size : Int) then (some (decide (a1 ≤ (wrap64 ((wrap64 (bt (rdOf ByteArray.empty t101 (ji6)) 1)) - 48))))) else (none)) else (some false)) else (none)) else (none)) else (none)) = some r := by first | (rw [hji6] at H; exact H) | (simp only [hji6] at H ⊢; exact H)
   (try rw [hji6] at A5)
   have hji6w : (IntKind.i64.wrap (a0 - 1)) = ji6 := (i64_w _).trans hji6
   by_cases c7 : 0 ≤ (ji6)
   ·rw [if_pos c7] at H; have c7b0 := decide_eq_true c7; clear c7
    by_cases c8 : (ji6) < (t101.length : Int)
    ·rw [if_pos c8] at H; have c8b0 := decide_eq_true c8; clear c8
     by_cases c9 : 0 < ((rdOf ByteArray.empty t101 (ji6)).size : Int)
     ·rw [if_pos c9] at H; have c9b0 := decide_eq_true c9; have c9b1 : decide (0 < (rdOf ByteArray.empty t101 (ji6)).size) = true := decide_eq_true (by omega); clear c9
      by_cases c11 : a1 ≥ (wrap64 ((wrap64 (bt (rdOf ByteArray.empty t101 (ji6)) 0)) - 48))
      ·rw [if_pos c11] at H; have c11b0 : decide ((wrap64 ((wrap64 (bt (rdOf ByteArray.empty t101 (ji6)) 0)) - 48)) ≤ a1) = true := decide_eq_true c11; clear c11
       by_cases c12 : 1 < ((rdOf ByteArray.empty t101 (ji6)).size : Int)
       ·rw [if_pos c12] at H; have c12b0 := decide_eq_true c12; have c12b1 : decide (1 < (rdOf ByteArray.empty t101 (ji6)).size) = true := decide_eq_true (by omega); clear c12; obtain rfl := Option.some.inj H
        go_enter Tryd.func37, Tryd.ntmps37
        go_wp2_with (first | ((with_reducible refine gate_callee (f:=49) rfl ?_); refine gL_ (some 12) rfl rfl Tryd.func49 rfl #[] rfl ?_; (with_reducible refine (oculusref19_Rows.calls  t101 _ A5.out).mono ?_); rintro e w14 ⟨v102, rfl, ho0, hb⟩; refine ⟨_, rfl, ?_⟩; have HO103 := A_ (Kd.R_lower ho0 (below_size (pbx HB))); replace HB := bs_ HB hb; obtain ⟨Ao15, co15, eo15⟩ := Kd.R_slice HO103.out; subst eo15; have p104 : 0 ≤ ((ji6) : Int) := of_decide_eq_true as_; have q104 : (ji6) < (t101.length : Int) := of_decide_eq_true as_; obtain ⟨ad104, e104, hx104_0⟩ := Kd.at_string (Kd.R_reads' HO103.out).2.2 (ji6) p104 q104; cases e104; replace p104 := eq_true p104; replace q104 := eq_true q104; have p10 : 0 ≤ (0 : Int) := (by omega); have q10 : 0 < (rdOf ByteArray.empty t101 (ji6)).size := (by have : (0 : Int) < ((rdOf ByteArray.empty t101 (ji6)).size : Int) := of_decide_eq_true as_; omega); have hx10 : ∀ h : 0 < (rdOf ByteArray.empty t101 (ji6)).size, (((rdOf ByteArray.empty t101 (ji6))[0]'h).toNat : Int) = bt (rdOf ByteArray.empty t101 (ji6)) 0 := bt_at (rdOf ByteArray.empty t101 (ji6)) 0; clear p10; have qi10 : (0 < ((rdOf ByteArray.empty t101 (ji6)).size : Int)) = True := eq_true (of_decide_eq_true as_); replace q10 := eq_true q10; have p13 : 0 ≤ (1 : Int) := (by omega); have q13 : 1 < (rdOf ByteArray.empty t101 (ji6)).size := (by have : (1 : Int) < ((rdOf ByteArray.empty t101 (ji6)).size : Int) := of_decide_eq_true as_; omega); have hx13 : ∀ h : 1 < (rdOf ByteArray.empty t101 (ji6)).size, (((rdOf ByteArray.empty t101 (ji6))[1]'h).toNat : Int) = bt (rdOf ByteArray.empty t101 (ji6)) 1 := bt_at (rdOf ByteArray.empty t101 (ji6)) 1; clear p13; have qi13 : (1 < ((rdOf ByteArray.empty t101 (ji6)).size : Int)) = True := eq_true (of_decide_eq_true as_); replace q13 := eq_true q13))
        go_ret
        exact ⟨by first | rfl | (simp [errW_none, errW_some] <;> rfl) | (simp only [← hji6]; first | rfl | (simp [errW_none, errW_some] <;> rfl)) | (simp [*, errW_none, errW_some] <;> rfl), pbx HB⟩
       ·rw [if_neg c12] at H
        exact absurd H (by simp)
      ·rw [if_neg c11] at H; have c11b0 : decide ((wrap64 ((wrap64 (bt (rdOf ByteArray.empty t101 (ji6)) 0)) - 48)) ≤ a1) = false := decide_eq_false c11; clear c11; obtain rfl := Option.some.inj H
       go_enter Tryd.func37, Tryd.ntmps37
       go_wp2_with (first | ((with_reducible refine gate_callee (f:=49) rfl ?_); refine gL_ (some 12) rfl rfl Tryd.func49 rfl #[] rfl ?_; (with_reducible refine (oculusref19_Rows.calls  t101 _ A5.out).mono ?_); rintro e w16 ⟨v102, rfl, ho0, hb⟩; refine ⟨_, rfl, ?_⟩; have HO103 := A_ (Kd.R_lower ho0 (below_size (pbx HB))); replace HB := bs_ HB hb; obtain ⟨Ao17, co17, eo17⟩ := Kd.R_slice HO103.out; subst eo17; have p104 : 0 ≤ ((ji6) : Int) := of_decide_eq_true as_; have q104 : (ji6) < (t101.length : Int) := of_decide_eq_true as_; obtain ⟨ad104, e104, hx104_0⟩ := Kd.at_string (Kd.R_reads' HO103.out).2.2 (ji6) p104 q104; cases e104; replace p104 := eq_true p104; replace q104 := eq_true q104; have p10 : 0 ≤ (0 : Int) := (by omega); have q10 : 0 < (rdOf ByteArray.empty t101 (ji6)).size := (by have : (0 : Int) < ((rdOf ByteArray.empty t101 (ji6)).size : Int) := of_decide_eq_true as_; omega); have hx10 : ∀ h : 0 < (rdOf ByteArray.empty t101 (ji6)).size, (((rdOf ByteArray.empty t101 (ji6))[0]'h).toNat : Int) = bt (rdOf ByteArray.empty t101 (ji6)) 0 := bt_at (rdOf ByteArray.empty t101 (ji6)) 0; clear p10; have qi10 : (0 < ((rdOf ByteArray.empty t101 (ji6)).size : Int)) = True := eq_true (of_decide_eq_true as_); replace q10 := eq_true q10))
       go_ret
       exact ⟨by first | rfl | (simp [errW_none, errW_some] <;> rfl) | (simp only [← hji6]; first | rfl | (simp [errW_none, errW_some] <;> rfl)) | (simp [*, errW_none, errW_some] <;> rfl), pbx HB⟩
     ·rw [if_neg c9] at H
      exact absurd H (by simp)
    ·rw [if_neg c8] at H
     exact absurd H (by simp)
   ·rw [if_neg c7] at H
    exact absurd H (by simp)

mutual
def oculusref19_Kind.j0 : Nat → Int → Int → Bool → Option (Int)
 | 0, _, _, _ => none
 | k + 1, x0, x1, x15 => if x15 = true then (some 0) else ((oculusref19_Rows.f).bind fun t101 => (if 0 ≤ (wrap64 (x0 - 1)) then (if (wrap64 (x0 - 1)) < (t101.length : Int) then (oculusref19_Kind.j1 k x1 (rdOf ByteArray.empty t101 (wrap64 (x0 - 1)))) else (none)) else (none)))
def oculusref19_Kind.j1 : Nat → Int → ByteArray → Option (Int)
 | 0, _, _ => none
 | k + 1, x1, x5 => if 1 < (x5.size : Int) then (if x1 ≥ (wrap64 ((wrap64 (bt x5 1)) - 48)) then (some 0) else (if (wrap64 (2 + x1)) < (x5.size : Int) then (if 0 ≤ (wrap64 (2 + x1)) then (some (bt x5 (wrap64 (2 + x1)))) else (none)) else (if 0 ≤ (wrap64 ((x5.size : Int) - 1)) then (if (wrap64 ((x5.size : Int) - 1)) < (x5.size : Int) then (some (bt x5 (wrap64 ((x5.size : Int) - 1)))) else (none)) else (none)))) else (none)
end
def oculusref19_Kind.f (k : Nat) (a0 : Int) (a1 : Int) : Option (Int) := if a0 < 1 then (oculusref19_Kind.j0 k a0 a1 true) else (if a0 > 78 then (oculusref19_Kind.j0 k a0 a1 true) else (oculusref19_Kind.j0 k a0 a1 (decide (a1 < 0))))
theorem oculusref19_Kind.calls (k : Nat) (a0 : Int) (a1 : Int) (r : Int) (w : World) (h : oculusref19_Kind.f k a0 a1 = some r) :
  Calls Tryd.prog 38 #[.int .i64 a0, .int .i64 a1] w fun e w' => e = .returned (.int .u8 r) ∧ Below w.heap.size w w' := by
 have HB := A_ (Below.refl w.heap.size w)
 have H : (if a0 < 1 then (oculusref19_Kind.j0 k a0 a1 true) else (if a0 > 78 then (oculusref19_Kind.j0 k a0 a1 true) else (oculusref19_Kind.j0 k a0 a1 (decide (a1 < 0))))) = some r := h
 clear h; have HC3 := A_ H; clear H
 go_enter Tryd.func38, Tryd.ntmps38
 go_upto_region 1 with (fail)
 go_cut [15] (fun v15 wc => ∃ (kq : Nat) (x15_2 : Bool), v15 = .bool x15_2 ∧ Aside0 (oculusref19_Kind.j0 kq a0 a1 x15_2 = some r) ∧ Aside0 (kq ≤ k) ∧ Aside0 (Below w.heap.size w wc))
 case first =>
  have H := HC3.out; clear HC3
  by_cases c4 : a0 < 1
  ·rw [if_pos c4] at H; have c4b0 := decide_eq_true c4; clear c4; (first | rw [c4b0] | (simp only [i64_w, i32_w]; rw [c4b0]) | skip)
   have H' := A_ H
   clear H
   go_wp2
   go_meet
   case rel => exact ⟨_, (true), sq_, H', le_, ⟨pbx HB⟩⟩
  ·rw [if_neg c4] at H; have c4b0 := decide_eq_false c4; clear c4; (first | rw [c4b0] | (simp only [i64_w, i32_w]; rw [c4b0]) | skip)
   by_cases c5 : a0 > 78
   ·rw [if_pos c5] at H; have c5b0 := decide_eq_true c5; clear c5
    have H' := A_ H
    clear H
    go_wp2
    go_meet
    case rel => exact ⟨_, (true), sq_, H', le_, ⟨pbx HB⟩⟩
   ·rw [if_neg c5] at H; have c5b0 := decide_eq_false c5; clear c5
    have H' := A_ H
    clear H
    go_wp2
    go_meet
    case rel => exact ⟨_, (decide (a1 < 0)), sq_, H', le_, ⟨pbx HB⟩⟩
 case rest =>
  clear HC3; obtain ⟨kq, x15_2, rfl, HA, HJ2, HB⟩ := hcut
  cases kq with
  | zero => exact absurd HA.out (by simp [oculusref19_Kind.j0])
  | succ kj2 =>
   have H := HA.out; clear HA
   simp only [oculusref19_Kind.j0] at H
   replace H := ib_ H; rcases H with ⟨rfl,H⟩|⟨rfl,H⟩
   ·obtain rfl := Option.some.inj H
    go_wp2
    go_ret
    exact fi_ (pbx HB)
   ·have HC7 := A_ H; clear H
    go_upto_region 3 with (fail)
    go_cut [5] (fun v5 wc => ∃ (kq : Nat) (x5_6 : ByteArray), v5 = .string x5_6 ∧ Aside0 (oculusref19_Kind.j1 kq a1 x5_6 = some r) ∧ Aside0 (kq ≤ kj2) ∧ Aside0 (Below w.heap.size w wc))
    case first =>
     have H := HC7.out; clear HC7; obtain ⟨t101, A8, H⟩ := bo_ H; obtain ⟨ji9, hji9⟩ : ∃ j_ : Int, (wrap64 (a0 - 1)) = j_ := ⟨_, rfl⟩
     replace H : (if 0 ≤ (ji9) then (if (ji9) < (t101.length : Int) then (oculusref19_Kind.j1 kj2 a1 (rdOf ByteArray.empty t101 (ji9))) else (none)) else (none)) = some r := by first | (rw [hji9] at H; exact H) | (simp only [hji9] at H ⊢; exact H)
     (try rw [hji9] at A8)
     have hji9w : (IntKind.i64.wrap (a0 - 1)) = ji9 := (i64_w _).trans hji9
     by_cases c10 : 0 ≤ (ji9)
     ·rw [if_pos c10] at H; have c10b0 := decide_eq_true c10; clear c10; (first | rw [c10b0] | (simp only [i64_w, i32_w]; rw [c10b0]) | skip)
      by_cases c11 : (ji9) < (t101.length : Int)
      ·rw [if_pos c11] at H; have c11b0 := decide_eq_true c11; clear c11
       have H' := A_ H
       clear H
       go_wp2_with (first | ((with_reducible refine gate_callee (f:=49) rfl ?_); refine gL_ (some 16) rfl rfl Tryd.func49 rfl #[] rfl ?_; (with_reducible refine (oculusref19_Rows.calls  t101 _ A8.out).mono ?_); rintro e w12 ⟨v102, rfl, ho0, hb⟩; refine ⟨_, rfl, ?_⟩; have HO103 := A_ (Kd.R_lower ho0 (below_size (pbx HB))); replace HB := bs_ HB hb; obtain ⟨Ao13, co13, eo13⟩ := Kd.R_slice HO103.out; subst eo13; have p104 : 0 ≤ ((ji9) : Int) := of_decide_eq_true as_; have q104 : (ji9) < (t101.length : Int) := of_decide_eq_true as_; obtain ⟨ad104, e104, hx104_0⟩ := Kd.at_string (Kd.R_reads' HO103.out).2.2 (ji9) p104 q104; cases e104; replace p104 := eq_true p104; replace q104 := eq_true q104))
       go_meet
       case rel => exact ⟨_, (rdOf ByteArray.empty t101 (ji9)), (by first | rfl | (simp; done) | (simp only [← hji9] <;> (first | rfl | simp)) | (simp [*]; done)), H', ⟨by have := HJ2.out; first | omega | exact Nat.le_refl _⟩, ⟨pbx HB⟩⟩
      ·rw [if_neg c11] at H
       exact absurd H (by simp)
     ·rw [if_neg c10] at H
      exact absurd H (by simp)
    case rest =>
     clear HC7; (try clear c6); obtain ⟨kq, x5_6, rfl, HA, HJ6, HB⟩ := hcut
     cases kq with
     | zero => exact absurd HA.out (by simp [oculusref19_Kind.j1])
     | succ kj6 =>
      have H := HA.out; clear HA
      simp only [oculusref19_Kind.j1] at H
      by_cases c14 : 1 < (x5_6.size : Int)
      ·rw [if_pos c14] at H; have c14b0 := decide_eq_true c14; have c14b1 : decide (1 < x5_6.size) = true := decide_eq_true (by omega); clear c14
       by_cases c16 : a1 ≥ (wrap64 ((wrap64 (bt x5_6 1)) - 48))
       ·rw [if_pos c16] at H; have c16b0 := decide_eq_true c16; clear c16; obtain rfl := Option.some.inj H
        have p15 : 0 ≤ (1 : Int) := (by omega)
        have q15 : 1 < x5_6.size := (by have : (1 : Int) < (x5_6.size : Int) := of_decide_eq_true as_; omega)
        have hx15 : ∀ h : 1 < x5_6.size, ((x5_6[1]'h).toNat : Int) = bt x5_6 1 := bt_at x5_6 1
        clear p15; have qi15 : (1 < (x5_6.size : Int)) = True := eq_true (of_decide_eq_true as_); replace q15 := eq_true q15
        go_wp2
        go_ret
        exact fi_ (pbx HB)
       ·rw [if_neg c16] at H; have c16b0 := decide_eq_false c16; clear c16
        by_cases c17 : (wrap64 (2 + a1)) < (x5_6.size : Int)
        ·rw [if_pos c17] at H; have c17b0 := decide_eq_true c17; clear c17; obtain ⟨ji18, hji18⟩ : ∃ j_ : Int, (wrap64 (2 + a1)) = j_ := ⟨_, rfl⟩
         replace H : (if 0 ≤ (ji18) then (some (bt x5_6 (ji18))) else (none)) = some r := by first | (rw [hji18] at H; exact H) | (simp only [hji18] at H ⊢; exact H)
         (try rw [hji18] at c17b0)
         have hji18w : (IntKind.i64.wrap (2 + a1)) = ji18 := (i64_w _).trans hji18
         by_cases c19 : 0 ≤ (ji18)
         ·rw [if_pos c19] at H; have c19b0 := decide_eq_true c19; clear c19; obtain rfl := Option.some.inj H
          have p15 : 0 ≤ (1 : Int) := (by omega)
          have q15 : 1 < x5_6.size := (by have : (1 : Int) < (x5_6.size : Int) := of_decide_eq_true as_; omega)
          have hx15 : ∀ h : 1 < x5_6.size, ((x5_6[1]'h).toNat : Int) = bt x5_6 1 := bt_at x5_6 1
          clear p15; have qi15 : (1 < (x5_6.size : Int)) = True := eq_true (of_decide_eq_true as_); replace q15 := eq_true q15
          have p20 : 0 ≤ ((ji18) : Int) := of_decide_eq_true as_
          have q20 : (ji18) < (x5_6.size : Int) := of_decide_eq_true as_
          have hx20 := bt_at x5_6 (ji18); replace p20 := eq_true p20; replace q20 := eq_true q20
          go_wp2
          go_ret
          exact ⟨by first | rfl | (simp [errW_none, errW_some] <;> rfl) | (simp only [← hji18]; first | rfl | (simp [errW_none, errW_some] <;> rfl)) | (simp [*, errW_none, errW_some] <;> rfl), pbx HB⟩
         ·rw [if_neg c19] at H
          exact absurd H (by simp)
        ·rw [if_neg c17] at H; have c17b0 := decide_eq_false c17; clear c17; obtain ⟨ji21, hji21⟩ : ∃ j_ : Int, (wrap64 ((x5_6.size : Int) - 1)) = j_ := ⟨_, rfl⟩
         replace H : (if 0 ≤ (ji21) then (if (ji21) < (x5_6.size : Int) then (some (bt x5_6 (ji21))) else (none)) else (none)) = some r := by first | (rw [hji21] at H; exact H) | (simp only [hji21] at H ⊢; exact H)
         have hji21w : (IntKind.i64.wrap ((x5_6.size : Int) - 1)) = ji21 := (i64_w _).trans hji21
         by_cases c22 : 0 ≤ (ji21)
         ·rw [if_pos c22] at H; have c22b0 := decide_eq_true c22; clear c22
          by_cases c23 : (ji21) < (x5_6.size : Int)
          ·rw [if_pos c23] at H; have c23b0 := decide_eq_true c23; clear c23; obtain rfl := Option.some.inj H
           have p15 : 0 ≤ (1 : Int) := (by omega)
           have q15 : 1 < x5_6.size := (by have : (1 : Int) < (x5_6.size : Int) := of_decide_eq_true as_; omega)
           have hx15 : ∀ h : 1 < x5_6.size, ((x5_6[1]'h).toNat : Int) = bt x5_6 1 := bt_at x5_6 1
           clear p15; have qi15 : (1 < (x5_6.size : Int)) = True := eq_true (of_decide_eq_true as_); replace q15 := eq_true q15
           have p24 : 0 ≤ ((ji21) : Int) := of_decide_eq_true as_
           have q24 : (ji21) < (x5_6.size : Int) := of_decide_eq_true as_
           have hx24 := bt_at x5_6 (ji21); replace p24 := eq_true p24; replace q24 := eq_true q24
           go_wp2
           go_ret
           exact ⟨by first | rfl | (simp [errW_none, errW_some] <;> rfl) | (simp only [← hji21]; first | rfl | (simp [errW_none, errW_some] <;> rfl)) | (simp [*, errW_none, errW_some] <;> rfl), pbx HB⟩
          ·rw [if_neg c23] at H
           exact absurd H (by simp)
         ·rw [if_neg c22] at H
          exact absurd H (by simp)
      ·rw [if_neg c14] at H
       exact absurd H (by simp)

end Go.Proofs.YtdddhabemdbooaaDoor.X
