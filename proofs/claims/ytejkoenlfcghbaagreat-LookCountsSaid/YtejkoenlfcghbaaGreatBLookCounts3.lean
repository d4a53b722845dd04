/- Contracts of the functions that the law LookCounts reaches, and what they answer (a session's own texts, joined; part 3). -/
import Derived.Test.YtejkoenlfcghbaaGreatBLookCounts2
set_option maxHeartbeats 8000000
set_option maxRecDepth 100000
namespace Go.Proofs.YtejkoenlfcghbaaGreat.X
open Go.RowKit Go.Proofs.YtejkoenlfcghbaaGreatW.PrintWords Go.Proofs.YtejkoenlfcghbaaGreatW.PrintLast Go.Proofs.YtejkoenlfcghbaaGreatW.PrintMore
attribute [local go_sem] max2_int min2_int max_two min_two max_three min_three max_four min_four
set_option linter.unusedVariables false
set_option linter.unusedSimpArgs false
mutual
def digits_number.l0 : Nat → ByteArray → Int → Int → Int → Option (Int × Bool)
 | 0, _, _, _, _ => none
 | k + 1, x0, x4, x11, x12 => if x12 < x11 then (if 0 ≤ x12 then (if x12 < (x0.size : Int) then (if (bt x0 x12) < 48 then (digits_number.j1 k x0 x4 x12 x11 x12 true) else (digits_number.j1 k x0 x4 x12 x11 x12 (decide ((bt x0 x12) > 57)))) else (none)) else (none)) else (some (x4, (x0.toList != ([] : List UInt8))))
def digits_number.j1 : Nat → ByteArray → Int → Int → Int → Int → Bool → Option (Int × Bool)
 | 0, _, _, _, _, _, _ => none
 | k + 1, x0, x4, x5, x11, x12, x24 => if x24 = true then (some (0, false)) else ((dec_Scaled.f k x4 10 1).bind fun bt101 => (if 0 ≤ x5 then (if x5 < (x0.size : Int) then ((dec_Add.f k bt101.1 (((bt x0 x5) - 48) % 256)).bind fun bt103 => (if bt101.2 = true then (if bt103.2 = true then (digits_number.l0 k x0 bt103.1 x11 (wrap64 (x12 + 1))) else (some (0, false))) else (some (0, false)))) else (none)) else (none)))
end
def digits_number.f (k : Nat) (a0 : ByteArray) : Option (Int × Bool) := digits_number.l0 k a0 0 (a0.size : Int) 0
theorem digits_number.mono_l : ∀ k, (∀ y0 y1 y2 y3, LeO (digits_number.l0 k y0 y1 y2 y3) (digits_number.l0 (k + 1) y0 y1 y2 y3)) ∧ (∀ y0 y1 y2 y3 y4 y5, LeO (digits_number.j1 k y0 y1 y2 y3 y4 y5) (digits_number.j1 (k + 1) y0 y1 y2 y3 y4 y5))
 | 0 => ⟨fun _ _ _ _ r h => by simp [digits_number.l0] at h, fun _ _ _ _ _ _ r h => by simp [digits_number.j1] at h⟩
 | k + 1 => by
  obtain ⟨ih0, ih1⟩ := digits_number.mono_l k
  refine ⟨?_, ?_⟩
  ·intro y0 y1 y2 y3
   unfold digits_number.l0
   have m0 := @dec_Add.mono; have m1 := @dec_Scaled.mono; exact mo_
  ·intro y0 y1 y2 y3 y4 y5
   unfold digits_number.j1
   have m0 := @dec_Add.mono; have m1 := @dec_Scaled.mono; exact mo_
theorem digits_number.mono : ∀ a0 k, LeO (digits_number.f k a0) (digits_number.f (k + 1) a0) := by
 intro a0 k; obtain ⟨ih0, ih1⟩ := digits_number.mono_l k
 unfold digits_number.f
 have m0 := @dec_Add.mono; have m1 := @dec_Scaled.mono; exact mo_
theorem digits_number.calls (k : Nat) (a0 : ByteArray) (r1 : Int) (r2 : Bool) (w : World) (h : digits_number.f k a0 = some (r1, r2)) :
  Calls Tryz.prog 85 #[.string a0] w fun e w' => e = .returned (.tuple #[.int .i64 r1, .bool r2]) ∧ Drawn0 w w' := by
 have H : (digits_number.l0 k a0 0 (a0.size : Int) 0) = some (r1, r2) := h
 clear h
 have H' := A_ H
 clear H
 go_enter Tryz.func85, Tryz.ntmps85
 go_wp2
 go_loopg [4, 12] k (fun kq v4 v12 w' => ∃ (x4_1 : Int) (x12_1 : Int), v4 = .int .i64 x4_1 ∧ v12 = .int .i64 x12_1 ∧ Aside0 (digits_number.l0 kq a0 x4_1 (a0.size : Int) x12_1 = some (r1, r2)) ∧ Aside0 (kq ≤ k) ∧ Drawn0 w w')
 case atStart => exact ⟨(0), (0), sq_, sq_, H', ⟨Nat.le_refl _⟩, dr_⟩
 case round =>
  clear H'; obtain ⟨x4_1, x12_1, rfl, rfl, HA, HK1, ⟨m1, rfl⟩⟩ := hrel
  cases gk with
  | zero => exact absurd HA.out (by simp [digits_number.l0])
  | succ k1 =>
   have H := HA.out; clear HA
   simp only [digits_number.l0] at H
   by_cases c2 : x12_1 < (a0.size : Int)
   ·rw [if_pos c2] at H; have c2b0 := decide_eq_true c2; clear c2; have HC3 := A_ H; clear H
    go_upto_region 5 with (fail)
    go_cut [24] (fun v24 wc => ∃ (kq : Nat) (x24_2 : Bool), v24 = .bool x24_2 ∧ Aside0 (digits_number.j1 kq a0 x4_1 x12_1 (a0.size : Int) x12_1 x24_2 = some (r1, r2)) ∧ Aside0 (kq ≤ k1) ∧ Drawn0 w wc)
    case first =>
     have H := HC3.out; clear HC3
     by_cases c4 : 0 ≤ x12_1
     ·rw [if_pos c4] at H; have c4b0 := decide_eq_true c4; clear c4; (first | rw [c4b0] | (simp only [i64_w, i32_w]; rw [c4b0]) | skip)
      by_cases c5 : x12_1 < (a0.size : Int)
      ·rw [if_pos c5] at H; have c5b0 := decide_eq_true c5; clear c5
       by_cases c7 : (bt a0 x12_1) < 48
       ·rw [if_pos c7] at H; have c7b0 := decide_eq_true c7; clear c7
        have H' := A_ H
        clear H
        have p6 : 0 ≤ (x12_1 : Int) := of_decide_eq_true as_
        have q6 : x12_1 < (a0.size : Int) := of_decide_eq_true as_
        have hx6 := bt_at a0 x12_1; replace p6 := eq_true p6; replace q6 := eq_true q6
        go_wp2
        go_meet
        case rel => exact ⟨_, (true), sq_, H', ⟨by have := HK1.out; first | omega | exact Nat.le_refl _⟩, dr_⟩
       ·rw [if_neg c7] at H; have c7b0 := decide_eq_false c7; clear c7
        have H' := A_ H
        clear H
        have p6 : 0 ≤ (x12_1 : Int) := of_decide_eq_true as_
        have q6 : x12_1 < (a0.size : Int) := of_decide_eq_true as_
        have hx6 := bt_at a0 x12_1; replace p6 := eq_true p6; replace q6 := eq_true q6
        have p8 : 0 ≤ (x12_1 : Int) := of_decide_eq_true as_
        have q8 : x12_1 < (a0.size : Int) := of_decide_eq_true as_
        have hx8 := bt_at a0 x12_1; replace p8 := eq_true p8; replace q8 := eq_true q8
        go_wp2
        go_meet
        case rel => exact ⟨_, (decide ((bt a0 x12_1) > 57)), sq_, H', ⟨by have := HK1.out; first | omega | exact Nat.le_refl _⟩, dr_⟩
      ·rw [if_neg c5] at H
       exact absurd H (by simp)
     ·rw [if_neg c4] at H
      exact absurd H (by simp)
    case rest =>
     clear HC3; (try clear c2); (try clear c2b0); obtain ⟨kq, x24_2, rfl, HA, HJ2, ⟨mc2, rfl⟩⟩ := hcut
     cases kq with
     | zero => exact absurd HA.out (by simp [digits_number.j1])
     | succ kj2 =>
      have H := HA.out; clear HA
      simp only [digits_number.j1] at H
      by_cases c9 : x24_2 = true
      ·subst c9
       replace H := it_ H
       simp only [Option.some.injEq, Prod.mk.injEq] at H
       obtain ⟨rfl, rfl⟩ := H
       go_wp2
       go_ret2
       exact ⟨by first | rfl | (simp; done) | (simp; cases a0.toList <;> rfl) | (simp [*]; done), dr_⟩
      ·replace c9 := Bool.eq_false_iff.mpr c9; subst c9
       obtain ⟨⟨t101, t102⟩, A10, H⟩ := bo_ (ie_ H); dsimp only at H
       by_cases c11 : 0 ≤ x12_1
       ·rw [if_pos c11] at H; have c11b0 := decide_eq_true c11; clear c11
        by_cases c12 : x12_1 < (a0.size : Int)
        ·rw [if_pos c12] at H; have c12b0 := decide_eq_true c12; clear c12; obtain ⟨⟨t103, t104⟩, A14, H⟩ := bo_ H; dsimp only at H
         by_cases c15 : t102 = true
         ·subst c15
          replace H := it_ H
          by_cases c16 : t104 = true
          ·subst c16
           replace H := it_ H
           have H' := A_ H
           clear H
           go_wp2_with (first | ((with_reducible refine gate_callee (f:=41) rfl ?_); refine gL_ (some 27) rfl rfl Tryz.func41 rfl #[.int .i64 x4_1, .int .i64 10, .int .i64 1] rfl ?_; (with_reducible refine (dec_Scaled.calls kj2 x4_1 10 1 t101 true _ A10.out).mono ?_); rintro e w' ⟨rfl, ⟨nd, rfl⟩⟩; refine ⟨_, rfl, ?_⟩; have p13 : 0 ≤ (x12_1 : Int) := of_decide_eq_true as_; have q13 : x12_1 < (a0.size : Int) := of_decide_eq_true as_; have hx13 := bt_at a0 x12_1; replace p13 := eq_true p13; replace q13 := eq_true q13) | ((with_reducible refine gate_callee (f:=38) rfl ?_); refine gL_ (some 37) rfl rfl Tryz.func38 rfl #[.int .i64 t101, .int .i64 (((bt a0 x12_1) - 48) % 256)] rfl ?_; (with_reducible refine (dec_Add.calls kj2 t101 (((bt a0 x12_1) - 48) % 256) t103 true _ A14.out).mono ?_); rintro e w' ⟨rfl, ⟨nd, rfl⟩⟩; refine ⟨_, rfl, ?_⟩))
           go_roundg kj2
           case measure => have := HK1.out; have := HJ2.out; omega
           case rel => exact ⟨(t103), (wrap64 (x12_1 + 1)), (by first | rfl | (simp; done) | (simp [*]; done) | (cases t103 <;> simp; done)), sq_, H', ⟨by have := HK1.out; have := HJ2.out; omega⟩, dr_⟩
          ·replace c16 := Bool.eq_false_iff.mpr c16; subst c16
           replace H := ie_ H
           simp only [Option.some.injEq, Prod.mk.injEq] at H
           obtain ⟨rfl, rfl⟩ := H
           go_wp2_with (first | ((with_reducible refine gate_callee (f:=41) rfl ?_); refine gL_ (some 27) rfl rfl Tryz.func41 rfl #[.int .i64 x4_1, .int .i64 10, .int .i64 1] rfl ?_; (with_reducible refine (dec_Scaled.calls kj2 x4_1 10 1 t101 true _ A10.out).mono ?_); rintro e w' ⟨rfl, ⟨nd, rfl⟩⟩; refine ⟨_, rfl, ?_⟩; have p13 : 0 ≤ (x12_1 : Int) := of_decide_eq_true as_; have q13 : x12_1 < (a0.size : Int) := of_decide_eq_true as_; have hx13 := bt_at a0 x12_1; replace p13 := eq_true p13; replace q13 := eq_true q13) | ((with_reducible refine gate_callee (f:=38) rfl ?_); refine gL_ (some 37) rfl rfl Tryz.func38 rfl #[.int .i64 t101, .int .i64 (((bt a0 x12_1) - 48) % 256)] rfl ?_; (with_reducible refine (dec_Add.calls kj2 t101 (((bt a0 x12_1) - 48) % 256) t103 false _ A14.out).mono ?_); rintro e w' ⟨rfl, ⟨nd, rfl⟩⟩; refine ⟨_, rfl, ?_⟩))
           go_ret2
           exact ⟨by first | rfl | (simp; done) | (simp; cases a0.toList <;> rfl) | (simp [*]; done), dr_⟩
         ·replace c15 := Bool.eq_false_iff.mpr c15; subst c15
          replace H := ie_ H
          simp only [Option.some.injEq, Prod.mk.injEq] at H
          obtain ⟨rfl, rfl⟩ := H
          go_wp2_with (first | ((with_reducible refine gate_callee (f:=41) rfl ?_); refine gL_ (some 27) rfl rfl Tryz.func41 rfl #[.int .i64 x4_1, .int .i64 10, .int .i64 1] rfl ?_; (with_reducible refine (dec_Scaled.calls kj2 x4_1 10 1 t101 false _ A10.out).mono ?_); rintro e w' ⟨rfl, ⟨nd, rfl⟩⟩; refine ⟨_, rfl, ?_⟩; have p13 : 0 ≤ (x12_1 : Int) := of_decide_eq_true as_; have q13 : x12_1 < (a0.size : Int) := of_decide_eq_true as_; have hx13 := bt_at a0 x12_1; replace p13 := eq_true p13; replace q13 := eq_true q13) | ((with_reducible refine gate_callee (f:=38) rfl ?_); refine gL_ (some 37) rfl rfl Tryz.func38 rfl #[.int .i64 t101, .int .i64 (((bt a0 x12_1) - 48) % 256)] rfl ?_; (with_reducible refine (dec_Add.calls kj2 t101 (((bt a0 x12_1) - 48) % 256) t103 t104 _ A14.out).mono ?_); rintro e w' ⟨rfl, ⟨nd, rfl⟩⟩; refine ⟨_, rfl, ?_⟩))
          go_ret2
          exact ⟨by first | rfl | (simp; done) | (simp; cases a0.toList <;> rfl) | (simp [*]; done), dr_⟩
        ·rw [if_neg c12] at H
         exact absurd H (by simp)
       ·rw [if_neg c11] at H
        exact absurd H (by simp)
   ·rw [if_neg c2] at H; have c2b0 := decide_eq_false c2; clear c2
    simp only [Option.some.injEq, Prod.mk.injEq] at H
    obtain ⟨rfl, rfl⟩ := H
    go_wp2
    go_ret2
    exact ⟨by first | rfl | (simp; done) | (simp; cases a0.toList <;> rfl) | (simp [*]; done), dr_⟩

def dec_Neg.f (a0 : Int) : Option (Int × Bool) := (dec_May.f a0).bind fun t101 => (if t101 = true then (some (wrap64 (-a0), true)) else (some (0, false)))
theorem dec_Neg.calls (a0 : Int) (r1 : Int) (r2 : Bool) (w : World) (h : dec_Neg.f a0 = some (r1, r2)) :
  Calls Tryz.prog 95 #[.int .i64 a0] w fun e w' => e = .returned (.tuple #[.int .i64 r1, .bool r2]) ∧ Drawn0 w w' := by
 have H : ((dec_May.f a0).bind fun t101 => (if t101 = true then (some (wrap64 (-a0), true)) else (some (0, false)))) = some (r1, r2) := h
 clear h; obtain ⟨t101, A2, H⟩ := bo_ H
 replace H := ib_ H; rcases H with ⟨rfl,H⟩|⟨rfl,H⟩
 ·simp only [Option.some.injEq, Prod.mk.injEq] at H
  obtain ⟨rfl, rfl⟩ := H
  go_enter Tryz.func95, Tryz.ntmps95
  go_wp2_with (first | ((with_reducible refine gate_callee (f:=55) rfl ?_); refine gL_ (some 5) rfl rfl Tryz.func55 rfl #[.int .i64 a0] rfl ?_; (with_reducible refine (dec_May.calls a0 true _ A2.out).mono ?_); rintro e w' ⟨rfl, ⟨nd, rfl⟩⟩; refine ⟨_, rfl, ?_⟩))
  go_ret2
  exact ⟨by first | rfl | (simp; done) | (simp [*]; done), dr_⟩
 ·simp only [Option.some.injEq, Prod.mk.injEq] at H
  obtain ⟨rfl, rfl⟩ := H
  go_enter Tryz.func95, Tryz.ntmps95
  go_wp2_with (first | ((with_reducible refine gate_callee (f:=55) rfl ?_); refine gL_ (some 5) rfl rfl Tryz.func55 rfl #[.int .i64 a0] rfl ?_; (with_reducible refine (dec_May.calls a0 false _ A2.out).mono ?_); rintro e w' ⟨rfl, ⟨nd, rfl⟩⟩; refine ⟨_, rfl, ?_⟩))
  go_ret2
  exact ⟨by first | rfl | (simp; done) | (simp [*]; done), dr_⟩

def digits_put.j0 : Nat → Bool → Int → Bool → Option (Int × Bool)
 | 0, _, _, _ => none
 | k + 1, x2, x10, x28 => if x28 = true then (some (0, false)) else (if x2 = true then ((dec_Neg.f x10).bind fun bt105 => (some (bt105.1, bt105.2))) else (some (x10, true)))
def digits_put.f (k : Nat) (a0 : Int) (a1 : Int) (a2 : Bool) : Option (Int × Bool) := (dec_Of.f k a0).bind fun bt101 => ((dec_Add.f k bt101.1 a1).bind fun bt103 => (if bt101.2 = true then (digits_put.j0 k a2 bt103.1 (!bt103.2)) else (digits_put.j0 k a2 bt103.1 true)))
theorem digits_put.mono_l : ∀ k, (∀ y0 y1 y2, LeO (digits_put.j0 k y0 y1 y2) (digits_put.j0 (k + 1) y0 y1 y2))
 | 0 => fun _ _ _ r h => by simp [digits_put.j0] at h
 | k + 1 => by
  have ih0 := digits_put.mono_l k
  ·intro y0 y1 y2
   unfold digits_put.j0
   have m0 := @dec_Add.mono; have m1 := @dec_Of.mono; exact mo_
theorem digits_put.mono : ∀ a0 a1 a2 k, LeO (digits_put.f k a0 a1 a2) (digits_put.f (k + 1) a0 a1 a2) := by
 intro a0 a1 a2 k; have ih0 := digits_put.mono_l k
 unfold digits_put.f
 have m0 := @dec_Add.mono; have m1 := @dec_Of.mono; exact mo_
theorem digits_put.calls (k : Nat) (a0 : Int) (a1 : Int) (a2 : Bool) (r1 : Int) (r2 : Bool) (w : World) (h : digits_put.f k a0 a1 a2 = some (r1, r2)) :
  Calls Tryz.prog 86 #[.int .i64 a0, .int .i64 a1, .bool a2] w fun e w' => e = .returned (.tuple #[.int .i64 r1, .bool r2]) ∧ Drawn0 w w' := by
 have H : ((dec_Of.f k a0).bind fun bt101 => ((dec_Add.f k bt101.1 a1).bind fun bt103 => (if bt101.2 = true then (digits_put.j0 k a2 bt103.1 (!bt103.2)) else (digits_put.j0 k a2 bt103.1 true)))) = some (r1, r2) := h
 clear h; obtain ⟨⟨t101, t102⟩, A4, H⟩ := bo_ H; dsimp only at H; obtain ⟨⟨t103, t104⟩, A5, H⟩ := bo_ H; dsimp only at H; have HC6 := A_ H; clear H
 go_enter Tryz.func86, Tryz.ntmps86
 go_upto_region 3 with (first | ((with_reducible refine gate_callee (f:=23) rfl ?_); refine gL_ (some 14) rfl rfl Tryz.func23 rfl #[.int .i64 a0] rfl ?_; (with_reducible refine (dec_Of.calls k a0 t101 t102 _ A4.out).mono ?_); rintro e w' ⟨rfl, ⟨nd, rfl⟩⟩; refine ⟨_, rfl, ?_⟩) | ((with_reducible refine gate_callee (f:=38) rfl ?_); refine gL_ (some 20) rfl rfl Tryz.func38 rfl #[.int .i64 t101, .int .i64 a1] rfl ?_; (with_reducible refine (dec_Add.calls k t101 a1 t103 t104 _ A5.out).mono ?_); rintro e w' ⟨rfl, ⟨nd, rfl⟩⟩; refine ⟨_, rfl, ?_⟩))
 (try simp only [q_])
 go_cut [28] (fun v28 wc => ∃ (kq : Nat) (x28_5 : Bool), v28 = .bool x28_5 ∧ Aside0 (digits_put.j0 kq a2 t103 x28_5 = some (r1, r2)) ∧ Aside0 (kq ≤ k) ∧ Drawn0 w wc)
 case first =>
  have H := HC6.out; clear HC6
  by_cases c7 : t102 = true
  ·subst c7
   replace H := it_ H
   have H' := A_ H
   clear H
   go_wp2
   go_meet
   case rel => exact ⟨_, (!t104), (by first | rfl | (simp; done) | (simp [*]; done) | (cases t104 <;> simp; done)), H', le_, dr_⟩
  ·replace c7 := Bool.eq_false_iff.mpr c7; subst c7
   replace H := ie_ H
   have H' := A_ H
   clear H
   go_wp2
   go_meet
   case rel => exact ⟨_, (true), sq_, H', le_, dr_⟩
 case rest =>
  clear HC6; obtain ⟨kq, x28_5, rfl, HA, HJ5, ⟨mc5, rfl⟩⟩ := hcut
  cases kq with
  | zero => exact absurd HA.out (by simp [digits_put.j0])
  | succ kj5 =>
   have H := HA.out; clear HA
   simp only [digits_put.j0] at H
   by_cases c8 : x28_5 = true
   ·subst c8
    replace H := it_ H
    simp only [Option.some.injEq, Prod.mk.injEq] at H
    obtain ⟨rfl, rfl⟩ := H
    go_wp2
    go_ret2
    exact ⟨by first | rfl | (simp; done) | (simp [*]; done), dr_⟩
   ·replace c8 := Bool.eq_false_iff.mpr c8; subst c8
    replace H := ie_ H
    by_cases c9 : a2 = true
    ·subst c9
     obtain ⟨⟨t105, t106⟩, A10, H⟩ := bo_ (it_ H); dsimp only at H
     simp only [Option.some.injEq, Prod.mk.injEq] at H
     obtain ⟨rfl, rfl⟩ := H
     go_wp2_with (first | ((with_reducible refine gate_callee (f:=95) rfl ?_); refine gL_ (some 31) rfl rfl Tryz.func95 rfl #[.int .i64 t103] rfl ?_; (with_reducible refine (dec_Neg.calls t103 t105 t106 _ A10.out).mono ?_); rintro e w' ⟨rfl, ⟨nd, rfl⟩⟩; refine ⟨_, rfl, ?_⟩))
     go_ret2
     exact ⟨by first | rfl | (simp; done) | (simp [*]; done), dr_⟩
    ·replace c9 := Bool.eq_false_iff.mpr c9; subst c9
     replace H := ie_ H
     simp only [Option.some.injEq, Prod.mk.injEq] at H
     obtain ⟨rfl, rfl⟩ := H
     go_wp2
     go_ret2
     exact ⟨by first | rfl | (simp; done) | (simp [*]; done), dr_⟩

mutual
def digits_Read.j0 : Nat → Bool → ByteArray → Int → Int → Bool → Option (Int × Bool)
 | 0, _, _, _, _, _ => none
 | k + 1, x5, x7, x9, x11, x50 => if x50 = true then (some (0, false)) else (digits_Read.l0 k x5 x9 x11 (wrap64 (4 - (x7.size : Int))) 0)
def digits_Read.l0 : Nat → Bool → Int → Int → Int → Int → Option (Int × Bool)
 | 0, _, _, _, _, _ => none
 | k + 1, x5, x9, x11, x53, x54 => if x54 < x53 then (digits_Read.l0 k x5 x9 (wrap64 (x11 * 10)) x53 (wrap64 (x54 + 1))) else ((digits_put.f k x9 x11 x5).bind fun bt110 => (some (bt110.1, bt110.2)))
end
def digits_Read.f (k : Nat) (a0 : ByteArray) : Option (Int × Bool) := (strings_CutPrefix.f a0 (⟨#[45]⟩ : ByteArray)).bind fun bt101 => (if (a0.size : Int) > 40 then (some (0, false)) else ((strings_Cut.f bt101.1 (⟨#[46]⟩ : ByteArray)).bind fun bt103 => ((digits_number.f k bt103.1).bind fun bt106 => ((digits_number.f k bt103.2.1).bind fun bt108 => (if bt106.2 = true then (if bt103.2.2 = true then (if bt108.2 = true then (digits_Read.j0 k bt101.2 bt103.2.1 bt106.1 bt108.1 (decide ((bt103.2.1.size : Int) > 4))) else (digits_Read.j0 k bt101.2 bt103.2.1 bt106.1 bt108.1 true)) else (digits_Read.j0 k bt101.2 bt103.2.1 bt106.1 bt108.1 false)) else (digits_Read.j0 k bt101.2 bt103.2.1 bt106.1 bt108.1 true))))))
theorem digits_Read.mono_l : ∀ k, (∀ y0 y1 y2 y3 y4, LeO (digits_Read.j0 k y0 y1 y2 y3 y4) (digits_Read.j0 (k + 1) y0 y1 y2 y3 y4)) ∧ (∀ y0 y1 y2 y3 y4, LeO (digits_Read.l0 k y0 y1 y2 y3 y4) (digits_Read.l0 (k + 1) y0 y1 y2 y3 y4))
 | 0 => ⟨fun _ _ _ _ _ r h => by simp [digits_Read.j0] at h, fun _ _ _ _ _ r h => by simp [digits_Read.l0] at h⟩
 | k + 1 => by
  obtain ⟨ih0, ih1⟩ := digits_Read.mono_l k
  refine ⟨?_, ?_⟩
  ·intro y0 y1 y2 y3 y4
   unfold digits_Read.j0
   have m0 := @digits_number.mono; have m1 := @digits_put.mono; exact mo_
  ·intro y0 y1 y2 y3 y4
   unfold digits_Read.l0
   have m0 := @digits_number.mono; have m1 := @digits_put.mono; exact mo_
theorem digits_Read.mono : ∀ a0 k, LeO (digits_Read.f k a0) (digits_Read.f (k + 1) a0) := by
 intro a0 k; obtain ⟨ih0, ih1⟩ := digits_Read.mono_l k
 unfold digits_Read.f
 have m0 := @digits_number.mono; have m1 := @digits_put.mono; exact mo_
theorem digits_Read.calls (k : Nat) (a0 : ByteArray) (r1 : Int) (r2 : Bool) (w : World) (h : digits_Read.f k a0 = some (r1, r2)) :
  Calls Tryz.prog 72 #[.string a0] w fun e w' => e = .returned (.tuple #[.int .i64 r1, .bool r2]) ∧ Drawn0 w w' := by
 have H : ((strings_CutPrefix.f a0 (⟨#[45]⟩ : ByteArray)).bind fun bt101 => (if (a0.size : Int) > 40 then (some (0, false)) else ((strings_Cut.f bt101.1 (⟨#[46]⟩ : ByteArray)).bind fun bt103 => ((digits_number.f k bt103.1).bind fun bt106 => ((digits_number.f k bt103.2.1).bind fun bt108 => (if bt106.2 = true then (if bt103.2.2 = true then (if bt108.2 = true then (digits_Read.j0 k bt101.2 bt103.2.1 bt106.1 bt108.1 (decide ((bt103.2.1.size : Int) > 4))) else (digits_Read.j0 k bt101.2 bt103.2.1 bt106.1 bt108.1 true)) else (digits_Read.j0 k bt101.2 bt103.2.1 bt106.1 bt108.1 false)) else (digits_Read.j0 k bt101.2 bt103.2.1 bt106.1 bt108.1 true))))))) = some (r1, r2) := h
 clear h; obtain ⟨⟨t101, t102⟩, A2, H⟩ := bo_ H; dsimp only at H
 by_cases c3 : (a0.size : Int) > 40
 ·rw [if_pos c3] at H; have c3b0 := decide_eq_true c3; have c3b1 : decide (40 < a0.size) = true := decide_eq_true (by omega); clear c3
  simp only [Option.some.injEq, Prod.mk.injEq] at H
  obtain ⟨rfl, rfl⟩ := H
  go_enter Tryz.func72, Tryz.ntmps72
  go_wp2_with (first | ((with_reducible refine gate_callee (f:=84) rfl ?_); refine gL_ (some 15) rfl rfl Tryz.func84 rfl #[.string a0, .string (⟨#[45]⟩ : ByteArray)] rfl ?_; (with_reducible refine (strings_CutPrefix.calls a0 (⟨#[45]⟩ : ByteArray) t101 t102 _ A2.out).mono ?_); rintro e w' ⟨rfl, ⟨nd, rfl⟩⟩; refine ⟨_, rfl, ?_⟩))
  go_ret2
  exact ⟨by first | rfl | (simp; done) | (simp [*]; done), dr_⟩
 ·rw [if_neg c3] at H; have c3b0 := decide_eq_false c3; have c3b1 : decide (40 < a0.size) = false := decide_eq_false (by omega); clear c3; obtain ⟨⟨t103, t104, t105⟩, A4, H⟩ := bo_ H; dsimp only at H; obtain ⟨⟨t106, t107⟩, A5, H⟩ := bo_ H; dsimp only at H; obtain ⟨⟨t108, t109⟩, A6, H⟩ := bo_ H; dsimp only at H; have HC7 := A_ H; clear H
  go_enter Tryz.func72, Tryz.ntmps72
  go_upto_region 7 with (first | ((with_reducible refine gate_callee (f:=84) rfl ?_); refine gL_ (some 15) rfl rfl Tryz.func84 rfl #[.string a0, .string (⟨#[45]⟩ : ByteArray)] rfl ?_; (with_reducible refine (strings_CutPrefix.calls a0 (⟨#[45]⟩ : ByteArray) t101 t102 _ A2.out).mono ?_); rintro e w' ⟨rfl, ⟨nd, rfl⟩⟩; refine ⟨_, rfl, ?_⟩) | ((with_reducible refine gate_callee (f:=74) rfl ?_); refine gL_ (some 23) rfl rfl Tryz.func74 rfl #[.string t101, .string (⟨#[46]⟩ : ByteArray)] rfl ?_; (with_reducible refine (strings_Cut.calls t101 (⟨#[46]⟩ : ByteArray) t103 t104 t105 _ A4.out).mono ?_); rintro e w' ⟨rfl, ⟨nd, rfl⟩⟩; refine ⟨_, rfl, ?_⟩) | ((with_reducible refine gate_callee (f:=85) rfl ?_); refine gL_ (some 29) rfl rfl Tryz.func85 rfl #[.string t103] rfl ?_; (with_reducible refine (digits_number.calls k t103 t106 t107 _ A5.out).mono ?_); rintro e w' ⟨rfl, ⟨nd, rfl⟩⟩; refine ⟨_, rfl, ?_⟩) | ((with_reducible refine gate_callee (f:=85) rfl ?_); refine gL_ (some 34) rfl rfl Tryz.func85 rfl #[.string t104] rfl ?_; (with_reducible refine (digits_number.calls k t104 t108 t109 _ A6.out).mono ?_); rintro e w' ⟨rfl, ⟨nd, rfl⟩⟩; refine ⟨_, rfl, ?_⟩))
  (try simp only [q_])
  go_cut [50] (fun v50 wc => ∃ (kq : Nat) (x50_6 : Bool), v50 = .bool x50_6 ∧ Aside0 (digits_Read.j0 kq t102 t104 t106 t108 x50_6 = some (r1, r2)) ∧ Aside0 (kq ≤ k) ∧ Drawn0 w wc)
  case first =>
   have H := HC7.out; clear HC7
   by_cases c8 : t107 = true
   ·subst c8
    replace H := it_ H
    by_cases c9 : t105 = true
    ·subst c9
     replace H := it_ H
     by_cases c10 : t109 = true
     ·subst c10
      replace H := it_ H
      have H' := A_ H
      clear H
      go_wp2
      go_meet
      case rel => exact ⟨_, (decide ((t104.size : Int) > 4)), (by first | rfl | (simp; done) | (simp [*]; done) | (cases t104 <;> simp; done)), H', le_, dr_⟩
     ·replace c10 := Bool.eq_false_iff.mpr c10; subst c10
      replace H := ie_ H
      have H' := A_ H
      clear H
      go_wp2
      go_meet
      case rel => exact ⟨_, (true), sq_, H', le_, dr_⟩
    ·replace c9 := Bool.eq_false_iff.mpr c9; subst c9
     replace H := ie_ H
     have H' := A_ H
     clear H
     go_wp2
     go_meet
     case rel => exact ⟨_, (false), sq_, H', le_, dr_⟩
   ·replace c8 := Bool.eq_false_iff.mpr c8; subst c8
    replace H := ie_ H
    have H' := A_ H
    clear H
    go_wp2
    go_meet
    case rel => exact ⟨_, (true), sq_, H', le_, dr_⟩
  case rest =>
   clear HC7; (try clear c3); (try clear c3b0); (try clear c3b1); obtain ⟨kq, x50_6, rfl, HA, HJ6, ⟨mc6, rfl⟩⟩ := hcut
   cases kq with
   | zero => exact absurd HA.out (by simp [digits_Read.j0])
   | succ kj6 =>
    have H := HA.out; clear HA
    simp only [digits_Read.j0] at H
    by_cases c11 : x50_6 = true
    ·subst c11
     replace H := it_ H
     simp only [Option.some.injEq, Prod.mk.injEq] at H
     obtain ⟨rfl, rfl⟩ := H
     go_wp2
     go_ret2
     exact ⟨by first | rfl | (simp; done) | (simp [*]; done), dr_⟩
    ·replace c11 := Bool.eq_false_iff.mpr c11; subst c11
     replace H := ie_ H
     have H' := A_ H
     clear H
     go_wp2
     go_loopg [11, 54] kj6 (fun kq v11 v54 w' => ∃ (x11_2 : Int) (x54_2 : Int), v11 = .int .i64 x11_2 ∧ v54 = .int .i64 x54_2 ∧ Aside0 (digits_Read.l0 kq t102 t106 x11_2 (wrap64 (4 - (t104.size : Int))) x54_2 = some (r1, r2)) ∧ Aside0 (kq ≤ kj6) ∧ Drawn0 w w')
     case atStart => exact ⟨(t108), (0), (by first | rfl | (simp; done) | (simp [*]; done) | (cases t108 <;> simp; done)), sq_, H', ⟨Nat.le_refl _⟩, dr_⟩
     case round =>
      clear H'; (try clear c3); (try clear c3b0); (try clear c3b1); (try clear c11); obtain ⟨x11_2, x54_2, rfl, rfl, HA, HK2, ⟨m2, rfl⟩⟩ := hrel
      cases gk with
      | zero => exact absurd HA.out (by simp [digits_Read.l0])
      | succ k2 =>
       have H := HA.out; clear HA
       simp only [digits_Read.l0] at H
       by_cases c12 : x54_2 < (wrap64 (4 - (t104.size : Int)))
       ·rw [if_pos c12] at H; have c12b0 := decide_eq_true c12; clear c12
        have H' := A_ H
        clear H
        go_wp2
        go_roundg k2
        case measure => have := HJ6.out; have := HK2.out; omega
        case rel => exact ⟨(wrap64 (x11_2 * 10)), (wrap64 (x54_2 + 1)), sq_, sq_, H', ⟨by have := HJ6.out; have := HK2.out; omega⟩, dr_⟩
       ·rw [if_neg c12] at H; have c12b0 := decide_eq_false c12; clear c12; obtain ⟨⟨t110, t111⟩, A13, H⟩ := bo_ H; dsimp only at H
        simp only [Option.some.injEq, Prod.mk.injEq] at H
        obtain ⟨rfl, rfl⟩ := H
        go_wp2_with (first | ((with_reducible refine gate_callee (f:=86) rfl ?_); refine gL_ (some 62) rfl rfl Tryz.func86 rfl #[.int .i64 t106, .int .i64 x11_2, .bool t102] rfl ?_; (with_reducible refine (digits_put.calls k2 t106 x11_2 t102 t110 t111 _ A13.out).mono ?_); rintro e w' ⟨rfl, ⟨nd, rfl⟩⟩; refine ⟨_, rfl, ?_⟩))
        go_ret2
        exact ⟨by first | rfl | (simp; done) | (simp [*]; done), dr_⟩

def value_Bad.f (a0 : Int) : Option (Int × Int × ByteArray) := (value_made.f 4 a0 (⟨#[]⟩ : ByteArray) 2).bind fun bt102 => (some (bt102.1, bt102.2.1, bt102.2.2))
theorem value_Bad.calls (a0 : Int) (r1 : Int) (r2 : Int) (r3 : ByteArray) (w : World) (h : value_Bad.f a0 = some (r1, r2, r3)) :
  Calls Tryz.prog 34 #[.int .i64 a0] w fun e w' => e = .returned (.agg #[.int .i64 r1, .int .i64 r2, .string r3]) ∧ Below w.heap.size w w' := by
 have hu26 := Tryz.underlying26; have HB := A_ (Below.refl w.heap.size w)
 have H : ((value_made.f 4 a0 (⟨#[]⟩ : ByteArray) 2).bind fun bt102 => (some (bt102.1, bt102.2.1, bt102.2.2))) = some (r1, r2, r3) := h
 clear h; obtain ⟨⟨t102, t103, t104⟩, A2, H⟩ := bo_ H; dsimp only at H
 simp only [Option.some.injEq, Prod.mk.injEq] at H
 obtain ⟨rfl, rfl, rfl⟩ := H
 go_enter Tryz.func34, Tryz.ntmps34
 go_wp2_with (first | ((with_reducible refine gd_ 2 ?_); refine be_ (N:=2) (cs := #[.int .i64 0, .int .i64 0, .string (⟨#[]⟩ : ByteArray)]) (t:=26) ?_; intro g1 hg w3 hbox hb; have B1 := A_ (hbox); have GW101 := hs_ HB hg; have GE101 := hs_ HB hg; replace HB := bs_ HB hb; clear hb hbox hg) | ((with_reducible refine gate_callee (f:=30) rfl ?_); refine gL_ (some 5) rfl rfl Tryz.func30 rfl #[.agg #[.int .i64 4, .int .i64 a0, .string (⟨#[]⟩ : ByteArray)], .int .i64 2] rfl ?_; (with_reducible refine (value_made.calls 4 a0 (⟨#[]⟩ : ByteArray) 2 t102 t103 t104 _ A2.out).mono ?_); rintro e w4 ⟨rfl, hb⟩; refine ⟨_, rfl, ?_⟩; replace B1 := bb_ B1 hb; replace HB := bs_ HB hb; have ⟨hcz5_0,hcz5_1,hcz5_2,hfz5_0,hfz5_1,hfz5_2⟩ := z3_ B1))
 refine bodyPost_ret (results_cell_row rfl _ _ g1 26 #[.int .i64 t102, .int .i64 t103, .string t104] (0, 0) _ rfl (by (iterate 3 apply pp_); exact pkx B1; all_goals rfl) Tryz.underlying26 rfl (by kernel_rfl)) rfl ?_
 exact fi_ bl_

def value_Bool.f (a0 : Bool) : Option (Int × Int × ByteArray) := if a0 = true then (some (3, 1, (⟨#[]⟩ : ByteArray))) else (some (3, 0, (⟨#[]⟩ : ByteArray)))
theorem value_Bool.calls (a0 : Bool) (r1 : Int) (r2 : Int) (r3 : ByteArray) (w : World) (h : value_Bool.f a0 = some (r1, r2, r3)) :
  Calls Tryz.prog 87 #[.bool a0] w fun e w' => e = .returned (.agg #[.int .i64 r1, .int .i64 r2, .string r3]) ∧ Below w.heap.size w w' := by
 have hu26 := Tryz.underlying26; have HB := A_ (Below.refl w.heap.size w)
 have H : (if a0 = true then (some (3, 1, (⟨#[]⟩ : ByteArray))) else (some (3, 0, (⟨#[]⟩ : ByteArray)))) = some (r1, r2, r3) := h
 clear h
 replace H := ib_ H; rcases H with ⟨rfl,H⟩|⟨rfl,H⟩
 ·simp only [Option.some.injEq, Prod.mk.injEq] at H
  obtain ⟨rfl, rfl, rfl⟩ := H
  go_enter Tryz.func87, Tryz.ntmps87
  go_wp2_with (first | ((with_reducible refine gd_ 2 ?_); refine be_ (N:=2) (cs := #[.int .i64 0, .int .i64 0, .string (⟨#[]⟩ : ByteArray)]) (t:=26) ?_; intro g1 hg w3 hbox hb; have B1 := A_ (hbox); have GW101 := hs_ HB hg; have GE101 := hs_ HB hg; replace HB := bs_ HB hb; clear hb hbox hg; have ⟨hcz4_0,hcz4_1,hcz4_2,hfz4_0,hfz4_1,hfz4_2⟩ := z3_ B1))
  refine bodyPost_ret (results_cell_row rfl _ _ g1 26 #[.int .i64 3, .int .i64 1, .string (⟨#[]⟩ : ByteArray)] (0, 0) _ rfl (by (iterate 3 apply pp_); exact pkx B1; all_goals rfl) Tryz.underlying26 rfl (by kernel_rfl)) rfl ?_
  exact fi_ bl_
 ·simp only [Option.some.injEq, Prod.mk.injEq] at H
  obtain ⟨rfl, rfl, rfl⟩ := H
  go_enter Tryz.func87, Tryz.ntmps87
  go_wp2_with (first | ((with_reducible refine gd_ 2 ?_); refine be_ (N:=2) (cs := #[.int .i64 0, .int .i64 0, .string (⟨#[]⟩ : ByteArray)]) (t:=26) ?_; intro g1 hg w5 hbox hb; have B1 := A_ (hbox); have GW101 := hs_ HB hg; have GE101 := hs_ HB hg; replace HB := bs_ HB hb; clear hb hbox hg; have ⟨hcz6_0,hcz6_1,hcz6_2,hfz6_0,hfz6_1,hfz6_2⟩ := z3_ B1))
  refine bodyPost_ret (results_cell_row rfl _ _ g1 26 #[.int .i64 3, .int .i64 0, .string (⟨#[]⟩ : ByteArray)] (0, 0) _ rfl (by (iterate 3 apply pp_); exact pkx B1; all_goals rfl) Tryz.underlying26 rfl (by kernel_rfl)) rfl ?_
  exact fi_ bl_

def value_AsTruth.j0 : Nat → Bool → Int → Int → ByteArray → Option (Int × Int × ByteArray)
 | 0, _, _, _, _ => none
 | k + 1, x23, x102000, x102001, x102002 => if x23 = true then ((value_Bool.f (x102002.toList == ([84, 82, 85, 69] : List UInt8))).bind fun bt109 => (some (bt109.1, bt109.2.1, bt109.2.2))) else ((value_Bad.f 2).bind fun bt112 => (some (bt112.1, bt112.2.1, bt112.2.2)))
def value_AsTruth.f (k : Nat) (a0_0 : Int) (a0_1 : Int) (a0_2 : ByteArray) : Option (Int × Int × ByteArray) := if a0_0 = 0 then ((value_Bool.f false).bind fun bt103 => (some (bt103.1, bt103.2.1, bt103.2.2))) else (if a0_0 = 1 then ((value_Bool.f (a0_1 != 0)).bind fun bt106 => (some (bt106.1, bt106.2.1, bt106.2.2))) else (if a0_0 = 2 then (if a0_2.toList = ([84, 82, 85, 69] : List UInt8) then (value_AsTruth.j0 k true a0_0 a0_1 a0_2) else (value_AsTruth.j0 k (a0_2.toList == ([70, 65, 76, 83, 69] : List UInt8)) a0_0 a0_1 a0_2)) else (some (a0_0, a0_1, a0_2))))
theorem value_AsTruth.mono_l : ∀ k, (∀ y0 y1 y2 y3, LeO (value_AsTruth.j0 k y0 y1 y2 y3) (value_AsTruth.j0 (k + 1) y0 y1 y2 y3))
 | 0 => fun _ _ _ _ r h => by simp [value_AsTruth.j0] at h
 | k + 1 => by
  have ih0 := value_AsTruth.mono_l k
  ·intro y0 y1 y2 y3
   unfold value_AsTruth.j0
   exact mo_
theorem value_AsTruth.mono : ∀ a0 a1 a2 k, LeO (value_AsTruth.f k a0 a1 a2) (value_AsTruth.f (k + 1) a0 a1 a2) := by
 intro a0 a1 a2 k; have ih0 := value_AsTruth.mono_l k
 unfold value_AsTruth.f
 exact mo_
theorem value_AsTruth.calls (k : Nat) (a0_0 : Int) (a0_1 : Int) (a0_2 : ByteArray) (r1 : Int) (r2 : Int) (r3 : ByteArray) (w : World) (h : value_AsTruth.f k a0_0 a0_1 a0_2 = some (r1, r2, r3)) :
  Calls Tryz.prog 73 #[.agg #[.int .i64 a0_0, .int .i64 a0_1, .string a0_2]] w fun e w' => e = .returned (.agg #[.int .i64 r1, .int .i64 r2, .string r3]) ∧ Below w.heap.size w w' := by
 have hu26 := Tryz.underlying26; have HB := A_ (Below.refl w.heap.size w)
 have H : (if a0_0 = 0 then ((value_Bool.f false).bind fun bt103 => (some (bt103.1, bt103.2.1, bt103.2.2))) else (if a0_0 = 1 then ((value_Bool.f (a0_1 != 0)).bind fun bt106 => (some (bt106.1, bt106.2.1, bt106.2.2))) else (if a0_0 = 2 then (if a0_2.toList = ([84, 82, 85, 69] : List UInt8) then (value_AsTruth.j0 k true a0_0 a0_1 a0_2) else (value_AsTruth.j0 k (a0_2.toList == ([70, 65, 76, 83, 69] : List UInt8)) a0_0 a0_1 a0_2)) else (some (a0_0, a0_1, a0_2))))) = some (r1, r2, r3) := h
 clear h
 by_cases c2 : a0_0 = 0
 ·rw [if_pos c2] at H; have ⟨c2b0,c2b1⟩ := e1_ c2; clear c2; obtain ⟨⟨t103, t104, t105⟩, A3, H⟩ := bo_ H; dsimp only at H
  simp only [Option.some.injEq, Prod.mk.injEq] at H
  obtain ⟨rfl, rfl, rfl⟩ := H
  go_enter Tryz.func73, Tryz.ntmps73
  go_wp2_with (first | ((with_reducible refine gd_ 1 ?_); refine be_ (N:=1) (cs := #[.int .i64 a0_0, .int .i64 a0_1, .string a0_2]) (t:=26) ?_; intro g1 hg w4 hbox hb; have B1 := A_ (hbox); have GW101 := hs_ HB hg; have GE101 := hs_ HB hg; replace HB := bs_ HB hb; clear hb hbox hg) | ((with_reducible refine gd_ 2 ?_); refine be_ (N:=2) (cs := #[.int .i64 0, .int .i64 0, .string (⟨#[]⟩ : ByteArray)]) (t:=26) ?_; intro g2 hg w5 hbox hb; have B2 := A_ (hbox); have GW102 := hs_ HB hg; have GE102 := hs_ HB hg; have N12 := hl_ B1 hg; have N21 := hr_ B1 hg; replace B1 := bb_ B1 hb; replace HB := bs_ HB hb; clear hb hbox hg; have hnb6 := N12.out; have hnc6 := N21.out; have ⟨hcz7_0,hcz7_1,hcz7_2,hfz7_0,hfz7_1,hfz7_2⟩ := z3_ B1) | ((with_reducible refine gate_callee (f:=87) rfl ?_); refine gL_ (some 7) rfl rfl Tryz.func87 rfl #[.bool false] rfl ?_; (with_reducible refine (value_Bool.calls false t103 t104 t105 _ A3.out).mono ?_); rintro e w8 ⟨rfl, hb⟩; refine ⟨_, rfl, ?_⟩; replace B1 := bb_ B1 hb; replace B2 := bb_ B2 hb; replace HB := bs_ HB hb; have ⟨hcz9_0,hcz9_1,hcz9_2,hfz9_0,hfz9_1,hfz9_2⟩ := z3_ B2))
  refine bodyPost_ret (results_cell_row rfl _ _ g2 26 #[.int .i64 t103, .int .i64 t104, .string t105] (0, 0) _ rfl (by (iterate 3 apply pp_); exact pkx B2; all_goals rfl) Tryz.underlying26 rfl (by kernel_rfl)) rfl ?_
  exact fi_ bl_
 ·rw [if_neg c2] at H; have ⟨c2b0,c2b1⟩ := e0_ c2
  by_cases c10 : a0_0 = 1
  ·rw [if_pos c10] at H; have ⟨c10b0,c10b1⟩ := e1_ c10; clear c10; obtain ⟨⟨t106, t107, t108⟩, A11, H⟩ := bo_ H; dsimp only at H
   simp only [Option.some.injEq, Prod.mk.injEq] at H
   obtain ⟨rfl, rfl, rfl⟩ := H
   go_enter Tryz.func73, Tryz.ntmps73
   go_wp2_with (first | ((with_reducible refine gd_ 1 ?_); refine be_ (N:=1) (cs := #[.int .i64 a0_0, .int .i64 a0_1, .string a0_2]) (t:=26) ?_; intro g1 hg w12 hbox hb; have B1 := A_ (hbox); have GW101 := hs_ HB hg; have GE101 := hs_ HB hg; replace HB := bs_ HB hb; clear hb hbox hg) | ((with_reducible refine gd_ 2 ?_); refine be_ (N:=2) (cs := #[.int .i64 0, .int .i64 0, .string (⟨#[]⟩ : ByteArray)]) (t:=26) ?_; intro g2 hg w13 hbox hb; have B2 := A_ (hbox); have GW102 := hs_ HB hg; have GE102 := hs_ HB hg; have N12 := hl_ B1 hg; have N21 := hr_ B1 hg; replace B1 := bb_ B1 hb; replace HB := bs_ HB hb; clear hb hbox hg; have hnb14 := N12.out; have hnc14 := N21.out; have ⟨hcz15_0,hcz15_1,hcz15_2,hfz15_0,hfz15_1,hfz15_2⟩ := z3_ B1) | ((with_reducible refine gate_callee (f:=87) rfl ?_); refine gL_ (some 13) rfl rfl Tryz.func87 rfl #[.bool (a0_1 != 0)] rfl ?_; (with_reducible refine (value_Bool.calls (a0_1 != 0) t106 t107 t108 _ A11.out).mono ?_); rintro e w16 ⟨rfl, hb⟩; refine ⟨_, rfl, ?_⟩; replace B1 := bb_ B1 hb; replace B2 := bb_ B2 hb; replace HB := bs_ HB hb; have ⟨hcz17_0,hcz17_1,hcz17_2,hfz17_0,hfz17_1,hfz17_2⟩ := z3_ B2))
   refine bodyPost_ret (results_cell_row rfl _ _ g2 26 #[.int .i64 t106, .int .i64 t107, .string t108] (0, 0) _ rfl (by (iterate 3 apply pp_); exact pkx B2; all_goals rfl) Tryz.underlying26 rfl (by kernel_rfl)) rfl ?_
   exact fi_ bl_
  ·rw [if_neg c10] at H; have ⟨c10b0,c10b1⟩ := e0_ c10
   by_cases c18 : a0_0 = 2
   ·rw [if_pos c18] at H; have ⟨c18b0,c18b1⟩ := e1_ c18; clear c18; have HC19 := A_ H; clear H
    go_enter Tryz.func73, Tryz.ntmps73
    go_upto_region 7 with (first | ((with_reducible refine gd_ 1 ?_); refine be_ (N:=1) (cs := #[.int .i64 a0_0, .int .i64 a0_1, .string a0_2]) (t:=26) ?_; intro g1 hg w20 hbox hb; have B1 := A_ (hbox); have GW101 := hs_ HB hg; have GE101 := hs_ HB hg; replace HB := bs_ HB hb; clear hb hbox hg) | ((with_reducible refine gd_ 2 ?_); refine be_ (N:=2) (cs := #[.int .i64 0, .int .i64 0, .string (⟨#[]⟩ : ByteArray)]) (t:=26) ?_; intro g2 hg w21 hbox hb; have B2 := A_ (hbox); have GW102 := hs_ HB hg; have GE102 := hs_ HB hg; have N12 := hl_ B1 hg; have N21 := hr_ B1 hg; replace B1 := bb_ B1 hb; replace HB := bs_ HB hb; clear hb hbox hg; have hnb22 := N12.out; have hnc22 := N21.out; have ⟨hcz23_0,hcz23_1,hcz23_2,hfz23_0,hfz23_1,hfz23_2⟩ := z3_ B1))
    (try simp only [q_])
    go_cut [23] (fun v23 wc => ∃ (kq : Nat) (x23_18 : Bool), v23 = .bool x23_18 ∧ Aside0 (value_AsTruth.j0 kq x23_18 a0_0 a0_1 a0_2 = some (r1, r2, r3)) ∧ Aside0 (kq ≤ k) ∧ Aside0 (wc.heap[g1]? = some (.cells #[.int .i64 a0_0, .int .i64 a0_1, .string a0_2] 26 (0, 0))) ∧ Aside0 (wc.heap[g2]? = some (.cells #[.int .i64 0, .int .i64 0, .string (⟨#[]⟩ : ByteArray)] 26 (0, 0))) ∧ Aside0 (Below w.heap.size w wc))
    case first =>
     have H := HC19.out; clear HC19
     by_cases c24 : a0_2.toList = ([84, 82, 85, 69] : List UInt8)
     ·rw [if_pos c24] at H; have ⟨c24b0,c24b1⟩ := e1_ c24; clear c24; (first | rw [c24b0] | (simp only [i64_w, i32_w]; rw [c24b0]) | skip)
      have H' := A_ H
      clear H; have hnb25 := N12.out; have hnc25 := N21.out
      have ⟨hcz26_0,hcz26_1,hcz26_2,hfz26_0,hfz26_1,hfz26_2⟩ := z3_ B1
      go_wp2
      go_meet
      case rel => exact ⟨_, (true), sq_, H', le_, ⟨pkx B1⟩, ⟨pkx B2⟩, ⟨pbx HB⟩⟩
     ·rw [if_neg c24] at H; have ⟨c24b0,c24b1⟩ := e0_ c24; (first | rw [c24b0] | (simp only [i64_w, i32_w]; rw [c24b0]) | skip)
      have H' := A_ H
      clear H; have hnb27 := N12.out; have hnc27 := N21.out
      have ⟨hcz28_0,hcz28_1,hcz28_2,hfz28_0,hfz28_1,hfz28_2⟩ := z3_ B1
      go_wp2
      go_meet
      case rel => exact ⟨_, ((a0_2.toList == ([70, 65, 76, 83, 69] : List UInt8))), sq_, H', le_, ⟨pkx B1⟩, ⟨pkx B2⟩, ⟨pbx HB⟩⟩
    case rest =>
     clear HC19; (try clear c2); (try clear c2b0); (try clear c2b1); (try clear c10); (try clear c10b0); (try clear c10b1); (try clear c18); (try clear c18b0); (try clear c18b1); (try clear hcz23_0); (try clear hcz23_1); (try clear hcz23_2)
     (try clear hfz23_0); (try clear hfz23_1); (try clear hfz23_2); obtain ⟨kq, x23_18, rfl, HA, HJ18, B1, B2, HB⟩ := hcut
     cases kq with
     | zero => exact absurd HA.out (by simp [value_AsTruth.j0])
     | succ kj18 =>
      have H := HA.out; clear HA
      simp only [value_AsTruth.j0] at H
      replace H := ib_ H; rcases H with ⟨rfl,H⟩|⟨rfl,H⟩
      ·obtain ⟨⟨t109, t110, t111⟩, A30, H⟩ := bo_ H; dsimp only at H
       simp only [Option.some.injEq, Prod.mk.injEq] at H
       obtain ⟨rfl, rfl, rfl⟩ := H; have hnb31 := N12.out; have hnc31 := N21.out
       have ⟨hcz32_0,hcz32_1,hcz32_2,hfz32_0,hfz32_1,hfz32_2⟩ := z3_ B1
       go_wp2_with (first | ((with_reducible refine gate_callee (f:=87) rfl ?_); refine gL_ (some 27) rfl rfl Tryz.func87 rfl #[.bool (a0_2.toList == ([84, 82, 85, 69] : List UInt8))] rfl ?_; (with_reducible refine (value_Bool.calls (a0_2.toList == ([84, 82, 85, 69] : List UInt8)) t109 t110 t111 _ A30.out).mono ?_); rintro e w33 ⟨rfl, hb⟩; refine ⟨_, rfl, ?_⟩; replace B1 := bb_ B1 hb; replace B2 := bb_ B2 hb; replace HB := bs_ HB hb; (try clear hb); have ⟨hcz34_0,hcz34_1,hcz34_2,hfz34_0,hfz34_1,hfz34_2⟩ := z3_ B2))
       refine bodyPost_ret (results_cell_row rfl _ _ g2 26 #[.int .i64 t109, .int .i64 t110, .string t111] (0, 0) _ rfl (by (iterate 3 apply pp_); exact pkx B2; all_goals rfl) Tryz.underlying26 rfl (by kernel_rfl)) rfl ?_
       exact fi_ bl_
      ·obtain ⟨⟨t112, t113, t114⟩, A35, H⟩ := bo_ H; dsimp only at H
       simp only [Option.some.injEq, Prod.mk.injEq] at H
       obtain ⟨rfl, rfl, rfl⟩ := H
       go_wp2_with (first | ((with_reducible refine gate_callee (f:=34) rfl ?_); refine gL_ (some 28) rfl rfl Tryz.func34 rfl #[.int .i64 2] rfl ?_; (with_reducible refine (value_Bad.calls 2 t112 t113 t114 _ A35.out).mono ?_); rintro e w36 ⟨rfl, hb⟩; refine ⟨_, rfl, ?_⟩; replace B1 := bb_ B1 hb; replace B2 := bb_ B2 hb; replace HB := bs_ HB hb; (try clear hb); have hnb37 := N21.out; have hnc37 := N12.out; have ⟨hcz38_0,hcz38_1,hcz38_2,hfz38_0,hfz38_1,hfz38_2⟩ := z3_ B2))
       refine bodyPost_ret (results_cell_row rfl _ _ g2 26 #[.int .i64 t112, .int .i64 t113, .string t114] (0, 0) _ rfl (by (iterate 3 apply pp_); exact pkx B2; all_goals rfl) Tryz.underlying26 rfl (by kernel_rfl)) rfl ?_
       exact fi_ bl_
   ·rw [if_neg c18] at H; have ⟨c18b0,c18b1⟩ := e0_ c18
    simp only [Option.some.injEq, Prod.mk.injEq] at H
    obtain ⟨rfl, rfl, rfl⟩ := H
    go_enter Tryz.func73, Tryz.ntmps73
    go_wp2_with (first | ((with_reducible refine gd_ 1 ?_); refine be_ (N:=1) (cs := #[.int .i64 a0_0, .int .i64 a0_1, .string a0_2]) (t:=26) ?_; intro g1 hg w39 hbox hb; have B1 := A_ (hbox); have GW101 := hs_ HB hg; have GE101 := hs_ HB hg; replace HB := bs_ HB hb; clear hb hbox hg) | ((with_reducible refine gd_ 2 ?_); refine be_ (N:=2) (cs := #[.int .i64 0, .int .i64 0, .string (⟨#[]⟩ : ByteArray)]) (t:=26) ?_; intro g2 hg w40 hbox hb; have B2 := A_ (hbox); have GW102 := hs_ HB hg; have GE102 := hs_ HB hg; have N12 := hl_ B1 hg; have N21 := hr_ B1 hg; replace B1 := bb_ B1 hb; replace HB := bs_ HB hb; clear hb hbox hg; have hnb41 := N12.out; have hnc41 := N21.out; have ⟨hcz42_0,hcz42_1,hcz42_2,hfz42_0,hfz42_1,hfz42_2⟩ := z3_ B1; have ⟨hcz43_0,hcz43_1,hcz43_2,hfz43_0,hfz43_1,hfz43_2⟩ := z3_ B2))
    refine bodyPost_ret (results_cell_row rfl _ _ g2 26 #[.int .i64 a0_0, .int .i64 a0_1, .string a0_2] (0, 0) _ rfl (by (iterate 3 apply pp_); exact pkx B2; all_goals rfl) Tryz.underlying26 rfl (by kernel_rfl)) rfl ?_
    exact fi_ bl_

def crit_read.f (k : Nat) (a0 : ByteArray) : Option (Int × Int × ByteArray) := (digits_Read.f k a0).bind fun bt102 => (if bt102.2 = true then ((value_Num.f bt102.1).bind fun bt104 => (some (bt104.1, bt104.2.1, bt104.2.2))) else ((value_Str.f a0).bind fun bt107 => ((value_AsTruth.f k bt107.1 bt107.2.1 bt107.2.2).bind fun bt110 => (if bt110.1 = 3 then (some (bt110.1, bt110.2.1, bt110.2.2)) else ((value_Str.f a0).bind fun bt114 => (some (bt114.1, bt114.2.1, bt114.2.2)))))))
theorem crit_read.mono : ∀ a0 k, LeO (crit_read.f k a0) (crit_read.f (k + 1) a0) := by
 intro a0 k
 unfold crit_read.f
 have m0 := @digits_Read.mono; have m1 := @value_AsTruth.mono; exact mo_
theorem crit_read.calls (k : Nat) (a0 : ByteArray) (r1 : Int) (r2 : Int) (r3 : ByteArray) (w : World) (h : crit_read.f k a0 = some (r1, r2, r3)) :
  Calls Tryz.prog 57 #[.string a0] w fun e w' => e = .returned (.agg #[.int .i64 r1, .int .i64 r2, .string r3]) ∧ Below w.heap.size w w' := by
 have hu26 := Tryz.underlying26; have HB := A_ (Below.refl w.heap.size w)
 have H : ((digits_Read.f k a0).bind fun bt102 => (if bt102.2 = true then ((value_Num.f bt102.1).bind fun bt104 => (some (bt104.1, bt104.2.1, bt104.2.2))) else ((value_Str.f a0).bind fun bt107 => ((value_AsTruth.f k bt107.1 bt107.2.1 bt107.2.2).bind fun bt110 => (if bt110.1 = 3 then (some (bt110.1, bt110.2.1, bt110.2.2)) else ((value_Str.f a0).bind fun bt114 => (some (bt114.1, bt114.2.1, bt114.2.2)))))))) = some (r1, r2, r3) := h
 clear h; obtain ⟨⟨t102, t103⟩, A2, H⟩ := bo_ H; dsimp only at H
 replace H := ib_ H; rcases H with ⟨rfl,H⟩|⟨rfl,H⟩
 ·obtain ⟨⟨t104, t105, t106⟩, A4, H⟩ := bo_ H; dsimp only at H
  simp only [Option.some.injEq, Prod.mk.injEq] at H
  obtain ⟨rfl, rfl, rfl⟩ := H
  go_enter Tryz.func57, Tryz.ntmps57
  go_wp2_with (first | ((with_reducible refine gd_ 2 ?_); refine be_ (N:=2) (cs := #[.int .i64 0, .int .i64 0, .string (⟨#[]⟩ : ByteArray)]) (t:=26) ?_; intro g1 hg w5 hbox hb; have B1 := A_ (hbox); have GW101 := hs_ HB hg; have GE101 := hs_ HB hg; replace HB := bs_ HB hb; clear hb hbox hg) | ((with_reducible refine gate_callee (f:=72) rfl ?_); refine gL_ (some 8) rfl rfl Tryz.func72 rfl #[.string a0] rfl ?_; (with_reducible refine (digits_Read.calls k a0 t102 true _ A2.out).mono ?_); rintro e w' ⟨rfl, ⟨nd, rfl⟩⟩; refine ⟨_, rfl, ?_⟩; (try (rw [drewN_self w5]; generalize hq_ : World.drewN w5 _ = w5; have n0_ : Aside0 (w5.heap[g1]? = some (.cells #[.int .i64 0, .int .i64 0, .string (⟨#[]⟩ : ByteArray)] 26 (0, 0))) := ⟨by rw [← hq_]; exact (pkx B1)⟩; have n1_ : Aside0 (Below w.heap.size w w5) := ⟨by rw [← hq_]; exact (pbx HB)⟩; clear B1 HB hq_; have B1 := n0_; have HB := n1_; clear n0_ n1_))) | ((with_reducible refine gate_callee (f:=16) rfl ?_); refine gL_ (some 13) rfl rfl Tryz.func16 rfl #[.int .i64 t102] rfl ?_; (with_reducible refine (value_Num.calls t102 t104 t105 t106 _ A4.out).mono ?_); rintro e w6 ⟨rfl, hb⟩; refine ⟨_, rfl, ?_⟩; replace B1 := bb_ B1 hb; replace HB := bs_ HB hb; have ⟨hcz7_0,hcz7_1,hcz7_2,hfz7_0,hfz7_1,hfz7_2⟩ := z3_ B1))
  refine bodyPost_ret (results_cell_row rfl _ _ g1 26 #[.int .i64 t104, .int .i64 t105, .string t106] (0, 0) _ rfl (by (iterate 3 apply pp_); exact pkx B1; all_goals rfl) Tryz.underlying26 rfl (by kernel_rfl)) rfl ?_
  exact fi_ bl_
 ·obtain ⟨⟨t107, t108, t109⟩, A8, H⟩ := bo_ H; dsimp only at H; obtain ⟨⟨t110, t111, t112⟩, A9, H⟩ := bo_ H; dsimp only at H
  by_cases c10 : t110 = 3
  ·rw [if_pos c10] at H; have ⟨c10b0,c10b1⟩ := e1_ c10; clear c10
   simp only [Option.some.injEq, Prod.mk.injEq] at H
   obtain ⟨rfl, rfl, rfl⟩ := H
   go_enter Tryz.func57, Tryz.ntmps57
   go_wp2_with (first | ((with_reducible refine gd_ 2 ?_); refine be_ (N:=2) (cs := #[.int .i64 0, .int .i64 0, .string (⟨#[]⟩ : ByteArray)]) (t:=26) ?_; intro g1 hg w11 hbox hb; have B1 := A_ (hbox); have GW101 := hs_ HB hg; have GE101 := hs_ HB hg; replace HB := bs_ HB hb; clear hb hbox hg) | ((with_reducible refine gate_callee (f:=72) rfl ?_); refine gL_ (some 8) rfl rfl Tryz.func72 rfl #[.string a0] rfl ?_; (with_reducible refine (digits_Read.calls k a0 t102 false _ A2.out).mono ?_); rintro e w' ⟨rfl, ⟨nd, rfl⟩⟩; refine ⟨_, rfl, ?_⟩; (try (rw [drewN_self w11]; generalize hq_ : World.drewN w11 _ = w11; have n0_ : Aside0 (w11.heap[g1]? = some (.cells #[.int .i64 0, .int .i64 0, .string (⟨#[]⟩ : ByteArray)] 26 (0, 0))) := ⟨by rw [← hq_]; exact (pkx B1)⟩; have n1_ : Aside0 (Below w.heap.size w w11) := ⟨by rw [← hq_]; exact (pbx HB)⟩; clear B1 HB hq_; have B1 := n0_; have HB := n1_; clear n0_ n1_))) | ((with_reducible refine gate_callee (f:=13) rfl ?_); refine gL_ (some 15) rfl rfl Tryz.func13 rfl #[.string a0] rfl ?_; (with_reducible refine (value_Str.calls a0 t107 t108 t109 _ A8.out).mono ?_); rintro e w12 ⟨rfl, hb⟩; refine ⟨_, rfl, ?_⟩; replace B1 := bb_ B1 hb; replace HB := bs_ HB hb; ) | ((with_reducible refine gate_callee (f:=73) rfl ?_); refine gL_ (some 16) rfl rfl Tryz.func73 rfl #[.agg #[.int .i64 t107, .int .i64 t108, .string t109]] rfl ?_; (with_reducible refine (value_AsTruth.calls k t107 t108 t109 t110 t111 t112 _ A9.out).mono ?_); rintro e w13 ⟨rfl, hb⟩; refine ⟨_, rfl, ?_⟩; replace B1 := bb_ B1 hb; replace HB := bs_ HB hb; ) | ((with_reducible refine gd_ 5 ?_); refine be_ (N:=5) (cs := #[.int .i64 0, .int .i64 0, .string (⟨#[]⟩ : ByteArray)]) (t:=26) ?_; intro gb113 hg w14 hbox hb; have BK113 := A_ (hbox); have GW113 := hs_ HB hg; have GE113 := hs_ HB hg; have NB101_113 := hl_ B1 hg; have NB113_101 := hr_ B1 hg; replace B1 := bb_ B1 hb; replace HB := bs_ HB hb; clear hb hbox hg; have hnb15 := NB113_101.out; have hnc15 := NB101_113.out; have ⟨hcz16_0,hcz16_1,hcz16_2,hfz16_0,hfz16_1,hfz16_2⟩ := z3_ BK113; have ⟨hcz17_0,hcz17_1,hcz17_2,hfz17_0,hfz17_1,hfz17_2⟩ := z3_ B1))
   refine bodyPost_ret (results_cell_row rfl _ _ g1 26 #[.int .i64 t110, .int .i64 t111, .string t112] (0, 0) _ rfl (by refine pp_ (cs := #[.int .i64 t110, .int .i64 t111, .string (⟨#[]⟩ : ByteArray)]) 2 ?_ rfl; refine pp_ (cs := #[.int .i64 t110, .int .i64 0, .string (⟨#[]⟩ : ByteArray)]) 1 ?_ rfl; refine pp_ (cs := #[.int .i64 0, .int .i64 0, .string (⟨#[]⟩ : ByteArray)]) 0 ?_ rfl; (iterate 3 refine pf_ ?_ NB101_113.out); exact pkx B1) Tryz.underlying26 rfl (by kernel_rfl)) rfl ?_
   exact fi_ bl_
  ·rw [if_neg c10] at H; have ⟨c10b0,c10b1⟩ := e0_ c10; obtain ⟨⟨t114, t115, t116⟩, A18, H⟩ := bo_ H; dsimp only at H
   simp only [Option.some.injEq, Prod.mk.injEq] at H
   obtain ⟨rfl, rfl, rfl⟩ := H
   go_enter Tryz.func57, Tryz.ntmps57
   go_wp2_with (first | ((with_reducible refine gd_ 2 ?_); refine be_ (N:=2) (cs := #[.int .i64 0, .int .i64 0, .string (⟨#[]⟩ : ByteArray)]) (t:=26) ?_; intro g1 hg w19 hbox hb; have B1 := A_ (hbox); have GW101 := hs_ HB hg; have GE101 := hs_ HB hg; replace HB := bs_ HB hb; clear hb hbox hg) | ((with_reducible refine gate_callee (f:=72) rfl ?_); refine gL_ (some 8) rfl rfl Tryz.func72 rfl #[.string a0] rfl ?_; (with_reducible refine (digits_Read.calls k a0 t102 false _ A2.out).mono ?_); rintro e w' ⟨rfl, ⟨nd, rfl⟩⟩; refine ⟨_, rfl, ?_⟩; (try (rw [drewN_self w19]; generalize hq_ : World.drewN w19 _ = w19; have n0_ : Aside0 (w19.heap[g1]? = some (.cells #[.int .i64 0, .int .i64 0, .string (⟨#[]⟩ : ByteArray)] 26 (0, 0))) := ⟨by rw [← hq_]; exact (pkx B1)⟩; have n1_ : Aside0 (Below w.heap.size w w19) := ⟨by rw [← hq_]; exact (pbx HB)⟩; clear B1 HB hq_; have B1 := n0_; have HB := n1_; clear n0_ n1_))) | ((with_reducible refine gate_callee (f:=13) rfl ?_); refine gL_ (some 15) rfl rfl Tryz.func13 rfl #[.string a0] rfl ?_; (with_reducible refine (value_Str.calls a0 t107 t108 t109 _ A8.out).mono ?_); rintro e w20 ⟨rfl, hb⟩; refine ⟨_, rfl, ?_⟩; replace B1 := bb_ B1 hb; replace HB := bs_ HB hb; ) | ((with_reducible refine gate_callee (f:=73) rfl ?_); refine gL_ (some 16) rfl rfl Tryz.func73 rfl #[.agg #[.int .i64 t107, .int .i64 t108, .string t109]] rfl ?_; (with_reducible refine (value_AsTruth.calls k t107 t108 t109 t110 t111 t112 _ A9.out).mono ?_); rintro e w21 ⟨rfl, hb⟩; refine ⟨_, rfl, ?_⟩; replace B1 := bb_ B1 hb; replace HB := bs_ HB hb; ) | ((with_reducible refine gd_ 5 ?_); refine be_ (N:=5) (cs := #[.int .i64 0, .int .i64 0, .string (⟨#[]⟩ : ByteArray)]) (t:=26) ?_; intro gb113 hg w22 hbox hb; have BK113 := A_ (hbox); have GW113 := hs_ HB hg; have GE113 := hs_ HB hg; have NB101_113 := hl_ B1 hg; have NB113_101 := hr_ B1 hg; replace B1 := bb_ B1 hb; replace HB := bs_ HB hb; clear hb hbox hg; have hnb23 := NB113_101.out; have hnc23 := NB101_113.out; have ⟨hcz24_0,hcz24_1,hcz24_2,hfz24_0,hfz24_1,hfz24_2⟩ := z3_ BK113) | ((with_reducible refine gate_callee (f:=13) rfl ?_); refine gL_ (some 22) rfl rfl Tryz.func13 rfl #[.string a0] rfl ?_; (with_reducible refine (value_Str.calls a0 t114 t115 t116 _ A18.out).mono ?_); rintro e w25 ⟨rfl, hb⟩; refine ⟨_, rfl, ?_⟩; replace B1 := A_ (blk_below (g:=g1) (o := .cells #[.int .i64 0, .int .i64 0, .string (⟨#[]⟩ : ByteArray)] 26 (0, 0)) (by (iterate 3 refine pf_ ?_ NB101_113.out); exact pkx B1) hb); replace BK113 := A_ (blk_below (g:=gb113) (o := .cells #[.int .i64 t110, .int .i64 t111, .string t112] 26 (0, 0)) (by (iterate 3 apply pp_); exact pkx BK113; all_goals rfl) hb); replace HB := A_ (below_step (by repeat (first | (with_reducible first | exact HB.out | apply below_alloc | apply pw_below_drewN | apply below_drew1 | refine below_set ?_ GE101.out | refine below_set ?_ GE113.out) | exact HB.out)) hb); have ⟨hcz26_0,hcz26_1,hcz26_2,hfz26_0,hfz26_1,hfz26_2⟩ := z3_ B1))
   refine bodyPost_ret (results_cell_row rfl _ _ g1 26 #[.int .i64 t114, .int .i64 t115, .string t116] (0, 0) _ rfl (by (iterate 3 apply pp_); exact pkx B1; all_goals rfl) Tryz.underlying26 rfl (by kernel_rfl)) rfl ?_
   exact fi_ bl_

def crit_Of.f (k : Nat) (a0_0 : Int) (a0_1 : Int) (a0_2 : ByteArray) : Option (Int × Int × Int × ByteArray × Bool) := if a0_0 = 4 then (some (0, 0, 0, (⟨#[]⟩ : ByteArray), false)) else (if a0_0 = 0 then ((value_Str.f (⟨#[]⟩ : ByteArray)).bind fun bt103 => (some (7, bt103.1, bt103.2.1, bt103.2.2, true))) else (if a0_0 = 2 then ((crit_sign.f a0_2).bind fun bt106 => (if 0 ≤ bt106.2 then (if bt106.2 ≤ (a0_2.size : Int) then ((crit_read.f k (a0_2.extract (bt106.2 : Int).toNat a0_2.size)).bind fun bt108 => (some (bt106.1, bt108.1, bt108.2.1, bt108.2.2, true))) else (none)) else (none))) else (some (7, a0_0, a0_1, a0_2, true))))
theorem crit_Of.mono : ∀ a0 a1 a2 k, LeO (crit_Of.f k a0 a1 a2) (crit_Of.f (k + 1) a0 a1 a2) := by
 intro a0 a1 a2 k
 unfold crit_Of.f
 have m0 := @crit_read.mono; exact mo_
theorem crit_Of.calls (k : Nat) (a0_0 : Int) (a0_1 : Int) (a0_2 : ByteArray) (r1 : Int) (r2 : Int) (r3 : Int) (r4 : ByteArray) (r5 : Bool) (w : World) (h : crit_Of.f k a0_0 a0_1 a0_2 = some (r1, r2, r3, r4, r5)) :
  Calls Tryz.prog 39 #[.agg #[.int .i64 a0_0, .int .i64 a0_1, .string a0_2]] w fun e w' => e = .returned (.tuple #[.agg #[.int .i64 r1, .int .i64 r2, .int .i64 r3, .string r4], .bool r5]) ∧ Below w.heap.size w w' := by
 have hu26 := Tryz.underlying26; have hu59 := Tryz.underlying59; have HB := A_ (Below.refl w.heap.size w)
 have H : (if a0_0 = 4 then (some (0, 0, 0, (⟨#[]⟩ : ByteArray), false)) else (if a0_0 = 0 then ((value_Str.f (⟨#[]⟩ : ByteArray)).bind fun bt103 => (some (7, bt103.1, bt103.2.1, bt103.2.2, true))) else (if a0_0 = 2 then ((crit_sign.f a0_2).bind fun bt106 => (if 0 ≤ bt106.2 then (if bt106.2 ≤ (a0_2.size : Int) then ((crit_read.f k (a0_2.extract (bt106.2 : Int).toNat a0_2.size)).bind fun bt108 => (some (bt106.1, bt108.1, bt108.2.1, bt108.2.2, true))) else (none)) else (none))) else (some (7, a0_0, a0_1, a0_2, true))))) = some (r1, r2, r3, r4, r5) := h
 clear h
 by_cases c2 : a0_0 = 4
 ·rw [if_pos c2] at H; have ⟨c2b0,c2b1⟩ := e1_ c2; clear c2
  simp only [Option.some.injEq, Prod.mk.injEq] at H
  obtain ⟨rfl, rfl, rfl, rfl, rfl⟩ := H
  go_enter Tryz.func39, Tryz.ntmps39
  go_wp2_with (first | ((with_reducible refine gd_ 1 ?_); refine be_ (N:=1) (cs := #[.int .i64 a0_0, .int .i64 a0_1, .string a0_2]) (t:=26) ?_; intro g1 hg w3 hbox hb; have B1 := A_ (hbox); have GW101 := hs_ HB hg; have GE101 := hs_ HB hg; replace HB := bs_ HB hb; clear hb hbox hg) | ((with_reducible refine gd_ 2 ?_); refine be_ (N:=2) (cs := #[.int .i64 0, .int .i64 0, .int .i64 0, .string (⟨#[]⟩ : ByteArray)]) (t:=59) ?_; intro g2 hg w4 hbox hb; have B2 := A_ (hbox); have GW102 := hs_ HB hg; have GE102 := hs_ HB hg; have N12 := hl_ B1 hg; have N21 := hr_ B1 hg; replace B1 := bb_ B1 hb; replace HB := bs_ HB hb; clear hb hbox hg; have hnb5 := N12.out; have hnc5 := N21.out; have ⟨hcz6_0,hcz6_1,hcz6_2,hfz6_0,hfz6_1,hfz6_2⟩ := z3_ B1; have ⟨hcz7_0,hcz7_1,hcz7_2,hcz7_3,hfz7_0,hfz7_1,hfz7_2,hfz7_3⟩ := z4_ B2))
  refine bodyPost_ret (results_ct rfl _ _ g2 59 #[.int .i64 0, .int .i64 0, .int .i64 0, .string (⟨#[]⟩ : ByteArray)] (0, 0) _ rfl (by (iterate 4 apply pp_); exact pkx B2; all_goals rfl) Tryz.underlying59 rfl (by kernel_rfl)) rfl ?_
  exact fi_ bl_
 ·rw [if_neg c2] at H; have ⟨c2b0,c2b1⟩ := e0_ c2
  by_cases c8 : a0_0 = 0
  ·rw [if_pos c8] at H; have ⟨c8b0,c8b1⟩ := e1_ c8; clear c8; obtain ⟨⟨t103, t104, t105⟩, A9, H⟩ := bo_ H; dsimp only at H
   simp only [Option.some.injEq, Prod.mk.injEq] at H
   obtain ⟨rfl, rfl, rfl, rfl, rfl⟩ := H
   go_enter Tryz.func39, Tryz.ntmps39
   go_wp2_with (first | ((with_reducible refine gd_ 1 ?_); refine be_ (N:=1) (cs := #[.int .i64 a0_0, .int .i64 a0_1, .string a0_2]) (t:=26) ?_; intro g1 hg w10 hbox hb; have B1 := A_ (hbox); have GW101 := hs_ HB hg; have GE101 := hs_ HB hg; replace HB := bs_ HB hb; clear hb hbox hg) | ((with_reducible refine gd_ 2 ?_); refine be_ (N:=2) (cs := #[.int .i64 0, .int .i64 0, .int .i64 0, .string (⟨#[]⟩ : ByteArray)]) (t:=59) ?_; intro g2 hg w11 hbox hb; have B2 := A_ (hbox); have GW102 := hs_ HB hg; have GE102 := hs_ HB hg; have N12 := hl_ B1 hg; have N21 := hr_ B1 hg; replace B1 := bb_ B1 hb; replace HB := bs_ HB hb; clear hb hbox hg; have hnb12 := N12.out; have hnc12 := N21.out; have ⟨hcz13_0,hcz13_1,hcz13_2,hfz13_0,hfz13_1,hfz13_2⟩ := z3_ B1) | ((with_reducible refine gate_callee (f:=13) rfl ?_); refine gL_ (some 13) rfl rfl Tryz.func13 rfl #[.string (⟨#[]⟩ : ByteArray)] rfl ?_; (with_reducible refine (value_Str.calls (⟨#[]⟩ : ByteArray) t103 t104 t105 _ A9.out).mono ?_); rintro e w14 ⟨rfl, hb⟩; refine ⟨_, rfl, ?_⟩; replace B1 := bb_ B1 hb; replace B2 := bb_ B2 hb; replace HB := bs_ HB hb; have ⟨hcz15_0,hcz15_1,hcz15_2,hcz15_3,hfz15_0,hfz15_1,hfz15_2,hfz15_3⟩ := z4_ B2))
   refine bodyPost_ret (results_ct rfl _ _ g2 59 #[.int .i64 7, .int .i64 t103, .int .i64 t104, .string t105] (0, 0) _ rfl (by (iterate 4 apply pp_); exact pkx B2; all_goals rfl) Tryz.underlying59 rfl (by kernel_rfl)) rfl ?_
   exact fi_ bl_
  ·rw [if_neg c8] at H; have ⟨c8b0,c8b1⟩ := e0_ c8
   by_cases c16 : a0_0 = 2
   ·rw [if_pos c16] at H; have ⟨c16b0,c16b1⟩ := e1_ c16; clear c16; obtain ⟨⟨t106, t107⟩, A17, H⟩ := bo_ H; dsimp only at H
    by_cases c18 : 0 ≤ t107
    ·rw [if_pos c18] at H; have c18b0 := eq_true c18; have c18b1 := decide_eq_true c18; clear c18
     by_cases c19 : t107 ≤ (a0_2.size : Int)
     ·rw [if_pos c19] at H; have c19b0 := eq_true c19; have c19b1 := decide_eq_true c19; clear c19; obtain ⟨⟨t108, t109, t110⟩, A20, H⟩ := bo_ H; dsimp only at H
      simp only [Option.some.injEq, Prod.mk.injEq] at H
      obtain ⟨rfl, rfl, rfl, rfl, rfl⟩ := H
      go_enter Tryz.func39, Tryz.ntmps39
      go_wp2_with (first | ((with_reducible refine gd_ 1 ?_); refine be_ (N:=1) (cs := #[.int .i64 a0_0, .int .i64 a0_1, .string a0_2]) (t:=26) ?_; intro g1 hg w21 hbox hb; have B1 := A_ (hbox); have GW101 := hs_ HB hg; have GE101 := hs_ HB hg; replace HB := bs_ HB hb; clear hb hbox hg) | ((with_reducible refine gd_ 2 ?_); refine be_ (N:=2) (cs := #[.int .i64 0, .int .i64 0, .int .i64 0, .string (⟨#[]⟩ : ByteArray)]) (t:=59) ?_; intro g2 hg w22 hbox hb; have B2 := A_ (hbox); have GW102 := hs_ HB hg; have GE102 := hs_ HB hg; have N12 := hl_ B1 hg; have N21 := hr_ B1 hg; replace B1 := bb_ B1 hb; replace HB := bs_ HB hb; clear hb hbox hg; have hnb23 := N12.out; have hnc23 := N21.out; have ⟨hcz24_0,hcz24_1,hcz24_2,hfz24_0,hfz24_1,hfz24_2⟩ := z3_ B1) | ((with_reducible refine gate_callee (f:=56) rfl ?_); refine gL_ (some 20) rfl rfl Tryz.func56 rfl #[.string a0_2] rfl ?_; (with_reducible refine (crit_sign.calls a0_2 t106 t107 _ A17.out).mono ?_); rintro e w25 ⟨rfl, hb⟩; refine ⟨_, rfl, ?_⟩; replace B1 := bb_ B1 hb; replace B2 := bb_ B2 hb; replace HB := bs_ HB hb; have ⟨hcz26_0,hcz26_1,hcz26_2,hfz26_0,hfz26_1,hfz26_2⟩ := z3_ B1) | ((with_reducible refine gate_callee (f:=57) rfl ?_); refine gL_ (some 28) rfl rfl Tryz.func57 rfl #[.string (a0_2.extract (t107 : Int).toNat a0_2.size)] rfl ?_; (with_reducible refine (crit_read.calls k (a0_2.extract (t107 : Int).toNat a0_2.size) t108 t109 t110 _ A20.out).mono ?_); rintro e w27 ⟨rfl, hb⟩; refine ⟨_, rfl, ?_⟩; replace B1 := bb_ B1 hb; replace B2 := bb_ B2 hb; replace HB := bs_ HB hb; have ⟨hcz28_0,hcz28_1,hcz28_2,hcz28_3,hfz28_0,hfz28_1,hfz28_2,hfz28_3⟩ := z4_ B2))
      refine bodyPost_ret (results_ct rfl _ _ g2 59 #[.int .i64 t106, .int .i64 t108, .int .i64 t109, .string t110] (0, 0) _ rfl (by (iterate 4 apply pp_); exact pkx B2; all_goals rfl) Tryz.underlying59 rfl (by kernel_rfl)) rfl ?_
      exact fi_ bl_
     ·rw [if_neg c19] at H
      exact absurd H (by simp)
    ·rw [if_neg c18] at H
     exact absurd H (by simp)
   ·rw [if_neg c16] at H; have ⟨c16b0,c16b1⟩ := e0_ c16
    simp only [Option.some.injEq, Prod.mk.injEq] at H
    obtain ⟨rfl, rfl, rfl, rfl, rfl⟩ := H
    go_enter Tryz.func39, Tryz.ntmps39
    go_wp2_with (first | ((with_reducible refine gd_ 1 ?_); refine be_ (N:=1) (cs := #[.int .i64 a0_0, .int .i64 a0_1, .string a0_2]) (t:=26) ?_; intro g1 hg w29 hbox hb; have B1 := A_ (hbox); have GW101 := hs_ HB hg; have GE101 := hs_ HB hg; replace HB := bs_ HB hb; clear hb hbox hg) | ((with_reducible refine gd_ 2 ?_); refine be_ (N:=2) (cs := #[.int .i64 0, .int .i64 0, .int .i64 0, .string (⟨#[]⟩ : ByteArray)]) (t:=59) ?_; intro g2 hg w30 hbox hb; have B2 := A_ (hbox); have GW102 := hs_ HB hg; have GE102 := hs_ HB hg; have N12 := hl_ B1 hg; have N21 := hr_ B1 hg; replace B1 := bb_ B1 hb; replace HB := bs_ HB hb; clear hb hbox hg; have hnb31 := N12.out; have hnc31 := N21.out; have ⟨hcz32_0,hcz32_1,hcz32_2,hfz32_0,hfz32_1,hfz32_2⟩ := z3_ B1; have ⟨hcz33_0,hcz33_1,hcz33_2,hcz33_3,hfz33_0,hfz33_1,hfz33_2,hfz33_3⟩ := z4_ B2))
    refine bodyPost_ret (results_ct rfl _ _ g2 59 #[.int .i64 7, .int .i64 a0_0, .int .i64 a0_1, .string a0_2] (0, 0) _ rfl (by (iterate 4 apply pp_); exact pkx B2; all_goals rfl) Tryz.underlying59 rfl (by kernel_rfl)) rfl ?_
    exact fi_ bl_

def value_like.f (a0_0 : Int) (a0_1 : Int) (a0_2 : ByteArray) (a1_0 : Int) (a1_1 : Int) (a1_2 : ByteArray) : Option (Int × Int × ByteArray) := if a0_0 = 0 then (some (a1_0, a0_1, a0_2)) else (some (a0_0, a0_1, a0_2))
theorem value_like.calls (a0_0 : Int) (a0_1 : Int) (a0_2 : ByteArray) (a1_0 : Int) (a1_1 : Int) (a1_2 : ByteArray) (r1 : Int) (r2 : Int) (r3 : ByteArray) (w : World) (h : value_like.f a0_0 a0_1 a0_2 a1_0 a1_1 a1_2 = some (r1, r2, r3)) :
  Calls Tryz.prog 70 #[.agg #[.int .i64 a0_0, .int .i64 a0_1, .string a0_2], .agg #[.int .i64 a1_0, .int .i64 a1_1, .string a1_2]] w fun e w' => e = .returned (.agg #[.int .i64 r1, .int .i64 r2, .string r3]) ∧ Below w.heap.size w w' := by
 have hu26 := Tryz.underlying26; have HB := A_ (Below.refl w.heap.size w)
 have H : (if a0_0 = 0 then (some (a1_0, a0_1, a0_2)) else (some (a0_0, a0_1, a0_2))) = some (r1, r2, r3) := h
 clear h
 by_cases c3 : a0_0 = 0
 ·rw [if_pos c3] at H; have ⟨c3b0,c3b1⟩ := e1_ c3; clear c3
  simp only [Option.some.injEq, Prod.mk.injEq] at H
  obtain ⟨rfl, rfl, rfl⟩ := H
  go_enter Tryz.func70, Tryz.ntmps70
  go_wp2_with (first | ((with_reducible refine gd_ 2 ?_); refine be_ (N:=2) (cs := #[.int .i64 a0_0, .int .i64 a0_1, .string a0_2]) (t:=26) ?_; intro g1 hg w4 hbox hb; have B1 := A_ (hbox); have GW101 := hs_ HB hg; have GE101 := hs_ HB hg; replace HB := bs_ HB hb; clear hb hbox hg) | ((with_reducible refine gd_ 3 ?_); refine be_ (N:=3) (cs := #[.int .i64 a1_0, .int .i64 a1_1, .string a1_2]) (t:=26) ?_; intro g2 hg w5 hbox hb; have B2 := A_ (hbox); have GW102 := hs_ HB hg; have GE102 := hs_ HB hg; have N12 := hl_ B1 hg; have N21 := hr_ B1 hg; replace B1 := bb_ B1 hb; replace HB := bs_ HB hb; clear hb hbox hg) | ((with_reducible refine gd_ 4 ?_); refine be_ (N:=4) (cs := #[.int .i64 0, .int .i64 0, .string (⟨#[]⟩ : ByteArray)]) (t:=26) ?_; intro g3 hg w6 hbox hb; have B3 := A_ (hbox); have GW103 := hs_ HB hg; have GE103 := hs_ HB hg; have N13 := hl_ B1 hg; have N31 := hr_ B1 hg; have N23 := hl_ B2 hg; have N32 := hr_ B2 hg; replace B1 := bb_ B1 hb; replace B2 := bb_ B2 hb; replace HB := bs_ HB hb; clear hb hbox hg; have hnb7 := N12.out; have hnc7 := N21.out; have hnb8 := N13.out; have hnc8 := N31.out; have ⟨hcz9_0,hcz9_1,hcz9_2,hfz9_0,hfz9_1,hfz9_2⟩ := z3_ B1; have hnb10 := N23.out; have hnc10 := N32.out; have ⟨hcz11_0,hcz11_1,hcz11_2,hfz11_0,hfz11_1,hfz11_2⟩ := z3_ B2; have ⟨hcz12_0,hcz12_1,hcz12_2,hfz12_0,hfz12_1,hfz12_2⟩ := z3_ B3))
  refine bodyPost_ret (results_cell_row rfl _ _ g3 26 #[.int .i64 a1_0, .int .i64 a0_1, .string a0_2] (0, 0) _ rfl (by refine pp_ (cs := #[.int .i64 a1_0, .int .i64 a0_1, .string (⟨#[]⟩ : ByteArray)]) 2 ?_ rfl; refine pp_ (cs := #[.int .i64 a1_0, .int .i64 0, .string (⟨#[]⟩ : ByteArray)]) 1 ?_ rfl; refine pp_ (cs := #[.int .i64 0, .int .i64 0, .string (⟨#[]⟩ : ByteArray)]) 0 ?_ rfl; refine pf_ ?_ N31.out; exact pkx B3) Tryz.underlying26 rfl (by kernel_rfl)) rfl ?_
  exact fi_ bl_
 ·rw [if_neg c3] at H; have ⟨c3b0,c3b1⟩ := e0_ c3
  simp only [Option.some.injEq, Prod.mk.injEq] at H
  obtain ⟨rfl, rfl, rfl⟩ := H
  go_enter Tryz.func70, Tryz.ntmps70
  go_wp2_with (first | ((with_reducible refine gd_ 2 ?_); refine be_ (N:=2) (cs := #[.int .i64 a0_0, .int .i64 a0_1, .string a0_2]) (t:=26) ?_; intro g1 hg w13 hbox hb; have B1 := A_ (hbox); have GW101 := hs_ HB hg; have GE101 := hs_ HB hg; replace HB := bs_ HB hb; clear hb hbox hg) | ((with_reducible refine gd_ 3 ?_); refine be_ (N:=3) (cs := #[.int .i64 a1_0, .int .i64 a1_1, .string a1_2]) (t:=26) ?_; intro g2 hg w14 hbox hb; have B2 := A_ (hbox); have GW102 := hs_ HB hg; have GE102 := hs_ HB hg; have N12 := hl_ B1 hg; have N21 := hr_ B1 hg; replace B1 := bb_ B1 hb; replace HB := bs_ HB hb; clear hb hbox hg) | ((with_reducible refine gd_ 4 ?_); refine be_ (N:=4) (cs := #[.int .i64 0, .int .i64 0, .string (⟨#[]⟩ : ByteArray)]) (t:=26) ?_; intro g3 hg w15 hbox hb; have B3 := A_ (hbox); have GW103 := hs_ HB hg; have GE103 := hs_ HB hg; have N13 := hl_ B1 hg; have N31 := hr_ B1 hg; have N23 := hl_ B2 hg; have N32 := hr_ B2 hg; replace B1 := bb_ B1 hb; replace B2 := bb_ B2 hb; replace HB := bs_ HB hb; clear hb hbox hg; have hnb16 := N12.out; have hnc16 := N21.out; have hnb17 := N13.out; have hnc17 := N31.out; have ⟨hcz18_0,hcz18_1,hcz18_2,hfz18_0,hfz18_1,hfz18_2⟩ := z3_ B1; have hnb19 := N32.out; have hnc19 := N23.out; have ⟨hcz20_0,hcz20_1,hcz20_2,hfz20_0,hfz20_1,hfz20_2⟩ := z3_ B3))
  refine bodyPost_ret (results_cell_row rfl _ _ g3 26 #[.int .i64 a0_0, .int .i64 a0_1, .string a0_2] (0, 0) _ rfl (by (iterate 3 apply pp_); exact pkx B3; all_goals rfl) Tryz.underlying26 rfl (by kernel_rfl)) rfl ?_
  exact fi_ bl_

end Go.Proofs.YtejkoenlfcghbaaGreat.X
/- The contract of strings.Compare: out of the shelf's. -/
set_option linter.unusedVariables false
namespace Go.Proofs.YtejkoenlfcghbaaGreat.X
open Go.RowKit Go.Proofs.YtejkoenlfcghbaaGreatW.PrintWords Go.Proofs.YtejkoenlfcghbaaGreatW.PrintLast Go.Proofs.YtejkoenlfcghbaaGreatW.PrintMore
def strings_Compare.f (a0 a1 : ByteArray) : Option Int := some (Lib.compareBytes a0.data.toList a1.data.toList)
theorem strings_Compare.calls (a0 a1 : ByteArray) (r : Int) (w : World) (h : strings_Compare.f a0 a1 = some r) :
  Calls Tryz.prog 71 #[.string a0, .string a1] w fun e w' => e = .returned (.int .i64 r) ∧ Drawn0 w w' := by
 unfold strings_Compare.f at h
 obtain rfl := Option.some.inj h
 refine (Tryz.strings_Compare a0 a1 w).mono ?_
 rintro e w' ⟨rfl, rfl⟩
 exact ⟨rfl, Drawn0.refl _⟩
end Go.Proofs.YtejkoenlfcghbaaGreat.X
namespace Go.Proofs.YtejkoenlfcghbaaGreat.X
open Go.RowKit Go.Proofs.YtejkoenlfcghbaaGreatW.PrintWords Go.Proofs.YtejkoenlfcghbaaGreatW.PrintLast Go.Proofs.YtejkoenlfcghbaaGreatW.PrintMore
attribute [local go_sem] max2_int min2_int max_two min_two max_three min_three max_four min_four
set_option linter.unusedVariables false
set_option linter.unusedSimpArgs false
mutual
def value_Compare.j0 : Nat → Bool → Int → Int → ByteArray → Int → Int → ByteArray → Option (Int)
 | 0, _, _, _, _, _, _, _ => none
 | k + 1, x12, x102000, x102001, x102002, x103000, x103001, x103002 => if x12 = true then (some 0) else ((value_like.f x102000 x102001 x102002 x103000 x103001 x103002).bind fun bt103 => ((value_like.f x103000 x103001 x103002 x102000 x102001 x102002).bind fun bt106 => (value_Compare.j1 k bt103.1 bt103.2.1 bt103.2.2 bt106.1 bt106.2.1 bt106.2.2)))
def value_Compare.j1 : Nat → Int → Int → ByteArray → Int → Int → ByteArray → Option (Int)
 | 0, _, _, _, _, _, _ => none
 | k + 1, x102000, x102001, x102002, x103000, x103001, x103002 => if x102000 = x103000 then (if x102000 = 2 then ((strings_Compare.f x102002 x103002).bind fun t109 => (some t109)) else (if x102001 < x103001 then (some (-1)) else (if x102001 > x103001 then (some 1) else (some 0)))) else ((dec_Sign.f (wrap64 (x102000 - x103000))).bind fun t110 => (some t110))
end
def value_Compare.f (k : Nat) (a0_0 : Int) (a0_1 : Int) (a0_2 : ByteArray) (a1_0 : Int) (a1_1 : Int) (a1_2 : ByteArray) : Option (Int) := if a0_0 = 4 then (value_Compare.j0 k true a0_0 a0_1 a0_2 a1_0 a1_1 a1_2) else (value_Compare.j0 k (a1_0 == 4) a0_0 a0_1 a0_2 a1_0 a1_1 a1_2)
theorem value_Compare.mono_l : ∀ k, (∀ y0 y1 y2 y3 y4 y5 y6, LeO (value_Compare.j0 k y0 y1 y2 y3 y4 y5 y6) (value_Compare.j0 (k + 1) y0 y1 y2 y3 y4 y5 y6)) ∧ (∀ y0 y1 y2 y3 y4 y5, LeO (value_Compare.j1 k y0 y1 y2 y3 y4 y5) (value_Compare.j1 (k + 1) y0 y1 y2 y3 y4 y5))
 | 0 => ⟨fun _ _ _ _ _ _ _ r h => by simp [value_Compare.j0] at h, fun _ _ _ _ _ _ r h => by simp [value_Compare.j1] at h⟩
 | k + 1 => by
  obtain ⟨ih0, ih1⟩ := value_Compare.mono_l k
  refine ⟨?_, ?_⟩
  ·intro y0 y1 y2 y3 y4 y5 y6
   unfold value_Compare.j0
   exact mo_
  ·intro y0 y1 y2 y3 y4 y5
   unfold value_Compare.j1
   exact mo_
theorem value_Compare.mono : ∀ a0 a1 a2 a3 a4 a5 k, LeO (value_Compare.f k a0 a1 a2 a3 a4 a5) (value_Compare.f (k + 1) a0 a1 a2 a3 a4 a5) := by
 intro a0 a1 a2 a3 a4 a5 k; obtain ⟨ih0, ih1⟩ := value_Compare.mono_l k
 unfold value_Compare.f
 exact mo_
def value_Compare.T3 : Bool × List (List Nat × List Nat) := (true, [([], []), ([], []), ([0, 1], [0, 1]), ([], []), ([], []), ([3, 4, 2], [3, 4]), ([2, 5, 0, 1, 2, 4], [2]), ([5, 6, 0, 1, 2, 3, 4, 5, 6], [5])])
def value_Compare.B3 : List Nat := [0, 0, 3, 0, 0, 31, 63, 127]
theorem value_Compare.tab3 : rtab .any (opsOf Tryz.f54 3) = value_Compare.T3 := by kernel_rfl
theorem value_Compare.bits3 : waitsOk value_Compare.T3.2 value_Compare.B3 = true := by kernel_rfl
theorem value_Compare.calls (k : Nat) (a0_0 : Int) (a0_1 : Int) (a0_2 : ByteArray) (a1_0 : Int) (a1_1 : Int) (a1_2 : ByteArray) (r : Int) (w : World) (h : value_Compare.f k a0_0 a0_1 a0_2 a1_0 a1_1 a1_2 = some r) :
  Calls Tryz.prog 54 #[.agg #[.int .i64 a0_0, .int .i64 a0_1, .string a0_2], .agg #[.int .i64 a1_0, .int .i64 a1_1, .string a1_2]] w fun e w' => e = .returned (.int .i64 r) ∧ Below w.heap.size w w' := by
 have hu26 := Tryz.underlying26; have HB := A_ (Below.refl w.heap.size w)
 have H : (if a0_0 = 4 then (value_Compare.j0 k true a0_0 a0_1 a0_2 a1_0 a1_1 a1_2) else (value_Compare.j0 k (a1_0 == 4) a0_0 a0_1 a0_2 a1_0 a1_1 a1_2)) = some r := h
 clear h; have HC3 := A_ H; clear H
 go_enter Tryz.func54, Tryz.ntmps54
 go_upto_region 1 with (first | ((with_reducible refine gd_ 2 ?_); refine be_ (N:=2) (cs := #[.int .i64 a0_0, .int .i64 a0_1, .string a0_2]) (t:=26) ?_; intro g1 hg w4 hbox hb; have B1 := A_ (hbox); have GW101 := hs_ HB hg; have GE101 := hs_ HB hg; replace HB := bs_ HB hb; clear hb hbox hg) | ((with_reducible refine gd_ 3 ?_); refine be_ (N:=3) (cs := #[.int .i64 a1_0, .int .i64 a1_1, .string a1_2]) (t:=26) ?_; intro g2 hg w5 hbox hb; have B2 := A_ (hbox); have GW102 := hs_ HB hg; have GE102 := hs_ HB hg; have N12 := hl_ B1 hg; have N21 := hr_ B1 hg; replace B1 := bb_ B1 hb; replace HB := bs_ HB hb; clear hb hbox hg))
 (try simp only [q_])
 go_cut [12] (fun v12 wc => ∃ (kq : Nat) (x12_2 : Bool), v12 = .bool x12_2 ∧ Aside0 (value_Compare.j0 kq x12_2 a0_0 a0_1 a0_2 a1_0 a1_1 a1_2 = some r) ∧ Aside0 (kq ≤ k) ∧ Aside0 (wc.heap[g1]? = some (.cells #[.int .i64 a0_0, .int .i64 a0_1, .string a0_2] 26 (0, 0))) ∧ Aside0 (wc.heap[g2]? = some (.cells #[.int .i64 a1_0, .int .i64 a1_1, .string a1_2] 26 (0, 0))) ∧ Aside0 (Below w.heap.size w wc))
 case first =>
  have H := HC3.out; clear HC3
  by_cases c6 : a0_0 = 4
  ·rw [if_pos c6] at H; have ⟨c6b0,c6b1⟩ := e1_ c6; clear c6; (first | rw [c6b0] | (simp only [i64_w, i32_w]; rw [c6b0]) | skip)
   have H' := A_ H
   clear H; have hnb7 := N12.out; have hnc7 := N21.out
   have ⟨hcz8_0,hcz8_1,hcz8_2,hfz8_0,hfz8_1,hfz8_2⟩ := z3_ B1
   go_wp2
   go_meet
   case rel => exact ⟨_, (true), sq_, H', le_, ⟨pkx B1⟩, ⟨pkx B2⟩, ⟨pbx HB⟩⟩
  ·rw [if_neg c6] at H; have ⟨c6b0,c6b1⟩ := e0_ c6; (first | rw [c6b0] | (simp only [i64_w, i32_w]; rw [c6b0]) | skip)
   have H' := A_ H
   clear H; have hnb9 := N12.out; have hnc9 := N21.out
   have ⟨hcz10_0,hcz10_1,hcz10_2,hfz10_0,hfz10_1,hfz10_2⟩ := z3_ B1
   have ⟨hcz11_0,hcz11_1,hcz11_2,hfz11_0,hfz11_1,hfz11_2⟩ := z3_ B2
   go_wp2
   go_meet
   case rel => exact ⟨_, ((a1_0 == 4)), sq_, H', le_, ⟨pkx B1⟩, ⟨pkx B2⟩, ⟨pbx HB⟩⟩
 case rest =>
  clear HC3; obtain ⟨kq, x12_2, rfl, HA, HJ2, B1, B2, HB⟩ := hcut
  cases kq with
  | zero => exact absurd HA.out (by simp [value_Compare.j0])
  | succ kj2 =>
   have H := HA.out; clear HA
   simp only [value_Compare.j0] at H
   replace H := ib_ H; rcases H with ⟨rfl,H⟩|⟨rfl,H⟩
   ·obtain rfl := Option.some.inj H
    go_wp2
    go_ret
    exact fi_ (pbx HB)
   ·have HC13 := A_ H; clear H
    go_upto_region 3 with (fail)
    go_cut [] (fun wc => ∃ (kq : Nat) (x102000_12 : Int) (x102001_12 : Int) (x102002_12 : ByteArray) (x103000_12 : Int) (x103001_12 : Int) (x103002_12 : ByteArray), Aside0 (value_Compare.j1 kq x102000_12 x102001_12 x102002_12 x103000_12 x103001_12 x103002_12 = some r) ∧ Aside0 (kq ≤ kj2) ∧ Aside0 (wc.heap[g1]? = some (.cells #[.int .i64 x102000_12, .int .i64 x102001_12, .string x102002_12] 26 (0, 0))) ∧ Aside0 (wc.heap[g2]? = some (.cells #[.int .i64 x103000_12, .int .i64 x103001_12, .string x103002_12] 26 (0, 0))) ∧ Aside0 (Below w.heap.size w wc))
    case first =>
     have H := HC13.out; clear HC13; obtain ⟨⟨t103, t104, t105⟩, A14, H⟩ := bo_ H; dsimp only at H; obtain ⟨⟨t106, t107, t108⟩, A15, H⟩ := bo_ H; dsimp only at H
     have H' := A_ H
     clear H
     try go_wp2
     (try (rw [drewN_self wc]; generalize hq_ : World.drewN wc _ = wc; have n0_ : Aside0 (wc.heap[g1]? = some (.cells #[.int .i64 a0_0, .int .i64 a0_1, .string a0_2] 26 (0, 0))) := ⟨by rw [← hq_]; exact (pkx B1)⟩; have n1_ : Aside0 (wc.heap[g2]? = some (.cells #[.int .i64 a1_0, .int .i64 a1_1, .string a1_2] 26 (0, 0))) := ⟨by rw [← hq_]; exact (pkx B2)⟩; have n2_ : Aside0 (Below w.heap.size w wc) := ⟨by rw [← hq_]; exact (pbx HB)⟩; clear B1 B2 HB hq_; have B1 := n0_; have B2 := n1_; have HB := n2_; clear n0_ n1_ n2_))
     replace B1 := A_ (blk_drew B1.out); replace B2 := A_ (blk_drew B2.out); replace HB := A_ (below_drew1 HB.out)
     refine start_ (n:=8) (S := fun w' => w'.cell? ⟨g1, 0, none⟩ = some (.int .i64 a0_0) ∧ w'.cell? ⟨g1, 1, none⟩ = some (.int .i64 a0_1) ∧ w'.cell? ⟨g1, 2, none⟩ = some (.string a0_2) ∧ w'.cell? ⟨g2, 0, none⟩ = some (.int .i64 a1_0) ∧ w'.cell? ⟨g2, 1, none⟩ = some (.int .i64 a1_1) ∧ w'.cell? ⟨g2, 2, none⟩ = some (.string a1_2)) (ds := [6, 7]) #[F,F,F,F,F,F,F,F] (by kernel_rfl) rfl rfl ⟨bc_ B1 0 rfl, bc_ B1 1 rfl, bc_ B1 2 rfl, bc_ B2 0 rfl, bc_ B2 1 rfl, bc_ B2 2 rfl⟩ (fun hHeld => ?_); refine with_tabW value_Compare.tab3 value_Compare.bits3 (fun HT_ HW_ => ?_)
     generalize wc.drew = w16 at B1 B2 HB hHeld ⊢; refine take_ (i:=0) (N:=some 13) (v:=?_) (a':=?_) ⟨m_ 8 1⟩ rfl rfl (tw_ HT_ HW_) (fun _ _ _ h=>h) (Or.inl ⟨rfl, ?_⟩) hHeld ?_ ?_; rotate_left
     ·rintro w' ⟨s0, s1, s2, s3, s4, s5⟩; go_simp; with_reducible rfl
     rotate_left
     ·simp only [q_, i64_w, i32_w]; rfl
     refine take_ (i:=1) (N:=some 14) (v:=?_) (a':=?_) ⟨m_ 8 3⟩ rfl rfl (tw_ HT_ HW_) (fun _ _ _ h=>h) (Or.inl ⟨rfl, ?_⟩) hHeld ?_ ?_; rotate_left
     ·rintro w' ⟨s0, s1, s2, s3, s4, s5⟩; go_simp; with_reducible rfl
     rotate_left
     ·simp only [q_, i64_w, i32_w]; rfl
     refine take_ (i:=3) (N:=some 16) (v:=?_) (a':=?_) ⟨m_ 8 11⟩ rfl rfl (tw_ HT_ HW_) (fun _ _ _ h=>h) (Or.inl ⟨rfl, ?_⟩) hHeld ?_ ?_; rotate_left
     ·rintro w' ⟨s0, s1, s2, s3, s4, s5⟩; go_simp; with_reducible rfl
     rotate_left
     ·simp only [q_, i64_w, i32_w]; rfl
     refine take_ (i:=4) (N:=some 17) (v:=?_) (a':=?_) ⟨m_ 8 27⟩ rfl rfl (tw_ HT_ HW_) (fun _ _ _ h=>h) (Or.inl ⟨rfl, ?_⟩) hHeld ?_ ?_; rotate_left
     ·rintro w' ⟨s0, s1, s2, s3, s4, s5⟩; go_simp; with_reducible rfl
     rotate_left
     ·simp only [q_, i64_w, i32_w]; rfl
     refine one_ (i:=2) (N:=some 15) ⟨m_ 8 31⟩ rfl rfl (oo_ HT_) (by decide) (fun K hK => ?_); refine goes_ Tryz.func70 (by kernel_rfl) rfl #[.agg #[.int .i64 a0_0, .int .i64 a0_1, .string a0_2], .agg #[.int .i64 a1_0, .int .i64 a1_1, .string a1_2]] (by rfl) rfl rfl ha_ ?_; with_reducible refine (value_like.calls a0_0 a0_1 a0_2 a1_0 a1_1 a1_2 t103 t104 t105 _ A14.out).mono ?_; rintro e w17 ⟨rfl, hb⟩; refine ⟨_, rfl, ?_⟩
     replace B1 := bb_ B1 hb; replace B2 := bb_ B2 hb; replace HB := bs_ HB hb; (try clear hb); refine hK.out _ _ ⟨bc_ B1 0 rfl, bc_ B1 1 rfl, bc_ B1 2 rfl, bc_ B2 0 rfl, bc_ B2 1 rfl, bc_ B2 2 rfl⟩ (fun hHeld => ?_); clear hK K; refine norm_ (a':=?_) ?_ ?_; rotate_left
     ·show Act.put _ (some 15) _ = _; simp only [q_, i64_w, i32_w]; rfl
     refine one_ (i:=5) (N:=some 18) ⟨m_ 8 63⟩ rfl rfl (oo_ HT_) (by decide) (fun K hK => ?_); refine goes_ Tryz.func70 (by kernel_rfl) rfl #[.agg #[.int .i64 a1_0, .int .i64 a1_1, .string a1_2], .agg #[.int .i64 a0_0, .int .i64 a0_1, .string a0_2]] (by rfl) rfl rfl ha_ ?_; with_reducible refine (value_like.calls a1_0 a1_1 a1_2 a0_0 a0_1 a0_2 t106 t107 t108 _ A15.out).mono ?_; rintro e w18 ⟨rfl, hb⟩; refine ⟨_, rfl, ?_⟩
     replace B1 := bb_ B1 hb; replace B2 := bb_ B2 hb; replace HB := bs_ HB hb; (try clear hb); refine hK.out _ _ ⟨bc_ B1 0 rfl, bc_ B1 1 rfl, bc_ B1 2 rfl, bc_ B2 0 rfl, bc_ B2 1 rfl, bc_ B2 2 rfl⟩ (fun hHeld => ?_); clear hK K; refine norm_ (a':=?_) ?_ ?_; rotate_left
     ·show Act.put _ (some 18) _ = _; simp only [q_, i64_w, i32_w]; rfl
     refine last_ (i:=6) (N:=none) ⟨m_ 8 127⟩ rfl rfl (oo_ HT_) (by decide) (fun K hK => ?_)
     have hs19 : w18.cell? ⟨g1, 0, none⟩ = some (.int .i64 a0_0) := bc_ B1 0 rfl
     have hfs19 := blk_frozen B1.out 0; have hns19_1 := N21.out; have hms19_1 := N12.out
     have hs20 : w18.cell? ⟨g1, 1, none⟩ = some (.int .i64 a0_1) := bc_ B1 1 rfl
     have hfs20 := blk_frozen B1.out 1; have hns20_1 := N21.out; have hms20_1 := N12.out
     have hs21 : w18.cell? ⟨g1, 2, none⟩ = some (.string a0_2) := bc_ B1 2 rfl
     have hfs21 := blk_frozen B1.out 2; have hns21_1 := N21.out; have hms21_1 := N12.out
     refine skip_ (w1 := ?_) (by rfl) rfl ?_ ?_
     rotate_left
     ·go_simp; rfl
     refine hK.out _ _ ?_; clear hK K
     refine last_ (i:=7) (N:=none) ⟨m_ 8 255⟩ rfl rfl (oo_ HT_) (by decide) (fun K hK => ?_)
     have hs22 : w18.cell? ⟨g2, 0, none⟩ = some (.int .i64 a1_0) := bc_ B2 0 rfl
     have hfs22 := blk_frozen B2.out 0; have hns22_0 := N12.out; have hms22_0 := N21.out
     have hs23 : w18.cell? ⟨g2, 1, none⟩ = some (.int .i64 a1_1) := bc_ B2 1 rfl
     have hfs23 := blk_frozen B2.out 1; have hns23_0 := N12.out; have hms23_0 := N21.out
     have hs24 : w18.cell? ⟨g2, 2, none⟩ = some (.string a1_2) := bc_ B2 2 rfl
     have hfs24 := blk_frozen B2.out 2; have hns24_0 := N12.out; have hms24_0 := N21.out
     refine skip_ (w1 := ?_) (by rfl) rfl ?_ ?_
     rotate_left
     ·go_simp; rfl
     refine hK.out _ _ ?_; clear hK K
     refine done_ (done_of HT_.out (by kernel_rfl)) ?_
     try go_wp2
     go_meet
     case rel => exact ⟨_, (t103), (t104), (t105), (t106), (t107), (t108), H', ⟨by have := HJ2.out; first | omega | exact Nat.le_refl _⟩, ⟨by (iterate 3 refine pf_ ?_ N12.out); refine pp_ (cs := #[.int .i64 t103, .int .i64 t104, .string a0_2]) 2 ?_ rfl; refine blk_put (cs := #[.int .i64 t103, .int .i64 a0_1, .string a0_2]) ?_ 1 _ rfl; refine blk_put (cs := #[.int .i64 a0_0, .int .i64 a0_1, .string a0_2]) ?_ 0 _ rfl; exact pkx B1⟩, ⟨by refine pp_ (cs := #[.int .i64 t106, .int .i64 t107, .string a1_2]) 2 ?_ rfl; refine blk_put (cs := #[.int .i64 t106, .int .i64 a1_1, .string a1_2]) ?_ 1 _ rfl; refine blk_put (cs := #[.int .i64 a1_0, .int .i64 a1_1, .string a1_2]) ?_ 0 _ rfl; (iterate 3 refine pf_ ?_ N21.out); exact pkx B2⟩, ⟨bl_⟩⟩
    case rest =>
     clear HC13; (try clear c12); obtain ⟨kq, x102000_12, x102001_12, x102002_12, x103000_12, x103001_12, x103002_12, HA, HJ12, B1, B2, HB⟩ := hcut
     cases kq with
     | zero => exact absurd HA.out (by simp [value_Compare.j1])
     | succ kj12 =>
      have H := HA.out; clear HA
      simp only [value_Compare.j1] at H
      by_cases c25 : x102000_12 = x103000_12
      ·rw [if_pos c25] at H; have ⟨c25b0,c25b1⟩ := e1_ c25; clear c25
       by_cases c26 : x102000_12 = 2
       ·rw [if_pos c26] at H; have ⟨c26b0,c26b1⟩ := e1_ c26; clear c26; obtain ⟨t109, A27, H⟩ := bo_ H; obtain rfl := Option.some.inj H; have hnb28 := N12.out; have hnc28 := N21.out
        have ⟨hcz29_0,hcz29_1,hcz29_2,hfz29_0,hfz29_1,hfz29_2⟩ := z3_ B1
        have ⟨hcz30_0,hcz30_1,hcz30_2,hfz30_0,hfz30_1,hfz30_2⟩ := z3_ B2
        go_wp2_with (first | ((with_reducible refine gate_callee (f:=71) rfl ?_); refine gL_ (some 39) rfl rfl Tryz.func71 rfl #[.string x102002_12, .string x103002_12] rfl ?_; (with_reducible refine (strings_Compare.calls x102002_12 x103002_12 t109 _ A27.out).mono ?_); rintro e w' ⟨rfl, ⟨nd, rfl⟩⟩; refine ⟨_, rfl, ?_⟩))
        go_ret
        exact fi_ (pbx HB)
       ·rw [if_neg c26] at H; have ⟨c26b0,c26b1⟩ := e0_ c26
        by_cases c31 : x102001_12 < x103001_12
        ·rw [if_pos c31] at H; have c31b0 := decide_eq_true c31; clear c31; obtain rfl := Option.some.inj H; have hnb32 := N12.out; have hnc32 := N21.out
         have ⟨hcz33_0,hcz33_1,hcz33_2,hfz33_0,hfz33_1,hfz33_2⟩ := z3_ B1
         have ⟨hcz34_0,hcz34_1,hcz34_2,hfz34_0,hfz34_1,hfz34_2⟩ := z3_ B2
         go_wp2
         go_ret
         exact fi_ (pbx HB)
        ·rw [if_neg c31] at H; have c31b0 := decide_eq_false c31; clear c31
         by_cases c35 : x102001_12 > x103001_12
         ·rw [if_pos c35] at H; have c35b0 := decide_eq_true c35; clear c35; obtain rfl := Option.some.inj H; have hnb36 := N12.out; have hnc36 := N21.out
          have ⟨hcz37_0,hcz37_1,hcz37_2,hfz37_0,hfz37_1,hfz37_2⟩ := z3_ B1
          have ⟨hcz38_0,hcz38_1,hcz38_2,hfz38_0,hfz38_1,hfz38_2⟩ := z3_ B2
          go_wp2
          go_ret
          exact fi_ (pbx HB)
         ·rw [if_neg c35] at H; have c35b0 := decide_eq_false c35; clear c35; obtain rfl := Option.some.inj H; have hnb39 := N12.out; have hnc39 := N21.out
          have ⟨hcz40_0,hcz40_1,hcz40_2,hfz40_0,hfz40_1,hfz40_2⟩ := z3_ B1
          have ⟨hcz41_0,hcz41_1,hcz41_2,hfz41_0,hfz41_1,hfz41_2⟩ := z3_ B2
          go_wp2
          go_ret
          exact fi_ (pbx HB)
      ·rw [if_neg c25] at H; have ⟨c25b0,c25b1⟩ := e0_ c25; obtain ⟨t110, A42, H⟩ := bo_ H; obtain rfl := Option.some.inj H; have hnb43 := N12.out; have hnc43 := N21.out
       have ⟨hcz44_0,hcz44_1,hcz44_2,hfz44_0,hfz44_1,hfz44_2⟩ := z3_ B1
       have ⟨hcz45_0,hcz45_1,hcz45_2,hfz45_0,hfz45_1,hfz45_2⟩ := z3_ B2
       go_wp2_with (first | ((with_reducible refine gate_callee (f:=62) rfl ?_); refine gL_ (some 30) rfl rfl Tryz.func62 rfl #[.int .i64 (wrap64 (x102000_12 - x103000_12))] rfl ?_; (with_reducible refine (dec_Sign.calls (wrap64 (x102000_12 - x103000_12)) t110 _ A42.out).mono ?_); rintro e w' ⟨rfl, ⟨nd, rfl⟩⟩; refine ⟨_, rfl, ?_⟩))
       go_ret
       exact fi_ (pbx HB)

def crit_fits.l0 : Nat → ByteArray → ByteArray → Int → Int → Option (Bool)
 | 0, _, _, _, _ => none
 | k + 1, x0, x1, x12, x13 => if x13 < x12 then (if 0 ≤ x13 then (if x13 < (x0.size : Int) then (if (bt x0 x13) = 63 then (crit_fits.l0 k x0 x1 x12 (wrap64 (x13 + 1))) else (if x13 < (x1.size : Int) then (if (bt x0 x13) = (bt x1 x13) then (crit_fits.l0 k x0 x1 x12 (wrap64 (x13 + 1))) else (some false)) else (none))) else (none)) else (none)) else (some true)
def crit_fits.f (k : Nat) (a0 : ByteArray) (a1 : ByteArray) : Option (Bool) := if (a1.size : Int) < (a0.size : Int) then (some false) else (crit_fits.l0 k a0 a1 (a0.size : Int) 0)
theorem crit_fits.mono_l : ∀ k, (∀ y0 y1 y2 y3, LeO (crit_fits.l0 k y0 y1 y2 y3) (crit_fits.l0 (k + 1) y0 y1 y2 y3))
 | 0 => fun _ _ _ _ r h => by simp [crit_fits.l0] at h
 | k + 1 => by
  have ih0 := crit_fits.mono_l k
  ·intro y0 y1 y2 y3
   unfold crit_fits.l0
   exact mo_
theorem crit_fits.mono : ∀ a0 a1 k, LeO (crit_fits.f k a0 a1) (crit_fits.f (k + 1) a0 a1) := by
 intro a0 a1 k; have ih0 := crit_fits.mono_l k
 unfold crit_fits.f
 exact mo_
theorem crit_fits.calls (k : Nat) (a0 : ByteArray) (a1 : ByteArray) (r : Bool) (w : World) (h : crit_fits.f k a0 a1 = some r) :
  Calls Tryz.prog 75 #[.string a0, .string a1] w fun e w' => e = .returned (.bool r) ∧ Drawn0 w w' := by
 have H : (if (a1.size : Int) < (a0.size : Int) then (some false) else (crit_fits.l0 k a0 a1 (a0.size : Int) 0)) = some r := h
 clear h
 by_cases c3 : (a1.size : Int) < (a0.size : Int)
 ·rw [if_pos c3] at H; have c3b0 := decide_eq_true c3; have c3b1 : decide (a1.size < a0.size) = true := decide_eq_true (Int.ofNat_lt.mp c3); clear c3; obtain rfl := Option.some.inj H
  go_enter Tryz.func75, Tryz.ntmps75
  go_wp2
  repeat (go_quiet (fail); try go_wp2)
  go_ret
  exact ⟨by first | rfl | (simp; done) | (simp [*]; done), dr_⟩
 ·rw [if_neg c3] at H; have c3b0 := decide_eq_false c3; have c3b1 : decide (a1.size < a0.size) = false := decide_eq_false (fun h => c3 (Int.ofNat_lt.mpr h)); clear c3
  have H' := A_ H
  clear H
  go_enter Tryz.func75, Tryz.ntmps75
  go_wp2
  repeat (go_quiet (fail); try go_wp2)
  go_loopg [13] k (fun kq v13 w' => ∃ (x13_1 : Int), v13 = .int .i64 x13_1 ∧ Aside0 (crit_fits.l0 kq a0 a1 (a0.size : Int) x13_1 = some r) ∧ Aside0 (kq ≤ k) ∧ Drawn0 w w')
  case atStart => exact ⟨(0), sq_, H', ⟨Nat.le_refl _⟩, dr_⟩
  case round =>
   clear H'; (try clear c3); (try clear c3b0); (try clear c3b1); obtain ⟨x13_1, rfl, HA, HK1, ⟨m1, rfl⟩⟩ := hrel
   cases gk with
   | zero => exact absurd HA.out (by simp [crit_fits.l0])
   | succ k1 =>
    have H := HA.out; clear HA
    simp only [crit_fits.l0] at H
    by_cases c4 : x13_1 < (a0.size : Int)
    ·rw [if_pos c4] at H; have c4b0 := decide_eq_true c4; clear c4
     by_cases c5 : 0 ≤ x13_1
     ·rw [if_pos c5] at H; have c5b0 := decide_eq_true c5; clear c5
      by_cases c6 : x13_1 < (a0.size : Int)
      ·rw [if_pos c6] at H; have c6b0 := decide_eq_true c6; clear c6
       by_cases c8 : (bt a0 x13_1) = 63
       ·rw [if_pos c8] at H; have ⟨c8b0,c8b1⟩ := e1_ c8; clear c8
        have H' := A_ H
        clear H
        have p7 : 0 ≤ (x13_1 : Int) := of_decide_eq_true as_
        have q7 : x13_1 < (a0.size : Int) := of_decide_eq_true as_
        have hx7 := bt_at a0 x13_1; replace p7 := eq_true p7; replace q7 := eq_true q7
        go_wp2
        repeat (go_quiet (fail); try go_wp2)
        go_roundg k1
        case measure => have := HK1.out; omega
        case rel => exact ⟨(wrap64 (x13_1 + 1)), sq_, H', ⟨by have := HK1.out; omega⟩, dr_⟩
       ·rw [if_neg c8] at H; have ⟨c8b0,c8b1⟩ := e0_ c8
        by_cases c10 : x13_1 < (a1.size : Int)
        ·rw [if_pos c10] at H; have c10b0 := decide_eq_true c10; clear c10
         by_cases c12 : (bt a0 x13_1) = (bt a1 x13_1)
         ·rw [if_pos c12] at H; have ⟨c12b0,c12b1⟩ := e1_ c12; clear c12
          have H' := A_ H
          clear H
          have p7 : 0 ≤ (x13_1 : Int) := of_decide_eq_true as_
          have q7 : x13_1 < (a0.size : Int) := of_decide_eq_true as_
          have hx7 := bt_at a0 x13_1; replace p7 := eq_true p7; replace q7 := eq_true q7
          have p9 : 0 ≤ (x13_1 : Int) := of_decide_eq_true as_
          have q9 : x13_1 < (a0.size : Int) := of_decide_eq_true as_
          have hx9 := bt_at a0 x13_1; replace p9 := eq_true p9; replace q9 := eq_true q9
          have p11 : 0 ≤ (x13_1 : Int) := of_decide_eq_true as_
          have q11 : x13_1 < (a1.size : Int) := of_decide_eq_true as_
          have hx11 := bt_at a1 x13_1; replace p11 := eq_true p11; replace q11 := eq_true q11
          go_wp2
          repeat (go_quiet (fail); try go_wp2)
          go_roundg k1
          case measure => have := HK1.out; omega
          case rel => exact ⟨(wrap64 (x13_1 + 1)), sq_, H', ⟨by have := HK1.out; omega⟩, dr_⟩
         ·rw [if_neg c12] at H; have ⟨c12b0,c12b1⟩ := e0_ c12; obtain rfl := Option.some.inj H
          have p7 : 0 ≤ (x13_1 : Int) := of_decide_eq_true as_
          have q7 : x13_1 < (a0.size : Int) := of_decide_eq_true as_
          have hx7 := bt_at a0 x13_1; replace p7 := eq_true p7; replace q7 := eq_true q7
          have p9 : 0 ≤ (x13_1 : Int) := of_decide_eq_true as_
          have q9 : x13_1 < (a0.size : Int) := of_decide_eq_true as_
          have hx9 := bt_at a0 x13_1; replace p9 := eq_true p9; replace q9 := eq_true q9
          have p11 : 0 ≤ (x13_1 : Int) := of_decide_eq_true as_
          have q11 : x13_1 < (a1.size : Int) := of_decide_eq_true as_
          have hx11 := bt_at a1 x13_1; replace p11 := eq_true p11; replace q11 := eq_true q11
          go_wp2
          repeat (go_quiet (fail); try go_wp2)
          go_ret
          exact ⟨by first | rfl | (simp; done) | (simp [*]; done), dr_⟩
        ·rw [if_neg c10] at H
         exact absurd H (by simp)
      ·rw [if_neg c6] at H
       exact absurd H (by simp)
     ·rw [if_neg c5] at H
      exact absurd H (by simp)
    ·rw [if_neg c4] at H; have c4b0 := decide_eq_false c4; clear c4; obtain rfl := Option.some.inj H
     go_wp2
     repeat (go_quiet (fail); try go_wp2)
     go_ret
     exact ⟨by first | rfl | (simp; done) | (simp [*]; done), dr_⟩

mutual
def crit_Like.j0 : Nat → ByteArray → ByteArray → ByteArray → Bool → Bool → Option (Bool)
 | 0, _, _, _, _, _ => none
 | k + 1, x1, x5, x6, x7, x28 => if x28 = true then (some false) else (if 0 ≤ (x5.size : Int) then (if (x5.size : Int) ≤ (x1.size : Int) then (crit_Like.l0 k (x1.extract x5.size x1.size) x6 x7) else (none)) else (none))
def crit_Like.l0 : Nat → ByteArray → ByteArray → Bool → Option (Bool)
 | 0, _, _, _ => none
 | k + 1, x1, x6, x7 => if x7 = true then ((strings_Cut.f x6 (⟨#[42]⟩ : ByteArray)).bind fun bt105 => (if bt105.2.2 = true then (crit_Like.l1 k x1 bt105.1 bt105.2.1 bt105.2.2) else (if (x1.size : Int) ≥ (bt105.1.size : Int) then (if 0 ≤ (wrap64 ((x1.size : Int) - (bt105.1.size : Int))) then (if (wrap64 ((x1.size : Int) - (bt105.1.size : Int))) ≤ (x1.size : Int) then ((crit_fits.f k bt105.1 (x1.extract ((wrap64 ((x1.size : Int) - (bt105.1.size : Int))) : Int).toNat x1.size)).bind fun t108 => (some t108)) else (none)) else (none)) else (some false)))) else (some true)
def crit_Like.l1 : Nat → ByteArray → ByteArray → ByteArray → Bool → Option (Bool)
 | 0, _, _, _, _ => none
 | k + 1, x1, x5, x6, x7 => (crit_fits.f k x5 x1).bind fun t109 => (if t109 = true then (if 0 ≤ (x5.size : Int) then (if (x5.size : Int) ≤ (x1.size : Int) then (crit_Like.l0 k (x1.extract x5.size x1.size) x6 x7) else (none)) else (none)) else (if x1.toList = ([] : List UInt8) then (some false) else (if 1 ≤ (x1.size : Int) then (crit_Like.l1 k (x1.extract 1 x1.size) x5 x6 x7) else (none))))
end
def crit_Like.f (k : Nat) (a0 : ByteArray) (a1 : ByteArray) : Option (Bool) := (strings_Cut.f a0 (⟨#[42]⟩ : ByteArray)).bind fun bt101 => ((crit_fits.f k bt101.1 a1).bind fun t104 => (if t104 = true then (if bt101.2.2 = true then (crit_Like.j0 k a1 bt101.1 bt101.2.1 bt101.2.2 false) else (crit_Like.j0 k a1 bt101.1 bt101.2.1 bt101.2.2 ((bt101.1.size : Int) != (a1.size : Int)))) else (crit_Like.j0 k a1 bt101.1 bt101.2.1 bt101.2.2 true)))
theorem crit_Like.mono_l : ∀ k, (∀ y0 y1 y2 y3 y4, LeO (crit_Like.j0 k y0 y1 y2 y3 y4) (crit_Like.j0 (k + 1) y0 y1 y2 y3 y4)) ∧ (∀ y0 y1 y2, LeO (crit_Like.l0 k y0 y1 y2) (crit_Like.l0 (k + 1) y0 y1 y2)) ∧ (∀ y0 y1 y2 y3, LeO (crit_Like.l1 k y0 y1 y2 y3) (crit_Like.l1 (k + 1) y0 y1 y2 y3))
 | 0 => ⟨fun _ _ _ _ _ r h => by simp [crit_Like.j0] at h, fun _ _ _ r h => by simp [crit_Like.l0] at h, fun _ _ _ _ r h => by simp [crit_Like.l1] at h⟩
 | k + 1 => by
  obtain ⟨ih0, ih1, ih2⟩ := crit_Like.mono_l k
  refine ⟨?_, ?_, ?_⟩
  ·intro y0 y1 y2 y3 y4
   unfold crit_Like.j0
   have m0 := @crit_fits.mono; exact mo_
  ·intro y0 y1 y2
   unfold crit_Like.l0
   have m0 := @crit_fits.mono; exact mo_
  ·intro y0 y1 y2 y3
   unfold crit_Like.l1
   have m0 := @crit_fits.mono; exact mo_
theorem crit_Like.mono : ∀ a0 a1 k, LeO (crit_Like.f k a0 a1) (crit_Like.f (k + 1) a0 a1) := by
 intro a0 a1 k; obtain ⟨ih0, ih1, ih2⟩ := crit_Like.mono_l k
 unfold crit_Like.f
 have m0 := @crit_fits.mono; exact mo_
theorem crit_Like.calls (k : Nat) (a0 : ByteArray) (a1 : ByteArray) (r : Bool) (w : World) (h : crit_Like.f k a0 a1 = some r) :
  Calls Tryz.prog 58 #[.string a0, .string a1] w fun e w' => e = .returned (.bool r) ∧ Drawn0 w w' := by
 have H : ((strings_Cut.f a0 (⟨#[42]⟩ : ByteArray)).bind fun bt101 => ((crit_fits.f k bt101.1 a1).bind fun t104 => (if t104 = true then (if bt101.2.2 = true then (crit_Like.j0 k a1 bt101.1 bt101.2.1 bt101.2.2 false) else (crit_Like.j0 k a1 bt101.1 bt101.2.1 bt101.2.2 ((bt101.1.size : Int) != (a1.size : Int)))) else (crit_Like.j0 k a1 bt101.1 bt101.2.1 bt101.2.2 true)))) = some r := h
 clear h; obtain ⟨⟨t101, t102, t103⟩, A3, H⟩ := bo_ H; dsimp only at H; have HC4 := A_ H; clear H
 go_enter Tryz.func58, Tryz.ntmps58
 go_upto_region 2 with (first | ((with_reducible refine gate_callee (f:=74) rfl ?_); refine gL_ (some 10) rfl rfl Tryz.func74 rfl #[.string a0, .string (⟨#[42]⟩ : ByteArray)] rfl ?_; (with_reducible refine (strings_Cut.calls a0 (⟨#[42]⟩ : ByteArray) t101 t102 t103 _ A3.out).mono ?_); rintro e w' ⟨rfl, ⟨nd, rfl⟩⟩; refine ⟨_, rfl, ?_⟩))
 (try simp only [q_])
 go_cut [28] (fun v28 wc => ∃ (kq : Nat) (x28_3 : Bool), v28 = .bool x28_3 ∧ Aside0 (crit_Like.j0 kq a1 t101 t102 t103 x28_3 = some r) ∧ Aside0 (kq ≤ k) ∧ Drawn0 w wc)
 case first =>
  have H := HC4.out; clear HC4; obtain ⟨t104, A5, H⟩ := bo_ H
  replace H := ib_ H; rcases H with ⟨rfl,H⟩|⟨rfl,H⟩
  ·replace H := ib_ H; rcases H with ⟨rfl,H⟩|⟨rfl,H⟩
   ·have H' := A_ H
    clear H
    go_wp2_with (first | ((with_reducible refine gate_callee (f:=75) rfl ?_); refine gL_ (some 16) rfl rfl Tryz.func75 rfl #[.string t101, .string a1] rfl ?_; (with_reducible refine (crit_fits.calls k t101 a1 true _ A5.out).mono ?_); rintro e w' ⟨rfl, ⟨nd, rfl⟩⟩; refine ⟨_, rfl, ?_⟩))
    go_meet
    case rel => exact ⟨_, (false), sq_, H', le_, dr_⟩
   ·have H' := A_ H
    clear H
    go_wp2_with (first | ((with_reducible refine gate_callee (f:=75) rfl ?_); refine gL_ (some 16) rfl rfl Tryz.func75 rfl #[.string t101, .string a1] rfl ?_; (with_reducible refine (crit_fits.calls k t101 a1 true _ A5.out).mono ?_); rintro e w' ⟨rfl, ⟨nd, rfl⟩⟩; refine ⟨_, rfl, ?_⟩))
    go_meet
    case rel => exact ⟨_, (((t101.size : Int) != (a1.size : Int))), (by first | rfl | (simp; done) | (simp [*]; done) | (cases t101 <;> simp; done)), H', le_, dr_⟩
  ·have H' := A_ H
   clear H
   go_wp2_with (first | ((with_reducible refine gate_callee (f:=75) rfl ?_); refine gL_ (some 16) rfl rfl Tryz.func75 rfl #[.string t101, .string a1] rfl ?_; (with_reducible refine (crit_fits.calls k t101 a1 false _ A5.out).mono ?_); rintro e w' ⟨rfl, ⟨nd, rfl⟩⟩; refine ⟨_, rfl, ?_⟩))
   go_meet
   case rel => exact ⟨_, (true), sq_, H', le_, dr_⟩
 case rest =>
  clear HC4; obtain ⟨kq, x28_3, rfl, HA, HJ3, ⟨mc3, rfl⟩⟩ := hcut
  cases kq with
  | zero => exact absurd HA.out (by simp [crit_Like.j0])
  | succ kj3 =>
   have H := HA.out; clear HA
   simp only [crit_Like.j0] at H
   replace H := ib_ H; rcases H with ⟨rfl,H⟩|⟨rfl,H⟩
   ·obtain rfl := Option.some.inj H
    go_wp2
    go_ret
    exact ⟨by first | rfl | (simp; done) | (simp [*]; done), dr_⟩
   ·by_cases c9 : 0 ≤ (t101.size : Int)
    ·rw [if_pos c9] at H; have c9b0 := eq_true c9; have c9b1 := decide_eq_true c9; clear c9
     by_cases c10 : (t101.size : Int) ≤ (a1.size : Int)
     ·rw [if_pos c10] at H; have c10b0 := eq_true c10; have c10b1 := decide_eq_true c10; clear c10
      have H' := A_ H
      clear H
      go_wp2
      go_loopg [1, 6, 7] kj3 (fun kq v1 v6 v7 w' => ∃ (x1_2 : ByteArray) (x6_2 : ByteArray) (x7_2 : Bool), v1 = .string x1_2 ∧ v6 = .string x6_2 ∧ v7 = .bool x7_2 ∧ Aside0 (crit_Like.l0 kq x1_2 x6_2 x7_2 = some r) ∧ Aside0 (kq ≤ kj3) ∧ Drawn0 w w')
      case atStart => exact ⟨(a1.extract t101.size a1.size), (t102), (t103), (by first | rfl | (simp; done) | (simp [*]; done) | (cases t101 <;> simp; done)), (by first | rfl | (simp; done) | (simp [*]; done) | (cases t102 <;> simp; done)), (by first | rfl | (simp; done) | (simp [*]; done) | (cases t103 <;> simp; done)), H', ⟨Nat.le_refl _⟩, dr_⟩
      case round =>
       clear H'; (try clear c8); (try clear c9); (try clear c9b0); (try clear c9b1); (try clear c10); (try clear c10b0); (try clear c10b1); obtain ⟨x1_2, x6_2, x7_2, rfl, rfl, rfl, HA, HK2, ⟨m2, rfl⟩⟩ := hrel
       cases gk with
       | zero => exact absurd HA.out (by simp [crit_Like.l0])
       | succ k2 =>
        have H := HA.out; clear HA
        simp only [crit_Like.l0] at H
        replace H := ib_ H; rcases H with ⟨rfl,H⟩|⟨rfl,H⟩
        ·obtain ⟨⟨t105, t106, t107⟩, A12, H⟩ := bo_ H; dsimp only at H
         replace H := ib_ H; rcases H with ⟨rfl,H⟩|⟨rfl,H⟩
         ·have H' := A_ H
          clear H
          go_wp2_with (first | ((with_reducible refine gate_callee (f:=74) rfl ?_); refine gL_ (some 36) rfl rfl Tryz.func74 rfl #[.string x6_2, .string (⟨#[42]⟩ : ByteArray)] rfl ?_; (with_reducible refine (strings_Cut.calls x6_2 (⟨#[42]⟩ : ByteArray) t105 t106 true _ A12.out).mono ?_); rintro e w' ⟨rfl, ⟨nd, rfl⟩⟩; refine ⟨_, rfl, ?_⟩))
          go_loopg [1] k2 (fun kq v1 w' => ∃ (x1_3 : ByteArray), v1 = .string x1_3 ∧ Aside0 (crit_Like.l1 kq x1_3 t105 t106 true = some r) ∧ Aside0 (kq ≤ k2) ∧ Drawn0 w w')
          case atStart => exact ⟨(x1_2), sq_, H', ⟨Nat.le_refl _⟩, dr_⟩
          case round =>
           clear H'; (try clear c8); (try clear c9); (try clear c9b0); (try clear c9b1); (try clear c10); (try clear c10b0); (try clear c10b1); (try clear c11); (try clear c13); obtain ⟨x1_3, rfl, HA, HK3, ⟨m3, rfl⟩⟩ := hrel
           cases gk with
           | zero => exact absurd HA.out (by simp [crit_Like.l1])
           | succ k3 =>
            have H := HA.out; clear HA
            simp only [crit_Like.l1] at H
            obtain ⟨t109, A14, H⟩ := bo_ H
            replace H := ib_ H; rcases H with ⟨rfl,H⟩|⟨rfl,H⟩
            ·by_cases c16 : 0 ≤ (t105.size : Int)
             ·rw [if_pos c16] at H; have c16b0 := eq_true c16; have c16b1 := decide_eq_true c16; clear c16
              by_cases c17 : (t105.size : Int) ≤ (x1_3.size : Int)
              ·rw [if_pos c17] at H; have c17b0 := eq_true c17; have c17b1 := decide_eq_true c17; clear c17
               have H' := A_ H
               clear H
               go_wp2_with (first | ((with_reducible refine gate_callee (f:=75) rfl ?_); refine gL_ (some 60) rfl rfl Tryz.func75 rfl #[.string t105, .string x1_3] rfl ?_; (with_reducible refine (crit_fits.calls k3 t105 x1_3 true _ A14.out).mono ?_); rintro e w' ⟨rfl, ⟨nd, rfl⟩⟩; refine ⟨_, rfl, ?_⟩))
               go_roundg k3
               case measure => have := HJ3.out; have := HK2.out; have := HK3.out; omega
               case rel => exact ⟨(x1_3.extract t105.size x1_3.size), (t106), (true), (by first | rfl | (simp; done) | (simp [*]; done) | (cases t105 <;> simp; done)), (by first | rfl | (simp; done) | (simp [*]; done) | (cases t106 <;> simp; done)), sq_, H', ⟨by have := HJ3.out; have := HK2.out; have := HK3.out; omega⟩, dr_⟩
              ·rw [if_neg c17] at H
               exact absurd H (by simp)
             ·rw [if_neg c16] at H
              exact absurd H (by simp)
            ·by_cases c18 : x1_3.toList = ([] : List UInt8)
             ·rw [if_pos c18] at H; have ⟨c18b0,c18b1⟩ := e1_ c18; clear c18; obtain rfl := Option.some.inj H
              go_wp2_with (first | ((with_reducible refine gate_callee (f:=75) rfl ?_); refine gL_ (some 60) rfl rfl Tryz.func75 rfl #[.string t105, .string x1_3] rfl ?_; (with_reducible refine (crit_fits.calls k3 t105 x1_3 false _ A14.out).mono ?_); rintro e w' ⟨rfl, ⟨nd, rfl⟩⟩; refine ⟨_, rfl, ?_⟩))
              go_ret
              exact ⟨by first | rfl | (simp; done) | (simp [*]; done), dr_⟩
             ·rw [if_neg c18] at H; have ⟨c18b0,c18b1⟩ := e0_ c18
              by_cases c19 : 1 ≤ (x1_3.size : Int)
              ·rw [if_pos c19] at H; have c19b0 := eq_true c19; have c19b1 := decide_eq_true c19; clear c19
               have H' := A_ H
               clear H
               go_wp2_with (first | ((with_reducible refine gate_callee (f:=75) rfl ?_); refine gL_ (some 60) rfl rfl Tryz.func75 rfl #[.string t105, .string x1_3] rfl ?_; (with_reducible refine (crit_fits.calls k3 t105 x1_3 false _ A14.out).mono ?_); rintro e w' ⟨rfl, ⟨nd, rfl⟩⟩; refine ⟨_, rfl, ?_⟩))
               go_roundg k3
               case measure => have := HJ3.out; have := HK2.out; have := HK3.out; omega
               case rel => exact ⟨(x1_3.extract 1 x1_3.size), sq_, H', ⟨by have := HJ3.out; have := HK2.out; have := HK3.out; omega⟩, dr_⟩
              ·rw [if_neg c19] at H
               exact absurd H (by simp)
         ·by_cases c20 : (x1_2.size : Int) ≥ (t105.size : Int)
          ·rw [if_pos c20] at H; have c20b0 := decide_eq_true c20; have c20b1 : decide (t105.size ≤ x1_2.size) = true := decide_eq_true (Int.ofNat_le.mp c20); clear c20; obtain ⟨ji21, hji21⟩ : ∃ j_ : Int, (wrap64 ((x1_2.size : Int) - (t105.size : Int))) = j_ := ⟨_, rfl⟩
           replace H : (if 0 ≤ (ji21) then (if (ji21) ≤ (x1_2.size : Int) then ((crit_fits.f k2 t105 (x1_2.extract ((ji21) : Int).toNat x1_2.size)).bind fun t108 => (some t108)) else (none)) else (none)) = some r := by first | (rw [hji21] at H; exact H) | (simp only [hji21] at H ⊢; exact H)
           (try rw [hji21] at A12)
           have hji21w : (IntKind.i64.wrap ((x1_2.size : Int) - (t105.size : Int))) = ji21 := (i64_w _).trans hji21
           by_cases c22 : 0 ≤ (ji21)
           ·rw [if_pos c22] at H; have c22b0 := eq_true c22; have c22b1 := decide_eq_true c22; clear c22
            by_cases c23 : (ji21) ≤ (x1_2.size : Int)
            ·rw [if_pos c23] at H; have c23b0 := eq_true c23; have c23b1 := decide_eq_true c23; clear c23; obtain ⟨t108, A24, H⟩ := bo_ H; obtain rfl := Option.some.inj H
             go_wp2_with (first | ((with_reducible refine gate_callee (f:=74) rfl ?_); refine gL_ (some 36) rfl rfl Tryz.func74 rfl #[.string x6_2, .string (⟨#[42]⟩ : ByteArray)] rfl ?_; (with_reducible refine (strings_Cut.calls x6_2 (⟨#[42]⟩ : ByteArray) t105 t106 false _ A12.out).mono ?_); rintro e w' ⟨rfl, ⟨nd, rfl⟩⟩; refine ⟨_, rfl, ?_⟩) | (go_at_call 75; (with_reducible refine (crit_fits.calls k2 t105 (x1_2.extract ((ji21) : Int).toNat x1_2.size) t108 _ A24.out).mono ?_); rintro e w' ⟨rfl, ⟨nd, rfl⟩⟩))
             go_ret
             exact ⟨by first | rfl | (simp; done) | (simp only [← hji21] <;> (first | rfl | simp)) | (simp [*]; done), dr_⟩
            ·rw [if_neg c23] at H
             exact absurd H (by simp)
           ·rw [if_neg c22] at H
            exact absurd H (by simp)
          ·rw [if_neg c20] at H; have c20b0 := decide_eq_false c20; have c20b1 : decide (t105.size ≤ x1_2.size) = false := decide_eq_false (fun h => c20 (Int.ofNat_le.mpr h)); clear c20; obtain rfl := Option.some.inj H
           go_wp2_with (first | ((with_reducible refine gate_callee (f:=74) rfl ?_); refine gL_ (some 36) rfl rfl Tryz.func74 rfl #[.string x6_2, .string (⟨#[42]⟩ : ByteArray)] rfl ?_; (with_reducible refine (strings_Cut.calls x6_2 (⟨#[42]⟩ : ByteArray) t105 t106 false _ A12.out).mono ?_); rintro e w' ⟨rfl, ⟨nd, rfl⟩⟩; refine ⟨_, rfl, ?_⟩))
           go_ret
           exact ⟨by first | rfl | (simp; done) | (simp [*]; done), dr_⟩
        ·obtain rfl := Option.some.inj H
         go_wp2
         go_ret
         exact ⟨by first | rfl | (simp; done) | (simp [*]; done), dr_⟩
     ·rw [if_neg c10] at H
      exact absurd H (by simp)
    ·rw [if_neg c9] at H
     exact absurd H (by simp)

mutual
def crit_Hits.j0 : Nat → Int → Int → Int → ByteArray → Int → Int → ByteArray → Option (Bool)
 | 0, _, _, _, _, _, _, _ => none
 | k + 1, x102000, x102001, x102002, x102003, x103000, x103001, x103002 => if x103000 = x102001 then (if x103000 = 2 then (if x102000 = 7 then (crit_Hits.j1 k true x102000 x102001 x102002 x102003 x103000 x103001 x103002) else (crit_Hits.j1 k (x102000 == 8) x102000 x102001 x102002 x102003 x103000 x103001 x103002)) else (crit_Hits.j1 k false x102000 x102001 x102002 x102003 x103000 x103001 x103002)) else (some (x102000 == 8))
def crit_Hits.j1 : Nat → Bool → Int → Int → Int → ByteArray → Int → Int → ByteArray → Option (Bool)
 | 0, _, _, _, _, _, _, _, _ => none
 | k + 1, x34, x102000, x102001, x102002, x102003, x103000, x103001, x103002 => if x34 = true then ((crit_Like.f k x102003 x103002).bind fun t106 => (some (t106 == (x102000 == 7)))) else ((value_Compare.f k x103000 x103001 x103002 x102001 x102002 x102003).bind fun t107 => (crit_Hits.j2 k t107 x102000 x102001 x102002 x102003))
def crit_Hits.j2 : Nat → Int → Int → Int → Int → ByteArray → Option (Bool)
 | 0, _, _, _, _, _ => none
 | k + 1, x5, x102000, x102001, x102002, x102003 => if x102000 = 7 then (some (x5 == 0)) else (if x102000 = 8 then (some (x5 != 0)) else (if x102000 = 9 then (some (decide (x5 < 0))) else (if x102000 = 10 then (some (decide (x5 ≤ 0))) else (if x102000 = 11 then (some (decide (x5 > 0))) else (some (decide (x5 ≥ 0)))))))
end
def crit_Hits.f (k : Nat) (a0_0 : Int) (a0_1 : Int) (a0_2 : Int) (a0_3 : ByteArray) (a1_0 : Int) (a1_1 : Int) (a1_2 : ByteArray) : Option (Bool) := if a1_0 = 4 then (some false) else (if a1_0 = 0 then ((value_Str.f (⟨#[]⟩ : ByteArray)).bind fun bt103 => (crit_Hits.j0 k a0_0 a0_1 a0_2 a0_3 bt103.1 bt103.2.1 bt103.2.2)) else (crit_Hits.j0 k a0_0 a0_1 a0_2 a0_3 a1_0 a1_1 a1_2))
theorem crit_Hits.mono_l : ∀ k, (∀ y0 y1 y2 y3 y4 y5 y6, LeO (crit_Hits.j0 k y0 y1 y2 y3 y4 y5 y6) (crit_Hits.j0 (k + 1) y0 y1 y2 y3 y4 y5 y6)) ∧ (∀ y0 y1 y2 y3 y4 y5 y6 y7, LeO (crit_Hits.j1 k y0 y1 y2 y3 y4 y5 y6 y7) (crit_Hits.j1 (k + 1) y0 y1 y2 y3 y4 y5 y6 y7)) ∧ (∀ y0 y1 y2 y3 y4, LeO (crit_Hits.j2 k y0 y1 y2 y3 y4) (crit_Hits.j2 (k + 1) y0 y1 y2 y3 y4))
 | 0 => ⟨fun _ _ _ _ _ _ _ r h => by simp [crit_Hits.j0] at h, fun _ _ _ _ _ _ _ _ r h => by simp [crit_Hits.j1] at h, fun _ _ _ _ _ r h => by simp [crit_Hits.j2] at h⟩
 | k + 1 => by
  obtain ⟨ih0, ih1, ih2⟩ := crit_Hits.mono_l k
  refine ⟨?_, ?_, ?_⟩
  ·intro y0 y1 y2 y3 y4 y5 y6
   unfold crit_Hits.j0
   have m0 := @crit_Like.mono; have m1 := @value_Compare.mono; exact mo_
  ·intro y0 y1 y2 y3 y4 y5 y6 y7
   unfold crit_Hits.j1
   have m0 := @crit_Like.mono; have m1 := @value_Compare.mono; exact mo_
  ·intro y0 y1 y2 y3 y4
   unfold crit_Hits.j2
   have m0 := @crit_Like.mono; have m1 := @value_Compare.mono; exact mo_
theorem crit_Hits.mono : ∀ a0 a1 a2 a3 a4 a5 a6 k, LeO (crit_Hits.f k a0 a1 a2 a3 a4 a5 a6) (crit_Hits.f (k + 1) a0 a1 a2 a3 a4 a5 a6) := by
 intro a0 a1 a2 a3 a4 a5 a6 k; obtain ⟨ih0, ih1, ih2⟩ := crit_Hits.mono_l k
 unfold crit_Hits.f
 have m0 := @crit_Like.mono; have m1 := @value_Compare.mono; exact mo_
theorem crit_Hits.calls (k : Nat) (a0_0 : Int) (a0_1 : Int) (a0_2 : Int) (a0_3 : ByteArray) (a1_0 : Int) (a1_1 : Int) (a1_2 : ByteArray) (r : Bool) (w : World) (h : crit_Hits.f k a0_0 a0_1 a0_2 a0_3 a1_0 a1_1 a1_2 = some r) :
  Calls Tryz.prog 40 #[.agg #[.int .i64 a0_0, .int .i64 a0_1, .int .i64 a0_2, .string a0_3], .agg #[.int .i64 a1_0, .int .i64 a1_1, .string a1_2]] w fun e w' => e = .returned (.bool r) ∧ Below w.heap.size w w' := by
 have hu59 := Tryz.underlying59; have hu26 := Tryz.underlying26; have HB := A_ (Below.refl w.heap.size w)
 have H : (if a1_0 = 4 then (some false) else (if a1_0 = 0 then ((value_Str.f (⟨#[]⟩ : ByteArray)).bind fun bt103 => (crit_Hits.j0 k a0_0 a0_1 a0_2 a0_3 bt103.1 bt103.2.1 bt103.2.2)) else (crit_Hits.j0 k a0_0 a0_1 a0_2 a0_3 a1_0 a1_1 a1_2))) = some r := h
 clear h
 by_cases c3 : a1_0 = 4
 ·rw [if_pos c3] at H; have ⟨c3b0,c3b1⟩ := e1_ c3; clear c3; obtain rfl := Option.some.inj H
  go_enter Tryz.func40, Tryz.ntmps40
  go_wp2_with (first | ((with_reducible refine gd_ 2 ?_); refine be_ (N:=2) (cs := #[.int .i64 a0_0, .int .i64 a0_1, .int .i64 a0_2, .string a0_3]) (t:=59) ?_; intro g1 hg w4 hbox hb; have B1 := A_ (hbox); have GW101 := hs_ HB hg; have GE101 := hs_ HB hg; replace HB := bs_ HB hb; clear hb hbox hg) | ((with_reducible refine gd_ 3 ?_); refine be_ (N:=3) (cs := #[.int .i64 a1_0, .int .i64 a1_1, .string a1_2]) (t:=26) ?_; intro g2 hg w5 hbox hb; have B2 := A_ (hbox); have GW102 := hs_ HB hg; have GE102 := hs_ HB hg; have N12 := hl_ B1 hg; have N21 := hr_ B1 hg; replace B1 := bb_ B1 hb; replace HB := bs_ HB hb; clear hb hbox hg; have hnb6 := N21.out; have hnc6 := N12.out; have ⟨hcz7_0,hcz7_1,hcz7_2,hfz7_0,hfz7_1,hfz7_2⟩ := z3_ B2))
  repeat (go_quiet (first | ((with_reducible refine gd_ 2 ?_); refine be_ (N:=2) (cs := #[.int .i64 a0_0, .int .i64 a0_1, .int .i64 a0_2, .string a0_3]) (t:=59) ?_; intro g1 hg w4 hbox hb; have B1 := A_ (hbox); have GW101 := hs_ HB hg; have GE101 := hs_ HB hg; replace HB := bs_ HB hb; clear hb hbox hg) | ((with_reducible refine gd_ 3 ?_); refine be_ (N:=3) (cs := #[.int .i64 a1_0, .int .i64 a1_1, .string a1_2]) (t:=26) ?_; intro g2 hg w5 hbox hb; have B2 := A_ (hbox); have GW102 := hs_ HB hg; have GE102 := hs_ HB hg; have N12 := hl_ B1 hg; have N21 := hr_ B1 hg; replace B1 := bb_ B1 hb; replace HB := bs_ HB hb; clear hb hbox hg; have hnb6 := N21.out; have hnc6 := N12.out; have ⟨hcz7_0,hcz7_1,hcz7_2,hfz7_0,hfz7_1,hfz7_2⟩ := z3_ B2)); try go_wp2_with (first | ((with_reducible refine gd_ 2 ?_); refine be_ (N:=2) (cs := #[.int .i64 a0_0, .int .i64 a0_1, .int .i64 a0_2, .string a0_3]) (t:=59) ?_; intro g1 hg w4 hbox hb; have B1 := A_ (hbox); have GW101 := hs_ HB hg; have GE101 := hs_ HB hg; replace HB := bs_ HB hb; clear hb hbox hg) | ((with_reducible refine gd_ 3 ?_); refine be_ (N:=3) (cs := #[.int .i64 a1_0, .int .i64 a1_1, .string a1_2]) (t:=26) ?_; intro g2 hg w5 hbox hb; have B2 := A_ (hbox); have GW102 := hs_ HB hg; have GE102 := hs_ HB hg; have N12 := hl_ B1 hg; have N21 := hr_ B1 hg; replace B1 := bb_ B1 hb; replace HB := bs_ HB hb; clear hb hbox hg; have hnb6 := N21.out; have hnc6 := N12.out; have ⟨hcz7_0,hcz7_1,hcz7_2,hfz7_0,hfz7_1,hfz7_2⟩ := z3_ B2)))
  go_ret
  exact fi_ (pbx HB)
 ·rw [if_neg c3] at H; have ⟨c3b0,c3b1⟩ := e0_ c3; have HC8 := A_ H; clear H
  go_enter Tryz.func40, Tryz.ntmps40
  go_upto_if 11 with (first | ((with_reducible refine gd_ 2 ?_); refine be_ (N:=2) (cs := #[.int .i64 a0_0, .int .i64 a0_1, .int .i64 a0_2, .string a0_3]) (t:=59) ?_; intro g1 hg w9 hbox hb; have B1 := A_ (hbox); have GW101 := hs_ HB hg; have GE101 := hs_ HB hg; replace HB := bs_ HB hb; clear hb hbox hg) | ((with_reducible refine gd_ 3 ?_); refine be_ (N:=3) (cs := #[.int .i64 a1_0, .int .i64 a1_1, .string a1_2]) (t:=26) ?_; intro g2 hg w10 hbox hb; have B2 := A_ (hbox); have GW102 := hs_ HB hg; have GE102 := hs_ HB hg; have N12 := hl_ B1 hg; have N21 := hr_ B1 hg; replace B1 := bb_ B1 hb; replace HB := bs_ HB hb; clear hb hbox hg; have hnb11 := N21.out; have hnc11 := N12.out; have ⟨hcz12_0,hcz12_1,hcz12_2,hfz12_0,hfz12_1,hfz12_2⟩ := z3_ B2))
  repeat (go_quiet (first | ((with_reducible refine gd_ 2 ?_); refine be_ (N:=2) (cs := #[.int .i64 a0_0, .int .i64 a0_1, .int .i64 a0_2, .string a0_3]) (t:=59) ?_; intro g1 hg w9 hbox hb; have B1 := A_ (hbox); have GW101 := hs_ HB hg; have GE101 := hs_ HB hg; replace HB := bs_ HB hb; clear hb hbox hg) | ((with_reducible refine gd_ 3 ?_); refine be_ (N:=3) (cs := #[.int .i64 a1_0, .int .i64 a1_1, .string a1_2]) (t:=26) ?_; intro g2 hg w10 hbox hb; have B2 := A_ (hbox); have GW102 := hs_ HB hg; have GE102 := hs_ HB hg; have N12 := hl_ B1 hg; have N21 := hr_ B1 hg; replace B1 := bb_ B1 hb; replace HB := bs_ HB hb; clear hb hbox hg; have hnb11 := N21.out; have hnc11 := N12.out; have ⟨hcz12_0,hcz12_1,hcz12_2,hfz12_0,hfz12_1,hfz12_2⟩ := z3_ B2)); go_upto_if 11 with (first | ((with_reducible refine gd_ 2 ?_); refine be_ (N:=2) (cs := #[.int .i64 a0_0, .int .i64 a0_1, .int .i64 a0_2, .string a0_3]) (t:=59) ?_; intro g1 hg w9 hbox hb; have B1 := A_ (hbox); have GW101 := hs_ HB hg; have GE101 := hs_ HB hg; replace HB := bs_ HB hb; clear hb hbox hg) | ((with_reducible refine gd_ 3 ?_); refine be_ (N:=3) (cs := #[.int .i64 a1_0, .int .i64 a1_1, .string a1_2]) (t:=26) ?_; intro g2 hg w10 hbox hb; have B2 := A_ (hbox); have GW102 := hs_ HB hg; have GE102 := hs_ HB hg; have N12 := hl_ B1 hg; have N21 := hr_ B1 hg; replace B1 := bb_ B1 hb; replace HB := bs_ HB hb; clear hb hbox hg; have hnb11 := N21.out; have hnc11 := N12.out; have ⟨hcz12_0,hcz12_1,hcz12_2,hfz12_0,hfz12_1,hfz12_2⟩ := z3_ B2)))
  (try simp only [q_])
  go_cut [] (fun wc => ∃ (kq : Nat) (x103000_7 : Int) (x103001_7 : Int) (x103002_7 : ByteArray), Aside0 (crit_Hits.j0 kq a0_0 a0_1 a0_2 a0_3 x103000_7 x103001_7 x103002_7 = some r) ∧ Aside0 (kq ≤ k) ∧ Aside0 (wc.heap[g1]? = some (.cells #[.int .i64 a0_0, .int .i64 a0_1, .int .i64 a0_2, .string a0_3] 59 (0, 0))) ∧ Aside0 (wc.heap[g2]? = some (.cells #[.int .i64 x103000_7, .int .i64 x103001_7, .string x103002_7] 26 (0, 0))) ∧ Aside0 (Below w.heap.size w wc))
  case first =>
   have H := HC8.out; clear HC8
   by_cases c13 : a1_0 = 0
   ·rw [if_pos c13] at H; have ⟨c13b0,c13b1⟩ := e1_ c13; clear c13; (first | rw [c13b0] | (simp only [i64_w, i32_w]; rw [c13b0]) | skip)
    obtain ⟨⟨t103, t104, t105⟩, A14, H⟩ := bo_ H; dsimp only at H
    have H' := A_ H
    clear H
    go_wp2_with (first | (go_at_call 13; (with_reducible refine (value_Str.calls (⟨#[]⟩ : ByteArray) t103 t104 t105 _ A14.out).mono ?_); rintro e w15 ⟨rfl, hb⟩; replace B1 := bb_ B1 hb; replace B2 := bb_ B2 hb; replace HB := bs_ HB hb; (try clear hb); have hnb16 := N21.out; have hnc16 := N12.out; have ⟨hcz17_0,hcz17_1,hcz17_2,hfz17_0,hfz17_1,hfz17_2⟩ := z3_ B2))
    repeat (go_quiet (first | (go_at_call 13; (with_reducible refine (value_Str.calls (⟨#[]⟩ : ByteArray) t103 t104 t105 _ A14.out).mono ?_); rintro e w15 ⟨rfl, hb⟩; replace B1 := bb_ B1 hb; replace B2 := bb_ B2 hb; replace HB := bs_ HB hb; (try clear hb); have hnb16 := N21.out; have hnc16 := N12.out; have ⟨hcz17_0,hcz17_1,hcz17_2,hfz17_0,hfz17_1,hfz17_2⟩ := z3_ B2)); try go_wp2_with (first | (go_at_call 13; (with_reducible refine (value_Str.calls (⟨#[]⟩ : ByteArray) t103 t104 t105 _ A14.out).mono ?_); rintro e w15 ⟨rfl, hb⟩; replace B1 := bb_ B1 hb; replace B2 := bb_ B2 hb; replace HB := bs_ HB hb; (try clear hb); have hnb16 := N21.out; have hnc16 := N12.out; have ⟨hcz17_0,hcz17_1,hcz17_2,hfz17_0,hfz17_1,hfz17_2⟩ := z3_ B2)))
    go_meet
    case rel => exact ⟨_, (t103), (t104), (t105), H', le_, ⟨by (iterate 3 refine pf_ ?_ N12.out); exact pkx B1⟩, ⟨by refine pp_ (cs := #[.int .i64 t103, .int .i64 t104, .string a1_2]) 2 ?_ rfl; refine blk_put (cs := #[.int .i64 t103, .int .i64 a1_1, .string a1_2]) ?_ 1 _ rfl; refine blk_put (cs := #[.int .i64 a1_0, .int .i64 a1_1, .string a1_2]) ?_ 0 _ rfl; exact pkx B2⟩, ⟨bl_⟩⟩
   ·rw [if_neg c13] at H; have ⟨c13b0,c13b1⟩ := e0_ c13; (first | rw [c13b0] | (simp only [i64_w, i32_w]; rw [c13b0]) | skip)
    have H' := A_ H
    clear H
    go_wp2
    repeat (go_quiet (fail); try go_wp2)
    go_meet
    case rel => exact ⟨_, (a1_0), (a1_1), (a1_2), H', le_, ⟨pkx B1⟩, ⟨pkx B2⟩, ⟨pbx HB⟩⟩
  case rest =>
   clear HC8; (try clear c3); (try clear c3b0); (try clear c3b1); (try clear hcz12_0); (try clear hcz12_1); (try clear hcz12_2); (try clear hfz12_0); (try clear hfz12_1); (try clear hfz12_2); obtain ⟨kq, x103000_7, x103001_7, x103002_7, HA, HJ7, B1, B2, HB⟩ := hcut
   cases kq with
   | zero => exact absurd HA.out (by simp [crit_Hits.j0])
   | succ kj7 =>
    have H := HA.out; clear HA
    simp only [crit_Hits.j0] at H
    by_cases c18 : x103000_7 = a0_1
    ·rw [if_pos c18] at H; have ⟨c18b0,c18b1⟩ := e1_ c18; clear c18; have HC19 := A_ H; clear H; have hnb20 := N21.out; have hnc20 := N12.out
     have ⟨hcz21_0,hcz21_1,hcz21_2,hfz21_0,hfz21_1,hfz21_2⟩ := z3_ B2
     have ⟨hcz22_0,hcz22_1,hcz22_2,hcz22_3,hfz22_0,hfz22_1,hfz22_2,hfz22_3⟩ := z4_ B1
     go_upto_region 7 with (fail)
     repeat (go_quiet (fail); go_upto_region 7 with (fail))
     go_cut [34] (fun v34 wc => ∃ (kq : Nat) (x34_18 : Bool), v34 = .bool x34_18 ∧ Aside0 (crit_Hits.j1 kq x34_18 a0_0 a0_1 a0_2 a0_3 x103000_7 x103001_7 x103002_7 = some r) ∧ Aside0 (kq ≤ kj7) ∧ Aside0 (wc.heap[g1]? = some (.cells #[.int .i64 a0_0, .int .i64 a0_1, .int .i64 a0_2, .string a0_3] 59 (0, 0))) ∧ Aside0 (wc.heap[g2]? = some (.cells #[.int .i64 x103000_7, .int .i64 x103001_7, .string x103002_7] 26 (0, 0))) ∧ Aside0 (Below w.heap.size w wc))
     case first =>
      have H := HC19.out; clear HC19
      by_cases c23 : x103000_7 = 2
      ·rw [if_pos c23] at H; have ⟨c23b0,c23b1⟩ := e1_ c23; clear c23; (first | rw [c23b0] | (simp only [i64_w, i32_w]; rw [c23b0]) | skip)
       by_cases c24 : a0_0 = 7
       ·rw [if_pos c24] at H; have ⟨c24b0,c24b1⟩ := e1_ c24; clear c24
        have H' := A_ H
        clear H; have hnb25 := N21.out; have hnc25 := N12.out
        have ⟨hcz26_0,hcz26_1,hcz26_2,hfz26_0,hfz26_1,hfz26_2⟩ := z3_ B2
        have ⟨hcz27_0,hcz27_1,hcz27_2,hcz27_3,hfz27_0,hfz27_1,hfz27_2,hfz27_3⟩ := z4_ B1
        go_wp2
        repeat (go_quiet (fail); try go_wp2)
        go_meet
        case rel => exact ⟨_, (true), sq_, H', ⟨by have := HJ7.out; first | omega | exact Nat.le_refl _⟩, ⟨pkx B1⟩, ⟨pkx B2⟩, ⟨pbx HB⟩⟩
       ·rw [if_neg c24] at H; have ⟨c24b0,c24b1⟩ := e0_ c24
        have H' := A_ H
        clear H; have hnb28 := N21.out; have hnc28 := N12.out
        have ⟨hcz29_0,hcz29_1,hcz29_2,hfz29_0,hfz29_1,hfz29_2⟩ := z3_ B2
        have ⟨hcz30_0,hcz30_1,hcz30_2,hcz30_3,hfz30_0,hfz30_1,hfz30_2,hfz30_3⟩ := z4_ B1
        go_wp2
        repeat (go_quiet (fail); try go_wp2)
        go_meet
        case rel => exact ⟨_, ((a0_0 == 8)), sq_, H', ⟨by have := HJ7.out; first | omega | exact Nat.le_refl _⟩, ⟨pkx B1⟩, ⟨pkx B2⟩, ⟨pbx HB⟩⟩
      ·rw [if_neg c23] at H; have ⟨c23b0,c23b1⟩ := e0_ c23; (first | rw [c23b0] | (simp only [i64_w, i32_w]; rw [c23b0]) | skip)
       have H' := A_ H
       clear H; have hnb31 := N21.out; have hnc31 := N12.out
       have ⟨hcz32_0,hcz32_1,hcz32_2,hfz32_0,hfz32_1,hfz32_2⟩ := z3_ B2
       go_wp2
       repeat (go_quiet (fail); try go_wp2)
       go_meet
       case rel => exact ⟨_, (false), sq_, H', ⟨by have := HJ7.out; first | omega | exact Nat.le_refl _⟩, ⟨pkx B1⟩, ⟨pkx B2⟩, ⟨pbx HB⟩⟩
     case rest =>
      clear HC19; (try clear c3); (try clear c3b0); (try clear c3b1); (try clear c18); (try clear c18b0); (try clear c18b1); (try clear hcz12_0); (try clear hcz12_1); (try clear hcz12_2); (try clear hcz21_0); (try clear hcz21_1); (try clear hcz21_2); (try clear hcz22_0); (try clear hcz22_1); (try clear hcz22_2); (try clear hcz22_3); (try clear hfz12_0); (try clear hfz12_1); (try clear hfz12_2); (try clear hfz21_0); (try clear hfz21_1); (try clear hfz21_2); (try clear hfz22_0); (try clear hfz22_1); (try clear hfz22_2); (try clear hfz22_3)
      obtain ⟨kq, x34_18, rfl, HA, HJ18, B1, B2, HB⟩ := hcut
      cases kq with
      | zero => exact absurd HA.out (by simp [crit_Hits.j1])
      | succ kj18 =>
       have H := HA.out; clear HA
       simp only [crit_Hits.j1] at H
       replace H := ib_ H; rcases H with ⟨rfl,H⟩|⟨rfl,H⟩
       ·obtain ⟨t106, A34, H⟩ := bo_ H; obtain rfl := Option.some.inj H; have hnb35 := N12.out; have hnc35 := N21.out
        have ⟨hcz36_0,hcz36_1,hcz36_2,hcz36_3,hfz36_0,hfz36_1,hfz36_2,hfz36_3⟩ := z4_ B1
        have ⟨hcz37_0,hcz37_1,hcz37_2,hfz37_0,hfz37_1,hfz37_2⟩ := z3_ B2
        go_wp2_with (first | (go_at_call 58; (with_reducible refine (crit_Like.calls kj18 a0_3 x103002_7 t106 _ A34.out).mono ?_); rintro e w' ⟨rfl, ⟨nd, rfl⟩⟩; (try first | exact ⟨rfl, _, World.drewN_drewN _ _ _⟩ | exact ⟨rfl, _, Eq.trans (World.drewN_drewN _ _ _) (congrArg (World.drewN _) (Nat.add_assoc _ _ _))⟩)))
        repeat (go_quiet (first | (go_at_call 58; (with_reducible refine (crit_Like.calls kj18 a0_3 x103002_7 t106 _ A34.out).mono ?_); rintro e w' ⟨rfl, ⟨nd, rfl⟩⟩; (try first | exact ⟨rfl, _, World.drewN_drewN _ _ _⟩ | exact ⟨rfl, _, Eq.trans (World.drewN_drewN _ _ _) (congrArg (World.drewN _) (Nat.add_assoc _ _ _))⟩))); try go_wp2_with (first | (go_at_call 58; (with_reducible refine (crit_Like.calls kj18 a0_3 x103002_7 t106 _ A34.out).mono ?_); rintro e w' ⟨rfl, ⟨nd, rfl⟩⟩; (try first | exact ⟨rfl, _, World.drewN_drewN _ _ _⟩ | exact ⟨rfl, _, Eq.trans (World.drewN_drewN _ _ _) (congrArg (World.drewN _) (Nat.add_assoc _ _ _))⟩))))
        go_ret
        exact fi_ (pbx HB)
       ·have HC38 := A_ H; clear H
        go_upto_region 9 with (fail)
        repeat (go_quiet (fail); go_upto_region 9 with (fail))
        go_cut [5] (fun v5 wc => ∃ (kq : Nat) (x5_37 : Int), v5 = .int .i64 x5_37 ∧ Aside0 (crit_Hits.j2 kq x5_37 a0_0 a0_1 a0_2 a0_3 = some r) ∧ Aside0 (kq ≤ kj18) ∧ Aside0 (wc.heap[g1]? = some (.cells #[.int .i64 a0_0, .int .i64 a0_1, .int .i64 a0_2, .string a0_3] 59 (0, 0))) ∧ Aside0 (wc.heap[g2]? = some (.cells #[.int .i64 x103000_7, .int .i64 x103001_7, .string x103002_7] 26 (0, 0))) ∧ Aside0 (Below w.heap.size w wc))
        case first =>
         have H := HC38.out; clear HC38; obtain ⟨t107, A39, H⟩ := bo_ H
         have H' := A_ H
         clear H; have hnb40 := N21.out; have hnc40 := N12.out
         have ⟨hcz41_0,hcz41_1,hcz41_2,hfz41_0,hfz41_1,hfz41_2⟩ := z3_ B2
         have ⟨hcz42_0,hcz42_1,hcz42_2,hcz42_3,hfz42_0,hfz42_1,hfz42_2,hfz42_3⟩ := z4_ B1
         go_wp2_with (first | (go_at_call 54; (with_reducible refine (value_Compare.calls kj18 x103000_7 x103001_7 x103002_7 a0_1 a0_2 a0_3 t107 _ A39.out).mono ?_); rintro e w43 ⟨rfl, hb⟩; replace B1 := bb_ B1 hb; replace B2 := bb_ B2 hb; replace HB := bs_ HB hb; (try clear hb); ))
         repeat (go_quiet (first | (go_at_call 54; (with_reducible refine (value_Compare.calls kj18 x103000_7 x103001_7 x103002_7 a0_1 a0_2 a0_3 t107 _ A39.out).mono ?_); rintro e w43 ⟨rfl, hb⟩; replace B1 := bb_ B1 hb; replace B2 := bb_ B2 hb; replace HB := bs_ HB hb; (try clear hb); )); try go_wp2_with (first | (go_at_call 54; (with_reducible refine (value_Compare.calls kj18 x103000_7 x103001_7 x103002_7 a0_1 a0_2 a0_3 t107 _ A39.out).mono ?_); rintro e w43 ⟨rfl, hb⟩; replace B1 := bb_ B1 hb; replace B2 := bb_ B2 hb; replace HB := bs_ HB hb; (try clear hb); )))
         go_meet
         case rel => exact ⟨_, (t107), (by first | rfl | (simp; done) | (simp [*]; done) | (cases t107 <;> simp; done)), H', ⟨by have := HJ7.out; have := HJ18.out; first | omega | exact Nat.le_refl _⟩, ⟨pkx B1⟩, ⟨pkx B2⟩, ⟨pbx HB⟩⟩
        case rest =>
         clear HC38; (try clear c3); (try clear c3b0); (try clear c3b1); (try clear c18); (try clear c18b0); (try clear c18b1); (try clear c33); (try clear hcz12_0); (try clear hcz12_1); (try clear hcz12_2); (try clear hcz21_0); (try clear hcz21_1); (try clear hcz21_2); (try clear hcz22_0); (try clear hcz22_1); (try clear hcz22_2); (try clear hcz22_3); (try clear hfz12_0); (try clear hfz12_1); (try clear hfz12_2); (try clear hfz21_0); (try clear hfz21_1); (try clear hfz21_2); (try clear hfz22_0); (try clear hfz22_1); (try clear hfz22_2); (try clear hfz22_3)
         obtain ⟨kq, x5_37, rfl, HA, HJ37, B1, B2, HB⟩ := hcut
         cases kq with
         | zero => exact absurd HA.out (by simp [crit_Hits.j2])
         | succ kj37 =>
          have H := HA.out; clear HA
          simp only [crit_Hits.j2] at H
          by_cases c44 : a0_0 = 7
          ·rw [if_pos c44] at H; have ⟨c44b0,c44b1⟩ := e1_ c44; clear c44; obtain rfl := Option.some.inj H; have hnb45 := N12.out; have hnc45 := N21.out
           have ⟨hcz46_0,hcz46_1,hcz46_2,hcz46_3,hfz46_0,hfz46_1,hfz46_2,hfz46_3⟩ := z4_ B1
           go_wp2
           repeat (go_quiet (fail); try go_wp2)
           go_ret
           exact fi_ (pbx HB)
          ·rw [if_neg c44] at H; have ⟨c44b0,c44b1⟩ := e0_ c44
           by_cases c47 : a0_0 = 8
           ·rw [if_pos c47] at H; have ⟨c47b0,c47b1⟩ := e1_ c47; clear c47; obtain rfl := Option.some.inj H; have hnb48 := N12.out; have hnc48 := N21.out
            have ⟨hcz49_0,hcz49_1,hcz49_2,hcz49_3,hfz49_0,hfz49_1,hfz49_2,hfz49_3⟩ := z4_ B1
            go_wp2
            repeat (go_quiet (fail); try go_wp2)
            go_ret
            exact fi_ (pbx HB)
           ·rw [if_neg c47] at H; have ⟨c47b0,c47b1⟩ := e0_ c47
            by_cases c50 : a0_0 = 9
            ·rw [if_pos c50] at H; have ⟨c50b0,c50b1⟩ := e1_ c50; clear c50; obtain rfl := Option.some.inj H; have hnb51 := N12.out; have hnc51 := N21.out
             have ⟨hcz52_0,hcz52_1,hcz52_2,hcz52_3,hfz52_0,hfz52_1,hfz52_2,hfz52_3⟩ := z4_ B1
             go_wp2
             repeat (go_quiet (fail); try go_wp2)
             go_ret
             exact fi_ (pbx HB)
            ·rw [if_neg c50] at H; have ⟨c50b0,c50b1⟩ := e0_ c50
             by_cases c53 : a0_0 = 10
             ·rw [if_pos c53] at H; have ⟨c53b0,c53b1⟩ := e1_ c53; clear c53; obtain rfl := Option.some.inj H; have hnb54 := N12.out; have hnc54 := N21.out
              have ⟨hcz55_0,hcz55_1,hcz55_2,hcz55_3,hfz55_0,hfz55_1,hfz55_2,hfz55_3⟩ := z4_ B1
              go_wp2
              repeat (go_quiet (fail); try go_wp2)
              go_ret
              exact fi_ (pbx HB)
             ·rw [if_neg c53] at H; have ⟨c53b0,c53b1⟩ := e0_ c53
              by_cases c56 : a0_0 = 11
              ·rw [if_pos c56] at H; have ⟨c56b0,c56b1⟩ := e1_ c56; clear c56; obtain rfl := Option.some.inj H; have hnb57 := N12.out; have hnc57 := N21.out
               have ⟨hcz58_0,hcz58_1,hcz58_2,hcz58_3,hfz58_0,hfz58_1,hfz58_2,hfz58_3⟩ := z4_ B1
               go_wp2
               repeat (go_quiet (fail); try go_wp2)
               go_ret
               exact fi_ (pbx HB)
              ·rw [if_neg c56] at H; have ⟨c56b0,c56b1⟩ := e0_ c56; obtain rfl := Option.some.inj H; have hnb59 := N12.out; have hnc59 := N21.out
               have ⟨hcz60_0,hcz60_1,hcz60_2,hcz60_3,hfz60_0,hfz60_1,hfz60_2,hfz60_3⟩ := z4_ B1
               go_wp2
               repeat (go_quiet (fail); try go_wp2)
               go_ret
               exact fi_ (pbx HB)
    ·rw [if_neg c18] at H; have ⟨c18b0,c18b1⟩ := e0_ c18; obtain rfl := Option.some.inj H; have hnb61 := N21.out; have hnc61 := N12.out
     have ⟨hcz62_0,hcz62_1,hcz62_2,hfz62_0,hfz62_1,hfz62_2⟩ := z3_ B2
     have ⟨hcz63_0,hcz63_1,hcz63_2,hcz63_3,hfz63_0,hfz63_1,hfz63_2,hfz63_3⟩ := z4_ B1
     go_wp2
     repeat (go_quiet (fail); try go_wp2)
     go_ret
     exact fi_ (pbx HB)

def look_hit.l0 : Nat → List (S26) → List (S26) → Int → Int → Int → Int → Int → ByteArray → Option ((List (S26)) × Int × Int × ByteArray)
 | 0, _, _, _, _, _, _, _, _ => none
 | k + 1, x8, x20, x21, x22, x110000, x110001, x110002, x110003 => if x22 < x21 then (if 0 ≤ x22 then (if x22 < (x20.length : Int) then ((crit_Hits.f k x110000 x110001 x110002 x110003 ((rd_T26 x20 x22).f0) ((rd_T26 x20 x22).f1) ((rd_T26 x20 x22).f2)).bind fun t112 => (if t112 = true then (if x8.length < 4398046511104 then (look_hit.l0 k (x8 ++ [(⟨(rd_T26 x20 x22).f0, (rd_T26 x20 x22).f1, (rd_T26 x20 x22).f2⟩ : S26)]) x20 x21 (wrap64 (x22 + 1)) x110000 x110001 x110002 x110003) else (none)) else (look_hit.l0 k x8 x20 x21 (wrap64 (x22 + 1)) x110000 x110001 x110002 x110003))) else (none)) else (none)) else (some (x8, 0, 0, (⟨#[]⟩ : ByteArray)))
def look_hit.f (k : Nat) (a0_0 : Int) (a0_1 : Int) (l0_2 : List (S26)) (a1_0 : Int) (a1_1 : Int) (a1_2 : ByteArray) : Option ((List (S26)) × Int × Int × ByteArray) := (crit_Of.f k a1_0 a1_1 a1_2).bind fun bt104 => (if bt104.2.2.2.2 = true then (look_hit.l0 k ([] : List (S26)) l0_2 (l0_2.length : Int) 0 bt104.1 bt104.2.1 bt104.2.2.1 bt104.2.2.2.1) else (some (([] : List (S26)), a1_0, a1_1, a1_2)))
theorem look_hit.mono_l : ∀ k, (∀ y0 y1 y2 y3 y4 y5 y6 y7, LeO (look_hit.l0 k y0 y1 y2 y3 y4 y5 y6 y7) (look_hit.l0 (k + 1) y0 y1 y2 y3 y4 y5 y6 y7))
 | 0 => fun _ _ _ _ _ _ _ _ r h => by simp [look_hit.l0] at h
 | k + 1 => by
  have ih0 := look_hit.mono_l k
  ·intro y0 y1 y2 y3 y4 y5 y6 y7
   unfold look_hit.l0
   have m0 := @crit_Hits.mono; have m1 := @crit_Of.mono; exact mo_
theorem look_hit.mono : ∀ a0 a1 a2 a3 a4 a5 k, LeO (look_hit.f k a0 a1 a2 a3 a4 a5) (look_hit.f (k + 1) a0 a1 a2 a3 a4 a5) := by
 intro a0 a1 a2 a3 a4 a5 k; have ih0 := look_hit.mono_l k
 unfold look_hit.f
 have m0 := @crit_Hits.mono; have m1 := @crit_Of.mono; exact mo_
theorem look_hit.calls (k : Nat) (a0_0 : Int) (a0_1 : Int) (A0_2 : Option Addr) (c0_2 : Nat) (l0_2 : List (S26)) (a1_0 : Int) (a1_1 : Int) (a1_2 : ByteArray) (r1 : List (S26)) (r2 : Int) (r3 : Int) (r4 : ByteArray) (w : World) (hr0_2 : Kd.C k26 w A0_2 l0_2.length l0_2) (hc0_2 : l0_2.length ≤ c0_2) (h : look_hit.f k a0_0 a0_1 l0_2 a1_0 a1_1 a1_2 = some (r1, r2, r3, r4)) :
  Calls Tryz.prog 21 #[.agg #[.int .i64 a0_0, .int .i64 a0_1, .slice A0_2 l0_2.length c0_2], .agg #[.int .i64 a1_0, .int .i64 a1_1, .string a1_2]] w fun e w' => ∃ v0_ : Value, e = .returned (.tuple #[v0_, .agg #[.int .i64 r2, .int .i64 r3, .string r4]]) ∧ Kd.R k26 26 w' w.heap.size (fun _ => True) v0_ r1 ∧ Below w.heap.size w w' := by
 have hu24 := Tryz.underlying24; have hu26 := Tryz.underlying26; have hu59 := Tryz.underlying59; have HR0_2 := A_ hr0_2; have HC0_2 := A_ hc0_2; clear hr0_2 hc0_2; have HB := A_ (Below.refl w.heap.size w)
 have H : ((crit_Of.f k a1_0 a1_1 a1_2).bind fun bt104 => (if bt104.2.2.2.2 = true then (look_hit.l0 k ([] : List (S26)) l0_2 (l0_2.length : Int) 0 bt104.1 bt104.2.1 bt104.2.2.1 bt104.2.2.2.1) else (some (([] : List (S26)), a1_0, a1_1, a1_2)))) = some (r1, r2, r3, r4) := h
 clear h; obtain ⟨⟨t104, t105, t106, t107, t108⟩, A3, H⟩ := bo_ H; dsimp only at H
 replace H := ib_ H; rcases H with ⟨rfl,H⟩|⟨rfl,H⟩
 ·have H' := A_ H
  clear H
  go_enter Tryz.func21, Tryz.ntmps21
  go_wp2_with (first | ((with_reducible refine gd_ 2 ?_); refine be_ (N:=2) (cs := #[.int .i64 a0_0, .int .i64 a0_1, .slice A0_2 l0_2.length c0_2]) (t:=24) ?_; intro g1 hg w5 hbox hb; have B1 := A_ (hbox); have GW101 := hs_ HB hg; have GE101 := hs_ HB hg; replace HB := bs_ HB hb; clear hb hbox hg) | ((with_reducible refine gd_ 3 ?_); refine be_ (N:=3) (cs := #[.int .i64 a1_0, .int .i64 a1_1, .string a1_2]) (t:=26) ?_; intro g2 hg w6 hbox hb; have B2 := A_ (hbox); have GW102 := hs_ HB hg; have GE102 := hs_ HB hg; have N12 := hl_ B1 hg; have N21 := hr_ B1 hg; replace B1 := bb_ B1 hb; replace HB := bs_ HB hb; clear hb hbox hg) | ((with_reducible refine gd_ 5 ?_); refine be_ (N:=5) (cs := #[.int .i64 0, .int .i64 0, .string (⟨#[]⟩ : ByteArray)]) (t:=26) ?_; intro g3 hg w7 hbox hb; have B3 := A_ (hbox); have GW103 := hs_ HB hg; have GE103 := hs_ HB hg; have N13 := hl_ B1 hg; have N31 := hr_ B1 hg; have N23 := hl_ B2 hg; have N32 := hr_ B2 hg; replace B1 := bb_ B1 hb; replace B2 := bb_ B2 hb; replace HB := bs_ HB hb; clear hb hbox hg; have hnb8 := N21.out; have hnc8 := N12.out; have hnb9 := N23.out; have hnc9 := N32.out; have ⟨hcz10_0,hcz10_1,hcz10_2,hfz10_0,hfz10_1,hfz10_2⟩ := z3_ B2) | ((with_reducible refine gate_callee (f:=39) rfl ?_); refine gL_ (some 13) rfl rfl Tryz.func39 rfl #[.agg #[.int .i64 a1_0, .int .i64 a1_1, .string a1_2]] rfl ?_; (with_reducible refine (crit_Of.calls k a1_0 a1_1 a1_2 t104 t105 t106 t107 true _ A3.out).mono ?_); rintro e w11 ⟨rfl, hb⟩; refine ⟨_, rfl, ?_⟩; replace B1 := bb_ B1 hb; replace B2 := bb_ B2 hb; replace B3 := bb_ B3 hb; replace HB := bs_ HB hb; ) | ((with_reducible refine gd_ 6 ?_); refine be_ (N:=6) (cs := #[.int .i64 0, .int .i64 0, .int .i64 0, .string (⟨#[]⟩ : ByteArray)]) (t:=59) ?_; intro g9 hg w12 hbox hb; have B9 := A_ (hbox); have GW109 := hs_ HB hg; have GE109 := hs_ HB hg; have N19 := hl_ B1 hg; have N91 := hr_ B1 hg; have N29 := hl_ B2 hg; have N92 := hr_ B2 hg; have N39 := hl_ B3 hg; have N93 := hr_ B3 hg; replace B1 := bb_ B1 hb; replace B2 := bb_ B2 hb; replace B3 := bb_ B3 hb; replace HB := bs_ HB hb; clear hb hbox hg; have hnb13 := N91.out; have hnc13 := N19.out; have hnb14 := N92.out; have hnc14 := N29.out; have hnb15 := N93.out; have hnc15 := N39.out; have ⟨hcz16_0,hcz16_1,hcz16_2,hcz16_3,hfz16_0,hfz16_1,hfz16_2,hfz16_3⟩ := z4_ B9; have hnb17 := N13.out; have hnc17 := N31.out; have ⟨hcz18_0,hcz18_1,hcz18_2,hfz18_0,hfz18_1,hfz18_2⟩ := z3_ B1))
  go_loopg [8, 22] k (fun kq v8 v22 w' => ∃ (x8_1 : List (S26)) (x22_1 : Int), v22 = .int .i64 x22_1 ∧ Aside0 (look_hit.l0 kq x8_1 l0_2 (l0_2.length : Int) x22_1 t104 t105 t106 t107 = some (r1, r2, r3, r4)) ∧ Aside0 (kq ≤ k) ∧ Aside0 (Kd.R k26 26 w' w.heap.size (fun k_ => k_ ≠ g2 ∧ k_ ≠ g3) v8 x8_1) ∧ Aside0 (w'.heap[g1]? = some (.cells #[.int .i64 a0_0, .int .i64 a0_1, (.slice A0_2 l0_2.length c0_2)] 24 (0, 0))) ∧ Aside0 (w'.heap[g2]? = some (.cells #[.int .i64 a1_0, .int .i64 a1_1, .string a1_2] 26 (0, 0))) ∧ Aside0 (w'.heap[g3]? = some (.cells #[.int .i64 0, .int .i64 0, .string (⟨#[]⟩ : ByteArray)] 26 (0, 0))) ∧ Aside0 (w'.heap[g9]? = some (.cells #[.int .i64 t104, .int .i64 t105, .int .i64 t106, .string t107] 59 (0, 0))) ∧ Aside0 (Below w.heap.size w w'))
  case atStart => exact ⟨(([] : List (S26))), (0), sq_, H', ⟨Nat.le_refl _⟩, ⟨by first | exact Kd.R_nil _ _ _ _ _ | exact Kd.N_nil _ _ _ _ _ | exact Kd.V_nil _ _ _ _ _ | exact Kd.Q_nil _ _ _ _ _ | exact Kd.S_nil _ _ _ _ _⟩, ⟨by (iterate 4 refine pf_ ?_ N19.out); exact pkx B1⟩, ⟨by (iterate 4 refine pf_ ?_ N29.out); exact pkx B2⟩, ⟨by (iterate 4 refine pf_ ?_ N39.out); exact pkx B3⟩, ⟨by (iterate 4 apply pp_); exact pkx B9; all_goals rfl⟩, ⟨bl_⟩⟩
  case round =>
   clear H'; (try clear c4); (try clear hcz10_0); (try clear hcz10_1); (try clear hcz10_2); (try clear hcz16_0); (try clear hcz16_1); (try clear hcz16_2); (try clear hcz16_3); (try clear hcz18_0); (try clear hcz18_1); (try clear hcz18_2); (try clear hfz10_0); (try clear hfz10_1); (try clear hfz10_2); (try clear hfz16_0); (try clear hfz16_1); (try clear hfz16_2); (try clear hfz16_3); (try clear hfz18_0); (try clear hfz18_1); (try clear hfz18_2); obtain ⟨x8_1, x22_1, rfl, HA, HK1, HO_8, B1, B2, B3, B9, HB⟩ := hrel
   cases gk with
   | zero => exact absurd HA.out (by simp [look_hit.l0])
   | succ k1 =>
    have H := HA.out; clear HA
    simp only [look_hit.l0] at H
    by_cases c19 : x22_1 < (l0_2.length : Int)
    ·rw [if_pos c19] at H; have c19b0 := decide_eq_true c19; clear c19
     by_cases c20 : 0 ≤ x22_1
     ·rw [if_pos c20] at H; have c20b0 := decide_eq_true c20; clear c20
      by_cases c21 : x22_1 < (l0_2.length : Int)
      ·rw [if_pos c21] at H; have c21b0 := decide_eq_true c21; clear c21; obtain ⟨t112, A22, H⟩ := bo_ H
       replace H := ib_ H; rcases H with ⟨rfl,H⟩|⟨rfl,H⟩
       ·by_cases c24 : x8_1.length < 4398046511104
        ·rw [if_pos c24] at H; have LMc24 := A_ c24; clear c24; obtain ⟨y113, hy113⟩ : ∃ y_ : List (S26), y_ = (x8_1 ++ [(⟨(rd_T26 l0_2 x22_1).f0, (rd_T26 l0_2 x22_1).f1, (rd_T26 l0_2 x22_1).f2⟩ : S26)]) := ⟨_, rfl⟩
         replace H : (look_hit.l0 k1 y113 l0_2 (l0_2.length : Int) (wrap64 (x22_1 + 1)) t104 t105 t106 t107) = some (r1, r2, r3, r4) := by first | (rw [hy113]; with_reducible exact H) | (have H2_ := (Option.bind_some _ _).symm.trans H; rw [hy113]; with_reducible exact H2_) | (have H2_ := (Option.bind_some _ _).symm.trans H; with_reducible exact H2_) | with_reducible exact H | (rw [hy113]; exact H) | exact H
         have Ny113 := A_ hy113; clear hy113
         have H' := A_ H
         clear H
         have p110 : 0 ≤ (x22_1 : Int) := of_decide_eq_true as_
         have q110 : x22_1 < (l0_2.length : Int) := of_decide_eq_true as_
         obtain ⟨ad110, e110, hx110_0, hx110_1, hx110_2⟩ := at_T26 HR0_2.out x22_1 p110 q110
         cases e110
         replace hx110_0 := (HB.out.cell (World.block_lt_of_cell? w _ hx110_0)).trans hx110_0; replace hx110_1 := (HB.out.cell (World.block_lt_of_cell? w _ hx110_1)).trans hx110_1; replace hx110_2 := (HB.out.cell (World.block_lt_of_cell? w _ hx110_2)).trans hx110_2; replace p110 := eq_true p110; replace q110 := eq_true q110
         go_wp2_with (first | ((with_reducible refine gd_ 10 ?_); refine be_ (N:=10) (cs := #[.int .i64 0, .int .i64 0, .string (⟨#[]⟩ : ByteArray)]) (t:=26) ?_; intro gb111 hg w25 hbox hb; have BK111 := A_ (hbox); have GW111 := hs_ HB hg; have GE111 := hs_ HB hg; have NB101_111 := hl_ B1 hg; have NB111_101 := hr_ B1 hg; have NB102_111 := hl_ B2 hg; have NB111_102 := hr_ B2 hg; have NB103_111 := hl_ B3 hg; have NB111_103 := hr_ B3 hg; have NB109_111 := hl_ B9 hg; have NB111_109 := hr_ B9 hg; replace HO_8 := A_ (Kd.R_below (Kd.R_elderB (ra_ HO_8.out) gb111 (Nat.le_of_eq hg.symm)) hb); replace B1 := bb_ B1 hb; replace B2 := bb_ B2 hb; replace B3 := bb_ B3 hb; replace B9 := bb_ B9 hb; replace HB := bs_ HB hb; clear hb hbox hg; have hnb26 := NB111_101.out; have hnc26 := NB101_111.out; have hnb27 := NB111_102.out; have hnc27 := NB102_111.out; have hnb28 := NB111_103.out; have hnc28 := NB103_111.out; have hnb29 := NB111_109.out; have hnc29 := NB109_111.out; have ⟨hcz30_0,hcz30_1,hcz30_2,hfz30_0,hfz30_1,hfz30_2⟩ := z3_ BK111; have hnb31 := N91.out; have hnc31 := N19.out; have hnb32 := N92.out; have hnc32 := N29.out; have hnb33 := N93.out; have hnc33 := N39.out; have ⟨hcz34_0,hcz34_1,hcz34_2,hcz34_3,hfz34_0,hfz34_1,hfz34_2,hfz34_3⟩ := z4_ B9) | ((with_reducible refine gate_callee (f:=40) rfl ?_); refine gL_ (some 28) rfl rfl Tryz.func40 rfl #[.agg #[.int .i64 t104, .int .i64 t105, .int .i64 t106, .string t107], .agg #[.int .i64 ((rd_T26 l0_2 x22_1).f0), .int .i64 ((rd_T26 l0_2 x22_1).f1), .string ((rd_T26 l0_2 x22_1).f2)]] rfl ?_; (with_reducible refine (crit_Hits.calls k1 t104 t105 t106 t107 ((rd_T26 l0_2 x22_1).f0) ((rd_T26 l0_2 x22_1).f1) ((rd_T26 l0_2 x22_1).f2) true _ A22.out).mono ?_); rintro e w35 ⟨rfl, hb⟩; refine ⟨_, rfl, ?_⟩; replace HO_8 := A_ (Kd.R_below (by (with_reducible repeat (first | apply Kd.R_alloc | apply Kd.R_drewN | apply Kd.R_drew)); exact (Kd.R_mono (Kd.R_far (p := ⟨gb111, 2, none⟩) (Kd.R_far (p := ⟨gb111, 1, none⟩) (Kd.R_far (p := ⟨gb111, 0, none⟩) (Kd.R_mono HO_8.out (fun k_ hk => (⟨hk, hk.2⟩ : _ ∧ k_ ≠ gb111))) (fun _ hk => hk.2) (.int .i64 ((rd_T26 l0_2 x22_1).f0))) (fun _ hk => hk.2) (.int .i64 ((rd_T26 l0_2 x22_1).f1))) (fun _ hk => hk.2) (.string ((rd_T26 l0_2 x22_1).f2))) (fun _ h_ => h_.1))) hb); replace B1 := A_ (blk_below (g:=g1) (o := .cells #[.int .i64 a0_0, .int .i64 a0_1, .slice (some ad110) l0_2.length c0_2] 24 (0, 0)) (by (iterate 3 refine pf_ ?_ NB101_111.out); exact pkx B1) hb); replace B2 := A_ (blk_below (g:=g2) (o := .cells #[.int .i64 a1_0, .int .i64 a1_1, .string a1_2] 26 (0, 0)) (by (iterate 3 refine pf_ ?_ NB102_111.out); exact pkx B2) hb); replace B3 := A_ (blk_below (g:=g3) (o := .cells #[.int .i64 0, .int .i64 0, .string (⟨#[]⟩ : ByteArray)] 26 (0, 0)) (by (iterate 3 refine pf_ ?_ NB103_111.out); exact pkx B3) hb); replace B9 := A_ (blk_below (g:=g9) (o := .cells #[.int .i64 t104, .int .i64 t105, .int .i64 t106, .string t107] 59 (0, 0)) (by (iterate 3 refine pf_ ?_ NB109_111.out); exact pkx B9) hb); replace BK111 := A_ (blk_below (g:=gb111) (o := .cells #[.int .i64 ((rd_T26 l0_2 x22_1).f0), .int .i64 ((rd_T26 l0_2 x22_1).f1), .string ((rd_T26 l0_2 x22_1).f2)] 26 (0, 0)) (by (iterate 3 apply pp_); exact pkx BK111; all_goals rfl) hb); replace HB := A_ (below_step (by repeat (first | (with_reducible first | exact HB.out | apply below_alloc | apply pw_below_drewN | apply below_drew1 | refine below_set ?_ GE101.out | refine below_set ?_ GE102.out | refine below_set ?_ GE103.out | refine below_set ?_ GE109.out | refine below_set ?_ GE111.out) | exact HB.out)) hb); (try clear hb); have ⟨hcz36_0,hcz36_1,hcz36_2,hfz36_0,hfz36_1,hfz36_2⟩ := z3_ BK111) | ((with_reducible refine gate_builtin (b := .append) (xs := #[.tmp 29, .tmp 31]) rfl ?_); at_builtin; refine Kd.R_append k26 (w0 := w) w.heap.size rfl (.tmp 29) (.tmp 31) 22 26 (.agg #[(.int .i64 0), (.int .i64 0), (.string ⟨#[]⟩)]) 32 rfl Tryz.underlying22 info26 rfl (by decide) (by omega) u8 x8_1 (⟨(rd_T26 l0_2 x22_1).f0, (rd_T26 l0_2 x22_1).f1, (rd_T26 l0_2 x22_1).f2⟩ : S26) [.int .i64 ((rd_T26 l0_2 x22_1).f0), .int .i64 ((rd_T26 l0_2 x22_1).f1), .string ((rd_T26 l0_2 x22_1).f2)] (fun k_ => k_ ≠ g2 ∧ k_ ≠ g3 ∧ k_ ≠ gb111) (fun _ => False) rfl rfl ?aP (fun _ hk => hk.elim) ?aF ?aO ?aB ?aS ?aL ?_; (case aP => exact k26_mkM _ _ _ (⟨(rd_T26 l0_2 x22_1).f0, (rd_T26 l0_2 x22_1).f1, (rd_T26 l0_2 x22_1).f2⟩ : S26)); (case aB => exact (pbx HB)); (case aF => exact (fun k_ hk => ⟨Kd.freshB (pkx B2) k_ hk, Kd.freshB (pkx B3) k_ hk, Kd.freshB (pkx BK111) k_ hk⟩)); (case aO => exact (by (with_reducible repeat (first | apply Kd.R_alloc | apply Kd.R_drewN | apply Kd.R_drew)); exact Kd.R_mono HO_8.out (fun _ hk => ⟨hk.1.1, ⟨hk.1.2, hk.2⟩⟩))); (case aS => exact (below_size (pbx HB))); (case aL => have := LMc24.out; omega); intro v114 w37 ho hb hg hat; rw [← Ny113.out] at ho; have HO115 := A_ (ho); replace B1 := A_ (blk_grown (pkx B1) hg (Kd.R_ne HO_8.out B1.out (by decide))); replace B2 := A_ (blk_grown (pkx B2) hg (Kd.R_away HO_8.out (fun _ hk => hk.1.1))); replace B3 := A_ (blk_grown (pkx B3) hg (Kd.R_away HO_8.out (fun _ hk => hk.1.2))); replace B9 := A_ (blk_grown (pkx B9) hg (Kd.R_ne HO_8.out B9.out (by decide))); replace BK111 := A_ (blk_grown (pkx BK111) hg (Kd.R_away HO_8.out (fun _ hk => hk.2))); replace HB := A_ (hb); clear HO_8; clear ho hb hg hat))
         go_roundg k1
         case measure => have := HK1.out; omega
         case rel => exact ⟨(y113), (wrap64 (x22_1 + 1)), sq_, H', ⟨by have := HK1.out; omega⟩, ⟨by (with_reducible repeat (first | apply Kd.R_alloc | apply Kd.R_drewN | apply Kd.R_drew)); exact Kd.R_mono HO115.out (fun _ hk => ⟨hk.1, hk.2.1⟩)⟩, ⟨pkx B1⟩, ⟨pkx B2⟩, ⟨pkx B3⟩, ⟨pkx B9⟩, ⟨pbx HB⟩⟩
        ·rw [if_neg c24] at H
         exact absurd H (by simp)
       ·have H' := A_ H
        clear H
        have p110 : 0 ≤ (x22_1 : Int) := of_decide_eq_true as_
        have q110 : x22_1 < (l0_2.length : Int) := of_decide_eq_true as_
        obtain ⟨ad110, e110, hx110_0, hx110_1, hx110_2⟩ := at_T26 HR0_2.out x22_1 p110 q110
        cases e110
        replace hx110_0 := (HB.out.cell (World.block_lt_of_cell? w _ hx110_0)).trans hx110_0; replace hx110_1 := (HB.out.cell (World.block_lt_of_cell? w _ hx110_1)).trans hx110_1; replace hx110_2 := (HB.out.cell (World.block_lt_of_cell? w _ hx110_2)).trans hx110_2; replace p110 := eq_true p110; replace q110 := eq_true q110
        go_wp2_with (first | ((with_reducible refine gd_ 10 ?_); refine be_ (N:=10) (cs := #[.int .i64 0, .int .i64 0, .string (⟨#[]⟩ : ByteArray)]) (t:=26) ?_; intro gb111 hg w38 hbox hb; have BK111 := A_ (hbox); have GW111 := hs_ HB hg; have GE111 := hs_ HB hg; have NB101_111 := hl_ B1 hg; have NB111_101 := hr_ B1 hg; have NB102_111 := hl_ B2 hg; have NB111_102 := hr_ B2 hg; have NB103_111 := hl_ B3 hg; have NB111_103 := hr_ B3 hg; have NB109_111 := hl_ B9 hg; have NB111_109 := hr_ B9 hg; replace HO_8 := A_ (Kd.R_below (Kd.R_elderB (ra_ HO_8.out) gb111 (Nat.le_of_eq hg.symm)) hb); replace B1 := bb_ B1 hb; replace B2 := bb_ B2 hb; replace B3 := bb_ B3 hb; replace B9 := bb_ B9 hb; replace HB := bs_ HB hb; clear hb hbox hg; have hnb39 := NB111_101.out; have hnc39 := NB101_111.out; have hnb40 := NB111_102.out; have hnc40 := NB102_111.out; have hnb41 := NB111_103.out; have hnc41 := NB103_111.out; have hnb42 := NB111_109.out; have hnc42 := NB109_111.out; have ⟨hcz43_0,hcz43_1,hcz43_2,hfz43_0,hfz43_1,hfz43_2⟩ := z3_ BK111; have hnb44 := N91.out; have hnc44 := N19.out; have hnb45 := N92.out; have hnc45 := N29.out; have hnb46 := N93.out; have hnc46 := N39.out; have ⟨hcz47_0,hcz47_1,hcz47_2,hcz47_3,hfz47_0,hfz47_1,hfz47_2,hfz47_3⟩ := z4_ B9) | ((with_reducible refine gate_callee (f:=40) rfl ?_); refine gL_ (some 28) rfl rfl Tryz.func40 rfl #[.agg #[.int .i64 t104, .int .i64 t105, .int .i64 t106, .string t107], .agg #[.int .i64 ((rd_T26 l0_2 x22_1).f0), .int .i64 ((rd_T26 l0_2 x22_1).f1), .string ((rd_T26 l0_2 x22_1).f2)]] rfl ?_; (with_reducible refine (crit_Hits.calls k1 t104 t105 t106 t107 ((rd_T26 l0_2 x22_1).f0) ((rd_T26 l0_2 x22_1).f1) ((rd_T26 l0_2 x22_1).f2) false _ A22.out).mono ?_); rintro e w48 ⟨rfl, hb⟩; refine ⟨_, rfl, ?_⟩; replace HO_8 := A_ (Kd.R_below (by (with_reducible repeat (first | apply Kd.R_alloc | apply Kd.R_drewN | apply Kd.R_drew)); exact (Kd.R_mono (Kd.R_far (p := ⟨gb111, 2, none⟩) (Kd.R_far (p := ⟨gb111, 1, none⟩) (Kd.R_far (p := ⟨gb111, 0, none⟩) (Kd.R_mono HO_8.out (fun k_ hk => (⟨hk, hk.2⟩ : _ ∧ k_ ≠ gb111))) (fun _ hk => hk.2) (.int .i64 ((rd_T26 l0_2 x22_1).f0))) (fun _ hk => hk.2) (.int .i64 ((rd_T26 l0_2 x22_1).f1))) (fun _ hk => hk.2) (.string ((rd_T26 l0_2 x22_1).f2))) (fun _ h_ => h_.1))) hb); replace B1 := A_ (blk_below (g:=g1) (o := .cells #[.int .i64 a0_0, .int .i64 a0_1, .slice (some ad110) l0_2.length c0_2] 24 (0, 0)) (by (iterate 3 refine pf_ ?_ NB101_111.out); exact pkx B1) hb); replace B2 := A_ (blk_below (g:=g2) (o := .cells #[.int .i64 a1_0, .int .i64 a1_1, .string a1_2] 26 (0, 0)) (by (iterate 3 refine pf_ ?_ NB102_111.out); exact pkx B2) hb); replace B3 := A_ (blk_below (g:=g3) (o := .cells #[.int .i64 0, .int .i64 0, .string (⟨#[]⟩ : ByteArray)] 26 (0, 0)) (by (iterate 3 refine pf_ ?_ NB103_111.out); exact pkx B3) hb); replace B9 := A_ (blk_below (g:=g9) (o := .cells #[.int .i64 t104, .int .i64 t105, .int .i64 t106, .string t107] 59 (0, 0)) (by (iterate 3 refine pf_ ?_ NB109_111.out); exact pkx B9) hb); replace BK111 := A_ (blk_below (g:=gb111) (o := .cells #[.int .i64 ((rd_T26 l0_2 x22_1).f0), .int .i64 ((rd_T26 l0_2 x22_1).f1), .string ((rd_T26 l0_2 x22_1).f2)] 26 (0, 0)) (by (iterate 3 apply pp_); exact pkx BK111; all_goals rfl) hb); replace HB := A_ (below_step (by repeat (first | (with_reducible first | exact HB.out | apply below_alloc | apply pw_below_drewN | apply below_drew1 | refine below_set ?_ GE101.out | refine below_set ?_ GE102.out | refine below_set ?_ GE103.out | refine below_set ?_ GE109.out | refine below_set ?_ GE111.out) | exact HB.out)) hb); (try clear hb); ))
        go_roundg k1
        case measure => have := HK1.out; omega
        case rel => exact ⟨(x8_1), (wrap64 (x22_1 + 1)), sq_, H', ⟨by have := HK1.out; omega⟩, ⟨by (with_reducible repeat (first | apply Kd.R_alloc | apply Kd.R_drewN | apply Kd.R_drew)); exact Kd.R_mono HO_8.out (fun _ hk => ⟨hk.1.1, hk.1.2⟩)⟩, ⟨pkx B1⟩, ⟨pkx B2⟩, ⟨pkx B3⟩, ⟨pkx B9⟩, ⟨pbx HB⟩⟩
      ·rw [if_neg c21] at H
       exact absurd H (by simp)
     ·rw [if_neg c20] at H
      exact absurd H (by simp)
    ·rw [if_neg c19] at H; have c19b0 := decide_eq_false c19; clear c19
     simp only [Option.some.injEq, Prod.mk.injEq] at H
     obtain ⟨rfl, rfl, rfl, rfl⟩ := H; have hnb49 := N31.out; have hnc49 := N13.out; have hnb50 := N32.out; have hnc50 := N23.out; have hnb51 := N39.out; have hnc51 := N93.out
     have ⟨hcz52_0,hcz52_1,hcz52_2,hfz52_0,hfz52_1,hfz52_2⟩ := z3_ B3
     go_wp2
     refine bodyPost_ret (results_tc rfl _ _ g3 26 #[.int .i64 0, .int .i64 0, .string (⟨#[]⟩ : ByteArray)] (0, 0) _ rfl (by (iterate 3 apply pp_); exact pkx B3; all_goals rfl) Tryz.underlying26 rfl (by kernel_rfl)) rfl ?_
     exact ⟨_, by first | rfl | (simp [errW_none, errW_some] <;> rfl) | (simp [*, errW_none, errW_some] <;> rfl), by (with_reducible repeat (first | apply Kd.R_alloc | apply Kd.R_drewN | apply Kd.R_drew)); exact Kd.R_mono (Kd.R_far (p := ⟨g3, 2, none⟩) (Kd.R_far (p := ⟨g3, 1, none⟩) (Kd.R_far (p := ⟨g3, 0, none⟩) (Kd.R_mono HO_8.out (fun k_ hk => (⟨hk, hk.2⟩ : _ ∧ k_ ≠ g3))) (fun _ hk => hk.2) (.int .i64 0)) (fun _ hk => hk.2) (.int .i64 0)) (fun _ hk => hk.2) (.string (⟨#[]⟩ : ByteArray))) (fun _ hk => trivial), by repeat (first | (with_reducible first | exact HB.out | apply below_alloc | apply pw_below_drewN | apply below_drew1 | refine below_set ?_ GE101.out | refine below_set ?_ GE102.out | refine below_set ?_ GE103.out | refine below_set ?_ GE109.out) | exact HB.out)⟩
 ·simp only [Option.some.injEq, Prod.mk.injEq] at H
  obtain ⟨rfl, rfl, rfl, rfl⟩ := H
  go_enter Tryz.func21, Tryz.ntmps21
  try go_wp2_with (first | ((with_reducible refine gd_ 2 ?_); refine be_ (N:=2) (cs := #[.int .i64 a0_0, .int .i64 a0_1, .slice A0_2 l0_2.length c0_2]) (t:=24) ?_; intro g1 hg w53 hbox hb; have B1 := A_ (hbox); have GW101 := hs_ HB hg; have GE101 := hs_ HB hg; replace HB := bs_ HB hb; clear hb hbox hg) | ((with_reducible refine gd_ 3 ?_); refine be_ (N:=3) (cs := #[.int .i64 a1_0, .int .i64 a1_1, .string a1_2]) (t:=26) ?_; intro g2 hg w54 hbox hb; have B2 := A_ (hbox); have GW102 := hs_ HB hg; have GE102 := hs_ HB hg; have N12 := hl_ B1 hg; have N21 := hr_ B1 hg; replace B1 := bb_ B1 hb; replace HB := bs_ HB hb; clear hb hbox hg) | ((with_reducible refine gd_ 5 ?_); refine be_ (N:=5) (cs := #[.int .i64 0, .int .i64 0, .string (⟨#[]⟩ : ByteArray)]) (t:=26) ?_; intro g3 hg w55 hbox hb; have B3 := A_ (hbox); have GW103 := hs_ HB hg; have GE103 := hs_ HB hg; have N13 := hl_ B1 hg; have N31 := hr_ B1 hg; have N23 := hl_ B2 hg; have N32 := hr_ B2 hg; replace B1 := bb_ B1 hb; replace B2 := bb_ B2 hb; replace HB := bs_ HB hb; clear hb hbox hg; have hnb56 := N21.out; have hnc56 := N12.out; have hnb57 := N23.out; have hnc57 := N32.out; have ⟨hcz58_0,hcz58_1,hcz58_2,hfz58_0,hfz58_1,hfz58_2⟩ := z3_ B2) | ((with_reducible refine gate_callee (f:=39) rfl ?_); refine gL_ (some 13) rfl rfl Tryz.func39 rfl #[.agg #[.int .i64 a1_0, .int .i64 a1_1, .string a1_2]] rfl ?_; (with_reducible refine (crit_Of.calls k a1_0 a1_1 a1_2 t104 t105 t106 t107 false _ A3.out).mono ?_); rintro e w59 ⟨rfl, hb⟩; refine ⟨_, rfl, ?_⟩; replace B1 := bb_ B1 hb; replace B2 := bb_ B2 hb; replace B3 := bb_ B3 hb; replace HB := bs_ HB hb; ) | ((with_reducible refine gd_ 6 ?_); refine be_ (N:=6) (cs := #[.int .i64 0, .int .i64 0, .int .i64 0, .string (⟨#[]⟩ : ByteArray)]) (t:=59) ?_; intro g9 hg w60 hbox hb; have B9 := A_ (hbox); have GW109 := hs_ HB hg; have GE109 := hs_ HB hg; have N19 := hl_ B1 hg; have N91 := hr_ B1 hg; have N29 := hl_ B2 hg; have N92 := hr_ B2 hg; have N39 := hl_ B3 hg; have N93 := hr_ B3 hg; replace B1 := bb_ B1 hb; replace B2 := bb_ B2 hb; replace B3 := bb_ B3 hb; replace HB := bs_ HB hb; clear hb hbox hg; have hnb61 := N91.out; have hnc61 := N19.out; have hnb62 := N92.out; have hnc62 := N29.out; have hnb63 := N93.out; have hnc63 := N39.out; have ⟨hcz64_0,hcz64_1,hcz64_2,hcz64_3,hfz64_0,hfz64_1,hfz64_2,hfz64_3⟩ := z4_ B9))
  have n0_ : Aside0 (((((w60.setCell ⟨g9, 0, none⟩ (.int .i64 t104)).setCell ⟨g9, 1, none⟩ (.int .i64 t105)).setCell ⟨g9, 2, none⟩ (.int .i64 t106)).setCell ⟨g9, 3, none⟩ (.string t107)).heap[g1]? = some (.cells #[.int .i64 a0_0, .int .i64 a0_1, .slice A0_2 l0_2.length c0_2] 24 (0, 0))) := ⟨by (iterate 4 refine pf_ ?_ N19.out); exact pkx B1⟩; have n1_ : Aside0 (((((w60.setCell ⟨g9, 0, none⟩ (.int .i64 t104)).setCell ⟨g9, 1, none⟩ (.int .i64 t105)).setCell ⟨g9, 2, none⟩ (.int .i64 t106)).setCell ⟨g9, 3, none⟩ (.string t107)).heap[g2]? = some (.cells #[.int .i64 a1_0, .int .i64 a1_1, .string a1_2] 26 (0, 0))) := ⟨by (iterate 4 refine pf_ ?_ N29.out); exact pkx B2⟩
  have n2_ : Aside0 (((((w60.setCell ⟨g9, 0, none⟩ (.int .i64 t104)).setCell ⟨g9, 1, none⟩ (.int .i64 t105)).setCell ⟨g9, 2, none⟩ (.int .i64 t106)).setCell ⟨g9, 3, none⟩ (.string t107)).heap[g3]? = some (.cells #[.int .i64 0, .int .i64 0, .string (⟨#[]⟩ : ByteArray)] 26 (0, 0))) := ⟨by (iterate 4 refine pf_ ?_ N39.out); exact pkx B3⟩; have n3_ : Aside0 (((((w60.setCell ⟨g9, 0, none⟩ (.int .i64 t104)).setCell ⟨g9, 1, none⟩ (.int .i64 t105)).setCell ⟨g9, 2, none⟩ (.int .i64 t106)).setCell ⟨g9, 3, none⟩ (.string t107)).heap[g9]? = some (.cells #[.int .i64 t104, .int .i64 t105, .int .i64 t106, .string t107] 59 (0, 0))) := ⟨by (iterate 4 apply pp_); exact pkx B9; all_goals rfl⟩
  have n4_ : Aside0 (Below w.heap.size w ((((w60.setCell ⟨g9, 0, none⟩ (.int .i64 t104)).setCell ⟨g9, 1, none⟩ (.int .i64 t105)).setCell ⟨g9, 2, none⟩ (.int .i64 t106)).setCell ⟨g9, 3, none⟩ (.string t107))) := ⟨bl_⟩; (try clear B1); (try clear B2); (try clear B3); (try clear B9); (try clear HB)
  generalize ((((w60.setCell ⟨g9, 0, none⟩ (.int .i64 t104)).setCell ⟨g9, 1, none⟩ (.int .i64 t105)).setCell ⟨g9, 2, none⟩ (.int .i64 t106)).setCell ⟨g9, 3, none⟩ (.string t107)) = w65 at n0_ n1_ n2_ n3_ n4_ ⊢; have B1 := n0_; have B2 := n1_; have B3 := n2_; have B9 := n3_; have HB := n4_; clear n0_ n1_ n2_ n3_ n4_; (try (rw [drewN_self w65]; generalize hq_ : World.drewN w65 _ = w65; have n0_ : Aside0 (w65.heap[g1]? = some (.cells #[.int .i64 a0_0, .int .i64 a0_1, .slice A0_2 l0_2.length c0_2] 24 (0, 0))) := ⟨by rw [← hq_]; exact (pkx B1)⟩; have n1_ : Aside0 (w65.heap[g2]? = some (.cells #[.int .i64 a1_0, .int .i64 a1_1, .string a1_2] 26 (0, 0))) := ⟨by rw [← hq_]; exact (pkx B2)⟩; have n2_ : Aside0 (w65.heap[g3]? = some (.cells #[.int .i64 0, .int .i64 0, .string (⟨#[]⟩ : ByteArray)] 26 (0, 0))) := ⟨by rw [← hq_]; exact (pkx B3)⟩; have n3_ : Aside0 (w65.heap[g9]? = some (.cells #[.int .i64 t104, .int .i64 t105, .int .i64 t106, .string t107] 59 (0, 0))) := ⟨by rw [← hq_]; exact (pkx B9)⟩; have n4_ : Aside0 (Below w.heap.size w w65) := ⟨by rw [← hq_]; exact (pbx HB)⟩; clear B1 B2 B3 B9 HB hq_; have B1 := n0_; have B2 := n1_; have B3 := n2_; have B9 := n3_; have HB := n4_; clear n0_ n1_ n2_ n3_ n4_))
  replace B1 := A_ (blk_drew B1.out); replace B2 := A_ (blk_drew B2.out); replace B3 := A_ (blk_drew B3.out); replace B9 := A_ (blk_drew B9.out); replace HB := A_ (below_drew1 HB.out)
  refine start_ (n:=3) (S := fun w' => w'.cell? ⟨g2, 0, none⟩ = some (.int .i64 a1_0) ∧ w'.cell? ⟨g2, 1, none⟩ = some (.int .i64 a1_1) ∧ w'.cell? ⟨g2, 2, none⟩ = some (.string a1_2)) (ds := []) #[F,F,F] (by kernel_rfl) rfl rfl ⟨bc_ B2 0 rfl, bc_ B2 1 rfl, bc_ B2 2 rfl⟩ (fun hHeld => ?_)
  generalize w65.drew = w66 at B1 B2 B3 B9 HB hHeld ⊢; refine pure_ (i:=1) (N:=some 4) (v:=?_) (a':=?_) #[F,T,F] rfl rfl (by kernel_rfl) (fun _ _ _ h=>h) (Or.inl ⟨rfl, ?_⟩) ?_ ?_; rotate_left
  ·intro w'; go_simp; with_reducible rfl
  rotate_left
  ·simp only [q_, i64_w, i32_w]; rfl
  refine take_ (i:=0) (N:=some 18) (v:=?_) (a':=?_) #[T,T,F] rfl rfl (by kernel_rfl) (fun _ _ _ h=>h) (Or.inl ⟨rfl, ?_⟩) hHeld ?_ ?_; rotate_left
  ·rintro w' ⟨s0, s1, s2⟩; go_simp; with_reducible rfl
  rotate_left
  ·simp only [q_, i64_w, i32_w]; rfl
  refine one_ (i:=2) (N:=none) #[T,T,T] rfl rfl (by kernel_rfl) (by decide) (fun K hK => ?_)
  have hs67 : w66.cell? ⟨g3, 0, none⟩ = some (.int .i64 0) := bc_ B3 0 rfl
  have hfs67 := blk_frozen B3.out 0; have hns67_0 := N13.out; have hns67_1 := N23.out; have hns67_3 := N93.out; have hms67_0 := N31.out; have hms67_1 := N32.out; have hms67_3 := N39.out
  have hs68 : w66.cell? ⟨g3, 1, none⟩ = some (.int .i64 0) := bc_ B3 1 rfl
  have hfs68 := blk_frozen B3.out 1; have hns68_0 := N13.out; have hns68_1 := N23.out; have hns68_3 := N93.out; have hms68_0 := N31.out; have hms68_1 := N32.out; have hms68_3 := N39.out
  have hs69 : w66.cell? ⟨g3, 2, none⟩ = some (.string (⟨#[]⟩ : ByteArray)) := bc_ B3 2 rfl
  have hfs69 := blk_frozen B3.out 2; have hns69_0 := N13.out; have hns69_1 := N23.out; have hns69_3 := N93.out; have hms69_0 := N31.out; have hms69_1 := N32.out; have hms69_3 := N39.out
  refine skip_ (w1 := ?_) (by rfl) rfl ?_ ?_
  rotate_left
  ·go_simp; rfl
  refine hK.out _ _ ⟨((cell_far (p := ⟨g3, _, none⟩) N23.out _).trans (((cell_far (p := ⟨g3, _, none⟩) N23.out _).trans (((cell_far (p := ⟨g3, _, none⟩) N23.out _).trans (hHeld.1)))))), ((cell_far (p := ⟨g3, _, none⟩) N23.out _).trans (((cell_far (p := ⟨g3, _, none⟩) N23.out _).trans (((cell_far (p := ⟨g3, _, none⟩) N23.out _).trans (hHeld.2.1)))))), ((cell_far (p := ⟨g3, _, none⟩) N23.out _).trans (((cell_far (p := ⟨g3, _, none⟩) N23.out _).trans (((cell_far (p := ⟨g3, _, none⟩) N23.out _).trans (hHeld.2.2))))))⟩ (fun hHeld => ?_); clear hK K
  refine done_ (by kernel_rfl) ?_
  try go_wp2
  refine bodyPost_ret (results_tc rfl _ _ g3 26 #[.int .i64 a1_0, .int .i64 a1_1, .string a1_2] (0, 0) _ rfl (by (iterate 3 apply pp_); exact pkx B3; all_goals rfl) Tryz.underlying26 rfl (by kernel_rfl)) rfl ?_
  exact ⟨_, by first | rfl | (simp [errW_none, errW_some] <;> rfl) | (simp [*, errW_none, errW_some] <;> rfl), by first | exact Kd.R_nil _ _ _ _ _ | exact Kd.N_nil _ _ _ _ _ | exact Kd.V_nil _ _ _ _ _ | exact Kd.Q_nil _ _ _ _ _ | exact Kd.S_nil _ _ _ _ _, by repeat (first | (with_reducible first | exact HB.out | apply below_alloc | apply pw_below_drewN | apply below_drew1 | refine below_set ?_ GE101.out | refine below_set ?_ GE102.out | refine below_set ?_ GE103.out | refine below_set ?_ GE109.out) | exact HB.out)⟩

def value_Got.f (a0 : Int) (a1 : Bool) : Option (Int × Int × ByteArray) := if a1 = true then ((value_Num.f a0).bind fun bt102 => (some (bt102.1, bt102.2.1, bt102.2.2))) else ((value_Bad.f 4).bind fun bt105 => (some (bt105.1, bt105.2.1, bt105.2.2)))
theorem value_Got.calls (a0 : Int) (a1 : Bool) (r1 : Int) (r2 : Int) (r3 : ByteArray) (w : World) (h : value_Got.f a0 a1 = some (r1, r2, r3)) :
  Calls Tryz.prog 22 #[.int .i64 a0, .bool a1] w fun e w' => e = .returned (.agg #[.int .i64 r1, .int .i64 r2, .string r3]) ∧ Below w.heap.size w w' := by
 have hu26 := Tryz.underlying26; have HB := A_ (Below.refl w.heap.size w)
 have H : (if a1 = true then ((value_Num.f a0).bind fun bt102 => (some (bt102.1, bt102.2.1, bt102.2.2))) else ((value_Bad.f 4).bind fun bt105 => (some (bt105.1, bt105.2.1, bt105.2.2)))) = some (r1, r2, r3) := h
 clear h
 replace H := ib_ H; rcases H with ⟨rfl,H⟩|⟨rfl,H⟩
 ·obtain ⟨⟨t102, t103, t104⟩, A4, H⟩ := bo_ H; dsimp only at H
  simp only [Option.some.injEq, Prod.mk.injEq] at H
  obtain ⟨rfl, rfl, rfl⟩ := H
  go_enter Tryz.func22, Tryz.ntmps22
  go_wp2_with (first | ((with_reducible refine gd_ 4 ?_); refine be_ (N:=4) (cs := #[.int .i64 0, .int .i64 0, .string (⟨#[]⟩ : ByteArray)]) (t:=26) ?_; intro g1 hg w5 hbox hb; have B1 := A_ (hbox); have GW101 := hs_ HB hg; have GE101 := hs_ HB hg; replace HB := bs_ HB hb; clear hb hbox hg) | ((with_reducible refine gate_callee (f:=16) rfl ?_); refine gL_ (some 9) rfl rfl Tryz.func16 rfl #[.int .i64 a0] rfl ?_; (with_reducible refine (value_Num.calls a0 t102 t103 t104 _ A4.out).mono ?_); rintro e w6 ⟨rfl, hb⟩; refine ⟨_, rfl, ?_⟩; replace B1 := bb_ B1 hb; replace HB := bs_ HB hb; have ⟨hcz7_0,hcz7_1,hcz7_2,hfz7_0,hfz7_1,hfz7_2⟩ := z3_ B1))
  refine bodyPost_ret (results_cell_row rfl _ _ g1 26 #[.int .i64 t102, .int .i64 t103, .string t104] (0, 0) _ rfl (by (iterate 3 apply pp_); exact pkx B1; all_goals rfl) Tryz.underlying26 rfl (by kernel_rfl)) rfl ?_
  exact fi_ bl_
 ·obtain ⟨⟨t105, t106, t107⟩, A8, H⟩ := bo_ H; dsimp only at H
  simp only [Option.some.injEq, Prod.mk.injEq] at H
  obtain ⟨rfl, rfl, rfl⟩ := H
  go_enter Tryz.func22, Tryz.ntmps22
  go_wp2_with (first | ((with_reducible refine gd_ 4 ?_); refine be_ (N:=4) (cs := #[.int .i64 0, .int .i64 0, .string (⟨#[]⟩ : ByteArray)]) (t:=26) ?_; intro g1 hg w9 hbox hb; have B1 := A_ (hbox); have GW101 := hs_ HB hg; have GE101 := hs_ HB hg; replace HB := bs_ HB hb; clear hb hbox hg) | ((with_reducible refine gate_callee (f:=34) rfl ?_); refine gL_ (some 7) rfl rfl Tryz.func34 rfl #[.int .i64 4] rfl ?_; (with_reducible refine (value_Bad.calls 4 t105 t106 t107 _ A8.out).mono ?_); rintro e w10 ⟨rfl, hb⟩; refine ⟨_, rfl, ?_⟩; replace B1 := bb_ B1 hb; replace HB := bs_ HB hb; have ⟨hcz11_0,hcz11_1,hcz11_2,hfz11_0,hfz11_1,hfz11_2⟩ := z3_ B1))
  refine bodyPost_ret (results_cell_row rfl _ _ g1 26 #[.int .i64 t105, .int .i64 t106, .string t107] (0, 0) _ rfl (by (iterate 3 apply pp_); exact pkx B1; all_goals rfl) Tryz.underlying26 rfl (by kernel_rfl)) rfl ?_
  exact fi_ bl_

def look_CountIf.f (k : Nat) (a0_0 : Int) (a0_1 : Int) (l0_2 : List (S26)) (a1_0 : Int) (a1_1 : Int) (a1_2 : ByteArray) : Option (Int × Int × ByteArray) := (look_hit.f k a0_0 a0_1 l0_2 a1_0 a1_1 a1_2).bind fun bt104 => (if bt104.2.1 = 4 then (some (bt104.2.1, bt104.2.2.1, bt104.2.2.2)) else ((dec_Of.f k (bt104.1.length : Int)).bind fun bt111 => ((value_Got.f bt111.1 bt111.2).bind fun bt113 => (some (bt113.1, bt113.2.1, bt113.2.2)))))
theorem look_CountIf.mono : ∀ a0 a1 a2 a3 a4 a5 k, LeO (look_CountIf.f k a0 a1 a2 a3 a4 a5) (look_CountIf.f (k + 1) a0 a1 a2 a3 a4 a5) := by
 intro a0 a1 a2 a3 a4 a5 k
 unfold look_CountIf.f
 have m0 := @dec_Of.mono; have m1 := @look_hit.mono; exact mo_
theorem look_CountIf.calls (k : Nat) (a0_0 : Int) (a0_1 : Int) (A0_2 : Option Addr) (c0_2 : Nat) (l0_2 : List (S26)) (a1_0 : Int) (a1_1 : Int) (a1_2 : ByteArray) (r1 : Int) (r2 : Int) (r3 : ByteArray) (w : World) (hr0_2 : Kd.C k26 w A0_2 l0_2.length l0_2) (hc0_2 : l0_2.length ≤ c0_2) (h : look_CountIf.f k a0_0 a0_1 l0_2 a1_0 a1_1 a1_2 = some (r1, r2, r3)) :
  Calls Tryz.prog 7 #[.agg #[.int .i64 a0_0, .int .i64 a0_1, .slice A0_2 l0_2.length c0_2], .agg #[.int .i64 a1_0, .int .i64 a1_1, .string a1_2]] w fun e w' => e = .returned (.agg #[.int .i64 r1, .int .i64 r2, .string r3]) ∧ Below w.heap.size w w' := by
 have hu24 := Tryz.underlying24; have hu26 := Tryz.underlying26; have HR0_2 := A_ hr0_2; have HC0_2 := A_ hc0_2; clear hr0_2 hc0_2; have HB := A_ (Below.refl w.heap.size w)
 have H : ((look_hit.f k a0_0 a0_1 l0_2 a1_0 a1_1 a1_2).bind fun bt104 => (if bt104.2.1 = 4 then (some (bt104.2.1, bt104.2.2.1, bt104.2.2.2)) else ((dec_Of.f k (bt104.1.length : Int)).bind fun bt111 => ((value_Got.f bt111.1 bt111.2).bind fun bt113 => (some (bt113.1, bt113.2.1, bt113.2.2)))))) = some (r1, r2, r3) := h
 clear h; obtain ⟨⟨t104, t107, t108, t109⟩, A3, H⟩ := bo_ H; dsimp only at H
 by_cases c4 : t107 = 4
 ·rw [if_pos c4] at H; have ⟨c4b0,c4b1⟩ := e1_ c4; clear c4
  simp only [Option.some.injEq, Prod.mk.injEq] at H
  obtain ⟨rfl, rfl, rfl⟩ := H
  go_enter Tryz.func7, Tryz.ntmps7
  go_wp2_with (first | ((with_reducible refine gd_ 2 ?_); refine be_ (N:=2) (cs := #[.int .i64 a0_0, .int .i64 a0_1, .slice A0_2 l0_2.length c0_2]) (t:=24) ?_; intro g1 hg w5 hbox hb; have B1 := A_ (hbox); have GW101 := hs_ HB hg; have GE101 := hs_ HB hg; replace HB := bs_ HB hb; clear hb hbox hg) | ((with_reducible refine gd_ 3 ?_); refine be_ (N:=3) (cs := #[.int .i64 a1_0, .int .i64 a1_1, .string a1_2]) (t:=26) ?_; intro g2 hg w6 hbox hb; have B2 := A_ (hbox); have GW102 := hs_ HB hg; have GE102 := hs_ HB hg; have N12 := hl_ B1 hg; have N21 := hr_ B1 hg; replace B1 := bb_ B1 hb; replace HB := bs_ HB hb; clear hb hbox hg) | ((with_reducible refine gd_ 4 ?_); refine be_ (N:=4) (cs := #[.int .i64 0, .int .i64 0, .string (⟨#[]⟩ : ByteArray)]) (t:=26) ?_; intro g3 hg w7 hbox hb; have B3 := A_ (hbox); have GW103 := hs_ HB hg; have GE103 := hs_ HB hg; have N13 := hl_ B1 hg; have N31 := hr_ B1 hg; have N23 := hl_ B2 hg; have N32 := hr_ B2 hg; replace B1 := bb_ B1 hb; replace B2 := bb_ B2 hb; replace HB := bs_ HB hb; clear hb hbox hg; have hnb8 := N12.out; have hnc8 := N21.out; have hnb9 := N13.out; have hnc9 := N31.out; have ⟨hcz10_0,hcz10_1,hcz10_2,hfz10_0,hfz10_1,hfz10_2⟩ := z3_ B1; have hnb11 := N23.out; have hnc11 := N32.out; have ⟨hcz12_0,hcz12_1,hcz12_2,hfz12_0,hfz12_1,hfz12_2⟩ := z3_ B2) | ((with_reducible refine gate_callee (f:=21) rfl ?_); refine gL_ (some 10) rfl rfl Tryz.func21 rfl #[.agg #[.int .i64 a0_0, .int .i64 a0_1, .slice A0_2 l0_2.length c0_2], .agg #[.int .i64 a1_0, .int .i64 a1_1, .string a1_2]] rfl ?_; (with_reducible refine (look_hit.calls k a0_0 a0_1 _ _ l0_2 a1_0 a1_1 a1_2 t104 t107 t108 t109 _ ?side1 ?side2 A3.out).mono ?_); (case side1 => exact ca_ (Kd.C_below HR0_2.out HB.out)); (case side2 => exact HC0_2.out); rintro e w13 ⟨v105, rfl, ho0, hb⟩; refine ⟨_, rfl, ?_⟩; have HO106 := A_ (Kd.R_lower (Kd.R_newB (Kd.R_newB ho0 (pkx B2)) (pkx B3)) (below_size (pbx HB))); replace B1 := bb_ B1 hb; replace B2 := bb_ B2 hb; replace B3 := bb_ B3 hb; replace HB := bs_ HB hb; ) | ((with_reducible refine gd_ 6 ?_); refine be_ (N:=6) (cs := #[.int .i64 0, .int .i64 0, .string (⟨#[]⟩ : ByteArray)]) (t:=26) ?_; intro gb110 hg w14 hbox hb; have BK110 := A_ (hbox); have GW110 := hs_ HB hg; have GE110 := hs_ HB hg; have NB101_110 := hl_ B1 hg; have NB110_101 := hr_ B1 hg; have NB102_110 := hl_ B2 hg; have NB110_102 := hr_ B2 hg; have NB103_110 := hl_ B3 hg; have NB110_103 := hr_ B3 hg; replace HO106 := A_ (Kd.R_below (Kd.R_elderB (ra_ HO106.out) gb110 (Nat.le_of_eq hg.symm)) hb); replace B1 := bb_ B1 hb; replace B2 := bb_ B2 hb; replace B3 := bb_ B3 hb; replace HB := bs_ HB hb; clear hb hbox hg; have hnb15 := NB110_101.out; have hnc15 := NB101_110.out; have hnb16 := NB110_102.out; have hnc16 := NB102_110.out; have hnb17 := NB110_103.out; have hnc17 := NB103_110.out; have ⟨hcz18_0,hcz18_1,hcz18_2,hfz18_0,hfz18_1,hfz18_2⟩ := z3_ BK110; have ⟨hcz19_0,hcz19_1,hcz19_2,hfz19_0,hfz19_1,hfz19_2⟩ := z3_ B3))
  refine bodyPost_ret (results_cell_row rfl _ _ g3 26 #[.int .i64 t107, .int .i64 t108, .string t109] (0, 0) _ rfl (by refine pp_ (cs := #[.int .i64 t107, .int .i64 t108, .string (⟨#[]⟩ : ByteArray)]) 2 ?_ rfl; refine pp_ (cs := #[.int .i64 t107, .int .i64 0, .string (⟨#[]⟩ : ByteArray)]) 1 ?_ rfl; refine pp_ (cs := #[.int .i64 0, .int .i64 0, .string (⟨#[]⟩ : ByteArray)]) 0 ?_ rfl; (iterate 3 refine pf_ ?_ NB103_110.out); exact pkx B3) Tryz.underlying26 rfl (by kernel_rfl)) rfl ?_
  exact fi_ bl_
 ·rw [if_neg c4] at H; have ⟨c4b0,c4b1⟩ := e0_ c4; obtain ⟨⟨t111, t112⟩, A20, H⟩ := bo_ H; dsimp only at H; obtain ⟨⟨t113, t114, t115⟩, A21, H⟩ := bo_ H; dsimp only at H
  simp only [Option.some.injEq, Prod.mk.injEq] at H
  obtain ⟨rfl, rfl, rfl⟩ := H
  go_enter Tryz.func7, Tryz.ntmps7
  go_wp2_with (first | ((with_reducible refine gd_ 2 ?_); refine be_ (N:=2) (cs := #[.int .i64 a0_0, .int .i64 a0_1, .slice A0_2 l0_2.length c0_2]) (t:=24) ?_; intro g1 hg w22 hbox hb; have B1 := A_ (hbox); have GW101 := hs_ HB hg; have GE101 := hs_ HB hg; replace HB := bs_ HB hb; clear hb hbox hg) | ((with_reducible refine gd_ 3 ?_); refine be_ (N:=3) (cs := #[.int .i64 a1_0, .int .i64 a1_1, .string a1_2]) (t:=26) ?_; intro g2 hg w23 hbox hb; have B2 := A_ (hbox); have GW102 := hs_ HB hg; have GE102 := hs_ HB hg; have N12 := hl_ B1 hg; have N21 := hr_ B1 hg; replace B1 := bb_ B1 hb; replace HB := bs_ HB hb; clear hb hbox hg) | ((with_reducible refine gd_ 4 ?_); refine be_ (N:=4) (cs := #[.int .i64 0, .int .i64 0, .string (⟨#[]⟩ : ByteArray)]) (t:=26) ?_; intro g3 hg w24 hbox hb; have B3 := A_ (hbox); have GW103 := hs_ HB hg; have GE103 := hs_ HB hg; have N13 := hl_ B1 hg; have N31 := hr_ B1 hg; have N23 := hl_ B2 hg; have N32 := hr_ B2 hg; replace B1 := bb_ B1 hb; replace B2 := bb_ B2 hb; replace HB := bs_ HB hb; clear hb hbox hg; have hnb25 := N12.out; have hnc25 := N21.out; have hnb26 := N13.out; have hnc26 := N31.out; have ⟨hcz27_0,hcz27_1,hcz27_2,hfz27_0,hfz27_1,hfz27_2⟩ := z3_ B1; have hnb28 := N23.out; have hnc28 := N32.out; have ⟨hcz29_0,hcz29_1,hcz29_2,hfz29_0,hfz29_1,hfz29_2⟩ := z3_ B2) | ((with_reducible refine gate_callee (f:=21) rfl ?_); refine gL_ (some 10) rfl rfl Tryz.func21 rfl #[.agg #[.int .i64 a0_0, .int .i64 a0_1, .slice A0_2 l0_2.length c0_2], .agg #[.int .i64 a1_0, .int .i64 a1_1, .string a1_2]] rfl ?_; (with_reducible refine (look_hit.calls k a0_0 a0_1 _ _ l0_2 a1_0 a1_1 a1_2 t104 t107 t108 t109 _ ?side1 ?side2 A3.out).mono ?_); (case side1 => exact ca_ (Kd.C_below HR0_2.out HB.out)); (case side2 => exact HC0_2.out); rintro e w30 ⟨v105, rfl, ho0, hb⟩; refine ⟨_, rfl, ?_⟩; have HO106 := A_ (Kd.R_lower (Kd.R_newB (Kd.R_newB ho0 (pkx B2)) (pkx B3)) (below_size (pbx HB))); replace B1 := bb_ B1 hb; replace B2 := bb_ B2 hb; replace B3 := bb_ B3 hb; replace HB := bs_ HB hb; ) | ((with_reducible refine gd_ 6 ?_); refine be_ (N:=6) (cs := #[.int .i64 0, .int .i64 0, .string (⟨#[]⟩ : ByteArray)]) (t:=26) ?_; intro gb110 hg w31 hbox hb; have BK110 := A_ (hbox); have GW110 := hs_ HB hg; have GE110 := hs_ HB hg; have NB101_110 := hl_ B1 hg; have NB110_101 := hr_ B1 hg; have NB102_110 := hl_ B2 hg; have NB110_102 := hr_ B2 hg; have NB103_110 := hl_ B3 hg; have NB110_103 := hr_ B3 hg; replace HO106 := A_ (Kd.R_below (Kd.R_elderB (ra_ HO106.out) gb110 (Nat.le_of_eq hg.symm)) hb); replace B1 := bb_ B1 hb; replace B2 := bb_ B2 hb; replace B3 := bb_ B3 hb; replace HB := bs_ HB hb; clear hb hbox hg; have hnb32 := NB110_101.out; have hnc32 := NB101_110.out; have hnb33 := NB110_102.out; have hnc33 := NB102_110.out; have hnb34 := NB110_103.out; have hnc34 := NB103_110.out; have ⟨hcz35_0,hcz35_1,hcz35_2,hfz35_0,hfz35_1,hfz35_2⟩ := z3_ BK110; obtain ⟨Ao36, co36, eo36⟩ := Kd.R_slice HO106.out; subst eo36) | ((with_reducible refine gate_callee (f:=23) rfl ?_); refine gL_ (some 19) rfl rfl Tryz.func23 rfl #[.int .i64 (t104.length : Int)] rfl ?_; (with_reducible refine (dec_Of.calls k (t104.length : Int) t111 t112 _ A20.out).mono ?_); rintro e w' ⟨rfl, ⟨nd, rfl⟩⟩; refine ⟨_, rfl, ?_⟩) | ((with_reducible refine gate_callee (f:=22) rfl ?_); refine gL_ (some 22) rfl rfl Tryz.func22 rfl #[.int .i64 t111, .bool t112] rfl ?_; (with_reducible refine (value_Got.calls t111 t112 t113 t114 t115 _ A21.out).mono ?_); rintro e w37 ⟨rfl, hb⟩; refine ⟨_, rfl, ?_⟩; replace HO106 := A_ (Kd.R_below (by (with_reducible repeat (first | apply Kd.R_alloc | apply Kd.R_drewN | apply Kd.R_drew)); exact (Kd.R_mono (Kd.R_far (p := ⟨gb110, 2, none⟩) (Kd.R_far (p := ⟨gb110, 1, none⟩) (Kd.R_far (p := ⟨gb110, 0, none⟩) (Kd.R_mono HO106.out (fun k_ hk => (⟨hk, hk.2⟩ : _ ∧ k_ ≠ gb110))) (fun _ hk => hk.2) (.int .i64 t107)) (fun _ hk => hk.2) (.int .i64 t108)) (fun _ hk => hk.2) (.string t109)) (fun _ h_ => h_.1))) hb); replace B1 := A_ (blk_below (g:=g1) (o := .cells #[.int .i64 a0_0, .int .i64 a0_1, .slice A0_2 l0_2.length c0_2] 24 (0, 0)) (by (iterate 3 refine pf_ ?_ NB101_110.out); exact pkx B1) hb); replace B2 := A_ (blk_below (g:=g2) (o := .cells #[.int .i64 a1_0, .int .i64 a1_1, .string a1_2] 26 (0, 0)) (by (iterate 3 refine pf_ ?_ NB102_110.out); exact pkx B2) hb); replace B3 := A_ (blk_below (g:=g3) (o := .cells #[.int .i64 0, .int .i64 0, .string (⟨#[]⟩ : ByteArray)] 26 (0, 0)) (by (iterate 3 refine pf_ ?_ NB103_110.out); exact pkx B3) hb); replace BK110 := A_ (blk_below (g:=gb110) (o := .cells #[.int .i64 t107, .int .i64 t108, .string t109] 26 (0, 0)) (by (iterate 3 apply pp_); exact pkx BK110; all_goals rfl) hb); replace HB := A_ (below_step (by repeat (first | (with_reducible first | exact HB.out | apply below_alloc | apply pw_below_drewN | apply below_drew1 | refine below_set ?_ GE101.out | refine below_set ?_ GE102.out | refine below_set ?_ GE103.out | refine below_set ?_ GE110.out) | exact HB.out)) hb); have ⟨hcz38_0,hcz38_1,hcz38_2,hfz38_0,hfz38_1,hfz38_2⟩ := z3_ B3))
  refine bodyPost_ret (results_cell_row rfl _ _ g3 26 #[.int .i64 t113, .int .i64 t114, .string t115] (0, 0) _ rfl (by (iterate 3 apply pp_); exact pkx B3; all_goals rfl) Tryz.underlying26 rfl (by kernel_rfl)) rfl ?_
  exact fi_ bl_

def fold_fault.l0 : Nat → List (S26) → Int → Int → Option (Int × Int × ByteArray)
 | 0, _, _, _ => none
 | k + 1, x5, x6, x7 => if x7 < x6 then (if 0 ≤ x7 then (if x7 < (x5.length : Int) then (if ((rd_T26 x5 x7).f0) = 4 then (some ((rd_T26 x5 x7).f0, (rd_T26 x5 x7).f1, (rd_T26 x5 x7).f2)) else (fold_fault.l0 k x5 x6 (wrap64 (x7 + 1)))) else (none)) else (none)) else (some (0, 0, (⟨#[]⟩ : ByteArray)))
def fold_fault.f (k : Nat) (l0 : List (S26)) : Option (Int × Int × ByteArray) := fold_fault.l0 k l0 (l0.length : Int) 0
theorem fold_fault.mono_l : ∀ k, (∀ y0 y1 y2, LeO (fold_fault.l0 k y0 y1 y2) (fold_fault.l0 (k + 1) y0 y1 y2))
 | 0 => fun _ _ _ r h => by simp [fold_fault.l0] at h
 | k + 1 => by
  have ih0 := fold_fault.mono_l k
  ·intro y0 y1 y2
   unfold fold_fault.l0
   exact mo_
theorem fold_fault.mono : ∀ a0 k, LeO (fold_fault.f k a0) (fold_fault.f (k + 1) a0) := by
 intro a0 k; have ih0 := fold_fault.mono_l k
 unfold fold_fault.f
 exact mo_
theorem fold_fault.calls (k : Nat) (A0 : Option Addr) (c0 : Nat) (l0 : List (S26)) (r1 : Int) (r2 : Int) (r3 : ByteArray) (w : World) (hr0 : Kd.C k26 w A0 l0.length l0) (hc0 : l0.length ≤ c0) (h : fold_fault.f k l0 = some (r1, r2, r3)) :
  Calls Tryz.prog 51 #[.slice A0 l0.length c0] w fun e w' => e = .returned (.agg #[.int .i64 r1, .int .i64 r2, .string r3]) ∧ Below w.heap.size w w' := by
 have hu26 := Tryz.underlying26; have HR0 := A_ hr0; have HC0 := A_ hc0; clear hr0 hc0; have HB := A_ (Below.refl w.heap.size w)
 have H : (fold_fault.l0 k l0 (l0.length : Int) 0) = some (r1, r2, r3) := h
 clear h
 have H' := A_ H
 clear H
 go_enter Tryz.func51, Tryz.ntmps51
 go_wp2_with (first | ((with_reducible refine gd_ 2 ?_); refine be_ (N:=2) (cs := #[.int .i64 0, .int .i64 0, .string (⟨#[]⟩ : ByteArray)]) (t:=26) ?_; intro g1 hg w2 hbox hb; have B1 := A_ (hbox); have GW101 := hs_ HB hg; have GE101 := hs_ HB hg; replace HB := bs_ HB hb; clear hb hbox hg))
 go_loopg [7] k (fun kq v7 w' => ∃ (x7_1 : Int) (x102000_1 : Int) (x102001_1 : Int) (x102002_1 : ByteArray), v7 = .int .i64 x7_1 ∧ Aside0 (fold_fault.l0 kq l0 (l0.length : Int) x7_1 = some (r1, r2, r3)) ∧ Aside0 (kq ≤ k) ∧ Aside0 (w'.heap[g1]? = some (.cells #[.int .i64 x102000_1, .int .i64 x102001_1, .string x102002_1] 26 (0, 0))) ∧ Aside0 (Below w.heap.size w w'))
 case atStart => exact ⟨(0), (0), (0), ((⟨#[]⟩ : ByteArray)), sq_, H', ⟨Nat.le_refl _⟩, ⟨pkx B1⟩, ⟨pbx HB⟩⟩
 case round =>
  clear H'; obtain ⟨x7_1, x102000_1, x102001_1, x102002_1, rfl, HA, HK1, B1, HB⟩ := hrel
  cases gk with
  | zero => exact absurd HA.out (by simp [fold_fault.l0])
  | succ k1 =>
   have H := HA.out; clear HA
   simp only [fold_fault.l0] at H
   by_cases c3 : x7_1 < (l0.length : Int)
   ·rw [if_pos c3] at H; have c3b0 := decide_eq_true c3; clear c3
    by_cases c4 : 0 ≤ x7_1
    ·rw [if_pos c4] at H; have c4b0 := decide_eq_true c4; clear c4
     by_cases c5 : x7_1 < (l0.length : Int)
     ·rw [if_pos c5] at H; have c5b0 := decide_eq_true c5; clear c5
      by_cases c6 : ((rd_T26 l0 x7_1).f0) = 4
      ·rw [if_pos c6] at H; have ⟨c6b0,c6b1⟩ := e1_ c6; clear c6
       simp only [Option.some.injEq, Prod.mk.injEq] at H
       obtain ⟨rfl, rfl, rfl⟩ := H
       have p102 : 0 ≤ (x7_1 : Int) := of_decide_eq_true as_
       have q102 : x7_1 < (l0.length : Int) := of_decide_eq_true as_
       obtain ⟨ad102, e102, hx102_0, hx102_1, hx102_2⟩ := at_T26 HR0.out x7_1 p102 q102
       cases e102
       replace hx102_0 := (HB.out.cell (World.block_lt_of_cell? w _ hx102_0)).trans hx102_0; replace hx102_1 := (HB.out.cell (World.block_lt_of_cell? w _ hx102_1)).trans hx102_1; replace hx102_2 := (HB.out.cell (World.block_lt_of_cell? w _ hx102_2)).trans hx102_2; replace p102 := eq_true p102; replace q102 := eq_true q102
       go_wp2_with (first | ((with_reducible refine gd_ 4 ?_); refine be_ (N:=4) (cs := #[.int .i64 0, .int .i64 0, .string (⟨#[]⟩ : ByteArray)]) (t:=26) ?_; intro g3 hg w7 hbox hb; have B3 := A_ (hbox); have GW103 := hs_ HB hg; have GE103 := hs_ HB hg; have N13 := hl_ B1 hg; have N31 := hr_ B1 hg; replace B1 := bb_ B1 hb; replace HB := bs_ HB hb; clear hb hbox hg; have hnb8 := N31.out; have hnc8 := N13.out; have ⟨hcz9_0,hcz9_1,hcz9_2,hfz9_0,hfz9_1,hfz9_2⟩ := z3_ B3; have ⟨hcz10_0,hcz10_1,hcz10_2,hfz10_0,hfz10_1,hfz10_2⟩ := z3_ B1))
       refine bodyPost_ret (results_cell_row rfl _ _ g1 26 #[.int .i64 ((rd_T26 l0 x7_1).f0), .int .i64 ((rd_T26 l0 x7_1).f1), .string ((rd_T26 l0 x7_1).f2)] (0, 0) _ rfl (by refine pp_ (cs := #[.int .i64 ((rd_T26 l0 x7_1).f0), .int .i64 ((rd_T26 l0 x7_1).f1), .string x102002_1]) 2 ?_ rfl; refine blk_put (cs := #[.int .i64 ((rd_T26 l0 x7_1).f0), .int .i64 x102001_1, .string x102002_1]) ?_ 1 _ rfl; refine blk_put (cs := #[.int .i64 x102000_1, .int .i64 x102001_1, .string x102002_1]) ?_ 0 _ rfl; (iterate 3 refine pf_ ?_ N13.out); exact pkx B1) Tryz.underlying26 rfl (by kernel_rfl)) rfl ?_
       exact fi_ bl_
      ·rw [if_neg c6] at H; have ⟨c6b0,c6b1⟩ := e0_ c6
       have H' := A_ H
       clear H
       have p102 : 0 ≤ (x7_1 : Int) := of_decide_eq_true as_
       have q102 : x7_1 < (l0.length : Int) := of_decide_eq_true as_
       obtain ⟨ad102, e102, hx102_0, hx102_1, hx102_2⟩ := at_T26 HR0.out x7_1 p102 q102
       cases e102
       replace hx102_0 := (HB.out.cell (World.block_lt_of_cell? w _ hx102_0)).trans hx102_0; replace hx102_1 := (HB.out.cell (World.block_lt_of_cell? w _ hx102_1)).trans hx102_1; replace hx102_2 := (HB.out.cell (World.block_lt_of_cell? w _ hx102_2)).trans hx102_2; replace p102 := eq_true p102; replace q102 := eq_true q102
       go_wp2_with (first | ((with_reducible refine gd_ 4 ?_); refine be_ (N:=4) (cs := #[.int .i64 0, .int .i64 0, .string (⟨#[]⟩ : ByteArray)]) (t:=26) ?_; intro g3 hg w11 hbox hb; have B3 := A_ (hbox); have GW103 := hs_ HB hg; have GE103 := hs_ HB hg; have N13 := hl_ B1 hg; have N31 := hr_ B1 hg; replace B1 := bb_ B1 hb; replace HB := bs_ HB hb; clear hb hbox hg; have hnb12 := N31.out; have hnc12 := N13.out; have ⟨hcz13_0,hcz13_1,hcz13_2,hfz13_0,hfz13_1,hfz13_2⟩ := z3_ B3))
       go_roundg k1
       case measure => have := HK1.out; omega
       case rel => exact ⟨(wrap64 (x7_1 + 1)), (x102000_1), (x102001_1), (x102002_1), sq_, H', ⟨by have := HK1.out; omega⟩, ⟨by (iterate 3 refine pf_ ?_ N13.out); exact pkx B1⟩, ⟨bl_⟩⟩
     ·rw [if_neg c5] at H
      exact absurd H (by simp)
    ·rw [if_neg c4] at H
     exact absurd H (by simp)
   ·rw [if_neg c3] at H; have c3b0 := decide_eq_false c3; clear c3
    simp only [Option.some.injEq, Prod.mk.injEq] at H
    obtain ⟨rfl, rfl, rfl⟩ := H
    have ⟨hcz14_0,hcz14_1,hcz14_2,hfz14_0,hfz14_1,hfz14_2⟩ := z3_ B1
    go_wp2
    refine bodyPost_ret (results_cell_row rfl _ _ g1 26 #[.int .i64 0, .int .i64 0, .string (⟨#[]⟩ : ByteArray)] (0, 0) _ rfl (by refine pp_ (cs := #[.int .i64 0, .int .i64 0, .string x102002_1]) 2 ?_ rfl; refine blk_put (cs := #[.int .i64 0, .int .i64 x102001_1, .string x102002_1]) ?_ 1 _ rfl; refine blk_put (cs := #[.int .i64 x102000_1, .int .i64 x102001_1, .string x102002_1]) ?_ 0 _ rfl; exact pkx B1) Tryz.underlying26 rfl (by kernel_rfl)) rfl ?_
    exact fi_ bl_

end Go.Proofs.YtejkoenlfcghbaaGreat.X
