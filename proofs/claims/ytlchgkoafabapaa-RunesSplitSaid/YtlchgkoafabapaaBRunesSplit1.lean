/- The law RunesSplit: for every input the call returns true, and each argument reads afterwards as it read before: the statement Rows.RunesSplitSaid, whole, with no condition of ours. -/
import Derived.Test.YtlchgkoafabapaaRows
import Derived.WalkKit
import Derived.ProofKit
import Derived.OpenShut
import Derived.ShutString
import Derived.ChangeOld
import Derived.Below
import Derived.SizedLaws
import Derived.Carry
import Derived.Test.YtlchgkoafabapaaBRunesSplit0
namespace Go.Proofs.Ytlchgkoafabapaa.X
open Go.RowKit Go.Proofs.YtlchgkoafabapaaW.PrintWords Go.Proofs.YtlchgkoafabapaaW.PrintLast Go.Proofs.YtlchgkoafabapaaW.PrintMore
attribute [local go_sem] max2_int min2_int max_two min_two max_three min_three max_four min_four   -- for this text's walks alone
set_option linter.unusedVariables false
set_option linter.unusedSimpArgs false

/-! ### oculusref13_Size: function 68 -/
mutual
def oculusref13_Size.j2 : Nat → ByteArray → Int → Int → Int → Option (Int)
  | 0, _, _, _, _ => none
  | k + 1, x0, x3, x4, x5 => if 0 < (x0.size : Int) then (if (bt x0 0) = 224 then (oculusref13_Size.j3 k x0 x3 160 x5) else (if (bt x0 0) = 237 then (oculusref13_Size.j3 k x0 x3 x4 159) else (if (bt x0 0) = 240 then (oculusref13_Size.j3 k x0 x3 144 x5) else (if (bt x0 0) = 244 then (oculusref13_Size.j3 k x0 x3 x4 143) else (oculusref13_Size.j3 k x0 x3 x4 x5))))) else (none)
def oculusref13_Size.j3 : Nat → ByteArray → Int → Int → Int → Option (Int)
  | 0, _, _, _, _ => none
  | k + 1, x0, x3, x4, x5 => if (x0.size : Int) < x3 then (some 1) else (oculusref13_Size.l0 k x0 x3 x4 x5 1)
def oculusref13_Size.l0 : Nat → ByteArray → Int → Int → Int → Int → Option (Int)
  | 0, _, _, _, _, _ => none
  | k + 1, x0, x3, x4, x5, x6 => if x6 < x3 then (if 0 ≤ x6 then (if x6 < (x0.size : Int) then (if (bt x0 x6) < x4 then (some 1) else (if (bt x0 x6) > x5 then (some 1) else (oculusref13_Size.l0 k x0 x3 128 191 (wrap64 (x6 + 1))))) else (none)) else (none)) else (some x3)
def oculusref13_Size.j0 : Nat → ByteArray → Int → Int → Int → Bool → Option (Int)
  | 0, _, _, _, _, _ => none
  | k + 1, x0, x3, x4, x5, x10 => if x10 = true then (oculusref13_Size.j2 k x0 2 x4 x5) else (if 0 < (x0.size : Int) then (if (bt x0 0) ≥ 224 then (oculusref13_Size.j1 k x0 x3 x4 x5 (decide ((bt x0 0) ≤ 239))) else (oculusref13_Size.j1 k x0 x3 x4 x5 false)) else (none))
def oculusref13_Size.j1 : Nat → ByteArray → Int → Int → Int → Bool → Option (Int)
  | 0, _, _, _, _, _ => none
  | k + 1, x0, x3, x4, x5, x19 => if x19 = true then (oculusref13_Size.j2 k x0 3 x4 x5) else (if 0 < (x0.size : Int) then (if (bt x0 0) ≥ 240 then (if (bt x0 0) ≤ 244 then (oculusref13_Size.j2 k x0 4 x4 x5) else (oculusref13_Size.j2 k x0 x3 x4 x5)) else (oculusref13_Size.j2 k x0 x3 x4 x5)) else (none))
end
def oculusref13_Size.f (k : Nat) (a0 : ByteArray) : Option (Int) := if (a0.size : Int) = 0 then (some 0) else (if 0 < (a0.size : Int) then (if (bt a0 0) ≥ 194 then (oculusref13_Size.j0 k a0 1 128 191 (decide ((bt a0 0) ≤ 223))) else (oculusref13_Size.j0 k a0 1 128 191 false)) else (none))
theorem oculusref13_Size.mono_l : ∀ k, (∀ y0 y1 y2 y3, LeO (oculusref13_Size.j2 k y0 y1 y2 y3) (oculusref13_Size.j2 (k + 1) y0 y1 y2 y3)) ∧ (∀ y0 y1 y2 y3, LeO (oculusref13_Size.j3 k y0 y1 y2 y3) (oculusref13_Size.j3 (k + 1) y0 y1 y2 y3)) ∧ (∀ y0 y1 y2 y3 y4, LeO (oculusref13_Size.l0 k y0 y1 y2 y3 y4) (oculusref13_Size.l0 (k + 1) y0 y1 y2 y3 y4)) ∧ (∀ y0 y1 y2 y3 y4, LeO (oculusref13_Size.j0 k y0 y1 y2 y3 y4) (oculusref13_Size.j0 (k + 1) y0 y1 y2 y3 y4)) ∧ (∀ y0 y1 y2 y3 y4, LeO (oculusref13_Size.j1 k y0 y1 y2 y3 y4) (oculusref13_Size.j1 (k + 1) y0 y1 y2 y3 y4))
  | 0 => ⟨fun _ _ _ _ r h => by simp [oculusref13_Size.j2] at h, fun _ _ _ _ r h => by simp [oculusref13_Size.j3] at h, fun _ _ _ _ _ r h => by simp [oculusref13_Size.l0] at h, fun _ _ _ _ _ r h => by simp [oculusref13_Size.j0] at h, fun _ _ _ _ _ r h => by simp [oculusref13_Size.j1] at h⟩
  | k + 1 => by
    obtain ⟨ih0, ih1, ih2, ih3, ih4⟩ := oculusref13_Size.mono_l k
    refine ⟨?_, ?_, ?_, ?_, ?_⟩
    · intro y0 y1 y2 y3
      unfold oculusref13_Size.j2
      repeat' first
      | (with_reducible exact ih0 _ _ _ _)
      | (with_reducible exact ih1 _ _ _ _)
      | (with_reducible exact ih2 _ _ _ _ _)
      | (with_reducible exact ih3 _ _ _ _ _)
      | (with_reducible exact ih4 _ _ _ _ _)
      | (with_reducible exact LeO.refl _)
      | (with_reducible exact LeO.none _)
      | (with_reducible refine LeO.ite ?_ ?_)
      | (with_reducible refine LeO.bind ?_ (fun _ => ?_))
      | exact ih0 _ _ _ _
      | exact ih1 _ _ _ _
      | exact ih2 _ _ _ _ _
      | exact ih3 _ _ _ _ _
      | exact ih4 _ _ _ _ _
      | exact LeO.none _
      | refine LeO.ite ?_ ?_
      | refine LeO.bind ?_ (fun _ => ?_)
    · intro y0 y1 y2 y3
      unfold oculusref13_Size.j3
      repeat' first
      | (with_reducible exact ih0 _ _ _ _)
      | (with_reducible exact ih1 _ _ _ _)
      | (with_reducible exact ih2 _ _ _ _ _)
      | (with_reducible exact ih3 _ _ _ _ _)
      | (with_reducible exact ih4 _ _ _ _ _)
      | (with_reducible exact LeO.refl _)
      | (with_reducible exact LeO.none _)
      | (with_reducible refine LeO.ite ?_ ?_)
      | (with_reducible refine LeO.bind ?_ (fun _ => ?_))
      | exact ih0 _ _ _ _
      | exact ih1 _ _ _ _
      | exact ih2 _ _ _ _ _
      | exact ih3 _ _ _ _ _
      | exact ih4 _ _ _ _ _
      | exact LeO.none _
      | refine LeO.ite ?_ ?_
      | refine LeO.bind ?_ (fun _ => ?_)
    · intro y0 y1 y2 y3 y4
      unfold oculusref13_Size.l0
      repeat' first
      | (with_reducible exact ih0 _ _ _ _)
      | (with_reducible exact ih1 _ _ _ _)
      | (with_reducible exact ih2 _ _ _ _ _)
      | (with_reducible exact ih3 _ _ _ _ _)
      | (with_reducible exact ih4 _ _ _ _ _)
      | (with_reducible exact LeO.refl _)
      | (with_reducible exact LeO.none _)
      | (with_reducible refine LeO.ite ?_ ?_)
      | (with_reducible refine LeO.bind ?_ (fun _ => ?_))
      | exact ih0 _ _ _ _
      | exact ih1 _ _ _ _
      | exact ih2 _ _ _ _ _
      | exact ih3 _ _ _ _ _
      | exact ih4 _ _ _ _ _
      | exact LeO.none _
      | refine LeO.ite ?_ ?_
      | refine LeO.bind ?_ (fun _ => ?_)
    · intro y0 y1 y2 y3 y4
      unfold oculusref13_Size.j0
      repeat' first
      | (with_reducible exact ih0 _ _ _ _)
      | (with_reducible exact ih1 _ _ _ _)
      | (with_reducible exact ih2 _ _ _ _ _)
      | (with_reducible exact ih3 _ _ _ _ _)
      | (with_reducible exact ih4 _ _ _ _ _)
      | (with_reducible exact LeO.refl _)
      | (with_reducible exact LeO.none _)
      | (with_reducible refine LeO.ite ?_ ?_)
      | (with_reducible refine LeO.bind ?_ (fun _ => ?_))
      | exact ih0 _ _ _ _
      | exact ih1 _ _ _ _
      | exact ih2 _ _ _ _ _
      | exact ih3 _ _ _ _ _
      | exact ih4 _ _ _ _ _
      | exact LeO.none _
      | refine LeO.ite ?_ ?_
      | refine LeO.bind ?_ (fun _ => ?_)
    · intro y0 y1 y2 y3 y4
      unfold oculusref13_Size.j1
      repeat' first
      | (with_reducible exact ih0 _ _ _ _)
      | (with_reducible exact ih1 _ _ _ _)
      | (with_reducible exact ih2 _ _ _ _ _)
      | (with_reducible exact ih3 _ _ _ _ _)
      | (with_reducible exact ih4 _ _ _ _ _)
      | (with_reducible exact LeO.refl _)
      | (with_reducible exact LeO.none _)
      | (with_reducible refine LeO.ite ?_ ?_)
      | (with_reducible refine LeO.bind ?_ (fun _ => ?_))
      | exact ih0 _ _ _ _
      | exact ih1 _ _ _ _
      | exact ih2 _ _ _ _ _
      | exact ih3 _ _ _ _ _
      | exact ih4 _ _ _ _ _
      | exact LeO.none _
      | refine LeO.ite ?_ ?_
      | refine LeO.bind ?_ (fun _ => ?_)
theorem oculusref13_Size.mono : ∀ a0 k, LeO (oculusref13_Size.f k a0) (oculusref13_Size.f (k + 1) a0) := by
  intro a0 k
  obtain ⟨ih0, ih1, ih2, ih3, ih4⟩ := oculusref13_Size.mono_l k
  unfold oculusref13_Size.f
  repeat' first
      | (with_reducible exact ih0 _ _ _ _)
      | (with_reducible exact ih1 _ _ _ _)
      | (with_reducible exact ih2 _ _ _ _ _)
      | (with_reducible exact ih3 _ _ _ _ _)
      | (with_reducible exact ih4 _ _ _ _ _)
      | (with_reducible exact LeO.refl _)
      | (with_reducible exact LeO.none _)
      | (with_reducible refine LeO.ite ?_ ?_)
      | (with_reducible refine LeO.bind ?_ (fun _ => ?_))
      | exact ih0 _ _ _ _
      | exact ih1 _ _ _ _
      | exact ih2 _ _ _ _ _
      | exact ih3 _ _ _ _ _
      | exact ih4 _ _ _ _ _
      | exact LeO.none _
      | refine LeO.ite ?_ ?_
      | refine LeO.bind ?_ (fun _ => ?_)
set_option maxHeartbeats 8000000 in
set_option maxRecDepth 100000 in
theorem oculusref13_Size.calls (k : Nat) (a0 : ByteArray) (r : Int) (w : World) (h : oculusref13_Size.f k a0 = some r) :
    Calls Try.prog 68 #[.string a0] w fun e w' => e = .returned (.int .i64 r) ∧ Drawn0 w w' := by
  have H : (if (a0.size : Int) = 0 then (some 0) else (if 0 < (a0.size : Int) then (if (bt a0 0) ≥ 194 then (oculusref13_Size.j0 k a0 1 128 191 (decide ((bt a0 0) ≤ 223))) else (oculusref13_Size.j0 k a0 1 128 191 false)) else (none))) = some r := h
  clear h
  by_cases c2 : (a0.size : Int) = 0
  · rw [if_pos c2] at H
    have c2b0 : ((a0.size : Int) == 0) = true := beq_iff_eq.mpr c2
    have c2b1 : ((a0.size : Int) != 0) = false := bne_eq_false_iff_eq.mpr c2
    clear c2
    obtain rfl := Option.some.inj H
    go_enter Try.func68, Try.ntmps68
    go_wp2
    go_ret
    exact ⟨by first | rfl | (simp; done) | (simp [*]; done), by repeat (first | exact Drawn0.refl _ | apply Drawn0.step)⟩
  · rw [if_neg c2] at H
    have c2b0 : ((a0.size : Int) == 0) = false := beq_eq_false_iff_ne.mpr c2
    have c2b1 : ((a0.size : Int) != 0) = true := bne_iff_ne.mpr c2
    have HC3 := Aside0.mk H
    clear H
    go_enter Try.func68, Try.ntmps68
    go_upto_block 0 with (fail)
    go_cut [3] (fun v3 wc => ∃ (kq : Nat) (x3_2 : Int), v3 = .int .i64 x3_2 ∧ Aside0 (oculusref13_Size.j2 kq a0 x3_2 128 191 = some r) ∧ Aside0 (kq ≤ k) ∧ Drawn0 w wc)
    case first =>
      have H := HC3.out
      clear HC3
      have HC4 := Aside0.mk H
      clear H
      go_upto_region 4 with (fail)
      go_cut [10] (fun v10 wc => ∃ (kq : Nat) (x10_3 : Bool), v10 = .bool x10_3 ∧ Aside0 (oculusref13_Size.j0 kq a0 1 128 191 x10_3 = some r) ∧ Aside0 (kq ≤ k) ∧ Drawn0 w wc)
      case first =>
        have H := HC4.out
        clear HC4
        by_cases c5 : 0 < (a0.size : Int)
        · rw [if_pos c5] at H
          have c5b0 : decide (0 < (a0.size : Int)) = true := decide_eq_true c5
          have c5b1 : decide (0 < a0.size) = true := decide_eq_true (by omega)
          clear c5
          (first | rw [c5b0] | (simp only [i64_w, i32_w]; rw [c5b0]) | skip)
          by_cases c7 : (bt a0 0) ≥ 194
          · rw [if_pos c7] at H
            have c7b0 : decide (194 ≤ (bt a0 0)) = true := decide_eq_true c7
            clear c7
            have H' := Aside0.mk H
            clear H
            have p6 : 0 ≤ (0 : Int) := (by omega)
            have q6 : 0 < a0.size := (by have : (0 : Int) < (a0.size : Int) := of_decide_eq_true (by first | (with_reducible assumption) | assumption); omega)
            have hx6 : ∀ h : 0 < a0.size, ((a0[0]'h).toNat : Int) = bt a0 0 := bt_at a0 0
            clear p6
            have qi6 : (0 < (a0.size : Int)) = True := eq_true (of_decide_eq_true (by first | (with_reducible assumption) | assumption))
            replace q6 := eq_true q6
            have p8 : 0 ≤ (0 : Int) := (by omega)
            have q8 : 0 < a0.size := (by have : (0 : Int) < (a0.size : Int) := of_decide_eq_true (by first | (with_reducible assumption) | assumption); omega)
            have hx8 : ∀ h : 0 < a0.size, ((a0[0]'h).toNat : Int) = bt a0 0 := bt_at a0 0
            clear p8
            have qi8 : (0 < (a0.size : Int)) = True := eq_true (of_decide_eq_true (by first | (with_reducible assumption) | assumption))
            replace q8 := eq_true q8
            go_wp2
            go_meet
            case rel => exact ⟨_, (decide ((bt a0 0) ≤ 223)), (by first | rfl | (simp; done) | (simp [*]; done)), H', ⟨by first | omega | exact Nat.le_refl _⟩, by repeat (first | exact Drawn0.refl _ | apply Drawn0.step)⟩
          · rw [if_neg c7] at H
            have c7b0 : decide (194 ≤ (bt a0 0)) = false := decide_eq_false c7
            clear c7
            have H' := Aside0.mk H
            clear H
            have p6 : 0 ≤ (0 : Int) := (by omega)
            have q6 : 0 < a0.size := (by have : (0 : Int) < (a0.size : Int) := of_decide_eq_true (by first | (with_reducible assumption) | assumption); omega)
            have hx6 : ∀ h : 0 < a0.size, ((a0[0]'h).toNat : Int) = bt a0 0 := bt_at a0 0
            clear p6
            have qi6 : (0 < (a0.size : Int)) = True := eq_true (of_decide_eq_true (by first | (with_reducible assumption) | assumption))
            replace q6 := eq_true q6
            go_wp2
            go_meet
            case rel => exact ⟨_, (false), (by first | rfl | (simp; done) | (simp [*]; done)), H', ⟨by first | omega | exact Nat.le_refl _⟩, by repeat (first | exact Drawn0.refl _ | apply Drawn0.step)⟩
        · rw [if_neg c5] at H
          exact absurd H (by simp)
      case rest =>
        clear HC4
        try clear c2
        try clear c2b0
        try clear c2b1
        try clear p2
        try clear c5
        try clear c5b0
        try clear c5b1
        try clear c6
        try clear p6
        try clear q6
        try clear hx6
        try clear qi6
        try clear c7
        try clear c7b0
        try clear p8
        try clear q8
        try clear hx8
        try clear qi8
        try clear p6
        try clear p8
        try clear q6
        try clear q8
        obtain ⟨kq, x10_3, rfl, HA, HJ3, ⟨mc3, rfl⟩⟩ := hcut
        cases kq with
        | zero => exact absurd HA.out (by simp [oculusref13_Size.j0])
        | succ kj3 =>
          have H := HA.out
          clear HA
          simp only [oculusref13_Size.j0] at H
          by_cases c9 : x10_3 = true
          · subst c9
            have H1 : (oculusref13_Size.j2 kj3 a0 2 128 191) = some r := by rw [if_pos rfl] at H; exact H
            clear H
            have H := H1
            clear H1
            have H' := Aside0.mk H
            clear H
            go_wp2
            go_meet
            case rel => exact ⟨_, (2), (by first | rfl | (simp; done) | (simp [*]; done)), H', ⟨by have := HJ3.out; first | omega | exact Nat.le_refl _⟩, by repeat (first | exact Drawn0.refl _ | apply Drawn0.step)⟩
          · replace c9 := Bool.eq_false_iff.mpr c9
            subst c9
            have H1 : (if 0 < (a0.size : Int) then (if (bt a0 0) ≥ 224 then (oculusref13_Size.j1 kj3 a0 1 128 191 (decide ((bt a0 0) ≤ 239))) else (oculusref13_Size.j1 kj3 a0 1 128 191 false)) else (none)) = some r := by rw [if_neg (show ¬ (false = true) by decide)] at H; exact H
            clear H
            have H := H1
            clear H1
            have HC10 := Aside0.mk H
            clear H
            go_upto_region 6 with (fail)
            go_cut [19] (fun v19 wc => ∃ (kq : Nat) (x19_9 : Bool), v19 = .bool x19_9 ∧ Aside0 (oculusref13_Size.j1 kq a0 1 128 191 x19_9 = some r) ∧ Aside0 (kq ≤ kj3) ∧ Drawn0 w wc)
            case first =>
              have H := HC10.out
              clear HC10
              by_cases c11 : 0 < (a0.size : Int)
              · rw [if_pos c11] at H
                have c11b0 : decide (0 < (a0.size : Int)) = true := decide_eq_true c11
                have c11b1 : decide (0 < a0.size) = true := decide_eq_true (by omega)
                clear c11
                (first | rw [c11b0] | (simp only [i64_w, i32_w]; rw [c11b0]) | skip)
                by_cases c13 : (bt a0 0) ≥ 224
                · rw [if_pos c13] at H
                  have c13b0 : decide (224 ≤ (bt a0 0)) = true := decide_eq_true c13
                  clear c13
                  have H' := Aside0.mk H
                  clear H
                  have p12 : 0 ≤ (0 : Int) := (by omega)
                  have q12 : 0 < a0.size := (by have : (0 : Int) < (a0.size : Int) := of_decide_eq_true (by first | (with_reducible assumption) | assumption); omega)
                  have hx12 : ∀ h : 0 < a0.size, ((a0[0]'h).toNat : Int) = bt a0 0 := bt_at a0 0
                  clear p12
                  have qi12 : (0 < (a0.size : Int)) = True := eq_true (of_decide_eq_true (by first | (with_reducible assumption) | assumption))
                  replace q12 := eq_true q12
                  have p14 : 0 ≤ (0 : Int) := (by omega)
                  have q14 : 0 < a0.size := (by have : (0 : Int) < (a0.size : Int) := of_decide_eq_true (by first | (with_reducible assumption) | assumption); omega)
                  have hx14 : ∀ h : 0 < a0.size, ((a0[0]'h).toNat : Int) = bt a0 0 := bt_at a0 0
                  clear p14
                  have qi14 : (0 < (a0.size : Int)) = True := eq_true (of_decide_eq_true (by first | (with_reducible assumption) | assumption))
                  replace q14 := eq_true q14
                  go_wp2
                  go_meet
                  case rel => exact ⟨_, (decide ((bt a0 0) ≤ 239)), (by first | rfl | (simp; done) | (simp [*]; done)), H', ⟨by have := HJ3.out; first | omega | exact Nat.le_refl _⟩, by repeat (first | exact Drawn0.refl _ | apply Drawn0.step)⟩
                · rw [if_neg c13] at H
                  have c13b0 : decide (224 ≤ (bt a0 0)) = false := decide_eq_false c13
                  clear c13
                  have H' := Aside0.mk H
                  clear H
                  have p12 : 0 ≤ (0 : Int) := (by omega)
                  have q12 : 0 < a0.size := (by have : (0 : Int) < (a0.size : Int) := of_decide_eq_true (by first | (with_reducible assumption) | assumption); omega)
                  have hx12 : ∀ h : 0 < a0.size, ((a0[0]'h).toNat : Int) = bt a0 0 := bt_at a0 0
                  clear p12
                  have qi12 : (0 < (a0.size : Int)) = True := eq_true (of_decide_eq_true (by first | (with_reducible assumption) | assumption))
                  replace q12 := eq_true q12
                  go_wp2
                  go_meet
                  case rel => exact ⟨_, (false), (by first | rfl | (simp; done) | (simp [*]; done)), H', ⟨by have := HJ3.out; first | omega | exact Nat.le_refl _⟩, by repeat (first | exact Drawn0.refl _ | apply Drawn0.step)⟩
              · rw [if_neg c11] at H
                exact absurd H (by simp)
            case rest =>
              clear HC10
              try clear c1
              try clear p1
              try clear q1
              try clear hx1
              try clear qi1
              try clear c2
              try clear c2b0
              try clear c2b1
              try clear p2
              try clear c3
              try clear c5
              try clear c5b0
              try clear c5b1
              try clear c6
              try clear p6
              try clear q6
              try clear hx6
              try clear qi6
              try clear c7
              try clear c7b0
              try clear p8
              try clear q8
              try clear hx8
              try clear qi8
              try clear c9
              try clear c11
              try clear c11b0
              try clear c11b1
              try clear p12
              try clear q12
              try clear hx12
              try clear qi12
              try clear c13
              try clear c13b0
              try clear p14
              try clear q14
              try clear hx14
              try clear qi14
              try clear p12
              try clear p14
              try clear p2
              try clear p6
              try clear p8
              try clear q12
              try clear q14
              try clear q6
              try clear q8
              obtain ⟨kq, x19_9, rfl, HA, HJ9, ⟨mc9, rfl⟩⟩ := hcut
              cases kq with
              | zero => exact absurd HA.out (by simp [oculusref13_Size.j1])
              | succ kj9 =>
                have H := HA.out
                clear HA
                simp only [oculusref13_Size.j1] at H
                by_cases c15 : x19_9 = true
                · subst c15
                  have H1 : (oculusref13_Size.j2 kj9 a0 3 128 191) = some r := by rw [if_pos rfl] at H; exact H
                  clear H
                  have H := H1
                  clear H1
                  have H' := Aside0.mk H
                  clear H
                  go_wp2
                  go_meet
                  case rel => exact ⟨_, (3), (by first | rfl | (simp; done) | (simp [*]; done)), H', ⟨by have := HJ3.out; have := HJ9.out; first | omega | exact Nat.le_refl _⟩, by repeat (first | exact Drawn0.refl _ | apply Drawn0.step)⟩
                · replace c15 := Bool.eq_false_iff.mpr c15
                  subst c15
                  have H1 : (if 0 < (a0.size : Int) then (if (bt a0 0) ≥ 240 then (if (bt a0 0) ≤ 244 then (oculusref13_Size.j2 kj9 a0 4 128 191) else (oculusref13_Size.j2 kj9 a0 1 128 191)) else (oculusref13_Size.j2 kj9 a0 1 128 191)) else (none)) = some r := by rw [if_neg (show ¬ (false = true) by decide)] at H; exact H
                  clear H
                  have H := H1
                  clear H1
                  by_cases c16 : 0 < (a0.size : Int)
                  · rw [if_pos c16] at H
                    have c16b0 : decide (0 < (a0.size : Int)) = true := decide_eq_true c16
                    have c16b1 : decide (0 < a0.size) = true := decide_eq_true (by omega)
                    clear c16
                    by_cases c18 : (bt a0 0) ≥ 240
                    · rw [if_pos c18] at H
                      have c18b0 : decide (240 ≤ (bt a0 0)) = true := decide_eq_true c18
                      clear c18
                      by_cases c20 : (bt a0 0) ≤ 244
                      · rw [if_pos c20] at H
                        have c20b0 : decide ((bt a0 0) ≤ 244) = true := decide_eq_true c20
                        clear c20
                        have H' := Aside0.mk H
                        clear H
                        have p17 : 0 ≤ (0 : Int) := (by omega)
                        have q17 : 0 < a0.size := (by have : (0 : Int) < (a0.size : Int) := of_decide_eq_true (by first | (with_reducible assumption) | assumption); omega)
                        have hx17 : ∀ h : 0 < a0.size, ((a0[0]'h).toNat : Int) = bt a0 0 := bt_at a0 0
                        clear p17
                        have qi17 : (0 < (a0.size : Int)) = True := eq_true (of_decide_eq_true (by first | (with_reducible assumption) | assumption))
                        replace q17 := eq_true q17
                        have p19 : 0 ≤ (0 : Int) := (by omega)
                        have q19 : 0 < a0.size := (by have : (0 : Int) < (a0.size : Int) := of_decide_eq_true (by first | (with_reducible assumption) | assumption); omega)
                        have hx19 : ∀ h : 0 < a0.size, ((a0[0]'h).toNat : Int) = bt a0 0 := bt_at a0 0
                        clear p19
                        have qi19 : (0 < (a0.size : Int)) = True := eq_true (of_decide_eq_true (by first | (with_reducible assumption) | assumption))
                        replace q19 := eq_true q19
                        go_wp2
                        go_meet
                        case rel => exact ⟨_, (4), (by first | rfl | (simp; done) | (simp [*]; done)), H', ⟨by have := HJ3.out; have := HJ9.out; first | omega | exact Nat.le_refl _⟩, by repeat (first | exact Drawn0.refl _ | apply Drawn0.step)⟩
                      · rw [if_neg c20] at H
                        have c20b0 : decide ((bt a0 0) ≤ 244) = false := decide_eq_false c20
                        clear c20
                        have H' := Aside0.mk H
                        clear H
                        have p17 : 0 ≤ (0 : Int) := (by omega)
                        have q17 : 0 < a0.size := (by have : (0 : Int) < (a0.size : Int) := of_decide_eq_true (by first | (with_reducible assumption) | assumption); omega)
                        have hx17 : ∀ h : 0 < a0.size, ((a0[0]'h).toNat : Int) = bt a0 0 := bt_at a0 0
                        clear p17
                        have qi17 : (0 < (a0.size : Int)) = True := eq_true (of_decide_eq_true (by first | (with_reducible assumption) | assumption))
                        replace q17 := eq_true q17
                        have p19 : 0 ≤ (0 : Int) := (by omega)
                        have q19 : 0 < a0.size := (by have : (0 : Int) < (a0.size : Int) := of_decide_eq_true (by first | (with_reducible assumption) | assumption); omega)
                        have hx19 : ∀ h : 0 < a0.size, ((a0[0]'h).toNat : Int) = bt a0 0 := bt_at a0 0
                        clear p19
                        have qi19 : (0 < (a0.size : Int)) = True := eq_true (of_decide_eq_true (by first | (with_reducible assumption) | assumption))
                        replace q19 := eq_true q19
                        go_wp2
                        go_meet
                        case rel => exact ⟨_, (1), (by first | rfl | (simp; done) | (simp [*]; done)), H', ⟨by have := HJ3.out; have := HJ9.out; first | omega | exact Nat.le_refl _⟩, by repeat (first | exact Drawn0.refl _ | apply Drawn0.step)⟩
                    · rw [if_neg c18] at H
                      have c18b0 : decide (240 ≤ (bt a0 0)) = false := decide_eq_false c18
                      clear c18
                      have H' := Aside0.mk H
                      clear H
                      have p17 : 0 ≤ (0 : Int) := (by omega)
                      have q17 : 0 < a0.size := (by have : (0 : Int) < (a0.size : Int) := of_decide_eq_true (by first | (with_reducible assumption) | assumption); omega)
                      have hx17 : ∀ h : 0 < a0.size, ((a0[0]'h).toNat : Int) = bt a0 0 := bt_at a0 0
                      clear p17
                      have qi17 : (0 < (a0.size : Int)) = True := eq_true (of_decide_eq_true (by first | (with_reducible assumption) | assumption))
                      replace q17 := eq_true q17
                      go_wp2
                      go_meet
                      case rel => exact ⟨_, (1), (by first | rfl | (simp; done) | (simp [*]; done)), H', ⟨by have := HJ3.out; have := HJ9.out; first | omega | exact Nat.le_refl _⟩, by repeat (first | exact Drawn0.refl _ | apply Drawn0.step)⟩
                  · rw [if_neg c16] at H
                    exact absurd H (by simp)
    case rest =>
      clear HC3
      try clear c1
      try clear p1
      try clear q1
      try clear hx1
      try clear qi1
      try clear c2
      try clear c2b0
      try clear c2b1
      try clear p2
      try clear c3
      try clear c5
      try clear c5b0
      try clear c5b1
      try clear c6
      try clear p6
      try clear q6
      try clear hx6
      try clear qi6
      try clear c7
      try clear c7b0
      try clear p8
      try clear q8
      try clear hx8
      try clear qi8
      try clear c9
      try clear c11
      try clear c11b0
      try clear c11b1
      try clear p12
      try clear q12
      try clear hx12
      try clear qi12
      try clear c13
      try clear c13b0
      try clear p14
      try clear q14
      try clear hx14
      try clear qi14
      try clear c15
      try clear c16
      try clear c16b0
      try clear c16b1
      try clear p17
      try clear q17
      try clear hx17
      try clear qi17
      try clear c18
      try clear c18b0
      try clear p19
      try clear q19
      try clear hx19
      try clear qi19
      try clear c20
      try clear c20b0
      try clear p1
      try clear p12
      try clear p14
      try clear p17
      try clear p19
      try clear p2
      try clear p6
      try clear p8
      try clear q1
      try clear q12
      try clear q14
      try clear q17
      try clear q19
      try clear q6
      try clear q8
      obtain ⟨kq, x3_2, rfl, HA, HJ2, ⟨mc2, rfl⟩⟩ := hcut
      cases kq with
      | zero => exact absurd HA.out (by simp [oculusref13_Size.j2])
      | succ kj2 =>
        have H := HA.out
        clear HA
        simp only [oculusref13_Size.j2] at H
        by_cases c21 : 0 < (a0.size : Int)
        · rw [if_pos c21] at H
          have c21b0 : decide (0 < (a0.size : Int)) = true := decide_eq_true c21
          have c21b1 : decide (0 < a0.size) = true := decide_eq_true (by omega)
          clear c21
          have HC23 := Aside0.mk H
          clear H
          have p22 : 0 ≤ (0 : Int) := (by omega)
          have q22 : 0 < a0.size := (by have : (0 : Int) < (a0.size : Int) := of_decide_eq_true (by first | (with_reducible assumption) | assumption); omega)
          have hx22 : ∀ h : 0 < a0.size, ((a0[0]'h).toNat : Int) = bt a0 0 := bt_at a0 0
          clear p22
          have qi22 : (0 < (a0.size : Int)) = True := eq_true (of_decide_eq_true (by first | (with_reducible assumption) | assumption))
          replace q22 := eq_true q22
          go_upto_block 1 with (fail)
          go_cut [4, 5] (fun v4 v5 wc => ∃ (kq : Nat) (x4_22 : Int) (x5_22 : Int), v4 = .int .u8 x4_22 ∧ v5 = .int .u8 x5_22 ∧ Aside0 (oculusref13_Size.j3 kq a0 x3_2 x4_22 x5_22 = some r) ∧ Aside0 (kq ≤ kj2) ∧ Drawn0 w wc)
          case first =>
            have H := HC23.out
            clear HC23
            by_cases c24 : (bt a0 0) = 224
            · rw [if_pos c24] at H
              have c24b0 : ((bt a0 0) == 224) = true := beq_iff_eq.mpr c24
              have c24b1 : ((bt a0 0) != 224) = false := bne_eq_false_iff_eq.mpr c24
              clear c24
              (first | rw [c24b0] | (simp only [i64_w, i32_w]; rw [c24b0]) | skip)
              have H' := Aside0.mk H
              clear H
              go_wp2
              go_meet
              case rel => exact ⟨_, (160), (191), (by first | rfl | (simp; done) | (simp [*]; done)), (by first | rfl | (simp; done) | (simp [*]; done)), H', ⟨by have := HJ2.out; first | omega | exact Nat.le_refl _⟩, by repeat (first | exact Drawn0.refl _ | apply Drawn0.step)⟩
            · rw [if_neg c24] at H
              have c24b0 : ((bt a0 0) == 224) = false := beq_eq_false_iff_ne.mpr c24
              have c24b1 : ((bt a0 0) != 224) = true := bne_iff_ne.mpr c24
              (first | rw [c24b0] | (simp only [i64_w, i32_w]; rw [c24b0]) | skip)
              by_cases c25 : (bt a0 0) = 237
              · rw [if_pos c25] at H
                have c25b0 : ((bt a0 0) == 237) = true := beq_iff_eq.mpr c25
                have c25b1 : ((bt a0 0) != 237) = false := bne_eq_false_iff_eq.mpr c25
                clear c25
                have H' := Aside0.mk H
                clear H
                go_wp2
                go_meet
                case rel => exact ⟨_, (128), (159), (by first | rfl | (simp; done) | (simp [*]; done)), (by first | rfl | (simp; done) | (simp [*]; done)), H', ⟨by have := HJ2.out; first | omega | exact Nat.le_refl _⟩, by repeat (first | exact Drawn0.refl _ | apply Drawn0.step)⟩
              · rw [if_neg c25] at H
                have c25b0 : ((bt a0 0) == 237) = false := beq_eq_false_iff_ne.mpr c25
                have c25b1 : ((bt a0 0) != 237) = true := bne_iff_ne.mpr c25
                by_cases c26 : (bt a0 0) = 240
                · rw [if_pos c26] at H
                  have c26b0 : ((bt a0 0) == 240) = true := beq_iff_eq.mpr c26
                  have c26b1 : ((bt a0 0) != 240) = false := bne_eq_false_iff_eq.mpr c26
                  clear c26
                  have H' := Aside0.mk H
                  clear H
                  go_wp2
                  go_meet
                  case rel => exact ⟨_, (144), (191), (by first | rfl | (simp; done) | (simp [*]; done)), (by first | rfl | (simp; done) | (simp [*]; done)), H', ⟨by have := HJ2.out; first | omega | exact Nat.le_refl _⟩, by repeat (first | exact Drawn0.refl _ | apply Drawn0.step)⟩
                · rw [if_neg c26] at H
                  have c26b0 : ((bt a0 0) == 240) = false := beq_eq_false_iff_ne.mpr c26
                  have c26b1 : ((bt a0 0) != 240) = true := bne_iff_ne.mpr c26
                  by_cases c27 : (bt a0 0) = 244
                  · rw [if_pos c27] at H
                    have c27b0 : ((bt a0 0) == 244) = true := beq_iff_eq.mpr c27
                    have c27b1 : ((bt a0 0) != 244) = false := bne_eq_false_iff_eq.mpr c27
                    clear c27
                    have H' := Aside0.mk H
                    clear H
                    go_wp2
                    go_meet
                    case rel => exact ⟨_, (128), (143), (by first | rfl | (simp; done) | (simp [*]; done)), (by first | rfl | (simp; done) | (simp [*]; done)), H', ⟨by have := HJ2.out; first | omega | exact Nat.le_refl _⟩, by repeat (first | exact Drawn0.refl _ | apply Drawn0.step)⟩
                  · rw [if_neg c27] at H
                    have c27b0 : ((bt a0 0) == 244) = false := beq_eq_false_iff_ne.mpr c27
                    have c27b1 : ((bt a0 0) != 244) = true := bne_iff_ne.mpr c27
                    have H' := Aside0.mk H
                    clear H
                    go_wp2
                    go_meet
                    case rel => exact ⟨_, (128), (191), (by first | rfl | (simp; done) | (simp [*]; done)), (by first | rfl | (simp; done) | (simp [*]; done)), H', ⟨by have := HJ2.out; first | omega | exact Nat.le_refl _⟩, by repeat (first | exact Drawn0.refl _ | apply Drawn0.step)⟩
          case rest =>
            clear HC23
            try clear c1
            try clear p1
            try clear q1
            try clear hx1
            try clear qi1
            try clear c2
            try clear c2b0
            try clear c2b1
            try clear p2
            try clear q2
            try clear hx2
            try clear qi2
            try clear c3
            try clear c5
            try clear c5b0
            try clear c5b1
            try clear c6
            try clear p6
            try clear q6
            try clear hx6
            try clear qi6
            try clear c7
            try clear c7b0
            try clear p8
            try clear q8
            try clear hx8
            try clear qi8
            try clear c9
            try clear c11
            try clear c11b0
            try clear c11b1
            try clear p12
            try clear q12
            try clear hx12
            try clear qi12
            try clear c13
            try clear c13b0
            try clear p14
            try clear q14
            try clear hx14
            try clear qi14
            try clear c15
            try clear c16
            try clear c16b0
            try clear c16b1
            try clear p17
            try clear q17
            try clear hx17
            try clear qi17
            try clear c18
            try clear c18b0
            try clear p19
            try clear q19
            try clear hx19
            try clear qi19
            try clear c20
            try clear c20b0
            try clear c21
            try clear c21b0
            try clear c21b1
            try clear p22
            try clear q22
            try clear hx22
            try clear qi22
            try clear c24
            try clear c24b0
            try clear c24b1
            try clear c25
            try clear c25b0
            try clear c25b1
            try clear c26
            try clear c26b0
            try clear c26b1
            try clear c27
            try clear c27b0
            try clear c27b1
            try clear p1
            try clear p12
            try clear p14
            try clear p17
            try clear p19
            try clear p2
            try clear p22
            try clear p6
            try clear p8
            try clear q1
            try clear q12
            try clear q14
            try clear q17
            try clear q19
            try clear q22
            try clear q6
            try clear q8
            obtain ⟨kq, x4_22, x5_22, rfl, rfl, HA, HJ22, ⟨mc22, rfl⟩⟩ := hcut
            cases kq with
            | zero => exact absurd HA.out (by simp [oculusref13_Size.j3])
            | succ kj22 =>
              have H := HA.out
              clear HA
              simp only [oculusref13_Size.j3] at H
              by_cases c28 : (a0.size : Int) < x3_2
              · rw [if_pos c28] at H
                have c28b0 : decide ((a0.size : Int) < x3_2) = true := decide_eq_true c28
                clear c28
                obtain rfl := Option.some.inj H
                go_wp2
                go_ret
                exact ⟨by first | rfl | (simp; done) | (simp [*]; done), by repeat (first | exact Drawn0.refl _ | apply Drawn0.step)⟩
              · rw [if_neg c28] at H
                have c28b0 : decide ((a0.size : Int) < x3_2) = false := decide_eq_false c28
                clear c28
                have H' := Aside0.mk H
                clear H
                go_wp2
                go_loopg [4, 5, 6] kj22 (fun kq v4 v5 v6 w' => ∃ (x4_3 : Int) (x5_3 : Int) (x6_3 : Int), v4 = .int .u8 x4_3 ∧ v5 = .int .u8 x5_3 ∧ v6 = .int .i64 x6_3 ∧ Aside0 (oculusref13_Size.l0 kq a0 x3_2 x4_3 x5_3 x6_3 = some r) ∧ Aside0 (kq ≤ kj22) ∧ Drawn0 w w')
                case atStart => exact ⟨(x4_22), (x5_22), (1), (by first | rfl | (simp; done) | (simp [*]; done)), (by first | rfl | (simp; done) | (simp [*]; done)), (by first | rfl | (simp; done) | (simp [*]; done)), H', ⟨Nat.le_refl _⟩, by repeat (first | exact Drawn0.refl _ | apply Drawn0.step)⟩
                case round =>
                  clear H'
                  try clear c1
                  try clear p1
                  try clear q1
                  try clear hx1
                  try clear qi1
                  try clear c2
                  try clear c2b0
                  try clear c2b1
                  try clear p2
                  try clear q2
                  try clear hx2
                  try clear qi2
                  try clear c3
                  try clear c5
                  try clear c5b0
                  try clear c5b1
                  try clear c6
                  try clear p6
                  try clear q6
                  try clear hx6
                  try clear qi6
                  try clear c7
                  try clear c7b0
                  try clear p8
                  try clear q8
                  try clear hx8
                  try clear qi8
                  try clear c9
                  try clear c11
                  try clear c11b0
                  try clear c11b1
                  try clear p12
                  try clear q12
                  try clear hx12
                  try clear qi12
                  try clear c13
                  try clear c13b0
                  try clear p14
                  try clear q14
                  try clear hx14
                  try clear qi14
                  try clear c15
                  try clear c16
                  try clear c16b0
                  try clear c16b1
                  try clear p17
                  try clear q17
                  try clear hx17
                  try clear qi17
                  try clear c18
                  try clear c18b0
                  try clear p19
                  try clear q19
                  try clear hx19
                  try clear qi19
                  try clear c20
                  try clear c20b0
                  try clear c21
                  try clear c21b0
                  try clear c21b1
                  try clear c22
                  try clear p22
                  try clear q22
                  try clear hx22
                  try clear qi22
                  try clear c24
                  try clear c24b0
                  try clear c24b1
                  try clear c25
                  try clear c25b0
                  try clear c25b1
                  try clear c26
                  try clear c26b0
                  try clear c26b1
                  try clear c27
                  try clear c27b0
                  try clear c27b1
                  try clear c28
                  try clear c28b0
                  try clear p1
                  try clear p12
                  try clear p14
                  try clear p17
                  try clear p19
                  try clear p2
                  try clear p22
                  try clear p6
                  try clear p8
                  try clear q1
                  try clear q12
                  try clear q14
                  try clear q17
                  try clear q19
                  try clear q2
                  try clear q22
                  try clear q6
                  try clear q8
                  obtain ⟨x4_3, x5_3, x6_3, rfl, rfl, rfl, HA, HK3, ⟨m3, rfl⟩⟩ := hrel
                  cases gk with
                  | zero => exact absurd HA.out (by simp [oculusref13_Size.l0])
                  | succ k3 =>
                    have H := HA.out
                    clear HA
                    simp only [oculusref13_Size.l0] at H
                    by_cases c29 : x6_3 < x3_2
                    · rw [if_pos c29] at H
                      have c29b0 : decide (x6_3 < x3_2) = true := decide_eq_true c29
                      clear c29
                      by_cases c30 : 0 ≤ x6_3
                      · rw [if_pos c30] at H
                        have c30b0 : decide (0 ≤ x6_3) = true := decide_eq_true c30
                        clear c30
                        by_cases c31 : x6_3 < (a0.size : Int)
                        · rw [if_pos c31] at H
                          have c31b0 : decide (x6_3 < (a0.size : Int)) = true := decide_eq_true c31
                          clear c31
                          by_cases c33 : (bt a0 x6_3) < x4_3
                          · rw [if_pos c33] at H
                            have c33b0 : decide ((bt a0 x6_3) < x4_3) = true := decide_eq_true c33
                            clear c33
                            obtain rfl := Option.some.inj H
                            have p32 : 0 ≤ (x6_3 : Int) := of_decide_eq_true (by first | (with_reducible assumption) | assumption)
                            have q32 : x6_3 < (a0.size : Int) := of_decide_eq_true (by first | (with_reducible assumption) | assumption)
                            have hx32 := bt_at a0 x6_3
                            replace p32 := eq_true p32
                            replace q32 := eq_true q32
                            go_wp2
                            go_ret
                            exact ⟨by first | rfl | (simp; done) | (simp [*]; done), by repeat (first | exact Drawn0.refl _ | apply Drawn0.step)⟩
                          · rw [if_neg c33] at H
                            have c33b0 : decide ((bt a0 x6_3) < x4_3) = false := decide_eq_false c33
                            clear c33
                            by_cases c35 : (bt a0 x6_3) > x5_3
                            · rw [if_pos c35] at H
                              have c35b0 : decide (x5_3 < (bt a0 x6_3)) = true := decide_eq_true c35
                              clear c35
                              obtain rfl := Option.some.inj H
                              have p32 : 0 ≤ (x6_3 : Int) := of_decide_eq_true (by first | (with_reducible assumption) | assumption)
                              have q32 : x6_3 < (a0.size : Int) := of_decide_eq_true (by first | (with_reducible assumption) | assumption)
                              have hx32 := bt_at a0 x6_3
                              replace p32 := eq_true p32
                              replace q32 := eq_true q32
                              have p34 : 0 ≤ (x6_3 : Int) := of_decide_eq_true (by first | (with_reducible assumption) | assumption)
                              have q34 : x6_3 < (a0.size : Int) := of_decide_eq_true (by first | (with_reducible assumption) | assumption)
                              have hx34 := bt_at a0 x6_3
                              replace p34 := eq_true p34
                              replace q34 := eq_true q34
                              go_wp2
                              go_ret
                              exact ⟨by first | rfl | (simp; done) | (simp [*]; done), by repeat (first | exact Drawn0.refl _ | apply Drawn0.step)⟩
                            · rw [if_neg c35] at H
                              have c35b0 : decide (x5_3 < (bt a0 x6_3)) = false := decide_eq_false c35
                              clear c35
                              have H' := Aside0.mk H
                              clear H
                              have p32 : 0 ≤ (x6_3 : Int) := of_decide_eq_true (by first | (with_reducible assumption) | assumption)
                              have q32 : x6_3 < (a0.size : Int) := of_decide_eq_true (by first | (with_reducible assumption) | assumption)
                              have hx32 := bt_at a0 x6_3
                              replace p32 := eq_true p32
                              replace q32 := eq_true q32
                              have p34 : 0 ≤ (x6_3 : Int) := of_decide_eq_true (by first | (with_reducible assumption) | assumption)
                              have q34 : x6_3 < (a0.size : Int) := of_decide_eq_true (by first | (with_reducible assumption) | assumption)
                              have hx34 := bt_at a0 x6_3
                              replace p34 := eq_true p34
                              replace q34 := eq_true q34
                              go_wp2
                              go_roundg k3
                              case measure => have := HJ2.out; have := HJ22.out; have := HK3.out; omega
                              case rel => exact ⟨(128), (191), (wrap64 (x6_3 + 1)), (by first | rfl | (simp; done) | (simp [*]; done)), (by first | rfl | (simp; done) | (simp [*]; done)), (by first | rfl | (simp; done) | (simp [*]; done)), H', ⟨by have := HJ2.out; have := HJ22.out; have := HK3.out; omega⟩, by repeat (first | exact Drawn0.refl _ | apply Drawn0.step)⟩
                        · rw [if_neg c31] at H
                          exact absurd H (by simp)
                      · rw [if_neg c30] at H
                        exact absurd H (by simp)
                    · rw [if_neg c29] at H
                      have c29b0 : decide (x6_3 < x3_2) = false := decide_eq_false c29
                      clear c29
                      obtain rfl := Option.some.inj H
                      go_wp2
                      go_ret
                      exact ⟨by first | rfl | (simp; done) | (simp [*]; done), by repeat (first | exact Drawn0.refl _ | apply Drawn0.step)⟩
        · rw [if_neg c21] at H
          exact absurd H (by simp)

end Go.Proofs.Ytlchgkoafabapaa.X
namespace Go.Proofs.Ytlchgkoafabapaa.X
open Go.RowKit Go.Proofs.YtlchgkoafabapaaW.PrintWords Go.Proofs.YtlchgkoafabapaaW.PrintLast Go.Proofs.YtlchgkoafabapaaW.PrintMore
attribute [local go_sem] max2_int min2_int max_two min_two max_three min_three max_four min_four   -- for this text's walks alone
set_option linter.unusedVariables false
set_option linter.unusedSimpArgs false

/-! ### oculusref13_Pieces: function 29 -/
def oculusref13_Pieces.l0 : Nat → ByteArray → List ByteArray → Option (List ByteArray)
  | 0, _, _ => none
  | k + 1, x0, x3 => if (x0.size : Int) > 0 then ((oculusref13_Size.f k x0).bind fun t101 => (if 0 ≤ t101 then (if t101 ≤ (x0.size : Int) then (if x3.length < 8796093022208 then (oculusref13_Pieces.l0 k (x0.extract (t101 : Int).toNat x0.size) (x3 ++ [x0.extract 0 (t101 : Int).toNat])) else (none)) else (none)) else (none))) else (some x3)
def oculusref13_Pieces.f (k : Nat) (a0 : ByteArray) : Option (List ByteArray) := oculusref13_Pieces.l0 k a0 ([] : List ByteArray)
theorem oculusref13_Pieces.mono_l : ∀ k, (∀ y0 y1, LeO (oculusref13_Pieces.l0 k y0 y1) (oculusref13_Pieces.l0 (k + 1) y0 y1))
  | 0 => fun _ _ r h => by simp [oculusref13_Pieces.l0] at h
  | k + 1 => by
    have ih0 := oculusref13_Pieces.mono_l k
    · intro y0 y1
      unfold oculusref13_Pieces.l0
      repeat' first
      | (with_reducible exact ih0 _ _)
      | (with_reducible exact oculusref13_Size.mono _ _)
      | (with_reducible exact LeO.refl _)
      | (with_reducible exact LeO.none _)
      | (with_reducible refine LeO.ite ?_ ?_)
      | (with_reducible refine LeO.bind ?_ (fun _ => ?_))
      | exact ih0 _ _
      | exact oculusref13_Size.mono _ _
      | exact LeO.none _
      | refine LeO.ite ?_ ?_
      | refine LeO.bind ?_ (fun _ => ?_)
theorem oculusref13_Pieces.mono : ∀ a0 k, LeO (oculusref13_Pieces.f k a0) (oculusref13_Pieces.f (k + 1) a0) := by
  intro a0 k
  have ih0 := oculusref13_Pieces.mono_l k
  unfold oculusref13_Pieces.f
  repeat' first
      | (with_reducible exact ih0 _ _)
      | (with_reducible exact oculusref13_Size.mono _ _)
      | (with_reducible exact LeO.refl _)
      | (with_reducible exact LeO.none _)
      | (with_reducible refine LeO.ite ?_ ?_)
      | (with_reducible refine LeO.bind ?_ (fun _ => ?_))
      | exact ih0 _ _
      | exact oculusref13_Size.mono _ _
      | exact LeO.none _
      | refine LeO.ite ?_ ?_
      | refine LeO.bind ?_ (fun _ => ?_)
set_option maxHeartbeats 8000000 in
set_option maxRecDepth 100000 in
theorem oculusref13_Pieces.calls (k : Nat) (a0 : ByteArray) (r : List ByteArray) (w : World) (h : oculusref13_Pieces.f k a0 = some r) :
    Calls Try.prog 29 #[.string a0] w fun e w' => ∃ v0_ : Value, e = .returned (v0_) ∧ Kd.R Kd.string 9 w' w.heap.size (fun _ => True) v0_ r ∧ Below w.heap.size w w' := by
  have HB := Aside0.mk (Below.refl w.heap.size w)
  have H : (oculusref13_Pieces.l0 k a0 ([] : List ByteArray)) = some r := h
  clear h
  have H' := Aside0.mk H
  clear H
  go_enter Try.func29, Try.ntmps29
  go_wp2
  go_loopg [0, 3] k (fun kq v0 v3 w' => ∃ (x0_1 : ByteArray) (x3_1 : List ByteArray), v0 = .string x0_1 ∧ Aside0 (oculusref13_Pieces.l0 kq x0_1 x3_1 = some r) ∧ Aside0 (kq ≤ k) ∧ Aside0 (Kd.R Kd.string 9 w' w.heap.size (fun _ => True) v3 x3_1) ∧ Aside0 (Below w.heap.size w w'))
  case atStart => exact ⟨(a0), (([] : List ByteArray)), (by first | rfl | (simp; done) | (simp [*]; done)), H', ⟨Nat.le_refl _⟩, ⟨by first | exact Kd.R_nil _ _ _ _ _ | exact Kd.N_nil _ _ _ _ _ | exact Kd.V_nil _ _ _ _ _ | exact Kd.Q_nil _ _ _ _ _ | exact Kd.S_nil _ _ _ _ _⟩, ⟨pbx HB⟩⟩
  case round =>
    clear H'
    obtain ⟨x0_1, x3_1, rfl, HA, HK1, HO_3, HB⟩ := hrel
    cases gk with
    | zero => exact absurd HA.out (by simp [oculusref13_Pieces.l0])
    | succ k1 =>
      have H := HA.out
      clear HA
      simp only [oculusref13_Pieces.l0] at H
      by_cases c2 : (x0_1.size : Int) > 0
      · rw [if_pos c2] at H
        have c2b0 : decide (0 < (x0_1.size : Int)) = true := decide_eq_true c2
        have c2b1 : decide (0 < x0_1.size) = true := decide_eq_true (by omega)
        clear c2
        replace H := Option.bind_eq_some_iff.mp H
        obtain ⟨t101, A30, H⟩ := H
        replace H : (if 0 ≤ t101 then (if t101 ≤ (x0_1.size : Int) then (if x3_1.length < 8796093022208 then (oculusref13_Pieces.l0 k1 (x0_1.extract (t101 : Int).toNat x0_1.size) (x3_1 ++ [x0_1.extract 0 (t101 : Int).toNat])) else (none)) else (none)) else (none)) = some r := H
        have A3 := Aside0.mk A30
        clear A30
        by_cases c4 : 0 ≤ t101
        · rw [if_pos c4] at H
          have c4b0 := eq_true c4
          have c4b1 : decide (0 ≤ t101) = true := decide_eq_true c4
          clear c4
          by_cases c5 : t101 ≤ (x0_1.size : Int)
          · rw [if_pos c5] at H
            have c5b0 := eq_true c5
            have c5b1 : decide (t101 ≤ (x0_1.size : Int)) = true := decide_eq_true c5
            clear c5
            by_cases c6 : x3_1.length < 8796093022208
            · rw [if_pos c6] at H
              have LMc6 := Aside0.mk c6
              clear c6
              obtain ⟨y102, hy102⟩ : ∃ y_ : List ByteArray, y_ = (x3_1 ++ [x0_1.extract 0 (t101 : Int).toNat]) := ⟨_, rfl⟩
              replace H : (oculusref13_Pieces.l0 k1 (x0_1.extract (t101 : Int).toNat x0_1.size) y102) = some r := by first | (rw [hy102]; with_reducible exact H) | (have H2_ := (Option.bind_some _ _).symm.trans H; rw [hy102]; with_reducible exact H2_) | (have H2_ := (Option.bind_some _ _).symm.trans H; with_reducible exact H2_) | with_reducible exact H | (rw [hy102]; exact H) | exact H
              have Ny102 := Aside0.mk hy102
              clear hy102
              have c7b0 := eq_true (of_decide_eq_true (by first | (with_reducible assumption) | assumption) : 0 ≤ t101)
              have c8b0 := eq_true (of_decide_eq_true (by first | (with_reducible assumption) | assumption) : t101 ≤ (x0_1.size : Int))
              have H' := Aside0.mk H
              clear H
              go_wp2_with (first | ((with_reducible refine gate_callee (f := 68) rfl ?_); refine goesL_ (some 9) rfl rfl Try.func68 (by kernel_rfl) rfl #[.string x0_1] rfl (by (try simp only [List.map_toArray, List.map_cons, List.map_nil]); first | done | rfl | (simp only [List.length_drop, List.length_take]; rfl)) ?_; (with_reducible refine (oculusref13_Size.calls k1 x0_1 t101 _ A3.out).mono ?_); rintro e w' ⟨rfl, ⟨nd, rfl⟩⟩; refine ⟨_, rfl, ?_⟩) | ((with_reducible refine gate_builtin (b := .append) (xs := #[.tmp 10, .tmp 14]) rfl ?_); at_builtin; refine Kd.R_append Kd.string (w0 := w) w.heap.size rfl (.tmp 10) (.tmp 14) 64 9 (.string ⟨#[]⟩) 16 rfl Try.underlying64 info9 rfl (by decide) (by omega) u3 x3_1 (x0_1.extract 0 (t101 : Int).toNat) [.string (x0_1.extract 0 (t101 : Int).toNat)] (fun _ => True) (fun _ => False) rfl rfl ?aP (fun _ hk => hk.elim) ?aF ?aO ?aB ?aS ?aL ?_; (case aP => exact rfl); (case aB => exact (pbx HB)); (case aF => exact (fun _ _ => trivial)); (case aO => exact (by (with_reducible repeat (first | apply Kd.R_alloc | apply Kd.R_drewN | apply Kd.R_drew)); exact HO_3.out)); (case aS => exact (below_size (pbx HB))); (case aL => have := LMc6.out; omega); intro v103 w9 ho hb hg hat; rw [← Ny102.out] at ho; have n0_ := Aside0.mk (hb); have n1_ := Aside0.mk (ho); clear HB; clear HO_3; have HB := n0_; have HO104 := n1_; clear n0_ n1_; clear ho hb hg hat))
              go_roundg k1
              case measure => have := HK1.out; omega
              case rel => exact ⟨(x0_1.extract (t101 : Int).toNat x0_1.size), (y102), (by first | rfl | (simp; done) | (simp [*]; done) | (cases t101 <;> simp; done)), H', ⟨by have := HK1.out; omega⟩, ⟨by (with_reducible repeat (first | apply Kd.R_alloc | apply Kd.R_drewN | apply Kd.R_drew)); exact HO104.out⟩, ⟨pbx HB⟩⟩
            · rw [if_neg c6] at H
              exact absurd H (by simp)
          · rw [if_neg c5] at H
            exact absurd H (by simp)
        · rw [if_neg c4] at H
          exact absurd H (by simp)
      · rw [if_neg c2] at H
        have c2b0 : decide (0 < (x0_1.size : Int)) = false := decide_eq_false c2
        have c2b1 : decide (0 < x0_1.size) = false := decide_eq_false (by omega)
        clear c2
        obtain rfl := Option.some.inj H
        go_wp2
        go_ret
        exact ⟨_, by first | rfl | (simp [errW_none, errW_some] <;> rfl) | (simp [*, errW_none, errW_some] <;> rfl), by (with_reducible repeat (first | apply Kd.R_alloc | apply Kd.R_drewN | apply Kd.R_drew)); exact HO_3.out, pbx HB⟩

end Go.Proofs.Ytlchgkoafabapaa.X
/- Runes as pieces of a list of bytes: what the code's places and the reference's pieces are. -/
set_option linter.unusedVariables false
set_option linter.unusedSimpArgs false
namespace Go.Proofs.Ytlchgkoafabapaa.X
open Go.RowKit Go.Proofs.YtlchgkoafabapaaW.PrintWords Go.Proofs.YtlchgkoafabapaaW.PrintLast Go.Proofs.YtlchgkoafabapaaW.PrintMore
def gb (l : List UInt8) (k : Nat) : Nat := (l.getD k 0).toNat
theorem gb_lt (l : List UInt8) (k : Nat) : gb l k < 256 := (l.getD k 0).toNat_lt
/-- How many bytes the first rune of a text has. -/
def wL (l : List UInt8) : Nat :=
  if gb l 0 < 128 then 1
  else if gb l 0 / 32 = 6 ∧ 1 < l.length ∧ gb l 1 / 64 = 2 then (if 128 ≤ (gb l 0 % 32) * 64 + gb l 1 % 64 then 2 else 1)
  else if gb l 0 / 16 = 14 ∧ (1 < l.length ∧ gb l 1 / 64 = 2) ∧ (2 < l.length ∧ gb l 2 / 64 = 2) then
    (if 2048 ≤ (gb l 0 % 16) * 4096 + (gb l 1 % 64) * 64 + gb l 2 % 64 ∧ ((gb l 0 % 16) * 4096 + (gb l 1 % 64) * 64 + gb l 2 % 64 < 55296 ∨ 57344 ≤ (gb l 0 % 16) * 4096 + (gb l 1 % 64) * 64 + gb l 2 % 64) then 3 else 1)
  else if gb l 0 / 8 = 30 ∧ (1 < l.length ∧ gb l 1 / 64 = 2) ∧ (2 < l.length ∧ gb l 2 / 64 = 2) ∧ (3 < l.length ∧ gb l 3 / 64 = 2) then
    (if 65536 ≤ (gb l 0 % 8) * 262144 + (gb l 1 % 64) * 4096 + (gb l 2 % 64) * 64 + gb l 3 % 64 ∧ (gb l 0 % 8) * 262144 + (gb l 1 % 64) * 4096 + (gb l 2 % 64) * 64 + gb l 3 % 64 ≤ 1114111 then 4 else 1)
  else 1
theorem get_gb (s : ByteArray) (pos k : Nat) : (s.get! (pos + k)).toNat = gb ((by_ s).drop pos) k := by
  obtain ⟨⟨l⟩⟩ := s
  unfold gb by_
  rw [List.getD_eq_getElem?_getD, List.getElem?_drop]
  show ((⟨l⟩ : Array UInt8)[pos + k]!).toNat = _
  rw [getElem!_def]
  simp only [List.getElem?_toArray]
  cases l[pos + k]? <;> rfl
theorem valid_iff (c : Nat) : Utf8.valid (c : Int) = true ↔ c < 55296 ∨ (57344 ≤ c ∧ c ≤ 1114111) := by
  unfold Utf8.valid
  rw [Bool.or_eq_true, Bool.and_eq_true, Bool.and_eq_true, decide_eq_true_eq, decide_eq_true_eq, decide_eq_true_eq, decide_eq_true_eq]
  omega
set_option maxHeartbeats 1000000 in
theorem decode_wL (s : ByteArray) (pos : Nat) : (Utf8.decode s pos).2 = wL ((by_ s).drop pos) := by
  have e : ∀ k, (s.get! (pos + k)).toNat = gb ((by_ s).drop pos) k := get_gb s pos
  have hl : ∀ k, (pos + k < s.size) ↔ k < ((by_ s).drop pos).length := by
    intro k
    rw [List.length_drop, size_by]
    omega
  have h0 := gb_lt ((by_ s).drop pos) 0
  have h1 := gb_lt ((by_ s).drop pos) 1
  have h2 := gb_lt ((by_ s).drop pos) 2
  have h3 := gb_lt ((by_ s).drop pos) 3
  simp only [Utf8.decode, e, hl]
  unfold wL
  generalize gb ((by_ s).drop pos) 0 = b0 at *
  generalize gb ((by_ s).drop pos) 1 = b1 at *
  generalize gb ((by_ s).drop pos) 2 = b2 at *
  generalize gb ((by_ s).drop pos) 3 = b3 at *
  generalize ((by_ s).drop pos).length = n at *
  by_cases c0 : b0 < 128
  · rw [if_pos c0, if_pos c0]
  rw [if_neg c0, if_neg c0]
  by_cases c1 : b0 / 32 = 6 ∧ 1 < n ∧ b1 / 64 = 2
  · rw [if_pos c1, if_pos (by simp [c1.1, c1.2.1, c1.2.2])]
    split <;> (try split) <;> first | rfl | omega
  rw [if_neg c1, if_neg (by simp only [Bool.and_eq_true, decide_eq_true_eq, beq_iff_eq]; exact c1)]
  by_cases c2 : b0 / 16 = 14 ∧ (1 < n ∧ b1 / 64 = 2) ∧ (2 < n ∧ b2 / 64 = 2)
  · rw [if_pos c2, if_pos (by simp [c2.1, c2.2.1.1, c2.2.1.2, c2.2.2.1, c2.2.2.2])]
    split <;> split
    · rfl
    · rename_i p q
      rw [Bool.and_eq_true, decide_eq_true_eq, valid_iff] at p
      omega
    · rename_i p q
      exact absurd (by rw [Bool.and_eq_true, decide_eq_true_eq, valid_iff]; omega) p
    · rfl
  rw [if_neg c2, if_neg (by simp only [Bool.and_eq_true, decide_eq_true_eq, beq_iff_eq]; exact fun h => c2 ⟨h.1.1, h.1.2, h.2⟩)]
  by_cases c3 : b0 / 8 = 30 ∧ (1 < n ∧ b1 / 64 = 2) ∧ (2 < n ∧ b2 / 64 = 2) ∧ (3 < n ∧ b3 / 64 = 2)
  · rw [if_pos c3, if_pos (by simp [c3.1, c3.2.1.1, c3.2.1.2, c3.2.2.1.1, c3.2.2.1.2, c3.2.2.2.1, c3.2.2.2.2])]
    split <;> split
    · rfl
    · rename_i p q
      rw [Bool.and_eq_true, decide_eq_true_eq, valid_iff] at p
      omega
    · rename_i p q
      exact absurd (by rw [Bool.and_eq_true, decide_eq_true_eq, valid_iff]; omega) p
    · rfl
  rw [if_neg c3, if_neg (by simp only [Bool.and_eq_true, decide_eq_true_eq, beq_iff_eq]; exact fun h => c3 ⟨h.1.1.1, h.1.1.2, h.1.2, h.2⟩)]
theorem wL_bounds (l : List UInt8) (h : l ≠ []) : 1 ≤ wL l ∧ wL l ≤ l.length ∧ wL l ≤ 4 := by
  have hl : 1 ≤ l.length := by cases l with | nil => exact absurd rfl h | cons a t => simp
  unfold wL
  repeat' split
  all_goals omega
/-- Behind the first rune nothing tells how long it is. -/
theorem gb_take (l : List UInt8) (m k : Nat) (h : k < m) : gb (l.take m) k = gb l k := by
  unfold gb
  rw [List.getD_eq_getElem?_getD, List.getD_eq_getElem?_getD, List.getElem?_take, if_pos h]
theorem wL_take (l : List UInt8) (m : Nat) (h : l ≠ []) (hm : wL l ≤ m) (hm2 : m ≤ l.length) : wL (l.take m) = wL l := by
  have hb := wL_bounds l h
  have hlen : (l.take m).length = m := by rw [List.length_take]; omega
  have e0 := gb_take l m 0 (by omega)
  by_cases m1 : 1 < m
  · have e1 := gb_take l m 1 m1
    by_cases m2 : 2 < m
    · have e2 := gb_take l m 2 m2
      by_cases m3 : 3 < m
      · have e3 := gb_take l m 3 m3
        unfold wL at *
        rw [hlen, e0, e1, e2, e3]
        generalize gb l 0 = b0 at *
        generalize gb l 1 = b1 at *
        generalize gb l 2 = b2 at *
        generalize gb l 3 = b3 at *
        generalize l.length = n at *
        have q1 : 1 < n := by omega
        have q2 : 2 < n := by omega
        have q3 : 3 < n := by omega
        simp only [m1, m2, m3, q1, q2, q3]
      · have hn3 : ¬ 3 < m := m3
        unfold wL at *
        rw [hlen, e0, e1, e2]
        generalize gb l 0 = b0 at *
        generalize gb l 1 = b1 at *
        generalize gb l 2 = b2 at *
        generalize gb l 3 = b3 at *
        generalize gb (l.take m) 3 = b3' at *
        generalize l.length = n at *
        repeat' split
        all_goals (first | rfl | omega | (repeat' split at hm) <;> omega)
    · unfold wL at *
      rw [hlen, e0, e1]
      generalize gb l 0 = b0 at *
      generalize gb l 1 = b1 at *
      generalize gb l 2 = b2 at *
      generalize gb l 3 = b3 at *
      generalize gb (l.take m) 3 = b3' at *
      generalize gb (l.take m) 2 = b2' at *
      generalize l.length = n at *
      repeat' split
      all_goals (first | rfl | omega | (repeat' split at hm) <;> omega)
  · unfold wL at *
    rw [hlen, e0]
    generalize gb l 0 = b0 at *
    generalize gb l 1 = b1 at *
    generalize gb l 2 = b2 at *
    generalize gb l 3 = b3 at *
    generalize gb (l.take m) 3 = b3' at *
    generalize gb (l.take m) 2 = b2' at *
    generalize gb (l.take m) 1 = b1' at *
    generalize l.length = n at *
    repeat' split
    all_goals (first | rfl | omega | (repeat' split at hm) <;> omega)
/-- A text's runes. -/
def pcs (l : List UInt8) : List (List UInt8) := if h : l = [] then [] else l.take (wL l) :: pcs (l.drop (wL l))
termination_by l.length
decreasing_by
  have := wL_bounds l h
  rw [List.length_drop]
  omega
theorem pcs_nil : pcs [] = [] := by rw [pcs]; simp
theorem pcs_cons (l : List UInt8) (h : l ≠ []) : pcs l = l.take (wL l) :: pcs (l.drop (wL l)) := by rw [pcs, dif_neg h]
theorem pcs_flatten : ∀ (n : Nat) (l : List UInt8), l.length ≤ n → (pcs l).flatten = l
  | 0, l, h => by
    have : l = [] := by cases l with | nil => rfl | cons a t => simp at h
    rw [this, pcs_nil]; rfl
  | n + 1, l, h => by
    by_cases hl : l = []
    · rw [hl, pcs_nil]; rfl
    · have hb := wL_bounds l hl
      rw [pcs_cons l hl, List.flatten_cons, pcs_flatten n _ (by rw [List.length_drop]; omega), List.take_append_drop]
theorem pcs_flat (l : List UInt8) : (pcs l).flatten = l := pcs_flatten l.length l (Nat.le_refl _)
theorem pcs_size : ∀ (n : Nat) (l : List UInt8), l.length ≤ n → (pcs l).length ≤ l.length
  | 0, l, h => by
    have : l = [] := by cases l with | nil => rfl | cons a t => simp at h
    rw [this, pcs_nil]; simp
  | n + 1, l, h => by
    by_cases hl : l = []
    · rw [hl, pcs_nil]; simp
    · have hb := wL_bounds l hl
      have := pcs_size n (l.drop (wL l)) (by rw [List.length_drop]; omega)
      rw [pcs_cons l hl, List.length_cons]
      rw [List.length_drop] at this
      omega
theorem pcs_le (l : List UInt8) : (pcs l).length ≤ l.length := pcs_size l.length l (Nat.le_refl _)
/-- What is behind some runes. -/
theorem pcs_drop : ∀ (n : Nat) (l : List UInt8), pcs ((pcs l).drop n).flatten = (pcs l).drop n
  | 0, l => by rw [List.drop_zero, pcs_flat]
  | n + 1, l => by
    by_cases hl : l = []
    · rw [hl, pcs_nil]; simp [pcs_nil]
    · rw [pcs_cons l hl, List.drop_succ_cons]
      exact pcs_drop n _
/-- What is ahead of some runes. -/
theorem pcs_take : ∀ (n : Nat) (l : List UInt8), pcs ((pcs l).take n).flatten = (pcs l).take n
  | 0, l => by simp [pcs_nil]
  | n + 1, l => by
    by_cases hl : l = []
    · rw [hl, pcs_nil]; simp [pcs_nil]
    · have hb := wL_bounds l hl
      have hp : ((pcs (l.drop (wL l))).take n).flatten <+: l.drop (wL l) := by
        have := pcs_flat (l.drop (wL l))
        exact ⟨((pcs (l.drop (wL l))).drop n).flatten, by rw [← List.flatten_append, List.take_append_drop, this]⟩
      obtain ⟨r, hr⟩ := hp
      have e : ((pcs l).take (n + 1)).flatten = l.take (wL l) ++ ((pcs (l.drop (wL l))).take n).flatten := by rw [pcs_cons l hl, List.take_succ_cons, List.flatten_cons]
      have hpre : ((pcs l).take (n + 1)).flatten = l.take (wL l + ((pcs (l.drop (wL l))).take n).flatten.length) := by
        rw [e, List.take_add]
        congr 1
        generalize ((pcs (l.drop (wL l))).take n).flatten = F at hr ⊢
        rw [← hr, List.take_left' rfl]
      have hlen : wL l + ((pcs (l.drop (wL l))).take n).flatten.length ≤ l.length := by
        have := congrArg List.length hr
        rw [List.length_append, List.length_drop] at this
        omega
      have hne : ((pcs l).take (n + 1)).flatten ≠ [] := by
        intro hh
        have := congrArg List.length (hpre.symm.trans hh)
        rw [List.length_take, List.length_nil] at this
        omega
      have hw : wL ((pcs l).take (n + 1)).flatten = wL l := by rw [hpre]; exact wL_take l _ hl (by omega) hlen
      rw [pcs_cons _ hne, hw, e, List.take_left' (by rw [List.length_take]; omega), List.drop_left' (by rw [List.length_take]; omega), pcs_take n _]
      rw [pcs_cons l hl, List.take_succ_cons]
/-! The code's places. -/
def sts : Nat → List (List UInt8) → List Nat
  | _, [] => []
  | p, x :: xs => p :: sts (p + x.length) xs
theorem posF_sts (s : ByteArray) : ∀ f pos, s.size ≤ pos + f → posF s f pos = sts pos (pcs ((by_ s).drop pos))
  | 0, pos, h => by
    rw [List.drop_eq_nil_of_le (by rw [← size_by]; omega), pcs_nil]; rfl
  | f + 1, pos, h => by
    by_cases hp : pos < s.size
    · have hne : (by_ s).drop pos ≠ [] := by
        intro hh
        have := congrArg List.length hh
        rw [List.length_drop, ← size_by] at this
        simp at this
        omega
      have hb := wL_bounds _ hne
      rw [pcs_cons _ hne]
      simp only [posF, if_pos hp, sts]
      rw [decode_wL, posF_sts s f _ (by omega), List.length_take, List.drop_drop, Nat.min_eq_left hb.2.1]
    · simp only [posF, if_neg hp]
      rw [List.drop_eq_nil_of_le (by rw [← size_by]; omega), pcs_nil]; rfl
theorem runeP_sts (s : ByteArray) : runeP s = sts 0 (pcs (by_ s)) := by
  unfold runeP
  rw [posF_sts s s.size 0 (by omega), List.drop_zero]
theorem sts_length : ∀ xs p, (sts p xs).length = xs.length
  | [], _ => rfl
  | x :: xs, p => by simp [sts, sts_length xs]
theorem sts_getD : ∀ (xs : List (List UInt8)) (p n : Nat), (sts p xs).getD n (p + xs.flatten.length) = p + (xs.take n).flatten.length
  | [], p, n => by simp [sts]
  | x :: xs, p, 0 => by simp [sts]
  | x :: xs, p, n + 1 => by
    have := sts_getD xs (p + x.length) n
    simp only [sts, List.flatten_cons, List.length_append, List.take_succ_cons, List.getD_cons_succ]
    rw [← Nat.add_assoc, this, Nat.add_assoc]
theorem count_eq (s : ByteArray) (h : s.size ≤ 4611686018427387904) : runes_Count.f s = some ((pcs (by_ s)).length : Int) := by
  unfold runes_Count.f
  rw [if_pos h, runeP_sts, sts_length]
theorem at_eq (s : ByteArray) (n : Int) (h : s.size ≤ 4611686018427387904) (hn : n ≤ 9223372036854775807) : runes_at.f s n = some ((((pcs (by_ s)).take n.toNat).flatten.length : Nat) : Int) := by
  unfold runes_at.f
  rw [if_pos ⟨h, hn⟩, runeP_sts]
  have := sts_getD (pcs (by_ s)) 0 n.toNat
  rw [Nat.zero_add, Nat.zero_add, pcs_flat, ← size_by] at this
  rw [this]
theorem take_at (l : List UInt8) (n : Nat) : l.take ((pcs l).take n).flatten.length = ((pcs l).take n).flatten := by
  have h : ((pcs l).take n).flatten ++ ((pcs l).drop n).flatten = l := by rw [← List.flatten_append, List.take_append_drop, pcs_flat]
  generalize ((pcs l).take n).flatten = a at *
  rw [← h, List.take_left' rfl]
theorem drop_at (l : List UInt8) (n : Nat) : l.drop ((pcs l).take n).flatten.length = ((pcs l).drop n).flatten := by
  have h : ((pcs l).take n).flatten ++ ((pcs l).drop n).flatten = l := by rw [← List.flatten_append, List.take_append_drop, pcs_flat]
  generalize ((pcs l).take n).flatten = a at *
  generalize ((pcs l).drop n).flatten = b at *
  rw [← h, List.drop_left' rfl]
theorem at_le (l : List UInt8) (n : Nat) : ((pcs l).take n).flatten.length ≤ l.length := by
  have h : ((pcs l).take n).flatten ++ ((pcs l).drop n).flatten = l := by rw [← List.flatten_append, List.take_append_drop, pcs_flat]
  have := congrArg List.length h
  rw [List.length_append] at this
  omega
/-! The reference's size. -/
def lpS (l : List UInt8) : Nat → Nat → Int → Int → Int → Int
  | 0, _, _, _, n => n
  | d + 1, i, low, high, n => if (gb l i : Int) < low then 1 else if (gb l i : Int) > high then 1 else lpS l d (i + 1) 128 191 n
theorem bt_gb (l : List UInt8) (i : Nat) (h : i < l.length) : bt (tx l) (i : Int) = (gb l i : Int) := by
  rw [bt_tx l i h]
  unfold gb
  rw [List.getD_eq_getElem?_getD, List.getElem?_eq_getElem h]
  rfl
theorem size_l0 (l : List UInt8) (n : Nat) (hn : n ≤ l.length) (hn4 : n ≤ 4) : ∀ d i low high, i + d = n → Ev (fun k => oculusref13_Size.l0 k (tx l) (n : Int) low high (i : Int)) (lpS l d i low high (n : Int))
  | 0, i, low, high, h => by
    refine Ev.step (f := fun k => some (n : Int)) (fun k => ?_) (Ev.now _)
    simp only [oculusref13_Size.l0]
    rw [if_neg (by omega)]
  | d + 1, i, low, high, h => by
    have hz := size_tx l
    refine Ev.step (f := fun k => if (gb l i : Int) < low then some 1 else if (gb l i : Int) > high then some 1 else oculusref13_Size.l0 k (tx l) (n : Int) 128 191 ((i + 1 : Nat) : Int)) (fun k => ?_) ?_
    · simp only [oculusref13_Size.l0]
      rw [if_pos (by omega), if_pos (by omega), if_pos (by omega), bt_gb l i (by omega), w64s (n := 100) (by omega) (by omega)]
    · simp only [lpS]
      by_cases h1 : (gb l i : Int) < low
      · rw [if_pos h1]; exact ev_pos h1 (Ev.now _)
      · rw [if_neg h1]
        refine ev_neg h1 ?_
        by_cases h2 : (gb l i : Int) > high
        · rw [if_pos h2]; exact ev_pos h2 (Ev.now _)
        · rw [if_neg h2]; exact ev_neg h2 (size_l0 l n hn hn4 d (i + 1) 128 191 (by omega))
def vS (l : List UInt8) (n : Nat) (low high : Int) : Int := if l.length < n then 1 else lpS l (n - 1) 1 low high (n : Int)
theorem vS_1 (l : List UInt8) (low high : Int) : vS l 1 low high = if l.length < 1 then 1 else 1 := rfl
theorem vS_2 (l : List UInt8) (low high : Int) : vS l 2 low high = if l.length < 2 then 1 else if (gb l 1 : Int) < low then 1 else if (gb l 1 : Int) > high then 1 else 2 := rfl
theorem vS_3 (l : List UInt8) (low high : Int) : vS l 3 low high = if l.length < 3 then 1 else if (gb l 1 : Int) < low then 1 else if (gb l 1 : Int) > high then 1 else if (gb l 2 : Int) < 128 then 1 else if (gb l 2 : Int) > 191 then 1 else 3 := rfl
theorem vS_4 (l : List UInt8) (low high : Int) : vS l 4 low high = if l.length < 4 then 1 else if (gb l 1 : Int) < low then 1 else if (gb l 1 : Int) > high then 1 else if (gb l 2 : Int) < 128 then 1 else if (gb l 2 : Int) > 191 then 1 else if (gb l 3 : Int) < 128 then 1 else if (gb l 3 : Int) > 191 then 1 else 4 := rfl
theorem size_j3 (l : List UInt8) (n : Nat) (hn1 : 1 ≤ n) (hn4 : n ≤ 4) (low high : Int) : Ev (fun k => oculusref13_Size.j3 k (tx l) (n : Int) low high) (vS l n low high) := by
  have hz := size_tx l
  refine Ev.step (fun k => oculusref13_Size.j3.eq_2 _ _ _ _ _) ?_
  unfold vS
  by_cases h : l.length < n
  · rw [if_pos h]; exact ev_pos (by omega) (Ev.now _)
  · rw [if_neg h]; exact ev_neg (by omega) (size_l0 l n (by omega) hn4 (n - 1) 1 low high (by omega))
theorem size_j2 (l : List UInt8) (hl : l ≠ []) (n : Nat) (hn1 : 1 ≤ n) (hn4 : n ≤ 4) : Ev (fun k => oculusref13_Size.j2 k (tx l) (n : Int) 128 191)
    (if (gb l 0 : Int) = 224 then vS l n 160 191 else if (gb l 0 : Int) = 237 then vS l n 128 159 else if (gb l 0 : Int) = 240 then vS l n 144 191 else if (gb l 0 : Int) = 244 then vS l n 128 143 else vS l n 128 191) := by
  have hz := size_tx l
  have hp : 0 < l.length := by cases l with | nil => exact absurd rfl hl | cons a t => simp
  refine Ev.step (fun k => oculusref13_Size.j2.eq_2 _ _ _ _ _) ?_
  refine ev_pos (by omega) ?_
  have hb : bt (tx l) 0 = (gb l 0 : Int) := bt_gb l 0 hp
  simp only [hb]
  by_cases h1 : (gb l 0 : Int) = 224
  · rw [if_pos h1]; exact ev_pos h1 (size_j3 l n hn1 hn4 _ _)
  rw [if_neg h1]; refine ev_neg h1 ?_
  by_cases h2 : (gb l 0 : Int) = 237
  · rw [if_pos h2]; exact ev_pos h2 (size_j3 l n hn1 hn4 _ _)
  rw [if_neg h2]; refine ev_neg h2 ?_
  by_cases h3 : (gb l 0 : Int) = 240
  · rw [if_pos h3]; exact ev_pos h3 (size_j3 l n hn1 hn4 _ _)
  rw [if_neg h3]; refine ev_neg h3 ?_
  by_cases h4 : (gb l 0 : Int) = 244
  · rw [if_pos h4]; exact ev_pos h4 (size_j3 l n hn1 hn4 _ _)
  rw [if_neg h4]; exact ev_neg h4 (size_j3 l n hn1 hn4 _ _)
set_option maxHeartbeats 4000000 in
theorem vS_fin (l : List UInt8) (hl : l ≠ []) (n : Nat) (h1 : 1 ≤ n) (h4 : n ≤ 4) (e2 : n = 2 ↔ 194 ≤ gb l 0 ∧ gb l 0 ≤ 223) (e3 : n = 3 ↔ 224 ≤ gb l 0 ∧ gb l 0 ≤ 239) (e4 : n = 4 ↔ 240 ≤ gb l 0 ∧ gb l 0 ≤ 244) :
    (if (gb l 0 : Int) = 224 then vS l n 160 191 else if (gb l 0 : Int) = 237 then vS l n 128 159 else if (gb l 0 : Int) = 240 then vS l n 144 191 else if (gb l 0 : Int) = 244 then vS l n 128 143 else vS l n 128 191) = (wL l : Int) := by
  have g0 := gb_lt l 0
  have g1 := gb_lt l 1
  have g2 := gb_lt l 2
  have g3 := gb_lt l 3
  unfold wL
  rcases (by omega : n = 1 ∨ n = 2 ∨ n = 3 ∨ n = 4) with rfl | rfl | rfl | rfl
  · rw [vS_1, vS_1, vS_1, vS_1, vS_1]
    generalize gb l 0 = b0 at *
    generalize gb l 1 = b1 at *
    generalize gb l 2 = b2 at *
    generalize gb l 3 = b3 at *
    generalize l.length = m at *
    repeat' split
    all_goals omega
  · have p0 := e2.1 rfl
    rw [vS_2, vS_2, vS_2, vS_2, vS_2]
    generalize gb l 0 = b0 at *
    generalize gb l 1 = b1 at *
    generalize gb l 2 = b2 at *
    generalize gb l 3 = b3 at *
    generalize l.length = m at *
    rw [if_neg (by omega), if_neg (by omega), if_neg (by omega), if_neg (by omega), if_neg (by omega : ¬ b0 < 128)]
    repeat' split
    all_goals omega
  · have p0 := e3.1 rfl
    rw [vS_3, vS_3, vS_3, vS_3, vS_3]
    generalize gb l 0 = b0 at *
    generalize gb l 1 = b1 at *
    generalize gb l 2 = b2 at *
    generalize gb l 3 = b3 at *
    generalize l.length = m at *
    rw [if_neg (by omega : ¬ b0 < 128), if_neg (by omega : ¬ (b0 / 32 = 6 ∧ 1 < m ∧ b1 / 64 = 2))]
    by_cases q1 : (b0 : Int) = 224
    · rw [if_pos q1]
      repeat' split
      all_goals omega
    rw [if_neg q1]
    by_cases q2 : (b0 : Int) = 237
    · rw [if_pos q2]
      repeat' split
      all_goals omega
    rw [if_neg q2, if_neg (by omega), if_neg (by omega)]
    repeat' split
    all_goals omega
  · have p0 := e4.1 rfl
    rw [vS_4, vS_4, vS_4, vS_4, vS_4]
    generalize gb l 0 = b0 at *
    generalize gb l 1 = b1 at *
    generalize gb l 2 = b2 at *
    generalize gb l 3 = b3 at *
    generalize l.length = m at *
    rw [if_neg (by omega : ¬ b0 < 128), if_neg (by omega : ¬ (b0 / 32 = 6 ∧ 1 < m ∧ b1 / 64 = 2)), if_neg (by omega : ¬ (b0 / 16 = 14 ∧ (1 < m ∧ b1 / 64 = 2) ∧ (2 < m ∧ b2 / 64 = 2))), if_neg (by omega), if_neg (by omega)]
    by_cases q1 : (b0 : Int) = 240
    · rw [if_pos q1]
      repeat' split
      all_goals omega
    rw [if_neg q1]
    by_cases q2 : (b0 : Int) = 244
    · rw [if_pos q2]
      repeat' split
      all_goals omega
    rw [if_neg q2]
    repeat' split
    all_goals omega
theorem size13_ev (l : List UInt8) (hl : l ≠ []) : Ev (fun k => oculusref13_Size.f k (tx l)) (wL l : Int) := by
  have hz := size_tx l
  have hp : 0 < l.length := by cases l with | nil => exact absurd rfl hl | cons a t => simp
  have hb : bt (tx l) 0 = (gb l 0 : Int) := bt_gb l 0 hp
  have g0 := gb_lt l 0
  have g1 := gb_lt l 1
  have g2 := gb_lt l 2
  have g3 := gb_lt l 3
  unfold oculusref13_Size.f
  refine ev_neg (by omega) (ev_pos (by omega) ?_)
  simp only [hb]
  have fin : ∀ n : Nat, 1 ≤ n → n ≤ 4 → (n = 2 ↔ 194 ≤ gb l 0 ∧ gb l 0 ≤ 223) → (n = 3 ↔ 224 ≤ gb l 0 ∧ gb l 0 ≤ 239) → (n = 4 ↔ 240 ≤ gb l 0 ∧ gb l 0 ≤ 244) → Ev (fun k => oculusref13_Size.j2 k (tx l) (n : Int) 128 191) (wL l : Int) := by
    intro n h1 h4 e2 e3 e4
    have := size_j2 l hl n h1 h4
    refine (congrArg (Ev _) ?_).mp this
    exact vS_fin l hl n h1 h4 e2 e3 e4
  by_cases h1 : (gb l 0 : Int) ≥ 194
  · refine ev_pos h1 ?_
    by_cases h2 : (gb l 0 : Int) ≤ 223
    · rw [decide_eq_true h2]
      refine Ev.step (fun k => oculusref13_Size.j0.eq_2 _ _ _ _ _ _) ?_
      exact ev_pos rfl (fin 2 (by omega) (by omega) (by omega) (by omega) (by omega))
    · rw [decide_eq_false h2]
      refine Ev.step (fun k => oculusref13_Size.j0.eq_2 _ _ _ _ _ _) ?_
      refine ev_neg (by simp) (ev_pos (by omega) ?_)
      simp only [hb]
      refine ev_pos (by omega) ?_
      by_cases h3 : (gb l 0 : Int) ≤ 239
      · rw [decide_eq_true h3]
        refine Ev.step (fun k => oculusref13_Size.j1.eq_2 _ _ _ _ _ _) ?_
        exact ev_pos rfl (fin 3 (by omega) (by omega) (by omega) (by omega) (by omega))
      · rw [decide_eq_false h3]
        refine Ev.step (fun k => oculusref13_Size.j1.eq_2 _ _ _ _ _ _) ?_
        refine ev_neg (by simp) (ev_pos (by omega) ?_)
        simp only [hb]
        refine ev_pos (by omega) ?_
        by_cases h5 : (gb l 0 : Int) ≤ 244
        · exact ev_pos h5 (fin 4 (by omega) (by omega) (by omega) (by omega) (by omega))
        · exact ev_neg h5 (fin 1 (by omega) (by omega) (by omega) (by omega) (by omega))
  · refine ev_neg h1 ?_
    refine Ev.step (fun k => oculusref13_Size.j0.eq_2 _ _ _ _ _ _) ?_
    refine ev_neg (by simp) (ev_pos (by omega) ?_)
    simp only [hb]
    refine ev_neg (by omega) ?_
    refine Ev.step (fun k => oculusref13_Size.j1.eq_2 _ _ _ _ _ _) ?_
    refine ev_neg (by simp) (ev_pos (by omega) ?_)
    simp only [hb]
    exact ev_neg (by omega) (fin 1 (by omega) (by omega) (by omega) (by omega) (by omega))
theorem pieces_l0 : ∀ (n : Nat) (l : List UInt8) (acc : List ByteArray), l.length ≤ n → l.length + acc.length ≤ 1000000 → Ev (fun k => oculusref13_Pieces.l0 k (tx l) acc) (acc ++ (pcs l).map tx)
  | n, l, acc, h, hs => by
    have hz := size_tx l
    by_cases hl : l = []
    · subst hl
      rw [pcs_nil, List.map_nil, List.append_nil]
      refine Ev.step (fun k => oculusref13_Pieces.l0.eq_2 _ _ _) ?_
      exact ev_neg (by rw [hz]; simp) (Ev.now _)
    · have hb := wL_bounds l hl
      refine Ev.step (fun k => oculusref13_Pieces.l0.eq_2 _ _ _) ?_
      refine ev_pos (by omega) ?_
      refine ev_bind (size13_ev l hl) ?_
      refine ev_pos (by omega) (ev_pos (by omega) (ev_pos (by omega) ?_))
      obtain ⟨n', rfl⟩ : ∃ n', n = n' + 1 := ⟨n - 1, by omega⟩
      have := pieces_l0 n' (l.drop (wL l)) (acc ++ [tx (l.take (wL l))]) (by rw [List.length_drop]; omega) (by rw [List.length_drop, List.length_append, List.length_singleton]; omega)
      have e : acc ++ (pcs l).map tx = (acc ++ [tx (l.take (wL l))]) ++ (pcs (l.drop (wL l))).map tx := by rw [pcs_cons l hl]; simp
      rw [e, Int.toNat_natCast, ext_head, ext_tail, by_tx]
      exact this
theorem pieces_ev (s : ByteArray) (h : s.size ≤ 1000) : Ev (fun k => oculusref13_Pieces.f k s) ((pcs (by_ s)).map tx) := by
  unfold oculusref13_Pieces.f
  have := pieces_l0 (by_ s).length (by_ s) [] (Nat.le_refl _) (by rw [← size_by]; simp; omega)
  rw [tx_by] at this
  simpa using this
end Go.Proofs.Ytlchgkoafabapaa.X
namespace Go.Proofs.Ytlchgkoafabapaa.X
open Go.RowKit Go.Proofs.YtlchgkoafabapaaW.PrintWords Go.Proofs.YtlchgkoafabapaaW.PrintLast Go.Proofs.YtlchgkoafabapaaW.PrintMore
attribute [local go_sem] max2_int min2_int max_two min_two max_three min_three max_four min_four   -- for this text's walks alone
set_option linter.unusedVariables false
set_option linter.unusedSimpArgs false

/-! ### oculusref13_Join: function 70 -/
def oculusref13_Join.l0 : Nat → List ByteArray → ByteArray → Int → Option (ByteArray)
  | 0, _, _, _ => none
  | k + 1, x0, x3, x4 => if x4 < (x0.length : Int) then (if 0 ≤ x4 then (if x3.size + (rdOf ByteArray.empty x0 x4).size ≤ 9223372036854775807 then (oculusref13_Join.l0 k x0 (x3 ++ (rdOf ByteArray.empty x0 x4)) (wrap64 (x4 + 1))) else (none)) else (none)) else (some x3)
def oculusref13_Join.f (k : Nat) (l0 : List ByteArray) : Option (ByteArray) := oculusref13_Join.l0 k l0 (⟨#[]⟩ : ByteArray) 0
theorem oculusref13_Join.mono_l : ∀ k, (∀ y0 y1 y2, LeO (oculusref13_Join.l0 k y0 y1 y2) (oculusref13_Join.l0 (k + 1) y0 y1 y2))
  | 0 => fun _ _ _ r h => by simp [oculusref13_Join.l0] at h
  | k + 1 => by
    have ih0 := oculusref13_Join.mono_l k
    · intro y0 y1 y2
      unfold oculusref13_Join.l0
      repeat' first
      | (with_reducible exact ih0 _ _ _)
      | (with_reducible exact LeO.refl _)
      | (with_reducible exact LeO.none _)
      | (with_reducible refine LeO.ite ?_ ?_)
      | (with_reducible refine LeO.bind ?_ (fun _ => ?_))
      | exact ih0 _ _ _
      | exact LeO.none _
      | refine LeO.ite ?_ ?_
      | refine LeO.bind ?_ (fun _ => ?_)
theorem oculusref13_Join.mono : ∀ a0 k, LeO (oculusref13_Join.f k a0) (oculusref13_Join.f (k + 1) a0) := by
  intro a0 k
  have ih0 := oculusref13_Join.mono_l k
  unfold oculusref13_Join.f
  repeat' first
      | (with_reducible exact ih0 _ _ _)
      | (with_reducible exact LeO.refl _)
      | (with_reducible exact LeO.none _)
      | (with_reducible refine LeO.ite ?_ ?_)
      | (with_reducible refine LeO.bind ?_ (fun _ => ?_))
      | exact ih0 _ _ _
      | exact LeO.none _
      | refine LeO.ite ?_ ?_
      | refine LeO.bind ?_ (fun _ => ?_)
set_option maxHeartbeats 8000000 in
set_option maxRecDepth 100000 in
theorem oculusref13_Join.calls (k : Nat) (A0 : Option Addr) (c0 : Nat) (l0 : List ByteArray) (r : ByteArray) (w : World) (hr0 : Kd.C Kd.string w A0 l0.length l0) (hc0 : l0.length ≤ c0) (h : oculusref13_Join.f k l0 = some r) :
    Calls Try.prog 70 #[.slice A0 l0.length c0] w fun e w' => e = .returned (.string r) ∧ Drawn0 w w' := by
  have HR0 := Aside0.mk hr0
  have HC0 := Aside0.mk hc0
  clear hr0 hc0
  have H : (oculusref13_Join.l0 k l0 (⟨#[]⟩ : ByteArray) 0) = some r := h
  clear h
  have H' := Aside0.mk H
  clear H
  go_enter Try.func70, Try.ntmps70
  go_wp2
  go_loopg [3, 4] k (fun kq v3 v4 w' => ∃ (x3_1 : ByteArray) (x4_1 : Int), v3 = .string x3_1 ∧ v4 = .int .i64 x4_1 ∧ Aside0 (oculusref13_Join.l0 kq l0 x3_1 x4_1 = some r) ∧ Aside0 (kq ≤ k) ∧ Drawn0 w w')
  case atStart => exact ⟨((⟨#[]⟩ : ByteArray)), (0), (by first | rfl | (simp; done) | (simp [*]; done)), (by first | rfl | (simp; done) | (simp [*]; done)), H', ⟨Nat.le_refl _⟩, by repeat (first | exact Drawn0.refl _ | apply Drawn0.step)⟩
  case round =>
    clear H'
    obtain ⟨x3_1, x4_1, rfl, rfl, HA, HK1, ⟨m1, rfl⟩⟩ := hrel
    cases gk with
    | zero => exact absurd HA.out (by simp [oculusref13_Join.l0])
    | succ k1 =>
      have H := HA.out
      clear HA
      simp only [oculusref13_Join.l0] at H
      by_cases c2 : x4_1 < (l0.length : Int)
      · rw [if_pos c2] at H
        have c2b0 : decide (x4_1 < (l0.length : Int)) = true := decide_eq_true c2
        clear c2
        by_cases c3 : 0 ≤ x4_1
        · rw [if_pos c3] at H
          have c3b0 : decide (0 ≤ x4_1) = true := decide_eq_true c3
          clear c3
          by_cases c4 : x3_1.size + (rdOf ByteArray.empty l0 x4_1).size ≤ 9223372036854775807
          · rw [if_pos c4] at H
            have c4b0 := eq_true c4
            have c4b1 : decide (x3_1.size + (rdOf ByteArray.empty l0 x4_1).size ≤ 9223372036854775807) = true := decide_eq_true c4
            try have c4b2 : (9223372036854775807 < x3_1.size + (rdOf ByteArray.empty l0 x4_1).size) = False := eq_false (Nat.not_lt.2 c4)
            have H' := Aside0.mk H
            clear H
            have p101 : 0 ≤ (x4_1 : Int) := of_decide_eq_true (by first | (with_reducible assumption) | assumption)
            have q101 : x4_1 < (l0.length : Int) := of_decide_eq_true (by first | (with_reducible assumption) | assumption)
            obtain ⟨ad101, e101, hx101_0⟩ := Kd.at_string HR0.out x4_1 p101 q101
            cases e101
            replace p101 := eq_true p101
            replace q101 := eq_true q101
            go_wp2
            go_roundg k1
            case measure => have := HK1.out; omega
            case rel => exact ⟨(x3_1 ++ (rdOf ByteArray.empty l0 x4_1)), (wrap64 (x4_1 + 1)), (by first | rfl | (simp; done) | (simp [*]; done)), (by first | rfl | (simp; done) | (simp [*]; done)), H', ⟨by have := HK1.out; omega⟩, by repeat (first | exact Drawn0.refl _ | apply Drawn0.step)⟩
          · rw [if_neg c4] at H
            exact absurd H (by simp)
        · rw [if_neg c3] at H
          exact absurd H (by simp)
      · rw [if_neg c2] at H
        have c2b0 : decide (x4_1 < (l0.length : Int)) = false := decide_eq_false c2
        clear c2
        obtain rfl := Option.some.inj H
        go_wp2
        go_ret
        exact ⟨by first | rfl | (simp; done) | (simp [*]; done), by repeat (first | exact Drawn0.refl _ | apply Drawn0.step)⟩

end Go.Proofs.Ytlchgkoafabapaa.X
namespace Go.Proofs.Ytlchgkoafabapaa.X
open Go.RowKit Go.Proofs.YtlchgkoafabapaaW.PrintWords Go.Proofs.YtlchgkoafabapaaW.PrintLast Go.Proofs.YtlchgkoafabapaaW.PrintMore
attribute [local go_sem] max2_int min2_int max_two min_two max_three min_three max_four min_four   -- for this text's walks alone
set_option linter.unusedVariables false
set_option linter.unusedSimpArgs false

/-! ### oculusref13_Mid: function 31 -/
def oculusref13_Mid.l0 : Nat → Int → Int → List ByteArray → List ByteArray → Int → Option (ByteArray)
  | 0, _, _, _, _, _ => none
  | k + 1, x1, x2, x7, x8, x9 => if x9 < (x8.length : Int) then (if x1 ≥ 0 then (if x9 ≥ x1 then (if (wrap64 (x9 - x1)) < x2 then (if 0 ≤ x9 then (if x7.length < 8796093022208 then (oculusref13_Mid.l0 k x1 x2 (x7 ++ [rdOf ByteArray.empty x8 x9]) x8 (wrap64 (x9 + 1))) else (none)) else (none)) else (oculusref13_Mid.l0 k x1 x2 x7 x8 (wrap64 (x9 + 1)))) else (oculusref13_Mid.l0 k x1 x2 x7 x8 (wrap64 (x9 + 1)))) else (oculusref13_Mid.l0 k x1 x2 x7 x8 (wrap64 (x9 + 1)))) else ((oculusref13_Join.f k x7).bind fun t108 => (some t108))
def oculusref13_Mid.f (k : Nat) (a0 : ByteArray) (a1 : Int) (a2 : Int) : Option (ByteArray) := (oculusref13_Pieces.f k a0).bind fun t101 => (oculusref13_Mid.l0 k a1 a2 ([] : List ByteArray) t101 0)
theorem oculusref13_Mid.mono_l : ∀ k, (∀ y0 y1 y2 y3 y4, LeO (oculusref13_Mid.l0 k y0 y1 y2 y3 y4) (oculusref13_Mid.l0 (k + 1) y0 y1 y2 y3 y4))
  | 0 => fun _ _ _ _ _ r h => by simp [oculusref13_Mid.l0] at h
  | k + 1 => by
    have ih0 := oculusref13_Mid.mono_l k
    · intro y0 y1 y2 y3 y4
      unfold oculusref13_Mid.l0
      repeat' first
      | (with_reducible exact ih0 _ _ _ _ _)
      | (with_reducible exact oculusref13_Join.mono _ _)
      | (with_reducible exact oculusref13_Pieces.mono _ _)
      | (with_reducible exact LeO.refl _)
      | (with_reducible exact LeO.none _)
      | (with_reducible refine LeO.ite ?_ ?_)
      | (with_reducible refine LeO.bind ?_ (fun _ => ?_))
      | exact ih0 _ _ _ _ _
      | exact oculusref13_Join.mono _ _
      | exact oculusref13_Pieces.mono _ _
      | exact LeO.none _
      | refine LeO.ite ?_ ?_
      | refine LeO.bind ?_ (fun _ => ?_)
theorem oculusref13_Mid.mono : ∀ a0 a1 a2 k, LeO (oculusref13_Mid.f k a0 a1 a2) (oculusref13_Mid.f (k + 1) a0 a1 a2) := by
  intro a0 a1 a2 k
  have ih0 := oculusref13_Mid.mono_l k
  unfold oculusref13_Mid.f
  repeat' first
      | (with_reducible exact ih0 _ _ _ _ _)
      | (with_reducible exact oculusref13_Join.mono _ _)
      | (with_reducible exact oculusref13_Pieces.mono _ _)
      | (with_reducible exact LeO.refl _)
      | (with_reducible exact LeO.none _)
      | (with_reducible refine LeO.ite ?_ ?_)
      | (with_reducible refine LeO.bind ?_ (fun _ => ?_))
      | exact ih0 _ _ _ _ _
      | exact oculusref13_Join.mono _ _
      | exact oculusref13_Pieces.mono _ _
      | exact LeO.none _
      | refine LeO.ite ?_ ?_
      | refine LeO.bind ?_ (fun _ => ?_)
set_option maxHeartbeats 8000000 in
set_option maxRecDepth 100000 in
theorem oculusref13_Mid.calls (k : Nat) (a0 : ByteArray) (a1 : Int) (a2 : Int) (r : ByteArray) (w : World) (h : oculusref13_Mid.f k a0 a1 a2 = some r) :
    Calls Try.prog 31 #[.string a0, .int .i64 a1, .int .i64 a2] w fun e w' => e = .returned (.string r) ∧ Below w.heap.size w w' := by
  have HB := Aside0.mk (Below.refl w.heap.size w)
  have H : ((oculusref13_Pieces.f k a0).bind fun t101 => (oculusref13_Mid.l0 k a1 a2 ([] : List ByteArray) t101 0)) = some r := h
  clear h
  replace H := Option.bind_eq_some_iff.mp H
  obtain ⟨t101, A40, H⟩ := H
  replace H : (oculusref13_Mid.l0 k a1 a2 ([] : List ByteArray) t101 0) = some r := H
  have A4 := Aside0.mk A40
  clear A40
  have H' := Aside0.mk H
  clear H
  go_enter Try.func31, Try.ntmps31
  go_wp2_with (first | ((with_reducible refine gate_callee (f := 29) rfl ?_); refine goesL_ (some 11) rfl rfl Try.func29 (by kernel_rfl) rfl #[.string a0] rfl (by (try simp only [List.map_toArray, List.map_cons, List.map_nil]); first | done | rfl | (simp only [List.length_drop, List.length_take]; rfl)) ?_; (with_reducible refine (oculusref13_Pieces.calls k a0 t101 _ A4.out).mono ?_); rintro e w5 ⟨v102, rfl, ho0, hb⟩; refine ⟨_, rfl, ?_⟩; have n0_ := Aside0.mk (Kd.R_lower ho0 (below_size (pbx HB))); have n1_ := Aside0.mk (below_step (pbx HB) hb); clear HB; have HO103 := n0_; have HB := n1_; clear n0_ n1_; (try clear hb); (try clear hb2); (try clear hk); (try clear hi); (try clear ho0)))
  go_loopg [7, 9] k (fun kq v7 v9 w' => ∃ (x7_1 : List ByteArray) (x9_1 : Int), v9 = .int .i64 x9_1 ∧ Aside0 (oculusref13_Mid.l0 kq a1 a2 x7_1 t101 x9_1 = some r) ∧ Aside0 (kq ≤ k) ∧ Aside0 (Kd.R Kd.string 9 w' w.heap.size (fun k_ => some k_ ≠ (v102 : Value).ownBlock) v7 x7_1) ∧ Aside0 (Kd.R Kd.string 9 w' w.heap.size (fun k_ => some k_ ≠ (v7 : Value).ownBlock) v102 t101) ∧ Aside0 (Below w.heap.size w w'))
  case atStart => exact ⟨(([] : List ByteArray)), (0), (by first | rfl | (simp; done) | (simp [*]; done)), H', ⟨Nat.le_refl _⟩, ⟨by first | exact Kd.R_nil _ _ _ _ _ | exact Kd.N_nil _ _ _ _ _ | exact Kd.V_nil _ _ _ _ _ | exact Kd.Q_nil _ _ _ _ _ | exact Kd.S_nil _ _ _ _ _⟩, ⟨by (with_reducible repeat (first | apply Kd.R_alloc | apply Kd.R_drewN | apply Kd.R_drew)); exact Kd.R_mono HO103.out (fun _ hk => (by simp [Value.ownBlock]))⟩, ⟨pbx HB⟩⟩
  case round =>
    clear H'
    try clear c2
    try clear p2
    try clear c3
    obtain ⟨x7_1, x9_1, rfl, HA, HK1, HO_7, HO_8, HB⟩ := hrel
    cases gk with
    | zero => exact absurd HA.out (by simp [oculusref13_Mid.l0])
    | succ k1 =>
      have H := HA.out
      clear HA
      simp only [oculusref13_Mid.l0] at H
      by_cases c6 : x9_1 < (t101.length : Int)
      · rw [if_pos c6] at H
        have c6b0 : decide (x9_1 < (t101.length : Int)) = true := decide_eq_true c6
        clear c6
        by_cases c7 : a1 ≥ 0
        · rw [if_pos c7] at H
          have c7b0 : decide (0 ≤ a1) = true := decide_eq_true c7
          clear c7
          by_cases c8 : x9_1 ≥ a1
          · rw [if_pos c8] at H
            have c8b0 : decide (a1 ≤ x9_1) = true := decide_eq_true c8
            clear c8
            by_cases c9 : (wrap64 (x9_1 - a1)) < a2
            · rw [if_pos c9] at H
              have c9b0 : decide ((wrap64 (x9_1 - a1)) < a2) = true := decide_eq_true c9
              clear c9
              by_cases c10 : 0 ≤ x9_1
              · rw [if_pos c10] at H
                have c10b0 : decide (0 ≤ x9_1) = true := decide_eq_true c10
                clear c10
                by_cases c11 : x7_1.length < 8796093022208
                · rw [if_pos c11] at H
                  have LMc11 := Aside0.mk c11
                  clear c11
                  obtain ⟨y105, hy105⟩ : ∃ y_ : List ByteArray, y_ = (x7_1 ++ [rdOf ByteArray.empty t101 x9_1]) := ⟨_, rfl⟩
                  replace H : (oculusref13_Mid.l0 k1 a1 a2 y105 t101 (wrap64 (x9_1 + 1))) = some r := by first | (rw [hy105]; with_reducible exact H) | (have H2_ := (Option.bind_some _ _).symm.trans H; rw [hy105]; with_reducible exact H2_) | (have H2_ := (Option.bind_some _ _).symm.trans H; with_reducible exact H2_) | with_reducible exact H | (rw [hy105]; exact H) | exact H
                  have Ny105 := Aside0.mk hy105
                  clear hy105
                  have H' := Aside0.mk H
                  clear H
                  obtain ⟨Ao12, co12, eo12⟩ := Kd.R_slice HO_8.out
                  subst eo12
                  have p104 : 0 ≤ (x9_1 : Int) := of_decide_eq_true (by first | (with_reducible assumption) | assumption)
                  have q104 : x9_1 < (t101.length : Int) := of_decide_eq_true (by first | (with_reducible assumption) | assumption)
                  obtain ⟨ad104, e104, hx104_0⟩ := Kd.at_string (Kd.R_reads' HO_8.out).2.2 x9_1 p104 q104
                  cases e104
                  replace p104 := eq_true p104
                  replace q104 := eq_true q104
                  go_wp2_with (first | ((with_reducible refine gate_builtin (b := .append) (xs := #[.tmp 32, .tmp 37]) rfl ?_); at_builtin; refine Kd.R_append Kd.string (w0 := w) w.heap.size rfl (.tmp 32) (.tmp 37) 64 9 (.string ⟨#[]⟩) 16 rfl Try.underlying64 info9 rfl (by decide) (by omega) u7 x7_1 (rdOf ByteArray.empty t101 x9_1) [.string (rdOf ByteArray.empty t101 x9_1)] (fun k_ => some k_ ≠ (.slice (some ad104) t101.length co12 : Value).ownBlock) (fun _ => False) rfl rfl ?aP (fun _ hk => hk.elim) ?aF ?aO ?aB ?aS ?aL ?_; (case aP => exact rfl); (case aB => exact (pbx HB)); (case aF => exact (fun k_ hk => Kd.fresh' (Kd.R_lt (by (with_reducible repeat (first | apply Kd.R_alloc | apply Kd.R_drewN | apply Kd.R_drew)); exact HO_8.out)) k_ hk)); (case aO => exact (by (with_reducible repeat (first | apply Kd.R_alloc | apply Kd.R_drewN | apply Kd.R_drew)); exact HO_7.out)); (case aS => exact (below_size (pbx HB))); (case aL => have := LMc11.out; omega); intro v106 w13 ho hb hg hat; rw [← Ny105.out] at ho; have n0_ := Aside0.mk (Kd.R_after (ok := (fun _ => True)) (by (with_reducible repeat (first | apply Kd.R_alloc | apply Kd.R_drewN | apply Kd.R_drew)); exact Kd.R_mono HO_8.out (fun _ hk => ⟨trivial, hk⟩)) hg hat); have n1_ := Aside0.mk (hb); have n2_ := Aside0.mk (ho); clear HO_8; clear HB; clear HO_7; have HO_8 := n0_; have HB := n1_; have HO107 := n2_; clear n0_ n1_ n2_; clear ho hb hg hat))
                  go_roundg k1
                  case measure => have := HK1.out; omega
                  case rel => exact ⟨(y105), (wrap64 (x9_1 + 1)), (by first | rfl | (simp; done) | (simp [*]; done)), H', ⟨by have := HK1.out; omega⟩, ⟨by (with_reducible repeat (first | apply Kd.R_alloc | apply Kd.R_drewN | apply Kd.R_drew)); exact HO107.out⟩, ⟨by (with_reducible repeat (first | apply Kd.R_alloc | apply Kd.R_drewN | apply Kd.R_drew)); exact Kd.R_mono HO_8.out (fun _ hk => hk.2)⟩, ⟨pbx HB⟩⟩
                · rw [if_neg c11] at H
                  exact absurd H (by simp)
              · rw [if_neg c10] at H
                exact absurd H (by simp)
            · rw [if_neg c9] at H
              have c9b0 : decide ((wrap64 (x9_1 - a1)) < a2) = false := decide_eq_false c9
              clear c9
              have H' := Aside0.mk H
              clear H
              obtain ⟨Ao14, co14, eo14⟩ := Kd.R_slice HO_8.out
              subst eo14
              go_wp2
              go_roundg k1
              case measure => have := HK1.out; omega
              case rel => exact ⟨(x7_1), (wrap64 (x9_1 + 1)), (by first | rfl | (simp; done) | (simp [*]; done)), H', ⟨by have := HK1.out; omega⟩, ⟨by (with_reducible repeat (first | apply Kd.R_alloc | apply Kd.R_drewN | apply Kd.R_drew)); exact HO_7.out⟩, ⟨by (with_reducible repeat (first | apply Kd.R_alloc | apply Kd.R_drewN | apply Kd.R_drew)); exact HO_8.out⟩, ⟨pbx HB⟩⟩
          · rw [if_neg c8] at H
            have c8b0 : decide (a1 ≤ x9_1) = false := decide_eq_false c8
            clear c8
            have H' := Aside0.mk H
            clear H
            obtain ⟨Ao15, co15, eo15⟩ := Kd.R_slice HO_8.out
            subst eo15
            go_wp2
            go_roundg k1
            case measure => have := HK1.out; omega
            case rel => exact ⟨(x7_1), (wrap64 (x9_1 + 1)), (by first | rfl | (simp; done) | (simp [*]; done)), H', ⟨by have := HK1.out; omega⟩, ⟨by (with_reducible repeat (first | apply Kd.R_alloc | apply Kd.R_drewN | apply Kd.R_drew)); exact HO_7.out⟩, ⟨by (with_reducible repeat (first | apply Kd.R_alloc | apply Kd.R_drewN | apply Kd.R_drew)); exact HO_8.out⟩, ⟨pbx HB⟩⟩
        · rw [if_neg c7] at H
          have c7b0 : decide (0 ≤ a1) = false := decide_eq_false c7
          clear c7
          have H' := Aside0.mk H
          clear H
          obtain ⟨Ao16, co16, eo16⟩ := Kd.R_slice HO_8.out
          subst eo16
          go_wp2
          go_roundg k1
          case measure => have := HK1.out; omega
          case rel => exact ⟨(x7_1), (wrap64 (x9_1 + 1)), (by first | rfl | (simp; done) | (simp [*]; done)), H', ⟨by have := HK1.out; omega⟩, ⟨by (with_reducible repeat (first | apply Kd.R_alloc | apply Kd.R_drewN | apply Kd.R_drew)); exact HO_7.out⟩, ⟨by (with_reducible repeat (first | apply Kd.R_alloc | apply Kd.R_drewN | apply Kd.R_drew)); exact HO_8.out⟩, ⟨pbx HB⟩⟩
      · rw [if_neg c6] at H
        have c6b0 : decide (x9_1 < (t101.length : Int)) = false := decide_eq_false c6
        clear c6
        replace H := Option.bind_eq_some_iff.mp H
        obtain ⟨t108, A170, H⟩ := H
        replace H : (some t108) = some r := H
        have A17 := Aside0.mk A170
        clear A170
        obtain rfl := Option.some.inj H
        obtain ⟨Ao18, co18, eo18⟩ := Kd.R_slice HO_8.out
        subst eo18
        obtain ⟨Ao19, co19, eo19⟩ := Kd.R_slice HO_7.out
        subst eo19
        go_wp2_with (first | ((with_reducible refine gate_callee (f := 70) rfl ?_); refine goesL_ (some 40) rfl rfl Try.func70 (by kernel_rfl) rfl #[.slice Ao19 x7_1.length co19] rfl (by (try simp only [List.map_toArray, List.map_cons, List.map_nil]); first | done | rfl | (simp only [List.length_drop, List.length_take]; rfl)) ?_; (with_reducible refine (oculusref13_Join.calls k1 _ _ x7_1 t108 _ ?side1 ?side2 A17.out).mono ?_); (case side1 => repeat (first | exact (Kd.R_reads' HO_7.out).2.2 | (with_reducible refine Kd.C_alloc ?_ _) | (with_reducible refine Kd.C_drewN ?_ _) | (with_reducible refine Kd.C_drew ?_))); (case side2 => exact (Kd.R_reads' HO_7.out).2.1); rintro e w' ⟨rfl, ⟨nd, rfl⟩⟩; refine ⟨_, rfl, ?_⟩))
        go_ret
        exact ⟨by first | rfl | (simp [errW_none, errW_some] <;> rfl) | (simp [*, errW_none, errW_some] <;> rfl), pbx HB⟩

end Go.Proofs.Ytlchgkoafabapaa.X
namespace Go.Proofs.Ytlchgkoafabapaa.X
open Go.RowKit Go.Proofs.YtlchgkoafabapaaW.PrintWords Go.Proofs.YtlchgkoafabapaaW.PrintLast Go.Proofs.YtlchgkoafabapaaW.PrintMore
attribute [local go_sem] max2_int min2_int max_two min_two max_three min_three max_four min_four   -- for this text's walks alone
set_option linter.unusedVariables false
set_option linter.unusedSimpArgs false

/-! ### oculusref13_Right: function 33 -/
def oculusref13_Right.l0 : Nat → Int → List ByteArray → List ByteArray → Int → Option (ByteArray)
  | 0, _, _, _, _ => none
  | k + 1, x1, x5, x6, x7 => if x7 < (x6.length : Int) then (if (wrap64 ((x6.length : Int) - x7)) ≤ x1 then (if 0 ≤ x7 then (if x5.length < 8796093022208 then (oculusref13_Right.l0 k x1 (x5 ++ [rdOf ByteArray.empty x6 x7]) x6 (wrap64 (x7 + 1))) else (none)) else (none)) else (oculusref13_Right.l0 k x1 x5 x6 (wrap64 (x7 + 1)))) else ((oculusref13_Join.f k x5).bind fun t108 => (some t108))
def oculusref13_Right.f (k : Nat) (a0 : ByteArray) (a1 : Int) : Option (ByteArray) := (oculusref13_Pieces.f k a0).bind fun t101 => (oculusref13_Right.l0 k a1 ([] : List ByteArray) t101 0)
theorem oculusref13_Right.mono_l : ∀ k, (∀ y0 y1 y2 y3, LeO (oculusref13_Right.l0 k y0 y1 y2 y3) (oculusref13_Right.l0 (k + 1) y0 y1 y2 y3))
  | 0 => fun _ _ _ _ r h => by simp [oculusref13_Right.l0] at h
  | k + 1 => by
    have ih0 := oculusref13_Right.mono_l k
    · intro y0 y1 y2 y3
      unfold oculusref13_Right.l0
      repeat' first
      | (with_reducible exact ih0 _ _ _ _)
      | (with_reducible exact oculusref13_Join.mono _ _)
      | (with_reducible exact oculusref13_Pieces.mono _ _)
      | (with_reducible exact LeO.refl _)
      | (with_reducible exact LeO.none _)
      | (with_reducible refine LeO.ite ?_ ?_)
      | (with_reducible refine LeO.bind ?_ (fun _ => ?_))
      | exact ih0 _ _ _ _
      | exact oculusref13_Join.mono _ _
      | exact oculusref13_Pieces.mono _ _
      | exact LeO.none _
      | refine LeO.ite ?_ ?_
      | refine LeO.bind ?_ (fun _ => ?_)
theorem oculusref13_Right.mono : ∀ a0 a1 k, LeO (oculusref13_Right.f k a0 a1) (oculusref13_Right.f (k + 1) a0 a1) := by
  intro a0 a1 k
  have ih0 := oculusref13_Right.mono_l k
  unfold oculusref13_Right.f
  repeat' first
      | (with_reducible exact ih0 _ _ _ _)
      | (with_reducible exact oculusref13_Join.mono _ _)
      | (with_reducible exact oculusref13_Pieces.mono _ _)
      | (with_reducible exact LeO.refl _)
      | (with_reducible exact LeO.none _)
      | (with_reducible refine LeO.ite ?_ ?_)
      | (with_reducible refine LeO.bind ?_ (fun _ => ?_))
      | exact ih0 _ _ _ _
      | exact oculusref13_Join.mono _ _
      | exact oculusref13_Pieces.mono _ _
      | exact LeO.none _
      | refine LeO.ite ?_ ?_
      | refine LeO.bind ?_ (fun _ => ?_)
set_option maxHeartbeats 8000000 in
set_option maxRecDepth 100000 in
theorem oculusref13_Right.calls (k : Nat) (a0 : ByteArray) (a1 : Int) (r : ByteArray) (w : World) (h : oculusref13_Right.f k a0 a1 = some r) :
    Calls Try.prog 33 #[.string a0, .int .i64 a1] w fun e w' => e = .returned (.string r) ∧ Below w.heap.size w w' := by
  have HB := Aside0.mk (Below.refl w.heap.size w)
  have H : ((oculusref13_Pieces.f k a0).bind fun t101 => (oculusref13_Right.l0 k a1 ([] : List ByteArray) t101 0)) = some r := h
  clear h
  replace H := Option.bind_eq_some_iff.mp H
  obtain ⟨t101, A30, H⟩ := H
  replace H : (oculusref13_Right.l0 k a1 ([] : List ByteArray) t101 0) = some r := H
  have A3 := Aside0.mk A30
  clear A30
  have H' := Aside0.mk H
  clear H
  go_enter Try.func33, Try.ntmps33
  go_wp2_with (first | ((with_reducible refine gate_callee (f := 29) rfl ?_); refine goesL_ (some 9) rfl rfl Try.func29 (by kernel_rfl) rfl #[.string a0] rfl (by (try simp only [List.map_toArray, List.map_cons, List.map_nil]); first | done | rfl | (simp only [List.length_drop, List.length_take]; rfl)) ?_; (with_reducible refine (oculusref13_Pieces.calls k a0 t101 _ A3.out).mono ?_); rintro e w4 ⟨v102, rfl, ho0, hb⟩; refine ⟨_, rfl, ?_⟩; have n0_ := Aside0.mk (Kd.R_lower ho0 (below_size (pbx HB))); have n1_ := Aside0.mk (below_step (pbx HB) hb); clear HB; have HO103 := n0_; have HB := n1_; clear n0_ n1_; (try clear hb); (try clear hb2); (try clear hk); (try clear hi); (try clear ho0)))
  go_loopg [5, 7] k (fun kq v5 v7 w' => ∃ (x5_1 : List ByteArray) (x7_1 : Int), v7 = .int .i64 x7_1 ∧ Aside0 (oculusref13_Right.l0 kq a1 x5_1 t101 x7_1 = some r) ∧ Aside0 (kq ≤ k) ∧ Aside0 (Kd.R Kd.string 9 w' w.heap.size (fun k_ => some k_ ≠ (v102 : Value).ownBlock) v5 x5_1) ∧ Aside0 (Kd.R Kd.string 9 w' w.heap.size (fun k_ => some k_ ≠ (v5 : Value).ownBlock) v102 t101) ∧ Aside0 (Below w.heap.size w w'))
  case atStart => exact ⟨(([] : List ByteArray)), (0), (by first | rfl | (simp; done) | (simp [*]; done)), H', ⟨Nat.le_refl _⟩, ⟨by first | exact Kd.R_nil _ _ _ _ _ | exact Kd.N_nil _ _ _ _ _ | exact Kd.V_nil _ _ _ _ _ | exact Kd.Q_nil _ _ _ _ _ | exact Kd.S_nil _ _ _ _ _⟩, ⟨by (with_reducible repeat (first | apply Kd.R_alloc | apply Kd.R_drewN | apply Kd.R_drew)); exact Kd.R_mono HO103.out (fun _ hk => (by simp [Value.ownBlock]))⟩, ⟨pbx HB⟩⟩
  case round =>
    clear H'
    try clear c2
    try clear p2
    try clear c3
    obtain ⟨x5_1, x7_1, rfl, HA, HK1, HO_5, HO_6, HB⟩ := hrel
    cases gk with
    | zero => exact absurd HA.out (by simp [oculusref13_Right.l0])
    | succ k1 =>
      have H := HA.out
      clear HA
      simp only [oculusref13_Right.l0] at H
      by_cases c5 : x7_1 < (t101.length : Int)
      · rw [if_pos c5] at H
        have c5b0 : decide (x7_1 < (t101.length : Int)) = true := decide_eq_true c5
        clear c5
        by_cases c6 : (wrap64 ((t101.length : Int) - x7_1)) ≤ a1
        · rw [if_pos c6] at H
          have c6b0 : decide ((wrap64 ((t101.length : Int) - x7_1)) ≤ a1) = true := decide_eq_true c6
          clear c6
          by_cases c7 : 0 ≤ x7_1
          · rw [if_pos c7] at H
            have c7b0 : decide (0 ≤ x7_1) = true := decide_eq_true c7
            clear c7
            by_cases c8 : x5_1.length < 8796093022208
            · rw [if_pos c8] at H
              have LMc8 := Aside0.mk c8
              clear c8
              obtain ⟨y105, hy105⟩ : ∃ y_ : List ByteArray, y_ = (x5_1 ++ [rdOf ByteArray.empty t101 x7_1]) := ⟨_, rfl⟩
              replace H : (oculusref13_Right.l0 k1 a1 y105 t101 (wrap64 (x7_1 + 1))) = some r := by first | (rw [hy105]; with_reducible exact H) | (have H2_ := (Option.bind_some _ _).symm.trans H; rw [hy105]; with_reducible exact H2_) | (have H2_ := (Option.bind_some _ _).symm.trans H; with_reducible exact H2_) | with_reducible exact H | (rw [hy105]; exact H) | exact H
              have Ny105 := Aside0.mk hy105
              clear hy105
              have H' := Aside0.mk H
              clear H
              obtain ⟨Ao9, co9, eo9⟩ := Kd.R_slice HO_6.out
              subst eo9
              have p104 : 0 ≤ (x7_1 : Int) := of_decide_eq_true (by first | (with_reducible assumption) | assumption)
              have q104 : x7_1 < (t101.length : Int) := of_decide_eq_true (by first | (with_reducible assumption) | assumption)
              obtain ⟨ad104, e104, hx104_0⟩ := Kd.at_string (Kd.R_reads' HO_6.out).2.2 x7_1 p104 q104
              cases e104
              replace p104 := eq_true p104
              replace q104 := eq_true q104
              go_wp2_with (first | ((with_reducible refine gate_builtin (b := .append) (xs := #[.tmp 22, .tmp 27]) rfl ?_); at_builtin; refine Kd.R_append Kd.string (w0 := w) w.heap.size rfl (.tmp 22) (.tmp 27) 64 9 (.string ⟨#[]⟩) 16 rfl Try.underlying64 info9 rfl (by decide) (by omega) u5 x5_1 (rdOf ByteArray.empty t101 x7_1) [.string (rdOf ByteArray.empty t101 x7_1)] (fun k_ => some k_ ≠ (.slice (some ad104) t101.length co9 : Value).ownBlock) (fun _ => False) rfl rfl ?aP (fun _ hk => hk.elim) ?aF ?aO ?aB ?aS ?aL ?_; (case aP => exact rfl); (case aB => exact (pbx HB)); (case aF => exact (fun k_ hk => Kd.fresh' (Kd.R_lt (by (with_reducible repeat (first | apply Kd.R_alloc | apply Kd.R_drewN | apply Kd.R_drew)); exact HO_6.out)) k_ hk)); (case aO => exact (by (with_reducible repeat (first | apply Kd.R_alloc | apply Kd.R_drewN | apply Kd.R_drew)); exact HO_5.out)); (case aS => exact (below_size (pbx HB))); (case aL => have := LMc8.out; omega); intro v106 w10 ho hb hg hat; rw [← Ny105.out] at ho; have n0_ := Aside0.mk (Kd.R_after (ok := (fun _ => True)) (by (with_reducible repeat (first | apply Kd.R_alloc | apply Kd.R_drewN | apply Kd.R_drew)); exact Kd.R_mono HO_6.out (fun _ hk => ⟨trivial, hk⟩)) hg hat); have n1_ := Aside0.mk (hb); have n2_ := Aside0.mk (ho); clear HO_6; clear HB; clear HO_5; have HO_6 := n0_; have HB := n1_; have HO107 := n2_; clear n0_ n1_ n2_; clear ho hb hg hat))
              go_roundg k1
              case measure => have := HK1.out; omega
              case rel => exact ⟨(y105), (wrap64 (x7_1 + 1)), (by first | rfl | (simp; done) | (simp [*]; done)), H', ⟨by have := HK1.out; omega⟩, ⟨by (with_reducible repeat (first | apply Kd.R_alloc | apply Kd.R_drewN | apply Kd.R_drew)); exact HO107.out⟩, ⟨by (with_reducible repeat (first | apply Kd.R_alloc | apply Kd.R_drewN | apply Kd.R_drew)); exact Kd.R_mono HO_6.out (fun _ hk => hk.2)⟩, ⟨pbx HB⟩⟩
            · rw [if_neg c8] at H
              exact absurd H (by simp)
          · rw [if_neg c7] at H
            exact absurd H (by simp)
        · rw [if_neg c6] at H
          have c6b0 : decide ((wrap64 ((t101.length : Int) - x7_1)) ≤ a1) = false := decide_eq_false c6
          clear c6
          have H' := Aside0.mk H
          clear H
          obtain ⟨Ao11, co11, eo11⟩ := Kd.R_slice HO_6.out
          subst eo11
          go_wp2
          go_roundg k1
          case measure => have := HK1.out; omega
          case rel => exact ⟨(x5_1), (wrap64 (x7_1 + 1)), (by first | rfl | (simp; done) | (simp [*]; done)), H', ⟨by have := HK1.out; omega⟩, ⟨by (with_reducible repeat (first | apply Kd.R_alloc | apply Kd.R_drewN | apply Kd.R_drew)); exact HO_5.out⟩, ⟨by (with_reducible repeat (first | apply Kd.R_alloc | apply Kd.R_drewN | apply Kd.R_drew)); exact HO_6.out⟩, ⟨pbx HB⟩⟩
      · rw [if_neg c5] at H
        have c5b0 : decide (x7_1 < (t101.length : Int)) = false := decide_eq_false c5
        clear c5
        replace H := Option.bind_eq_some_iff.mp H
        obtain ⟨t108, A120, H⟩ := H
        replace H : (some t108) = some r := H
        have A12 := Aside0.mk A120
        clear A120
        obtain rfl := Option.some.inj H
        obtain ⟨Ao13, co13, eo13⟩ := Kd.R_slice HO_6.out
        subst eo13
        obtain ⟨Ao14, co14, eo14⟩ := Kd.R_slice HO_5.out
        subst eo14
        go_wp2_with (first | ((with_reducible refine gate_callee (f := 70) rfl ?_); refine goesL_ (some 30) rfl rfl Try.func70 (by kernel_rfl) rfl #[.slice Ao14 x5_1.length co14] rfl (by (try simp only [List.map_toArray, List.map_cons, List.map_nil]); first | done | rfl | (simp only [List.length_drop, List.length_take]; rfl)) ?_; (with_reducible refine (oculusref13_Join.calls k1 _ _ x5_1 t108 _ ?side1 ?side2 A12.out).mono ?_); (case side1 => repeat (first | exact (Kd.R_reads' HO_5.out).2.2 | (with_reducible refine Kd.C_alloc ?_ _) | (with_reducible refine Kd.C_drewN ?_ _) | (with_reducible refine Kd.C_drew ?_))); (case side2 => exact (Kd.R_reads' HO_5.out).2.1); rintro e w' ⟨rfl, ⟨nd, rfl⟩⟩; refine ⟨_, rfl, ?_⟩))
        go_ret
        exact ⟨by first | rfl | (simp [errW_none, errW_some] <;> rfl) | (simp [*, errW_none, errW_some] <;> rfl), pbx HB⟩

end Go.Proofs.Ytlchgkoafabapaa.X
/- What runes and its reference answer, on a list of pieces. -/
set_option linter.unusedVariables false
set_option linter.unusedSimpArgs false
namespace Go.Proofs.Ytlchgkoafabapaa.X
open Go.RowKit Go.Proofs.YtlchgkoafabapaaW.PrintWords Go.Proofs.YtlchgkoafabapaaW.PrintLast Go.Proofs.YtlchgkoafabapaaW.PrintMore
theorem rdP (xs : List (List UInt8)) (i : Nat) (h : i < xs.length) : rdOf ByteArray.empty (xs.map tx) (i : Int) = tx xs[i] := by
  unfold rdOf
  rw [Int.toNat_natCast, List.getD_eq_getElem?_getD, List.getElem?_map, List.getElem?_eq_getElem h]; rfl
theorem join_l0 (xs : List (List UInt8)) (hx : xs.length ≤ 1000000) : ∀ d i a, i + d = xs.length → a.length + (xs.drop i).flatten.length ≤ 1000000 → Ev (fun k => oculusref13_Join.l0 k (xs.map tx) (tx a) (i : Int)) (tx (a ++ (xs.drop i).flatten))
  | 0, i, a, h, hs => by
    rw [List.drop_eq_nil_of_le (by omega)]
    refine Ev.step (fun k => oculusref13_Join.l0.eq_2 _ _ _ _) ?_
    refine ev_neg (by rw [List.length_map]; omega) ?_
    simp only [List.flatten_nil, List.append_nil]
    exact Ev.now _
  | d + 1, i, a, h, hs => by
    have hlt : i < xs.length := by omega
    rw [List.drop_eq_getElem_cons hlt] at hs ⊢
    rw [List.flatten_cons, List.length_append] at hs
    refine Ev.step (fun k => oculusref13_Join.l0.eq_2 _ _ _ _) ?_
    refine ev_pos (by rw [List.length_map]; omega) (ev_pos (by omega) ?_)
    simp only [rdP xs i hlt, w64s hlt (by omega : xs.length ≤ 9223372036854775807), tx_append]
    refine ev_pos (by rw [size_tx, size_tx]; omega) ?_
    rw [List.flatten_cons, ← List.append_assoc]
    exact join_l0 xs hx d (i + 1) (a ++ xs[i]) (by omega) (by rw [List.length_append]; omega)
theorem join_ev (xs : List (List UInt8)) (hx : xs.length ≤ 1000000) (hs : xs.flatten.length ≤ 1000000) : Ev (fun k => oculusref13_Join.f k (xs.map tx)) (tx xs.flatten) := by
  have := join_l0 xs hx xs.length 0 [] (by omega) (by rw [List.drop_zero, List.length_nil]; omega)
  rw [List.drop_zero, List.nil_append] at this
  exact this
def selM (fr n : Int) : Nat → List (List UInt8) → List (List UInt8)
  | _, [] => []
  | i, x :: l => if 0 ≤ fr ∧ fr ≤ (i : Int) ∧ (i : Int) - fr < n then x :: selM fr n (i + 1) l else selM fr n (i + 1) l
theorem selM_len (fr n : Int) : ∀ l i, (selM fr n i l).length ≤ l.length ∧ (selM fr n i l).flatten.length ≤ l.flatten.length
  | [], _ => by simp [selM]
  | x :: l, i => by
    have := selM_len fr n l (i + 1)
    simp only [selM]
    split <;> simp only [List.length_cons, List.flatten_cons, List.length_append] <;> omega
theorem mid_l0 (fr n : Int) (xs : List (List UInt8)) (hx : xs.length ≤ 100000) (hs : xs.flatten.length ≤ 100000) : ∀ d i acc, i + d = xs.length → acc.length ≤ 100000 + i → acc.flatten.length + (xs.drop i).flatten.length ≤ 200000 →
    Ev (fun k => oculusref13_Mid.l0 k fr n (acc.map tx) (xs.map tx) (i : Int)) (tx (acc ++ selM fr n i (xs.drop i)).flatten)
  | 0, i, acc, h, ha, hf => by
    have hd : xs.drop i = [] := List.drop_eq_nil_of_le (by omega)
    rw [hd] at hf ⊢
    simp only [selM, List.append_nil]
    refine Ev.step (fun k => oculusref13_Mid.l0.eq_2 _ _ _ _ _ _) ?_
    refine ev_neg (by rw [List.length_map]; omega) ?_
    rw [List.flatten_nil, List.length_nil] at hf
    exact ev_bind (join_ev acc (by omega) (by omega)) (Ev.now _)
  | d + 1, i, acc, h, ha, hf => by
    have hlt : i < xs.length := by omega
    rw [List.drop_eq_getElem_cons hlt] at hf ⊢
    rw [List.flatten_cons, List.length_append] at hf
    have skip := mid_l0 fr n xs hx hs d (i + 1) acc (by omega) (by omega) (by omega)
    have take_ := mid_l0 fr n xs hx hs d (i + 1) (acc ++ [xs[i]]) (by omega) (by rw [List.length_append, List.length_singleton]; omega) (by rw [List.flatten_append, List.length_append, List.flatten_cons, List.flatten_nil, List.append_nil]; omega)
    refine Ev.step (fun k => oculusref13_Mid.l0.eq_2 _ _ _ _ _ _) ?_
    refine ev_pos (by rw [List.length_map]; omega) ?_
    simp only [rdP xs i hlt, w64s hlt (by omega : xs.length ≤ 9223372036854775807), selM]
    by_cases g1 : fr ≥ 0
    · refine ev_pos g1 ?_
      by_cases g2 : (i : Int) ≥ fr
      · refine ev_pos g2 ?_
        rw [w64 (by omega) (by omega)]
        by_cases g3 : (i : Int) - fr < n
        · refine ev_pos g3 (ev_pos (by omega) (ev_pos (by rw [List.length_map]; omega) ?_))
          rw [if_pos ⟨g1, g2, g3⟩]
          rw [List.map_append, List.append_assoc] at take_
          exact take_
        · rw [if_neg (fun h => g3 h.2.2)]
          exact ev_neg g3 skip
      · rw [if_neg (fun h => g2 h.2.1)]
        exact ev_neg g2 skip
    · rw [if_neg (fun h => g1 h.1)]
      exact ev_neg g1 skip
theorem rmid_ev (s : ByteArray) (hs : s.size ≤ 1000) (fr n : Int) : Ev (fun k => oculusref13_Mid.f k s fr n) (tx (selM fr n 0 (pcs (by_ s))).flatten) := by
  unfold oculusref13_Mid.f
  refine ev_bind (pieces_ev s hs) ?_
  have h1 := pcs_le (by_ s)
  have h2 := pcs_flat (by_ s)
  rw [← size_by] at h1
  have := mid_l0 fr n (pcs (by_ s)) (by omega) (by rw [h2, ← size_by]; omega) (pcs (by_ s)).length 0 [] (by omega) (by simp) (by rw [List.drop_zero, h2, ← size_by, List.flatten_nil, List.length_nil]; omega)
  simpa using this
theorem selM_neg (fr n : Int) (h : fr < 0) : ∀ l i, selM fr n i l = []
  | [], _ => rfl
  | x :: l, i => by simp only [selM]; rw [if_neg (by omega), selM_neg fr n h l]
theorem selM_all (fr n : Int) (h0 : 0 ≤ fr) : ∀ l (i : Nat), fr ≤ (i : Int) → selM fr n i l = l.take (n - ((i : Int) - fr)).toNat
  | [], _, _ => by simp [selM]
  | x :: l, i, h => by
    simp only [selM]
    rw [selM_all fr n h0 l (i + 1) (by omega)]
    by_cases g : (i : Int) - fr < n
    · rw [if_pos ⟨h0, h, g⟩]
      rw [show (n - ((i : Int) - fr)).toNat = (n - (((i + 1 : Nat) : Int) - fr)).toNat + 1 by omega, List.take_succ_cons]
    · rw [if_neg (fun k => g k.2.2)]
      rw [show (n - ((i : Int) - fr)).toNat = 0 by omega, show (n - (((i + 1 : Nat) : Int) - fr)).toNat = 0 by omega]
      simp
theorem selM_at (fr n : Int) (h0 : 0 ≤ fr) : ∀ l (i : Nat), (i : Int) ≤ fr → selM fr n i l = (l.drop (fr - (i : Int)).toNat).take n.toNat
  | [], _, _ => by simp [selM]
  | x :: l, i, h => by
    by_cases g : (i : Int) = fr
    · rw [selM_all fr n h0 (x :: l) i (by omega)]
      rw [show (n - ((i : Int) - fr)).toNat = n.toNat by omega, show (fr - (i : Int)).toNat = 0 by omega, List.drop_zero]
    · simp only [selM]
      rw [if_neg (by omega), selM_at fr n h0 l (i + 1) (by omega)]
      rw [show (fr - (i : Int)).toNat = (fr - ((i + 1 : Nat) : Int)).toNat + 1 by omega, List.drop_succ_cons]
theorem right_l0 (n : Int) (xs : List (List UInt8)) (hx : xs.length ≤ 100000) (hs : xs.flatten.length ≤ 100000) : ∀ d i acc, i + d = xs.length → acc.length ≤ 100000 + i → acc.flatten.length + (xs.drop i).flatten.length ≤ 200000 →
    Ev (fun k => oculusref13_Right.l0 k n (acc.map tx) (xs.map tx) (i : Int)) (tx (acc ++ (xs.drop i).drop (((xs.length : Int) - (i : Int)) - n).toNat).flatten)
  | 0, i, acc, h, ha, hf => by
    have hd : xs.drop i = [] := List.drop_eq_nil_of_le (by omega)
    rw [hd] at hf ⊢
    simp only [List.drop_nil, List.append_nil]
    refine Ev.step (fun k => oculusref13_Right.l0.eq_2 _ _ _ _ _) ?_
    refine ev_neg (by rw [List.length_map]; omega) ?_
    rw [List.flatten_nil, List.length_nil] at hf
    exact ev_bind (join_ev acc (by omega) (by omega)) (Ev.now _)
  | d + 1, i, acc, h, ha, hf => by
    have hlt : i < xs.length := by omega
    rw [List.drop_eq_getElem_cons hlt] at hf ⊢
    rw [List.flatten_cons, List.length_append] at hf
    refine Ev.step (fun k => oculusref13_Right.l0.eq_2 _ _ _ _ _) ?_
    refine ev_pos (by rw [List.length_map]; omega) ?_
    simp only [rdP xs i hlt, w64s hlt (by omega : xs.length ≤ 9223372036854775807), List.length_map]
    rw [w64 (by omega) (by omega)]
    by_cases g : (xs.length : Int) - (i : Int) ≤ n
    · refine ev_pos g (ev_pos (by omega) (ev_pos (by omega) ?_))
      have := right_l0 n xs hx hs d (i + 1) (acc ++ [xs[i]]) (by omega) (by rw [List.length_append, List.length_singleton]; omega) (by rw [List.flatten_append, List.length_append, List.flatten_cons, List.flatten_nil, List.append_nil]; omega)
      rw [show (((xs.length : Int) - (i : Int)) - n).toNat = 0 by omega, List.drop_zero]
      rw [show (((xs.length : Int) - ((i + 1 : Nat) : Int)) - n).toNat = 0 by omega, List.drop_zero, List.map_append, List.append_assoc] at this
      exact this
    · refine ev_neg g ?_
      have := right_l0 n xs hx hs d (i + 1) acc (by omega) (by omega) (by omega)
      rw [show (((xs.length : Int) - (i : Int)) - n).toNat = (((xs.length : Int) - ((i + 1 : Nat) : Int)) - n).toNat + 1 by omega, List.drop_succ_cons]
      exact this
theorem rright_ev (s : ByteArray) (hs : s.size ≤ 1000) (n : Int) : Ev (fun k => oculusref13_Right.f k s n) (tx ((pcs (by_ s)).drop (((pcs (by_ s)).length : Int) - n).toNat).flatten) := by
  unfold oculusref13_Right.f
  refine ev_bind (pieces_ev s hs) ?_
  have h1 := pcs_le (by_ s)
  have h2 := pcs_flat (by_ s)
  rw [← size_by] at h1
  have := right_l0 n (pcs (by_ s)) (by omega) (by rw [h2, ← size_by]; omega) (pcs (by_ s)).length 0 [] (by omega) (by simp) (by rw [List.drop_zero, h2, ← size_by, List.flatten_nil, List.length_nil]; omega)
  simpa using this
/-! The code. -/
theorem left_eq (s : ByteArray) (n : Int) (h : s.size ≤ 4611686018427387904) (hn : n ≤ 9223372036854775807) : runes_Left.f s n = some (tx ((pcs (by_ s)).take n.toNat).flatten) := by
  unfold runes_Left.f
  have hl := at_le (by_ s) n.toNat
  rw [at_eq s n h hn, Option.bind_some, if_pos (by omega), if_pos (by rw [size_by]; omega), Int.toNat_natCast, ext_head, take_at]
theorem right_eq (s : ByteArray) (n : Int) (h : s.size ≤ 4611686018427387904) (hn : n ≤ 9223372036854775807) : runes_Right.f s n = some (tx (if n < 1 then [] else ((pcs (by_ s)).drop (((pcs (by_ s)).length : Int) - n).toNat).flatten)) := by
  unfold runes_Right.f
  by_cases h1 : n < 1
  · rw [if_pos h1, if_pos h1]; rfl
  · have hc := pcs_le (by_ s)
    rw [← size_by] at hc
    rw [if_neg h1, if_neg h1, count_eq s h, Option.bind_some, w64 (by omega) (by omega)]
    have hm : mx (((pcs (by_ s)).length : Int) - n) 0 ≤ 9223372036854775807 := by unfold mx; split <;> omega
    have hl := at_le (by_ s) (mx (((pcs (by_ s)).length : Int) - n) 0).toNat
    have ht : (mx (((pcs (by_ s)).length : Int) - n) 0).toNat = (((pcs (by_ s)).length : Int) - n).toNat := by unfold mx; split <;> omega
    rw [at_eq s _ h hm, Option.bind_some, if_pos (by omega), if_pos (by rw [size_by]; omega), Int.toNat_natCast, ext_tail, drop_at, ht]
theorem mid_eq (s : ByteArray) (fr n : Int) (h : s.size ≤ 4611686018427387904) (hf : fr ≤ 9223372036854775807) (hn : n ≤ 9223372036854775807) : runes_Mid.f s fr n = some (tx (if fr < 0 then [] else (((pcs (by_ s)).drop fr.toNat).take n.toNat).flatten)) := by
  unfold runes_Mid.f
  by_cases h1 : fr < 0
  · rw [if_pos h1, if_pos h1]; rfl
  · have hl := at_le (by_ s) fr.toNat
    rw [if_neg h1, if_neg h1, at_eq s fr h hf, Option.bind_some, if_pos (by omega), if_pos (by rw [size_by]; omega), Int.toNat_natCast, ext_tail, drop_at]
    have hsz : (tx ((pcs (by_ s)).drop fr.toNat).flatten).size ≤ 4611686018427387904 := by
      rw [size_tx, ← drop_at, List.length_drop, ← size_by]; omega
    rw [left_eq _ n hsz hn, by_tx, pcs_drop]
    rfl
/-! Find. -/
def pre (d l : List UInt8) : Bool := l.take d.length == d
def fndL (d : List UInt8) : Nat → List (List UInt8) → Int × Bool
  | _, [] => (0, false)
  | n, x :: xs => if pre d (x ++ xs.flatten) = true then ((n : Int), true) else fndL d (n + 1) xs
theorem hp_pre (s d : ByteArray) : hp s d = pre (by_ d) (by_ s) := by
  unfold hp
  have hd := size_by d
  have hs := size_by s
  have : strings_HasPrefix.f s d = some (pre (by_ d) (by_ s)) := by
    unfold strings_HasPrefix.f stringslite_HasPrefix.f pre
    by_cases h : (s.size : Int) ≥ (d.size : Int)
    · rw [if_pos h, if_pos (by omega), if_pos (by omega), Option.bind_some]
      congr 1
      simp only [Int.toNat_natCast, toList_by, by_head, hd]
    · rw [if_neg h, Option.bind_some]
      congr 1
      symm
      rw [beq_eq_false_iff_ne]
      intro e
      have := congrArg List.length e
      rw [List.length_take] at this
      omega
  rw [this]
  cases pre (by_ d) (by_ s) <;> simp
theorem fnd_fndL (d t : ByteArray) : ∀ (xs : List (List UInt8)) (n p : Nat), (by_ t).drop p = xs.flatten → fnd d t n (sts p xs) = fndL (by_ d) n xs
  | [], _, _, _ => rfl
  | x :: xs, n, p, h => by
    have hh : by_ (t.extract p t.size) = x ++ xs.flatten := by rw [by_tail, h, List.flatten_cons]
    have hr : (by_ t).drop (p + x.length) = xs.flatten := by
      rw [← List.drop_drop, h, List.flatten_cons, List.drop_left' rfl]
    simp only [sts, fnd, fndL]
    rw [hp_pre, hh, fnd_fndL d t xs (n + 1) (p + x.length) hr]
theorem find_eq (d t : ByteArray) (h : t.size ≤ 4611686018427387904) : runes_Find.f d t = some (if by_ d = [] then (0, true) else fndL (by_ d) 0 (pcs (by_ t))) := by
  unfold runes_Find.f
  rw [if_pos h, toList_by]
  by_cases e : by_ d = []
  · rw [if_pos e, if_pos e]
  · rw [if_neg e, if_neg e, runeP_sts, fnd_fndL d t _ 0 0 (by rw [List.drop_zero, pcs_flat])]
/-! alive. -/
theorem single_ev : Ev (fun k => runes_Single.f k 8364) (tx [226, 130, 172], true) := by
  unfold runes_Single.f
  refine ev_neg (by decide) (ev_neg (by decide) ?_)
  have hv : Ev (fun k => utf8_ValidRune.f k (wrap32 8364)) true := by
    unfold utf8_ValidRune.f
    refine ev_pos (by decide +kernel) ?_
    refine Ev.step (fun k => utf8_ValidRune.j0.eq_2 _ _ _) ?_
    exact ev_pos (by decide +kernel) (Ev.now _)
  refine ev_bind hv (ev_pos rfl (ev_some fun _ => ?_))
  have e : by_ (Utf8.encode (wrap32 8364)) = [226, 130, 172] := by decide +kernel
  rw [← e, tx_by]
theorem alive13_ev : Ev (fun k => oculuslaw13_alive.f k) true := by
  unfold oculuslaw13_alive.f
  have hs : (⟨#[97, 195, 169, 255, 122]⟩ : ByteArray).size ≤ 4611686018427387904 := by decide
  have hp : pcs (by_ (⟨#[97, 195, 169, 255, 122]⟩ : ByteArray)) = [[97], [195, 169], [255], [122]] := by
    show pcs [97, 195, 169, 255, 122] = _
    rw [pcs_cons _ (by simp), show wL [97, 195, 169, 255, 122] = 1 by decide +kernel]
    show [97] :: pcs [195, 169, 255, 122] = _
    rw [pcs_cons _ (by simp), show wL [195, 169, 255, 122] = 2 by decide +kernel]
    show [97] :: [195, 169] :: pcs [255, 122] = _
    rw [pcs_cons _ (by simp), show wL [255, 122] = 1 by decide +kernel]
    show [97] :: [195, 169] :: [255] :: pcs [122] = _
    rw [pcs_cons _ (by simp), show wL [122] = 1 by decide +kernel]
    show [97] :: [195, 169] :: [255] :: [122] :: pcs [] = _
    rw [pcs_nil]
  refine ev_bind (a := (2, true)) (ev_some fun _ => ?_) ?_
  · rw [find_eq _ _ hs, hp]
    decide +kernel
  refine ev_bind (a := (8364, true)) (ev_some fun _ => ?_) ?_
  · decide +kernel
  refine ev_bind single_ev ?_
  refine ev_bind (ev_some fun _ => count_eq _ hs) ?_
  refine ev_pos (by rw [hp]; rfl) ?_
  refine ev_bind (ev_some fun _ => left_eq _ _ hs (by decide)) ?_
  refine ev_pos (by rw [toList_by, by_tx, hp]; decide +kernel) ?_
  refine ev_bind (ev_some fun _ => right_eq _ _ hs (by decide)) ?_
  refine ev_pos (by rw [toList_by, by_tx, hp]; decide +kernel) ?_
  refine ev_bind (ev_some fun _ => mid_eq _ _ _ hs (by decide) (by decide)) ?_
  refine ev_pos (by rw [toList_by, by_tx, hp]; decide +kernel) ?_
  refine ev_pos rfl (ev_pos rfl (ev_pos rfl (ev_pos rfl (ev_pos rfl (ev_some fun _ => ?_)))))
  rw [toList_by, by_tx]
  decide +kernel
end Go.Proofs.Ytlchgkoafabapaa.X
/- The pure statement of the law RunesSplit: over texts and numbers alone. -/
set_option linter.unusedVariables false
set_option linter.unusedSimpArgs false
namespace Go.Proofs.Ytlchgkoafabapaa.Pure
open Go.RowKit Go.Proofs.Ytlchgkoafabapaa.X Go.Proofs.YtlchgkoafabapaaW.PrintWords Go.Proofs.YtlchgkoafabapaaW.PrintLast Go.Proofs.YtlchgkoafabapaaW.PrintMore
theorem RunesSplit : oculuslaw13_RunesSplit.PureX := by
  intro s n _ hn
  have hn := wf_i64 hn
  apply Ev.rounds
  unfold oculuslaw13_RunesSplit.f
  refine ev_ite (fun _ => ev_bind alive13_ev (Ev.now _)) (fun h => ?_)
  have hs : s.size ≤ 600 := by omega
  have hb : s.size ≤ 4611686018427387904 := by omega
  have hc := pcs_le (by_ s)
  rw [← size_by] at hc
  refine ev_bind (ev_some fun _ => count_eq s hb) ?_
  obtain ⟨k, hk, hkl⟩ : ∃ k : Nat, mn (mx n 0) ((pcs (by_ s)).length : Int) = (k : Int) ∧ k ≤ (pcs (by_ s)).length := by
    refine ⟨(mn (mx n 0) ((pcs (by_ s)).length : Int)).toNat, ?_, ?_⟩ <;> unfold mn mx <;> (repeat' split) <;> omega
  simp only [hk]
  have hw : wrap64 (((pcs (by_ s)).length : Int) - (k : Int)) = (((pcs (by_ s)).length - k : Nat) : Int) := by rw [w64 (by omega) (by omega)]; omega
  simp only [hw]
  have hr : (if ((((pcs (by_ s)).length - k : Nat) : Int)) < 1 then [] else ((pcs (by_ s)).drop (((pcs (by_ s)).length : Int) - (((pcs (by_ s)).length - k : Nat) : Int)).toNat).flatten) = ((pcs (by_ s)).drop k).flatten := by
    by_cases h1 : ((((pcs (by_ s)).length - k : Nat) : Int)) < 1
    · rw [if_pos h1, List.drop_eq_nil_of_le (by omega)]; rfl
    · rw [if_neg h1, show (((pcs (by_ s)).length : Int) - (((pcs (by_ s)).length - k : Nat) : Int)).toNat = k by omega]
  have e1 := left_eq s (k : Int) hb (by omega)
  have e2 := right_eq s (((pcs (by_ s)).length - k : Nat) : Int) hb (by omega)
  rw [hr] at e2
  rw [Int.toNat_natCast] at e1
  have hfl : ((pcs (by_ s)).take k).flatten ++ ((pcs (by_ s)).drop k).flatten = by_ s := by rw [← List.flatten_append, List.take_append_drop, pcs_flat]
  have hln := congrArg List.length hfl
  rw [List.length_append, ← size_by] at hln
  refine ev_bind (ev_some fun _ => e1) ?_
  refine ev_bind (ev_some fun _ => e2) ?_
  refine ev_pos (by rw [size_tx, size_tx]; omega) ?_
  refine ev_pos (by rw [tx_append, hfl, tx_by]) ?_
  refine ev_bind (ev_some fun _ => count_eq _ (by rw [size_tx]; omega)) ?_
  refine ev_pos (by rw [by_tx, pcs_take, List.length_take]; omega) ?_
  refine ev_bind (ev_some fun _ => count_eq _ (by rw [size_tx]; omega)) ?_
  refine ev_pos (by rw [by_tx, pcs_drop, List.length_drop]) ?_
  refine ev_bind (ev_some fun _ => mid_eq s (k : Int) _ hb (by omega) (by omega)) ?_
  refine ev_pos ?_ (ev_bind alive13_ev (Ev.now _))
  rw [if_neg (by omega), Int.toNat_natCast, Int.toNat_natCast, List.take_of_length_le (by rw [List.length_drop]; omega)]
end Go.Proofs.Ytlchgkoafabapaa.Pure
/- The row of the law RunesSplit: for every input the call returns true and each argument reads afterwards as before, out of its pure statement and the contract of its function. Conditions: none beyond the given statement. -/
namespace Go.Proofs.Ytlchgkoafabapaa.runesSplit
open Go.ChangeShapes Go.WideShapes Go.ChangeAt Go.RowKit
open Go.ChangeMaps (open_string shut_string)
open Go.Proofs.Ytlchgkoafabapaa.Opn Go.Proofs.Ytlchgkoafabapaa.X
open Go.Proofs.YtlchgkoafabapaaW.PrintWords (Kd Drawn0)
set_option linter.unusedVariables false
theorem own : ownKnob Try.prog.godebug = none := by kernel_rfl
theorem laidOut : laidOutB Try.prog = true := by kernel_rfl
set_option maxRecDepth 100000 in
set_option maxHeartbeats 1000000 in
theorem lifted (os : Os) (started : os.Started) (H : Type) (enc : TypeId × Value → H) :
    ReturnsInHanded {} Try.checked os 7 .any (Rows.runesSplitSpec.pre6 enc Try.prog Try.f7 Rows.runesSplitRow.domain false) (Rows.runesSplitSpec.post enc Try.prog Try.f7 false true false false) := by
  refine returnsInHanded_of_change_sized (C := Try.checked) own started (by kernel_rfl) Try.func7
    (ChangeSpec.witness6 (enc := enc) (C := Try.checked) false ⟨#[], #[.string ByteArray.empty, .int .i64 0], []⟩ 8 (by kernel_rfl) (by kernel_rfl) (by kernel_rfl) (by kernel_rfl)) ?_
  intro W base args ds gs before hval0 hW hcnd hsz0 _
  have hsz : (DataW.weightsEach Try.prog (Try.f7.params.toList ++ Rows.runesSplitSpec.plain.varTypes Try.prog) (ds ++ gs)).all (· ≤ reachBytes) = true := hsz0
  have hval : ∀ (j : Nat) t v, Try.f7.params[j]? = some t → args[j]? = some v → Value.okWide Try.prog W .any base t v := hval0
  have hW' := hW
  obtain ⟨p, q, hA0, hV, rfl, hfz, hnd⟩ := hW
  have hA : DataW.TrodAll enc Try.prog W 0 (fun _ => true) true Try.f7.params.toList args.toList ds p := hA0
  rw [Try.params7] at hA hval hsz
  obtain ⟨v0, vs0, d0, ds0, p0, q0, hargs, rfl, rfl, h0, r0⟩ := trodAll_cons hA
  obtain ⟨v1, vs1, d1, ds1, p1, q1, rfl, rfl, rfl, h1, r1⟩ := trodAll_cons r0
  obtain ⟨rfl, rfl, rfl⟩ := trodAll_nil r1
  obtain rfl : args = #[v0, v1] := by cases args; simp_all
  obtain ⟨rfl, rfl⟩ := trodVars_none hV
  have lt0 : ∀ x ∈ p0, x.block < W.heap.size := by obtain ⟨m, hm⟩ := h0; exact DataW.trod_lt m _ _ _ hm
  have hw0 : ∀ m ∈ d0.weights Try.prog 9, m ≤ reachBytes := fun m hm => of_decide_eq_true (List.all_eq_true.1 hsz m (DataW.weights_mem_each (j := 0) (t := 9) rfl rfl m hm))
  obtain ⟨a0, K0, g0⟩ : ∃ a, (Kd.string : Kd ByteArray).K W a v0.cells.toList ∧ (a.size ≤ reachBytes) := by
    obtain ⟨fuel, hf⟩ := h0
    exact (opens_string Try.underlying9) hf hw0
  obtain rfl : v0 = .string a0 := by
    obtain ⟨x, rfl, _⟩ := open_string Try.underlying9 (hval 0 9 v0 rfl rfl) h0
    have := K0
    simpa [Kd.string, Kd.scalar, Value.cells] using this
  have lt1 : ∀ x ∈ p1, x.block < W.heap.size := by obtain ⟨m, hm⟩ := h1; exact DataW.trod_lt m _ _ _ hm
  have hw1 : ∀ m ∈ d1.weights Try.prog 3, m ≤ reachBytes := fun m hm => of_decide_eq_true (List.all_eq_true.1 hsz m (DataW.weights_mem_each (j := 1) (t := 3) rfl rfl m hm))
  obtain ⟨a1, K1, g1⟩ : ∃ a, ((Kd.int .i64) : Kd Int).K W a v1.cells.toList ∧ ((Lit.int .i64 a).wf = true) := by
    obtain ⟨fuel, hf⟩ := h1
    exact (opens_int Try.underlying3) hf hw1
  obtain rfl : v1 = .int .i64 a1 := by
    obtain ⟨x, rfl, _⟩ := open_int Try.underlying3 (hval 1 3 v1 rfl rfl) h1
    have := K1
    simpa [Kd.int, Kd.scalar, Value.cells] using this
  obtain ⟨k, hk⟩ := Pure.RunesSplit a0 a1 g0 g1
  clear hA0 hval0 hsz0 hsz
  refine (oculuslaw13_RunesSplit.calls k a0 a1 true W hk).mono fun e W' ⟨he, bel0⟩ => ?_
  have bel : Below W.heap.size W W' := bel0
  subst he
  exact ⟨_, rfl, _, _, _, [], _, [], hW', trodAll_mk1 (shut_bool Try.underlying4 _), (trodAll_cons_mk (Below.trod laidOut (by kernel_rfl) (of_decide_eq_true (by kernel_rfl)) h0 bel lt0) (trodAll_cons_mk (Below.trod laidOut (by kernel_rfl) (of_decide_eq_true (by kernel_rfl)) h1 bel lt1) trodAll_mk0)), rfl, bel.frame _, fun h => by cases h⟩
theorem over : Rows.runesSplitRow.holds Try.pinned (OpenSpec.ofChange Rows.runesSplitSpec) :=
  OpenClaim.holds_of_wide 7 Try.f7 rfl rfl rfl rfl rfl rfl rfl ⟨rfl, rfl, rfl, rfl, rfl⟩ rfl rfl rfl rfl rfl (by kernel_rfl) Try.func7 (by kernel_rfl)
    (of_decide_eq_true (by kernel_rfl)) (by unfold Func.isWrapper; first | (rw [if_pos (by decide +kernel)]; kernel_rfl) | (rw [if_neg (by decide +kernel)]; exact ⟨rfl, rfl⟩))
    (fun os started H enc _ => lifted os started H enc)
theorem proved : Rows.RunesSplitSaid := over
end Go.Proofs.Ytlchgkoafabapaa.runesSplit
namespace Go.Proofs.Ytlchgkoafabapaa
/-- The row, under a short name, for the claim. -/
theorem runesSplit_holds : Rows.RunesSplitSaid := runesSplit.proved
#print axioms runesSplit_holds
end Go.Proofs.Ytlchgkoafabapaa
