/- The law RunesFinds: for every input the call returns true, and each argument reads afterwards as it read before: the statement Rows.RunesFindsSaid, whole, with no condition of ours. -/
import Derived.Test.YtlchgkoafabapaaWWords
import Derived.Deep.Slices
import Derived.ChangeArms
import Derived.SizedLaws
import Derived.OpenShut
import Derived.Laws.BitsAllLaws
import Derived.Lib.Strings
import Derived.Lib.IndexBytes
import Derived.Test.YtlchgkoafabapaaRows
import Derived.WalkKit
import Derived.ProofKit
import Derived.ShutString
import Derived.ChangeOld
import Derived.Below
import Derived.Carry
import Derived.Test.YtlchgkoafabapaaBRunesFinds0
namespace Go.Proofs.Ytlchgkoafabapaa.X
open Go.RowKit Go.Proofs.YtlchgkoafabapaaW.PrintWords Go.Proofs.YtlchgkoafabapaaW.PrintLast Go.Proofs.YtlchgkoafabapaaW.PrintMore
attribute [local go_sem] max2_int min2_int max_two min_two max_three min_three max_four min_four   -- for this text's walks alone
set_option linter.unusedVariables false
set_option linter.unusedSimpArgs false

/-! ### oculuslaw13_RunesFinds: function 8 -/
mutual
def oculuslaw13_RunesFinds.j0 : Nat → ByteArray → ByteArray → Bool → Option (Bool)
  | 0, _, _, _ => none
  | k + 1, x0, x1, x16 => if x16 = true then ((oculuslaw13_alive.f k).bind fun t101 => (some t101)) else ((runes_Find.f x0 x1).bind fun bt102 => ((oculusref13_Find.f k x0 x1).bind fun t104 => (if (bt102.2 != (decide (t104 ≥ 0))) = true then (oculuslaw13_RunesFinds.j1 k x0 x1 bt102.1 bt102.2 true) else (if bt102.2 = true then (if bt102.1 = t104 then (oculuslaw13_RunesFinds.j1 k x0 x1 bt102.1 bt102.2 false) else (oculuslaw13_RunesFinds.j1 k x0 x1 bt102.1 bt102.2 true)) else (oculuslaw13_RunesFinds.j1 k x0 x1 bt102.1 bt102.2 (bt102.1 != 0))))))
def oculuslaw13_RunesFinds.j1 : Nat → ByteArray → ByteArray → Int → Bool → Bool → Option (Bool)
  | 0, _, _, _, _, _ => none
  | k + 1, x0, x1, x5, x6, x46 => if x46 = true then (none) else (if x6 = true then ((runes_Count.f x1).bind fun t105 => ((runes_Right.f x1 (wrap64 (t105 - x5))).bind fun t106 => (if (t106.size : Int) ≥ (x0.size : Int) then (if 0 ≤ (x0.size : Int) then (if (x0.size : Int) ≤ (t106.size : Int) then (if (t106.extract 0 x0.size).toList = x0.toList then ((oculuslaw13_alive.f k).bind fun t107 => (some t107)) else (none)) else (none)) else (none)) else (none)))) else ((oculuslaw13_alive.f k).bind fun t108 => (some t108)))
end
def oculuslaw13_RunesFinds.f (k : Nat) (a0 : ByteArray) (a1 : ByteArray) : Option (Bool) := if (a1.size : Int) > 300 then (oculuslaw13_RunesFinds.j0 k a0 a1 true) else (oculuslaw13_RunesFinds.j0 k a0 a1 (decide ((a0.size : Int) > 300)))
theorem oculuslaw13_RunesFinds.mono_l : ∀ k, (∀ y0 y1 y2, LeO (oculuslaw13_RunesFinds.j0 k y0 y1 y2) (oculuslaw13_RunesFinds.j0 (k + 1) y0 y1 y2)) ∧ (∀ y0 y1 y2 y3 y4, LeO (oculuslaw13_RunesFinds.j1 k y0 y1 y2 y3 y4) (oculuslaw13_RunesFinds.j1 (k + 1) y0 y1 y2 y3 y4))
  | 0 => ⟨fun _ _ _ r h => by simp [oculuslaw13_RunesFinds.j0] at h, fun _ _ _ _ _ r h => by simp [oculuslaw13_RunesFinds.j1] at h⟩
  | k + 1 => by
    obtain ⟨ih0, ih1⟩ := oculuslaw13_RunesFinds.mono_l k
    refine ⟨?_, ?_⟩
    · intro y0 y1 y2
      unfold oculuslaw13_RunesFinds.j0
      repeat' first
      | (with_reducible exact ih0 _ _ _)
      | (with_reducible exact ih1 _ _ _ _ _)
      | (with_reducible exact oculuslaw13_alive.mono _)
      | (with_reducible exact oculusref13_Find.mono _ _ _)
      | (with_reducible exact LeO.refl _)
      | (with_reducible exact LeO.none _)
      | (with_reducible refine LeO.ite ?_ ?_)
      | (with_reducible refine LeO.bind ?_ (fun _ => ?_))
      | exact ih0 _ _ _
      | exact ih1 _ _ _ _ _
      | exact oculuslaw13_alive.mono _
      | exact oculusref13_Find.mono _ _ _
      | exact LeO.none _
      | refine LeO.ite ?_ ?_
      | refine LeO.bind ?_ (fun _ => ?_)
    · intro y0 y1 y2 y3 y4
      unfold oculuslaw13_RunesFinds.j1
      repeat' first
      | (with_reducible exact ih0 _ _ _)
      | (with_reducible exact ih1 _ _ _ _ _)
      | (with_reducible exact oculuslaw13_alive.mono _)
      | (with_reducible exact oculusref13_Find.mono _ _ _)
      | (with_reducible exact LeO.refl _)
      | (with_reducible exact LeO.none _)
      | (with_reducible refine LeO.ite ?_ ?_)
      | (with_reducible refine LeO.bind ?_ (fun _ => ?_))
      | exact ih0 _ _ _
      | exact ih1 _ _ _ _ _
      | exact oculuslaw13_alive.mono _
      | exact oculusref13_Find.mono _ _ _
      | exact LeO.none _
      | refine LeO.ite ?_ ?_
      | refine LeO.bind ?_ (fun _ => ?_)
theorem oculuslaw13_RunesFinds.mono : ∀ a0 a1 k, LeO (oculuslaw13_RunesFinds.f k a0 a1) (oculuslaw13_RunesFinds.f (k + 1) a0 a1) := by
  intro a0 a1 k
  obtain ⟨ih0, ih1⟩ := oculuslaw13_RunesFinds.mono_l k
  unfold oculuslaw13_RunesFinds.f
  repeat' first
      | (with_reducible exact ih0 _ _ _)
      | (with_reducible exact ih1 _ _ _ _ _)
      | (with_reducible exact oculuslaw13_alive.mono _)
      | (with_reducible exact oculusref13_Find.mono _ _ _)
      | (with_reducible exact LeO.refl _)
      | (with_reducible exact LeO.none _)
      | (with_reducible refine LeO.ite ?_ ?_)
      | (with_reducible refine LeO.bind ?_ (fun _ => ?_))
      | exact ih0 _ _ _
      | exact ih1 _ _ _ _ _
      | exact oculuslaw13_alive.mono _
      | exact oculusref13_Find.mono _ _ _
      | exact LeO.none _
      | refine LeO.ite ?_ ?_
      | refine LeO.bind ?_ (fun _ => ?_)
set_option maxHeartbeats 8000000 in
set_option maxRecDepth 100000 in
theorem oculuslaw13_RunesFinds.calls (k : Nat) (a0 : ByteArray) (a1 : ByteArray) (r : Bool) (w : World) (h : oculuslaw13_RunesFinds.f k a0 a1 = some r) :
    Calls Try.prog 8 #[.string a0, .string a1] w fun e w' => e = .returned (.bool r) ∧ Below w.heap.size w w' := by
  have HB := Aside0.mk (Below.refl w.heap.size w)
  have H : (if (a1.size : Int) > 300 then (oculuslaw13_RunesFinds.j0 k a0 a1 true) else (oculuslaw13_RunesFinds.j0 k a0 a1 (decide ((a0.size : Int) > 300)))) = some r := h
  clear h
  have HC3 := Aside0.mk H
  clear H
  go_enter Try.func8, Try.ntmps8
  go_upto_region 1 with (fail)
  go_cut [16] (fun v16 wc => ∃ (kq : Nat) (x16_2 : Bool), v16 = .bool x16_2 ∧ Aside0 (oculuslaw13_RunesFinds.j0 kq a0 a1 x16_2 = some r) ∧ Aside0 (kq ≤ k) ∧ Aside0 (Below w.heap.size w wc))
  case first =>
    have H := HC3.out
    clear HC3
    by_cases c4 : (a1.size : Int) > 300
    · rw [if_pos c4] at H
      have c4b0 : decide (300 < (a1.size : Int)) = true := decide_eq_true c4
      have c4b1 : decide (300 < a1.size) = true := decide_eq_true (by omega)
      clear c4
      (first | rw [c4b0] | (simp only [i64_w, i32_w]; rw [c4b0]) | skip)
      have H' := Aside0.mk H
      clear H
      go_wp2
      go_meet
      case rel => exact ⟨_, (true), (by first | rfl | (simp; done) | (simp [*]; done)), H', ⟨by first | omega | exact Nat.le_refl _⟩, ⟨pbx HB⟩⟩
    · rw [if_neg c4] at H
      have c4b0 : decide (300 < (a1.size : Int)) = false := decide_eq_false c4
      have c4b1 : decide (300 < a1.size) = false := decide_eq_false (by omega)
      clear c4
      (first | rw [c4b0] | (simp only [i64_w, i32_w]; rw [c4b0]) | skip)
      have H' := Aside0.mk H
      clear H
      go_wp2
      go_meet
      case rel => exact ⟨_, (decide ((a0.size : Int) > 300)), (by first | rfl | (simp; done) | (simp [*]; done)), H', ⟨by first | omega | exact Nat.le_refl _⟩, ⟨pbx HB⟩⟩
  case rest =>
    clear HC3
    try clear p2
    try clear c4
    try clear c4b0
    try clear c4b1
    obtain ⟨kq, x16_2, rfl, HA, HJ2, HB⟩ := hcut
    cases kq with
    | zero => exact absurd HA.out (by simp [oculuslaw13_RunesFinds.j0])
    | succ kj2 =>
      have H := HA.out
      clear HA
      simp only [oculuslaw13_RunesFinds.j0] at H
      by_cases c5 : x16_2 = true
      · subst c5
        have H1 : ((oculuslaw13_alive.f kj2).bind fun t101 => (some t101)) = some r := by rw [if_pos rfl] at H; exact H
        clear H
        have H := H1
        clear H1
        replace H := Option.bind_eq_some_iff.mp H
        obtain ⟨t101, A60, H⟩ := H
        replace H : (some t101) = some r := H
        have A6 := Aside0.mk A60
        clear A60
        obtain rfl := Option.some.inj H
        go_wp2_with (first | ((with_reducible refine gate_callee (f := 27) rfl ?_); refine goesL_ (some 17) rfl rfl Try.func27 (by kernel_rfl) rfl #[] rfl (by (try simp only [List.map_toArray, List.map_cons, List.map_nil]); first | done | rfl | (simp only [List.length_drop, List.length_take]; rfl)) ?_; (with_reducible refine (oculuslaw13_alive.calls kj2  t101 _ A6.out).mono ?_); rintro e w7 ⟨rfl, hb⟩; refine ⟨_, rfl, ?_⟩; replace HB := Aside0.mk (below_step (pbx HB) hb); (try clear hb); (try clear hb2); (try clear hk); (try clear hi)))
        go_ret
        exact ⟨by first | rfl | (simp [errW_none, errW_some] <;> rfl) | (simp [*, errW_none, errW_some] <;> rfl), pbx HB⟩
      · replace c5 := Bool.eq_false_iff.mpr c5
        subst c5
        have H1 : ((runes_Find.f a0 a1).bind fun bt102 => ((oculusref13_Find.f kj2 a0 a1).bind fun t104 => (if (bt102.2 != (decide (t104 ≥ 0))) = true then (oculuslaw13_RunesFinds.j1 kj2 a0 a1 bt102.1 bt102.2 true) else (if bt102.2 = true then (if bt102.1 = t104 then (oculuslaw13_RunesFinds.j1 kj2 a0 a1 bt102.1 bt102.2 false) else (oculuslaw13_RunesFinds.j1 kj2 a0 a1 bt102.1 bt102.2 true)) else (oculuslaw13_RunesFinds.j1 kj2 a0 a1 bt102.1 bt102.2 (bt102.1 != 0)))))) = some r := by rw [if_neg (show ¬ (false = true) by decide)] at H; exact H
        clear H
        have H := H1
        clear H1
        replace H := Option.bind_eq_some_iff.mp H
        obtain ⟨⟨t102, t103⟩, A80, H⟩ := H
        replace H : ((oculusref13_Find.f kj2 a0 a1).bind fun t104 => (if (t103 != (decide (t104 ≥ 0))) = true then (oculuslaw13_RunesFinds.j1 kj2 a0 a1 t102 t103 true) else (if t103 = true then (if t102 = t104 then (oculuslaw13_RunesFinds.j1 kj2 a0 a1 t102 t103 false) else (oculuslaw13_RunesFinds.j1 kj2 a0 a1 t102 t103 true)) else (oculuslaw13_RunesFinds.j1 kj2 a0 a1 t102 t103 (t102 != 0))))) = some r := H
        have A8 := Aside0.mk A80
        clear A80
        replace H := Option.bind_eq_some_iff.mp H
        obtain ⟨t104, A90, H⟩ := H
        replace H : (if (t103 != (decide (t104 ≥ 0))) = true then (oculuslaw13_RunesFinds.j1 kj2 a0 a1 t102 t103 true) else (if t103 = true then (if t102 = t104 then (oculuslaw13_RunesFinds.j1 kj2 a0 a1 t102 t103 false) else (oculuslaw13_RunesFinds.j1 kj2 a0 a1 t102 t103 true)) else (oculuslaw13_RunesFinds.j1 kj2 a0 a1 t102 t103 (t102 != 0)))) = some r := H
        have A9 := Aside0.mk A90
        clear A90
        have HC10 := Aside0.mk H
        clear H
        go_upto_region 5 with (first | ((with_reducible refine gate_callee (f := 35) rfl ?_); refine goesL_ (some 21) rfl rfl Try.func35 (by kernel_rfl) rfl #[.string a0, .string a1] rfl (by (try simp only [List.map_toArray, List.map_cons, List.map_nil]); first | done | rfl | (simp only [List.length_drop, List.length_take]; rfl)) ?_; (with_reducible refine (runes_Find.calls a0 a1 t102 t103 _ A8.out).mono ?_); rintro e w11 ⟨rfl, hb⟩; refine ⟨_, rfl, ?_⟩; replace HB := Aside0.mk (below_step (pbx HB) hb); (try clear hb); (try clear hb2); (try clear hk); (try clear hi)) | ((with_reducible refine gate_callee (f := 36) rfl ?_); refine goesL_ (some 26) rfl rfl Try.func36 (by kernel_rfl) rfl #[.string a0, .string a1] rfl (by (try simp only [List.map_toArray, List.map_cons, List.map_nil]); first | done | rfl | (simp only [List.length_drop, List.length_take]; rfl)) ?_; (with_reducible refine (oculusref13_Find.calls kj2 a0 a1 t104 _ A9.out).mono ?_); rintro e w12 ⟨rfl, hb⟩; refine ⟨_, rfl, ?_⟩; replace HB := Aside0.mk (below_step (pbx HB) hb); (try clear hb); (try clear hb2); (try clear hk); (try clear hi)))
        (try simp only [Act.put, List.setIfInBounds_toArray, List.set_cons_zero, List.set_cons_succ])
        go_cut [46] (fun v46 wc => ∃ (kq : Nat) (x46_9 : Bool), v46 = .bool x46_9 ∧ Aside0 (oculuslaw13_RunesFinds.j1 kq a0 a1 t102 t103 x46_9 = some r) ∧ Aside0 (kq ≤ kj2) ∧ Aside0 (Below w.heap.size w wc))
        case first =>
          have H := HC10.out
          clear HC10
          by_cases c13 : (t103 != (decide (t104 ≥ 0))) = true
          · rw [if_pos c13] at H
            have c13b0 : (t103 != (decide (t104 ≥ 0))) = true := c13
            (try (have c13b1 : decide (t103 = (decide (t104 ≥ 0))) = false := by simpa using c13))
            (try (have c13b2 : (t103 == (decide (t104 ≥ 0))) = false := by simpa using c13))
            (try (have c13b3 : ¬ (t103 = (decide (t104 ≥ 0))) := by simpa using c13))
            clear c13
            (first | rw [c13b0] | (simp only [i64_w, i32_w]; rw [c13b0]) | skip)
            have H' := Aside0.mk H
            clear H
            go_wp2
            go_meet
            case rel => exact ⟨_, (true), (by first | rfl | (simp; done) | (simp [*]; done)), H', ⟨by have := HJ2.out; first | omega | exact Nat.le_refl _⟩, ⟨pbx HB⟩⟩
          · rw [if_neg c13] at H
            have c13b0 : (t103 != (decide (t104 ≥ 0))) = false := by simpa using c13
            (try (have c13b1 : decide (t103 = (decide (t104 ≥ 0))) = true := by simpa using c13))
            (try (have c13b2 : (t103 == (decide (t104 ≥ 0))) = true := by simpa using c13))
            clear c13
            (first | rw [c13b0] | (simp only [i64_w, i32_w]; rw [c13b0]) | skip)
            by_cases c14 : t103 = true
            · subst c14
              have H1 : (if t102 = t104 then (oculuslaw13_RunesFinds.j1 kj2 a0 a1 t102 true false) else (oculuslaw13_RunesFinds.j1 kj2 a0 a1 t102 true true)) = some r := by rw [if_pos rfl] at H; exact H
              clear H
              have H := H1
              clear H1
              by_cases c15 : t102 = t104
              · rw [if_pos c15] at H
                have c15b0 : (t102 == t104) = true := beq_iff_eq.mpr c15
                have c15b1 : (t102 != t104) = false := bne_eq_false_iff_eq.mpr c15
                clear c15
                have H' := Aside0.mk H
                clear H
                go_wp2
                go_meet
                case rel => exact ⟨_, (false), (by first | rfl | (simp; done) | (simp [*]; done)), H', ⟨by have := HJ2.out; first | omega | exact Nat.le_refl _⟩, ⟨pbx HB⟩⟩
              · rw [if_neg c15] at H
                have c15b0 : (t102 == t104) = false := beq_eq_false_iff_ne.mpr c15
                have c15b1 : (t102 != t104) = true := bne_iff_ne.mpr c15
                have H' := Aside0.mk H
                clear H
                go_wp2
                go_meet
                case rel => exact ⟨_, (true), (by first | rfl | (simp; done) | (simp [*]; done)), H', ⟨by have := HJ2.out; first | omega | exact Nat.le_refl _⟩, ⟨pbx HB⟩⟩
            · replace c14 := Bool.eq_false_iff.mpr c14
              subst c14
              have H1 : (oculuslaw13_RunesFinds.j1 kj2 a0 a1 t102 false (t102 != 0)) = some r := by rw [if_neg (show ¬ (false = true) by decide)] at H; exact H
              clear H
              have H := H1
              clear H1
              have H' := Aside0.mk H
              clear H
              go_wp2
              go_meet
              case rel => exact ⟨_, ((t102 != 0)), (by first | rfl | (simp; done) | (simp [*]; done) | (cases t102 <;> simp; done)), H', ⟨by have := HJ2.out; first | omega | exact Nat.le_refl _⟩, ⟨pbx HB⟩⟩
        case rest =>
          clear HC10
          try clear c1
          try clear c2
          try clear p2
          try clear c3
          try clear c4
          try clear c4b0
          try clear c4b1
          try clear c5
          try clear c8
          try clear c13
          try clear c13b0
          try clear c13b1
          try clear c13b2
          try clear c14
          try clear c15
          try clear c15b0
          try clear c15b1
          try clear p2
          obtain ⟨kq, x46_9, rfl, HA, HJ9, HB⟩ := hcut
          cases kq with
          | zero => exact absurd HA.out (by simp [oculuslaw13_RunesFinds.j1])
          | succ kj9 =>
            have H := HA.out
            clear HA
            simp only [oculuslaw13_RunesFinds.j1] at H
            by_cases c16 : x46_9 = true
            · subst c16
              have H1 : (none) = some r := by rw [if_pos rfl] at H; exact H
              clear H
              have H := H1
              clear H1
              exact absurd H (by simp)
            · replace c16 := Bool.eq_false_iff.mpr c16
              subst c16
              have H1 : (if t103 = true then ((runes_Count.f a1).bind fun t105 => ((runes_Right.f a1 (wrap64 (t105 - t102))).bind fun t106 => (if (t106.size : Int) ≥ (a0.size : Int) then (if 0 ≤ (a0.size : Int) then (if (a0.size : Int) ≤ (t106.size : Int) then (if (t106.extract 0 a0.size).toList = a0.toList then ((oculuslaw13_alive.f kj9).bind fun t107 => (some t107)) else (none)) else (none)) else (none)) else (none)))) else ((oculuslaw13_alive.f kj9).bind fun t108 => (some t108))) = some r := by rw [if_neg (show ¬ (false = true) by decide)] at H; exact H
              clear H
              have H := H1
              clear H1
              by_cases c17 : t103 = true
              · subst c17
                have H1 : ((runes_Count.f a1).bind fun t105 => ((runes_Right.f a1 (wrap64 (t105 - t102))).bind fun t106 => (if (t106.size : Int) ≥ (a0.size : Int) then (if 0 ≤ (a0.size : Int) then (if (a0.size : Int) ≤ (t106.size : Int) then (if (t106.extract 0 a0.size).toList = a0.toList then ((oculuslaw13_alive.f kj9).bind fun t107 => (some t107)) else (none)) else (none)) else (none)) else (none)))) = some r := by rw [if_pos rfl] at H; exact H
                clear H
                have H := H1
                clear H1
                replace H := Option.bind_eq_some_iff.mp H
                obtain ⟨t105, A180, H⟩ := H
                replace H : ((runes_Right.f a1 (wrap64 (t105 - t102))).bind fun t106 => (if (t106.size : Int) ≥ (a0.size : Int) then (if 0 ≤ (a0.size : Int) then (if (a0.size : Int) ≤ (t106.size : Int) then (if (t106.extract 0 a0.size).toList = a0.toList then ((oculuslaw13_alive.f kj9).bind fun t107 => (some t107)) else (none)) else (none)) else (none)) else (none))) = some r := H
                have A18 := Aside0.mk A180
                clear A180
                replace H := Option.bind_eq_some_iff.mp H
                obtain ⟨t106, A190, H⟩ := H
                replace H : (if (t106.size : Int) ≥ (a0.size : Int) then (if 0 ≤ (a0.size : Int) then (if (a0.size : Int) ≤ (t106.size : Int) then (if (t106.extract 0 a0.size).toList = a0.toList then ((oculuslaw13_alive.f kj9).bind fun t107 => (some t107)) else (none)) else (none)) else (none)) else (none)) = some r := H
                have A19 := Aside0.mk A190
                clear A190
                by_cases c20 : (t106.size : Int) ≥ (a0.size : Int)
                · rw [if_pos c20] at H
                  have c20b0 : decide ((a0.size : Int) ≤ (t106.size : Int)) = true := decide_eq_true c20
                  have c20b1 : decide (a0.size ≤ t106.size) = true := decide_eq_true (Int.ofNat_le.mp c20)
                  clear c20
                  by_cases c21 : 0 ≤ (a0.size : Int)
                  · rw [if_pos c21] at H
                    have c21b0 := eq_true c21
                    have c21b1 : decide (0 ≤ (a0.size : Int)) = true := decide_eq_true c21
                    clear c21
                    by_cases c22 : (a0.size : Int) ≤ (t106.size : Int)
                    · rw [if_pos c22] at H
                      have c22b0 := eq_true c22
                      have c22b1 : decide ((a0.size : Int) ≤ (t106.size : Int)) = true := decide_eq_true c22
                      clear c22
                      by_cases c23 : (t106.extract 0 a0.size).toList = a0.toList
                      · rw [if_pos c23] at H
                        have c23b0 : ((t106.extract 0 a0.size).toList == a0.toList) = true := beq_iff_eq.mpr c23
                        have c23b1 : ((t106.extract 0 a0.size).toList != a0.toList) = false := bne_eq_false_iff_eq.mpr c23
                        clear c23
                        replace H := Option.bind_eq_some_iff.mp H
                        obtain ⟨t107, A240, H⟩ := H
                        replace H : (some t107) = some r := H
                        have A24 := Aside0.mk A240
                        clear A240
                        obtain rfl := Option.some.inj H
                        go_wp2_with (first | ((with_reducible refine gate_callee (f := 28) rfl ?_); refine goesL_ (some 52) rfl rfl Try.func28 (by kernel_rfl) rfl #[.string a1] rfl (by (try simp only [List.map_toArray, List.map_cons, List.map_nil]); first | done | rfl | (simp only [List.length_drop, List.length_take]; rfl)) ?_; (with_reducible refine (runes_Count.calls a1 t105 _ A18.out).mono ?_); rintro e w25 ⟨rfl, hb⟩; refine ⟨_, rfl, ?_⟩; replace HB := Aside0.mk (below_step (pbx HB) hb); (try clear hb); (try clear hb2); (try clear hk); (try clear hi)) | ((with_reducible refine gate_callee (f := 32) rfl ?_); refine goesL_ (some 55) rfl rfl Try.func32 (by kernel_rfl) rfl #[.string a1, .int .i64 (wrap64 (t105 - t102))] rfl (by (try simp only [List.map_toArray, List.map_cons, List.map_nil]); first | done | rfl | (simp only [List.length_drop, List.length_take]; rfl)) ?_; (with_reducible refine (runes_Right.calls a1 (wrap64 (t105 - t102)) t106 _ A19.out).mono ?_); rintro e w26 ⟨rfl, hb⟩; refine ⟨_, rfl, ?_⟩; replace HB := Aside0.mk (below_step (pbx HB) hb); (try clear hb); (try clear hb2); (try clear hk); (try clear hi)) | (go_at_call 27; (with_reducible refine (oculuslaw13_alive.calls kj9  t107 _ A24.out).mono ?_); rintro e w27 ⟨rfl, hb⟩; replace HB := Aside0.mk (below_step (pbx HB) hb); (try clear hb); (try clear hb2); (try clear hk); (try clear hi)))
                        go_ret
                        exact ⟨by first | rfl | (simp [errW_none, errW_some] <;> rfl) | (simp [*, errW_none, errW_some] <;> rfl), pbx HB⟩
                      · rw [if_neg c23] at H
                        exact absurd H (by simp)
                    · rw [if_neg c22] at H
                      exact absurd H (by simp)
                  · rw [if_neg c21] at H
                    exact absurd H (by simp)
                · rw [if_neg c20] at H
                  exact absurd H (by simp)
              · replace c17 := Bool.eq_false_iff.mpr c17
                subst c17
                have H1 : ((oculuslaw13_alive.f kj9).bind fun t108 => (some t108)) = some r := by rw [if_neg (show ¬ (false = true) by decide)] at H; exact H
                clear H
                have H := H1
                clear H1
                replace H := Option.bind_eq_some_iff.mp H
                obtain ⟨t108, A280, H⟩ := H
                replace H : (some t108) = some r := H
                have A28 := Aside0.mk A280
                clear A280
                obtain rfl := Option.some.inj H
                go_wp2_with (first | ((with_reducible refine gate_callee (f := 27) rfl ?_); refine goesL_ (some 49) rfl rfl Try.func27 (by kernel_rfl) rfl #[] rfl (by (try simp only [List.map_toArray, List.map_cons, List.map_nil]); first | done | rfl | (simp only [List.length_drop, List.length_take]; rfl)) ?_; (with_reducible refine (oculuslaw13_alive.calls kj9  t108 _ A28.out).mono ?_); rintro e w29 ⟨rfl, hb⟩; refine ⟨_, rfl, ?_⟩; replace HB := Aside0.mk (below_step (pbx HB) hb); (try clear hb); (try clear hb2); (try clear hk); (try clear hi)))
                go_ret
                exact ⟨by first | rfl | (simp [errW_none, errW_some] <;> rfl) | (simp [*, errW_none, errW_some] <;> rfl), pbx HB⟩

/-- THE ONE PURE STATEMENT of oculuslaw13_RunesFinds: yours. -/
def oculuslaw13_RunesFinds.Pure : Prop := ∀ (a0 : ByteArray) (a1 : ByteArray), a0.size ≤ 140737488351232 → a1.size ≤ 140737488351232 → ∃ k, oculuslaw13_RunesFinds.f k a0 a1 = some true
theorem oculuslaw13_RunesFinds.walk (P : oculuslaw13_RunesFinds.Pure) (a0 : ByteArray) (a1 : ByteArray) (w : World) (w0 : a0.size ≤ 140737488351232) (w1 : a1.size ≤ 140737488351232) :
    Calls Try.prog 8 #[.string a0, .string a1] w fun e w' => e = .returned (.bool true) ∧ Below w.heap.size w w' := by
  obtain ⟨k, h⟩ := P a0 a1 w0 w1
  refine (oculuslaw13_RunesFinds.calls k a0 a1 true w h).mono ?_
  rintro e w' ⟨rfl, hd⟩
  exact ⟨rfl, hd⟩

end Go.Proofs.Ytlchgkoafabapaa.X
/- A general opening of a row's arguments: what a value of a type reads as, as a term of a kind 'Kd', with the bounds that the row's reach gives. -/
set_option linter.unusedVariables false
set_option linter.unusedSimpArgs false
namespace Go.Proofs.Ytlchgkoafabapaa.Opn
open Go.ChangeShapes Go.WideShapes Go.RowKit Go.Proofs.YtlchgkoafabapaaW.PrintWords

/-- Whatever is read at type t is a cell row of some a of kind d that is good. -/
def Opens {α : Type} (P : Program) (t : TypeId) (d : Kd α) (good : α → Prop) : Prop :=
  ∀ {H : Type} {enc : TypeId × Value → H} {w : World} {base : Nat} {spare : Nat → Bool} {held : Bool} {fuel : Nat} {cs : List Value} {x : DataW H × List MemPlace},
    DataW.trod enc P w base spare held fuel t cs = some x → (∀ m ∈ x.1.weights P t, m ≤ reachBytes) → ∃ a, d.K w a cs ∧ good a

theorem Opens.imp {α : Type} {P : Program} {t : TypeId} {d : Kd α} {good good' : α → Prop} (h : Opens P t d good) (hg : ∀ a, good a → good' a) : Opens P t d good' := by
  intro H enc w base spare held fuel cs x hx hw
  obtain ⟨a, ha, hga⟩ := h hx hw
  exact ⟨a, ha, hg a hga⟩

theorem opens_int {P : Program} {t : TypeId} {k : IntKind} (ht : P.underlying t = some (.int k)) : Opens P t (Kd.int k) (fun n => (Lit.int k n).wf = true) := by
  intro H enc w base spare held fuel cs x hx _
  obtain ⟨n, rfl, rfl, hn⟩ := DataW.trod_int ht hx
  exact ⟨n, rfl, hn⟩
theorem opens_bool {P : Program} {t : TypeId} (ht : P.underlying t = some .bool) : Opens P t Kd.bool (fun _ => True) := by
  intro H enc w base spare held fuel cs x hx _
  obtain ⟨n, rfl, rfl⟩ := DataW.trod_bool ht hx
  exact ⟨n, rfl, trivial⟩
theorem opens_string {P : Program} {t : TypeId} (ht : P.underlying t = some .string) : Opens P t Kd.string (fun s => s.size ≤ reachBytes) := by
  intro H enc w base spare held fuel cs x hx hw
  obtain ⟨s, rfl, rfl, _⟩ := DataW.trod_string ht hx
  refine ⟨s, rfl, ?_⟩
  have := hw s.data.toList.length (by simp [DataW.weights])
  simpa using this

theorem weightsAll_mem {H : Type} {P : Program} {e : TypeId} : ∀ {l : List (DataW H)} {d : DataW H}, d ∈ l → ∀ m ∈ d.weights P e, m ∈ DataW.weightsAll P e l
  | d0 :: l, d, hd, m, hm => by
    simp only [DataW.weightsAll, List.mem_append]
    rcases List.mem_cons.1 hd with rfl | hd
    · exact Or.inl hm
    · exact Or.inr (weightsAll_mem hd m hm)
  | [], _, hd, _, _ => by simp at hd

/-- A slice of whatever elements. -/
theorem opens_slice {α : Type} {P : Program} {t e : TypeId} {d : Kd α} {good : α → Prop} (ht : P.underlying t = some (.slice e)) (hc : P.cellsOf e = d.sz) {B : Nat} (hB : P.bytesOf e = B) (z : α) (h : Opens P e d good) :
    Opens P t (Kd.slice e d) (fun xs => (∀ x ∈ xs, good x) ∧ xs.length * B ≤ reachBytes) := by
  intro H enc w base spare held fuel cs x hx hw
  rcases Go.Deep.open_slice ht hx with ⟨rfl, rfl⟩ | ⟨a, len, cap, m, n, D, Pl, rfl, hb, hl, hm, hmm, rfl, hel⟩
  · exact ⟨[], ⟨none, 0, rfl, Nat.le_refl _, rfl, by simp, fun h0 => absurd h0 (by simp)⟩, by simp, by simp⟩
  · have hlm : len ≤ m := by rw [hmm]; split <;> omega
    have hmx : len ≤ 9223372036854775807 := by unfold maxLen at hm; omega
    have hw' : ∀ i, i < len → ∀ q ∈ (D i).weights P e, q ≤ reachBytes := by
      intro i hi q hq
      refine hw q ?_
      simp only [DataW.weights, ht]
      refine List.mem_cons_of_mem _ (List.mem_append.2 (Or.inl ?_))
      exact weightsAll_mem (d := D i) (List.mem_map.2 ⟨i, List.mem_range.2 hi, rfl⟩) q hq
    have hB' : len * B ≤ reachBytes := by
      have h0 := hw ((((List.range len).map D).length + ((List.range (m - len)).map fun j => D (len + j)).length) * P.bytesOf e) (by simp only [DataW.weights, ht]; exact List.mem_cons_self ..)
      rw [hB] at h0
      simp only [List.length_map, List.length_range] at h0
      exact Nat.le_trans (Nat.mul_le_mul_right B (by omega)) h0
    have key : ∀ i, i < len → ∃ y : α × List Value, d.K w y.1 y.2 ∧ good y.1 ∧ w.cells? base (a.add (i * P.cellsOf e)) (P.cellsOf e) = some y.2 := by
      intro i hi
      obtain ⟨cs', h1, h2⟩ := hel i (by omega)
      obtain ⟨y, h3, h4⟩ := h h2 (hw' i hi)
      exact ⟨(y, cs'), h3, h4, h1⟩
    haveI : Inhabited (α × List Value) := ⟨(z, [])⟩
    obtain ⟨F, hF⟩ := Go.Deep.choose_lt key
    refine ⟨(List.range len).map fun i => (F i).1, ⟨some a, cap, by simp, by simpa using hl, by simp, by simpa using hmx, fun h0 => ⟨a, rfl, ?_⟩⟩, ?_, by simpa using hB'⟩
    · intro j p hj
      have hjl : j < len := by
        have := (List.getElem?_eq_some_iff.1 hj).1
        simpa using this
      have hp : p = (F j).1 := by
        rw [List.getElem?_map, List.getElem?_range hjl] at hj
        simpa using hj.symm
      subst hp
      obtain ⟨h1, h2, h3⟩ := hF j hjl
      obtain ⟨_, hlen, hcell⟩ := World.cells?_some h3
      refine ⟨(F j).2, by rw [hlen, hc], h1, fun i u hu => ?_⟩
      have hi : i < P.cellsOf e := by
        have := (List.getElem?_eq_some_iff.1 hu).1
        omega
      have := hcell i hi
      rw [Go.Deep.add_add] at this
      rw [← hc, this, hu]
    · intro x hx
      obtain ⟨i, hi, rfl⟩ := List.mem_map.1 hx
      exact (hF i (List.mem_range.1 hi)).2.1

/-- The fields from one place on. -/
def OpensTail {α : Type} (P : Program) (fs : List Field) (o len : Nat) (d : Kd α) (good : α → Prop) : Prop :=
  ∀ {H : Type} {enc : TypeId × Value → H} {w : World} {base : Nat} {spare : Nat → Bool} {held : Bool} {n : Nat} {cs : List Value} {xs : List (DataW H × List MemPlace)},
    cs.length = len → xs.length = fs.length →
    (∀ (i : Nat) (f : Field), fs[i]? = some f → DataW.trod enc P w base spare held n f.type ((cs.drop f.offset).take (P.cellsOf f.type)) = xs[i]?) →
    (∀ m ∈ DataW.weightsEach P (fs.map (·.type)) (xs.map (·.1)), m ≤ reachBytes) → ∃ a, d.K w a (cs.drop o) ∧ good a

theorem tail_one {α : Type} {P : Program} {f : Field} {o len : Nat} {d : Kd α} {good : α → Prop} (ho : f.offset = o) (hl : len ≤ o + P.cellsOf f.type) (h : Opens P f.type d good) : OpensTail P [f] o len d good := by
  intro H enc w base spare held n cs xs hcs hxs hall hw
  obtain ⟨x, rfl⟩ : ∃ x, xs = [x] := by
    match xs, hxs with
    | [x], _ => exact ⟨x, rfl⟩
  have h0 := hall 0 f rfl
  rw [ho, List.take_of_length_le (by rw [List.length_drop]; omega)] at h0
  exact h h0 (fun m hm => hw m (by simp only [List.map_cons, List.map_nil, DataW.weightsEach, List.mem_append]; exact Or.inl hm))
theorem tail_cons {α β : Type} {P : Program} {f : Field} {fs : List Field} {o o' len : Nat} {a : Kd α} {b : Kd β} {ga : α → Prop} {gb : β → Prop} (ho : f.offset = o) (ho' : o' = o + P.cellsOf f.type)
    (h : Opens P f.type a ga) (ht : OpensTail P fs o' len b gb) : OpensTail P (f :: fs) o len (Kd.pair a b) (fun x => ga x.1 ∧ gb x.2) := by
  intro H enc w base spare held n cs xs hcs hxs hall hw
  obtain ⟨x, xs, rfl⟩ : ∃ x r, xs = x :: r := by
    match xs, hxs with
    | x :: r, _ => exact ⟨x, r, rfl⟩
  have h0 := hall 0 f rfl
  rw [ho] at h0
  obtain ⟨y, hy, hgy⟩ := h h0 (fun m hm => hw m (by simp only [List.map_cons, DataW.weightsEach, List.mem_append]; exact Or.inl hm))
  obtain ⟨z, hz, hgz⟩ := ht (xs := xs) hcs (by simpa using hxs) (fun i g hg => by simpa using hall (i + 1) g (by simpa using hg))
    (fun m hm => hw m (by simp only [List.map_cons, DataW.weightsEach, List.mem_append]; exact Or.inr hm))
  refine ⟨(y, z), ⟨(cs.drop o).take (P.cellsOf f.type), cs.drop o', ?_, hy, hz⟩, hgy, hgz⟩
  rw [ho', ← List.drop_drop, List.take_append_drop]
/-- A struct: its fields one behind the other. -/
theorem opens_struct {α β : Type} {P : Program} {t : TypeId} {fs : Array Field} {len : Nat} {d : Kd α} {good : α → Prop} (ht : P.underlying t = some (.struct fs)) (hl : P.cellsOf t = len) (h : OpensTail P fs.toList 0 len d good) (f : β → α) (g : α → β) (hfg : ∀ a, f (g a) = a) :
    Opens P t (Kd.iso d f) (fun x => good (f x)) := by
  intro H enc w base spare held fuel cs x hx hw
  obtain ⟨xs, n, rfl, rfl, hcs, hxs, hall⟩ := DataW.trod_struct ht hx
  obtain ⟨a, ha, hga⟩ := h (xs := xs) (hcs.trans hl) (by simpa using hxs) (fun i f hf => hall i f (by simpa using hf)) (fun m hm => hw m (by simp only [DataW.weights, ht]; exact hm))
  refine ⟨g a, ?_, by show good (f (g a)); rw [hfg]; exact hga⟩
  show d.K w (f (g a)) cs
  rw [hfg]
  simpa using ha
/-- A struct of one field. -/
theorem Opens.iso {α β : Type} {P : Program} {t : TypeId} {d : Kd α} {good : α → Prop} (h : Opens P t d good) (f : β → α) (g : α → β) (hfg : ∀ a, f (g a) = a) : Opens P t (Kd.iso d f) (fun x => good (f x)) := by
  intro H enc w base spare held fuel cs x hx hw
  obtain ⟨a, ha, hga⟩ := h hx hw
  refine ⟨g a, ?_, by show good (f (g a)); rw [hfg]; exact hga⟩
  show d.K w (f (g a)) cs
  rw [hfg]
  exact ha
/-- Arrays of two, and of three, as structs of so many fields. -/
theorem opens_array2 {α β : Type} {P : Program} {t e : TypeId} {d : Kd α} {good : α → Prop} (ht : P.underlying t = some (.array 2 e)) {len c : Nat} (hl : P.cellsOf t = len) (hc : P.cellsOf e = c) (hlen : len = 2 * c) (h : Opens P e d good) (f : β → α × α) (g : α × α → β) (hfg : ∀ a, f (g a) = a) :
    Opens P t (Kd.iso (Kd.pair d d) f) (fun x => good (f x).1 ∧ good (f x).2) := by
  intro H enc w base spare held fuel cs x hx hw
  obtain ⟨xs, n, rfl, rfl, hcs, hxs, hall⟩ := DataW.trod_array ht hx
  obtain ⟨x0, x1, rfl⟩ : ∃ a b, xs = [a, b] := by
    match xs, hxs with
    | [a, b], _ => exact ⟨a, b, rfl⟩
  have hw' : ∀ m ∈ DataW.weightsAll P e [x0.1, x1.1], m ≤ reachBytes := fun m hm => hw m (by simp only [DataW.weights, ht]; exact hm)
  have h0 := hall 0 (by omega)
  have h1 := hall 1 (by omega)
  rw [hc] at h0 h1
  obtain ⟨a0, k0, g0⟩ := h h0 (fun m hm => hw' m (weightsAll_mem (by simp) m hm))
  obtain ⟨a1, k1, g1⟩ := h h1 (fun m hm => hw' m (weightsAll_mem (by simp) m hm))
  refine ⟨g (a0, a1), ?_, by show good (f (g (a0, a1))).1 ∧ good (f (g (a0, a1))).2; rw [hfg]; exact ⟨g0, g1⟩⟩
  show (Kd.pair d d).K w (f (g (a0, a1))) cs
  rw [hfg]
  refine ⟨_, _, ?_, k0, k1⟩
  rw [Nat.zero_mul, List.drop_zero, Nat.one_mul, List.take_of_length_le (l := cs.drop c) (by rw [List.length_drop]; omega), List.take_append_drop]
theorem opens_array3 {α β : Type} {P : Program} {t e : TypeId} {d : Kd α} {good : α → Prop} (ht : P.underlying t = some (.array 3 e)) {len c : Nat} (hl : P.cellsOf t = len) (hc : P.cellsOf e = c) (hlen : len = 3 * c) (h : Opens P e d good) (f : β → α × α × α) (g : α × α × α → β) (hfg : ∀ a, f (g a) = a) :
    Opens P t (Kd.iso (Kd.pair d (Kd.pair d d)) f) (fun x => good (f x).1 ∧ good (f x).2.1 ∧ good (f x).2.2) := by
  intro H enc w base spare held fuel cs x hx hw
  obtain ⟨xs, n, rfl, rfl, hcs, hxs, hall⟩ := DataW.trod_array ht hx
  obtain ⟨x0, x1, x2, rfl⟩ : ∃ a b c, xs = [a, b, c] := by
    match xs, hxs with
    | [a, b, c], _ => exact ⟨a, b, c, rfl⟩
  have hw' : ∀ m ∈ DataW.weightsAll P e [x0.1, x1.1, x2.1], m ≤ reachBytes := fun m hm => hw m (by simp only [DataW.weights, ht]; exact hm)
  have h0 := hall 0 (by omega)
  have h1 := hall 1 (by omega)
  have h2 := hall 2 (by omega)
  rw [hc] at h0 h1 h2
  obtain ⟨a0, k0, g0⟩ := h h0 (fun m hm => hw' m (weightsAll_mem (by simp) m hm))
  obtain ⟨a1, k1, g1⟩ := h h1 (fun m hm => hw' m (weightsAll_mem (by simp) m hm))
  obtain ⟨a2, k2, g2⟩ := h h2 (fun m hm => hw' m (weightsAll_mem (by simp) m hm))
  refine ⟨g (a0, a1, a2), ?_, by show good (f (g (a0, a1, a2))).1 ∧ good (f (g (a0, a1, a2))).2.1 ∧ good (f (g (a0, a1, a2))).2.2; rw [hfg]; exact ⟨g0, g1, g2⟩⟩
  show (Kd.pair d (Kd.pair d d)).K w (f (g (a0, a1, a2))) cs
  rw [hfg]
  refine ⟨_, _, ?_, k0, _, _, rfl, k1, k2⟩
  rw [Nat.zero_mul, List.drop_zero, Nat.one_mul, List.take_of_length_le (l := cs.drop (2 * c)) (by rw [List.length_drop]; omega)]
  rw [show 2 * c = c + c by omega, ← List.drop_drop, List.take_append_drop, List.take_append_drop]
theorem okWide_array {P : Program} {w : World} {r : Reach} {b0 : Nat} {t e : TypeId} {n : Nat} {v : Value} (hs : P.underlying t = some (.array n e)) (hv : Value.okWide P w r b0 t v) : ∃ cs, v = .agg cs ∧ cs.size = P.cellsOf t := by
  unfold Value.okWide at hv
  rw [hs] at hv
  obtain ⟨cs, h1, h2, _⟩ := hv
  exact ⟨cs, h1, h2⟩
end Go.Proofs.Ytlchgkoafabapaa.Opn
/- The openings of the arguments of the law RunesFinds, and its pure statement. -/
set_option linter.unusedVariables false
namespace Go.Proofs.Ytlchgkoafabapaa.X
open Go.RowKit Go.Proofs.YtlchgkoafabapaaW.PrintWords Go.Proofs.YtlchgkoafabapaaW.PrintLast Go.Proofs.YtlchgkoafabapaaW.PrintMore Go.Proofs.Ytlchgkoafabapaa.Opn
/-- What is left: a statement over numbers and lists alone. -/
def oculuslaw13_RunesFinds.PureX : Prop := ∀ (a0 : ByteArray) (a1 : ByteArray), (a0.size ≤ reachBytes) → (a1.size ≤ reachBytes) → ∃ k, oculuslaw13_RunesFinds.f k a0 a1 = some true
end Go.Proofs.Ytlchgkoafabapaa.X
/- Plain facts on whole numbers, bits and lists that the pure statements use. -/
set_option linter.unusedVariables false
set_option linter.unusedSimpArgs false
namespace Go.Proofs.Ytlchgkoafabapaa.X
open Go.RowKit Go.Proofs.YtlchgkoafabapaaW.PrintWords Go.Proofs.YtlchgkoafabapaaW.PrintLast Go.Proofs.YtlchgkoafabapaaW.PrintMore

theorem wf_i64 {x : Int} (h : (Lit.int .i64 x).wf = true) : -9223372036854775808 ≤ x ∧ x ≤ 9223372036854775807 := by
  simp only [Lit.wf, IntKind.min, IntKind.max, IntKind.signed, IntKind.bits, Bool.and_eq_true, decide_eq_true_eq, if_true] at h
  omega
theorem wf_u64 {x : Int} (h : (Lit.int .u64 x).wf = true) : 0 ≤ x ∧ x < 18446744073709551616 := by
  simp [Lit.wf, IntKind.min, IntKind.max, IntKind.signed, IntKind.bits] at h
  omega
theorem wf_nat {x : Int} (h : (Lit.int .u64 x).wf = true) : ∃ n : Nat, x = (n : Int) ∧ n < 18446744073709551616 := by
  obtain ⟨h1, h2⟩ := wf_u64 h
  exact ⟨x.toNat, by omega, by omega⟩
theorem w64 {x : Int} (h0 : -9223372036854775808 ≤ x) (h1 : x ≤ 9223372036854775807) : wrap64 x = x := by unfold wrap64; omega
theorem w64s {i n : Nat} (h : i < n) (hn : n ≤ 9223372036854775807) : wrap64 ((i : Int) + 1) = ((i + 1 : Nat) : Int) := by unfold wrap64; omega

/-! Ev: with enough rounds. -/
theorem ev_now {α : Type} (r : α) : Ev (fun _ : Nat => some r) r := Ev.now r
theorem ev_some {α : Type} {g : Nat → Option α} {r : α} (h : ∀ k, g k = some r) : Ev g r := ⟨0, fun k _ => h k⟩
theorem ev_ite {α : Type} {c : Prop} [Decidable c] {f g : Nat → Option α} {r : α} (h1 : c → Ev f r) (h2 : ¬ c → Ev g r) : Ev (fun k => if c then f k else g k) r := by
  by_cases h : c
  · simp only [if_pos h]; exact h1 h
  · simp only [if_neg h]; exact h2 h
theorem ev_pos {α : Type} {c : Prop} [Decidable c] {f g : Nat → Option α} {r : α} (h : c) (h1 : Ev f r) : Ev (fun k => if c then f k else g k) r := by simp only [if_pos h]; exact h1
theorem ev_neg {α : Type} {c : Prop} [Decidable c] {f g : Nat → Option α} {r : α} (h : ¬ c) (h1 : Ev g r) : Ev (fun k => if c then f k else g k) r := by simp only [if_neg h]; exact h1
theorem ev_bind {α β : Type} {g : Nat → Option α} {f : Nat → α → Option β} {a : α} {r : β} (h : Ev g a) (k : Ev (fun n => f n a) r) : Ev (fun n => (g n).bind (f n)) r := Ev.bind h k
theorem ev_bsome {α β : Type} {x : α} {f : Nat → α → Option β} {r : β} (k : Ev (fun n => f n x) r) : Ev (fun n => (some x).bind (f n)) r := k

/-! Bits. -/
theorem mod_pow_succ (x i : Nat) : x % 2 ^ (i + 1) = x % 2 ^ i + 2 ^ i * (x.testBit i).toNat := by
  rw [Nat.pow_succ, Nat.mod_mul, Nat.testBit_eq_decide_div_mod_eq]
  have := Nat.mod_two_eq_zero_or_one (x / 2 ^ i)
  rcases this with h | h <;> simp [h]
theorem and_compl (a b : Nat) (ha : a < 2 ^ 64) (hb : b < 2 ^ 64) : (a &&& (18446744073709551615 - b) = 0) ↔ (a &&& b = a) := by
  have e : 18446744073709551615 - b = 2 ^ 64 - (b + 1) := by omega
  rw [e]
  constructor
  · intro h
    apply Nat.eq_of_testBit_eq
    intro i
    have := congrArg (fun n => Nat.testBit n i) h
    simp only [Nat.testBit_and, Nat.testBit_two_pow_sub_succ hb, Nat.zero_testBit] at this
    rw [Nat.testBit_and]
    by_cases hi : i < 64
    · simp [hi] at this
      cases h1 : a.testBit i <;> simp_all
    · have : a.testBit i = false := Nat.testBit_lt_two_pow (Nat.lt_of_lt_of_le ha (Nat.pow_le_pow_right (by omega) (by omega)))
      simp [this]
  · intro h
    apply Nat.eq_of_testBit_eq
    intro i
    have := congrArg (fun n => Nat.testBit n i) h
    simp only [Nat.testBit_and] at this
    rw [Nat.testBit_and, Nat.testBit_two_pow_sub_succ hb, Nat.zero_testBit]
    cases h1 : a.testBit i <;> simp_all
theorem within_iff (a b : Nat) (ha : a < 18446744073709551616) (hb : b < 18446744073709551616) : (Go.bits .andNot .u64 (a : Int) (b : Int) == 0) = decide (a &&& b = a) := by
  rw [u64_andNot _ _ (by omega) (by omega) (by omega) (by omega)]
  rw [Bool.eq_iff_iff]
  simp only [Int.toNat_natCast, beq_iff_eq, decide_eq_true_eq]
  rw [← and_compl a b ha hb]
  omega
end Go.Proofs.Ytlchgkoafabapaa.X
/- Plain facts on texts as lists of bytes. -/
set_option linter.unusedVariables false
set_option linter.unusedSimpArgs false
namespace Go.Proofs.Ytlchgkoafabapaa.X
open Go.RowKit Go.Proofs.YtlchgkoafabapaaW.PrintWords Go.Proofs.YtlchgkoafabapaaW.PrintLast Go.Proofs.YtlchgkoafabapaaW.PrintMore
/-- A text's bytes; the text of bytes. -/
def by_ (s : ByteArray) : List UInt8 := s.data.toList
def tx (l : List UInt8) : ByteArray := ⟨l.toArray⟩
theorem by_tx (l : List UInt8) : by_ (tx l) = l := by simp [by_, tx]
theorem tx_by (s : ByteArray) : tx (by_ s) = s := by
  obtain ⟨⟨l⟩⟩ := s
  rfl
theorem by_inj {s t : ByteArray} (h : by_ s = by_ t) : s = t := by rw [← tx_by s, ← tx_by t, h]
theorem toList_by (s : ByteArray) : s.toList = by_ s := ByteArray.toList_eq s
theorem size_by (s : ByteArray) : s.size = (by_ s).length := by
  obtain ⟨⟨l⟩⟩ := s
  rfl
theorem size_tx (l : List UInt8) : (tx l).size = l.length := by rw [size_by, by_tx]
theorem toList_inj {s t : ByteArray} : s.toList = t.toList ↔ s = t := by
  rw [toList_by, toList_by]
  exact ⟨by_inj, fun h => by rw [h]⟩
theorem by_extract (s : ByteArray) (a b : Nat) : by_ (s.extract a b) = ((by_ s).drop a).take (b - a) := Go.Lib.extract_data s a b
theorem by_head (s : ByteArray) (b : Nat) : by_ (s.extract 0 b) = (by_ s).take b := by rw [by_extract]; simp
theorem by_tail (s : ByteArray) (a : Nat) : by_ (s.extract a s.size) = (by_ s).drop a := by
  rw [by_extract, List.take_of_length_le]
  rw [List.length_drop, size_by]
  exact Nat.le_refl _
theorem ext_head (s : ByteArray) (b : Nat) : s.extract 0 b = tx ((by_ s).take b) := by_inj (by rw [by_head, by_tx])
theorem ext_tail (s : ByteArray) (a : Nat) : s.extract a s.size = tx ((by_ s).drop a) := by_inj (by rw [by_tail, by_tx])
theorem ext_mid (s : ByteArray) (a b : Nat) : s.extract a b = tx (((by_ s).drop a).take (b - a)) := by_inj (by rw [by_extract, by_tx])
theorem by_append (s t : ByteArray) : by_ (s ++ t) = by_ s ++ by_ t := by
  obtain ⟨⟨l⟩⟩ := s
  obtain ⟨⟨m⟩⟩ := t
  simp [by_, ByteArray.data_append]
theorem tx_append (l m : List UInt8) : tx l ++ tx m = tx (l ++ m) := by_inj (by rw [by_append, by_tx, by_tx, by_tx])
theorem bt_by (s : ByteArray) (i : Nat) (h : i < (by_ s).length) : bt s (i : Int) = ((by_ s)[i].toNat : Int) := by
  obtain ⟨⟨l⟩⟩ := s
  have h' : (i : Int).toNat < (⟨⟨l⟩⟩ : ByteArray).size := by rw [Int.toNat_natCast]; exact h
  unfold bt
  rw [dif_pos h']
  simp only [Int.toNat_natCast]
  rfl
theorem bt_tx (l : List UInt8) (i : Nat) (h : i < l.length) : bt (tx l) (i : Int) = (l[i].toNat : Int) := by
  rw [bt_by (tx l) i (by rw [by_tx]; exact h)]
  simp only [by_tx]
theorem bt_tx0 (c : UInt8) (l : List UInt8) : bt (tx (c :: l)) 0 = (c.toNat : Int) := bt_tx (c :: l) 0 (by simp)
theorem u8_lt (c : UInt8) : c.toNat < 256 := c.toNat_lt
theorem u8_inj {a b : UInt8} (h : a.toNat = b.toNat) : a = b := UInt8.toNat_inj.1 h
end Go.Proofs.Ytlchgkoafabapaa.X
/- Runes as pieces of a list of bytes: what the code's places and the reference's pieces are. -/
set_option linter.unusedVariables false
set_option linter.unusedSimpArgs false
namespace Go.Proofs.Ytlchgkoafabapaa.X
open Go.RowKit Go.Proofs.YtlchgkoafabapaaW.PrintWords Go.Proofs.YtlchgkoafabapaaW.PrintLast Go.Proofs.YtlchgkoafabapaaW.PrintMore
def gb (l : List UInt8) (k : Nat) : Nat := (l.getD k 0).toNat
theorem gb_lt (l : List UInt8) (k : Nat) : gb l k < 256 := (l.getD k 0).toNat_lt
/-- How many bytes the first rune of a text has. -/
def wL (l : List UInt8) : Nat :=
  if gb l 0 < 128 then 1
  else if gb l 0 / 32 = 6 ∧ 1 < l.length ∧ gb l 1 / 64 = 2 then (if 128 ≤ (gb l 0 % 32) * 64 + gb l 1 % 64 then 2 else 1)
  else if gb l 0 / 16 = 14 ∧ (1 < l.length ∧ gb l 1 / 64 = 2) ∧ (2 < l.length ∧ gb l 2 / 64 = 2) then
    (if 2048 ≤ (gb l 0 % 16) * 4096 + (gb l 1 % 64) * 64 + gb l 2 % 64 ∧ ((gb l 0 % 16) * 4096 + (gb l 1 % 64) * 64 + gb l 2 % 64 < 55296 ∨ 57344 ≤ (gb l 0 % 16) * 4096 + (gb l 1 % 64) * 64 + gb l 2 % 64) then 3 else 1)
  else if gb l 0 / 8 = 30 ∧ (1 < l.length ∧ gb l 1 / 64 = 2) ∧ (2 < l.length ∧ gb l 2 / 64 = 2) ∧ (3 < l.length ∧ gb l 3 / 64 = 2) then
    (if 65536 ≤ (gb l 0 % 8) * 262144 + (gb l 1 % 64) * 4096 + (gb l 2 % 64) * 64 + gb l 3 % 64 ∧ (gb l 0 % 8) * 262144 + (gb l 1 % 64) * 4096 + (gb l 2 % 64) * 64 + gb l 3 % 64 ≤ 1114111 then 4 else 1)
  else 1
theorem get_gb (s : ByteArray) (pos k : Nat) : (s.get! (pos + k)).toNat = gb ((by_ s).drop pos) k := by
  obtain ⟨⟨l⟩⟩ := s
  unfold gb by_
  rw [List.getD_eq_getElem?_getD, List.getElem?_drop]
  show ((⟨l⟩ : Array UInt8)[pos + k]!).toNat = _
  rw [getElem!_def]
  simp only [List.getElem?_toArray]
  cases l[pos + k]? <;> rfl
theorem valid_iff (c : Nat) : Utf8.valid (c : Int) = true ↔ c < 55296 ∨ (57344 ≤ c ∧ c ≤ 1114111) := by
  unfold Utf8.valid
  rw [Bool.or_eq_true, Bool.and_eq_true, Bool.and_eq_true, decide_eq_true_eq, decide_eq_true_eq, decide_eq_true_eq, decide_eq_true_eq]
  omega
set_option maxHeartbeats 1000000 in
theorem decode_wL (s : ByteArray) (pos : Nat) : (Utf8.decode s pos).2 = wL ((by_ s).drop pos) := by
  have e : ∀ k, (s.get! (pos + k)).toNat = gb ((by_ s).drop pos) k := get_gb s pos
  have hl : ∀ k, (pos + k < s.size) ↔ k < ((by_ s).drop pos).length := by
    intro k
    rw [List.length_drop, size_by]
    omega
  have h0 := gb_lt ((by_ s).drop pos) 0
  have h1 := gb_lt ((by_ s).drop pos) 1
  have h2 := gb_lt ((by_ s).drop pos) 2
  have h3 := gb_lt ((by_ s).drop pos) 3
  simp only [Utf8.decode, e, hl]
  unfold wL
  generalize gb ((by_ s).drop pos) 0 = b0 at *
  generalize gb ((by_ s).drop pos) 1 = b1 at *
  generalize gb ((by_ s).drop pos) 2 = b2 at *
  generalize gb ((by_ s).drop pos) 3 = b3 at *
  generalize ((by_ s).drop pos).length = n at *
  by_cases c0 : b0 < 128
  · rw [if_pos c0, if_pos c0]
  rw [if_neg c0, if_neg c0]
  by_cases c1 : b0 / 32 = 6 ∧ 1 < n ∧ b1 / 64 = 2
  · rw [if_pos c1, if_pos (by simp [c1.1, c1.2.1, c1.2.2])]
    split <;> (try split) <;> first | rfl | omega
  rw [if_neg c1, if_neg (by simp only [Bool.and_eq_true, decide_eq_true_eq, beq_iff_eq]; exact c1)]
  by_cases c2 : b0 / 16 = 14 ∧ (1 < n ∧ b1 / 64 = 2) ∧ (2 < n ∧ b2 / 64 = 2)
  · rw [if_pos c2, if_pos (by simp [c2.1, c2.2.1.1, c2.2.1.2, c2.2.2.1, c2.2.2.2])]
    split <;> split
    · rfl
    · rename_i p q
      rw [Bool.and_eq_true, decide_eq_true_eq, valid_iff] at p
      omega
    · rename_i p q
      exact absurd (by rw [Bool.and_eq_true, decide_eq_true_eq, valid_iff]; omega) p
    · rfl
  rw [if_neg c2, if_neg (by simp only [Bool.and_eq_true, decide_eq_true_eq, beq_iff_eq]; exact fun h => c2 ⟨h.1.1, h.1.2, h.2⟩)]
  by_cases c3 : b0 / 8 = 30 ∧ (1 < n ∧ b1 / 64 = 2) ∧ (2 < n ∧ b2 / 64 = 2) ∧ (3 < n ∧ b3 / 64 = 2)
  · rw [if_pos c3, if_pos (by simp [c3.1, c3.2.1.1, c3.2.1.2, c3.2.2.1.1, c3.2.2.1.2, c3.2.2.2.1, c3.2.2.2.2])]
    split <;> split
    · rfl
    · rename_i p q
      rw [Bool.and_eq_true, decide_eq_true_eq, valid_iff] at p
      omega
    · rename_i p q
      exact absurd (by rw [Bool.and_eq_true, decide_eq_true_eq, valid_iff]; omega) p
    · rfl
  rw [if_neg c3, if_neg (by simp only [Bool.and_eq_true, decide_eq_true_eq, beq_iff_eq]; exact fun h => c3 ⟨h.1.1.1, h.1.1.2, h.1.2, h.2⟩)]
theorem wL_bounds (l : List UInt8) (h : l ≠ []) : 1 ≤ wL l ∧ wL l ≤ l.length ∧ wL l ≤ 4 := by
  have hl : 1 ≤ l.length := by cases l with | nil => exact absurd rfl h | cons a t => simp
  unfold wL
  repeat' split
  all_goals omega
/-- Behind the first rune nothing tells how long it is. -/
theorem gb_take (l : List UInt8) (m k : Nat) (h : k < m) : gb (l.take m) k = gb l k := by
  unfold gb
  rw [List.getD_eq_getElem?_getD, List.getD_eq_getElem?_getD, List.getElem?_take, if_pos h]
theorem wL_take (l : List UInt8) (m : Nat) (h : l ≠ []) (hm : wL l ≤ m) (hm2 : m ≤ l.length) : wL (l.take m) = wL l := by
  have hb := wL_bounds l h
  have hlen : (l.take m).length = m := by rw [List.length_take]; omega
  have e0 := gb_take l m 0 (by omega)
  by_cases m1 : 1 < m
  · have e1 := gb_take l m 1 m1
    by_cases m2 : 2 < m
    · have e2 := gb_take l m 2 m2
      by_cases m3 : 3 < m
      · have e3 := gb_take l m 3 m3
        unfold wL at *
        rw [hlen, e0, e1, e2, e3]
        generalize gb l 0 = b0 at *
        generalize gb l 1 = b1 at *
        generalize gb l 2 = b2 at *
        generalize gb l 3 = b3 at *
        generalize l.length = n at *
        have q1 : 1 < n := by omega
        have q2 : 2 < n := by omega
        have q3 : 3 < n := by omega
        simp only [m1, m2, m3, q1, q2, q3]
      · have hn3 : ¬ 3 < m := m3
        unfold wL at *
        rw [hlen, e0, e1, e2]
        generalize gb l 0 = b0 at *
        generalize gb l 1 = b1 at *
        generalize gb l 2 = b2 at *
        generalize gb l 3 = b3 at *
        generalize gb (l.take m) 3 = b3' at *
        generalize l.length = n at *
        repeat' split
        all_goals (first | rfl | omega | (repeat' split at hm) <;> omega)
    · unfold wL at *
      rw [hlen, e0, e1]
      generalize gb l 0 = b0 at *
      generalize gb l 1 = b1 at *
      generalize gb l 2 = b2 at *
      generalize gb l 3 = b3 at *
      generalize gb (l.take m) 3 = b3' at *
      generalize gb (l.take m) 2 = b2' at *
      generalize l.length = n at *
      repeat' split
      all_goals (first | rfl | omega | (repeat' split at hm) <;> omega)
  · unfold wL at *
    rw [hlen, e0]
    generalize gb l 0 = b0 at *
    generalize gb l 1 = b1 at *
    generalize gb l 2 = b2 at *
    generalize gb l 3 = b3 at *
    generalize gb (l.take m) 3 = b3' at *
    generalize gb (l.take m) 2 = b2' at *
    generalize gb (l.take m) 1 = b1' at *
    generalize l.length = n at *
    repeat' split
    all_goals (first | rfl | omega | (repeat' split at hm) <;> omega)
/-- A text's runes. -/
def pcs (l : List UInt8) : List (List UInt8) := if h : l = [] then [] else l.take (wL l) :: pcs (l.drop (wL l))
termination_by l.length
decreasing_by
  have := wL_bounds l h
  rw [List.length_drop]
  omega
theorem pcs_nil : pcs [] = [] := by rw [pcs]; simp
theorem pcs_cons (l : List UInt8) (h : l ≠ []) : pcs l = l.take (wL l) :: pcs (l.drop (wL l)) := by rw [pcs, dif_neg h]
theorem pcs_flatten : ∀ (n : Nat) (l : List UInt8), l.length ≤ n → (pcs l).flatten = l
  | 0, l, h => by
    have : l = [] := by cases l with | nil => rfl | cons a t => simp at h
    rw [this, pcs_nil]; rfl
  | n + 1, l, h => by
    by_cases hl : l = []
    · rw [hl, pcs_nil]; rfl
    · have hb := wL_bounds l hl
      rw [pcs_cons l hl, List.flatten_cons, pcs_flatten n _ (by rw [List.length_drop]; omega), List.take_append_drop]
theorem pcs_flat (l : List UInt8) : (pcs l).flatten = l := pcs_flatten l.length l (Nat.le_refl _)
theorem pcs_size : ∀ (n : Nat) (l : List UInt8), l.length ≤ n → (pcs l).length ≤ l.length
  | 0, l, h => by
    have : l = [] := by cases l with | nil => rfl | cons a t => simp at h
    rw [this, pcs_nil]; simp
  | n + 1, l, h => by
    by_cases hl : l = []
    · rw [hl, pcs_nil]; simp
    · have hb := wL_bounds l hl
      have := pcs_size n (l.drop (wL l)) (by rw [List.length_drop]; omega)
      rw [pcs_cons l hl, List.length_cons]
      rw [List.length_drop] at this
      omega
theorem pcs_le (l : List UInt8) : (pcs l).length ≤ l.length := pcs_size l.length l (Nat.le_refl _)
/-- What is behind some runes. -/
theorem pcs_drop : ∀ (n : Nat) (l : List UInt8), pcs ((pcs l).drop n).flatten = (pcs l).drop n
  | 0, l => by rw [List.drop_zero, pcs_flat]
  | n + 1, l => by
    by_cases hl : l = []
    · rw [hl, pcs_nil]; simp [pcs_nil]
    · rw [pcs_cons l hl, List.drop_succ_cons]
      exact pcs_drop n _
/-- What is ahead of some runes. -/
theorem pcs_take : ∀ (n : Nat) (l : List UInt8), pcs ((pcs l).take n).flatten = (pcs l).take n
  | 0, l => by simp [pcs_nil]
  | n + 1, l => by
    by_cases hl : l = []
    · rw [hl, pcs_nil]; simp [pcs_nil]
    · have hb := wL_bounds l hl
      have hp : ((pcs (l.drop (wL l))).take n).flatten <+: l.drop (wL l) := by
        have := pcs_flat (l.drop (wL l))
        exact ⟨((pcs (l.drop (wL l))).drop n).flatten, by rw [← List.flatten_append, List.take_append_drop, this]⟩
      obtain ⟨r, hr⟩ := hp
      have e : ((pcs l).take (n + 1)).flatten = l.take (wL l) ++ ((pcs (l.drop (wL l))).take n).flatten := by rw [pcs_cons l hl, List.take_succ_cons, List.flatten_cons]
      have hpre : ((pcs l).take (n + 1)).flatten = l.take (wL l + ((pcs (l.drop (wL l))).take n).flatten.length) := by
        rw [e, List.take_add]
        congr 1
        generalize ((pcs (l.drop (wL l))).take n).flatten = F at hr ⊢
        rw [← hr, List.take_left' rfl]
      have hlen : wL l + ((pcs (l.drop (wL l))).take n).flatten.length ≤ l.length := by
        have := congrArg List.length hr
        rw [List.length_append, List.length_drop] at this
        omega
      have hne : ((pcs l).take (n + 1)).flatten ≠ [] := by
        intro hh
        have := congrArg List.length (hpre.symm.trans hh)
        rw [List.length_take, List.length_nil] at this
        omega
      have hw : wL ((pcs l).take (n + 1)).flatten = wL l := by rw [hpre]; exact wL_take l _ hl (by omega) hlen
      rw [pcs_cons _ hne, hw, e, List.take_left' (by rw [List.length_take]; omega), List.drop_left' (by rw [List.length_take]; omega), pcs_take n _]
      rw [pcs_cons l hl, List.take_succ_cons]
/-! The code's places. -/
def sts : Nat → List (List UInt8) → List Nat
  | _, [] => []
  | p, x :: xs => p :: sts (p + x.length) xs
theorem posF_sts (s : ByteArray) : ∀ f pos, s.size ≤ pos + f → posF s f pos = sts pos (pcs ((by_ s).drop pos))
  | 0, pos, h => by
    rw [List.drop_eq_nil_of_le (by rw [← size_by]; omega), pcs_nil]; rfl
  | f + 1, pos, h => by
    by_cases hp : pos < s.size
    · have hne : (by_ s).drop pos ≠ [] := by
        intro hh
        have := congrArg List.length hh
        rw [List.length_drop, ← size_by] at this
        simp at this
        omega
      have hb := wL_bounds _ hne
      rw [pcs_cons _ hne]
      simp only [posF, if_pos hp, sts]
      rw [decode_wL, posF_sts s f _ (by omega), List.length_take, List.drop_drop, Nat.min_eq_left hb.2.1]
    · simp only [posF, if_neg hp]
      rw [List.drop_eq_nil_of_le (by rw [← size_by]; omega), pcs_nil]; rfl
theorem runeP_sts (s : ByteArray) : runeP s = sts 0 (pcs (by_ s)) := by
  unfold runeP
  rw [posF_sts s s.size 0 (by omega), List.drop_zero]
theorem sts_length : ∀ xs p, (sts p xs).length = xs.length
  | [], _ => rfl
  | x :: xs, p => by simp [sts, sts_length xs]
theorem sts_getD : ∀ (xs : List (List UInt8)) (p n : Nat), (sts p xs).getD n (p + xs.flatten.length) = p + (xs.take n).flatten.length
  | [], p, n => by simp [sts]
  | x :: xs, p, 0 => by simp [sts]
  | x :: xs, p, n + 1 => by
    have := sts_getD xs (p + x.length) n
    simp only [sts, List.flatten_cons, List.length_append, List.take_succ_cons, List.getD_cons_succ]
    rw [← Nat.add_assoc, this, Nat.add_assoc]
theorem count_eq (s : ByteArray) (h : s.size ≤ 4611686018427387904) : runes_Count.f s = some ((pcs (by_ s)).length : Int) := by
  unfold runes_Count.f
  rw [if_pos h, runeP_sts, sts_length]
theorem at_eq (s : ByteArray) (n : Int) (h : s.size ≤ 4611686018427387904) (hn : n ≤ 9223372036854775807) : runes_at.f s n = some ((((pcs (by_ s)).take n.toNat).flatten.length : Nat) : Int) := by
  unfold runes_at.f
  rw [if_pos ⟨h, hn⟩, runeP_sts]
  have := sts_getD (pcs (by_ s)) 0 n.toNat
  rw [Nat.zero_add, Nat.zero_add, pcs_flat, ← size_by] at this
  rw [this]
theorem take_at (l : List UInt8) (n : Nat) : l.take ((pcs l).take n).flatten.length = ((pcs l).take n).flatten := by
  have h : ((pcs l).take n).flatten ++ ((pcs l).drop n).flatten = l := by rw [← List.flatten_append, List.take_append_drop, pcs_flat]
  generalize ((pcs l).take n).flatten = a at *
  rw [← h, List.take_left' rfl]
theorem drop_at (l : List UInt8) (n : Nat) : l.drop ((pcs l).take n).flatten.length = ((pcs l).drop n).flatten := by
  have h : ((pcs l).take n).flatten ++ ((pcs l).drop n).flatten = l := by rw [← List.flatten_append, List.take_append_drop, pcs_flat]
  generalize ((pcs l).take n).flatten = a at *
  generalize ((pcs l).drop n).flatten = b at *
  rw [← h, List.drop_left' rfl]
theorem at_le (l : List UInt8) (n : Nat) : ((pcs l).take n).flatten.length ≤ l.length := by
  have h : ((pcs l).take n).flatten ++ ((pcs l).drop n).flatten = l := by rw [← List.flatten_append, List.take_append_drop, pcs_flat]
  have := congrArg List.length h
  rw [List.length_append] at this
  omega
/-! The reference's size. -/
def lpS (l : List UInt8) : Nat → Nat → Int → Int → Int → Int
  | 0, _, _, _, n => n
  | d + 1, i, low, high, n => if (gb l i : Int) < low then 1 else if (gb l i : Int) > high then 1 else lpS l d (i + 1) 128 191 n
theorem bt_gb (l : List UInt8) (i : Nat) (h : i < l.length) : bt (tx l) (i : Int) = (gb l i : Int) := by
  rw [bt_tx l i h]
  unfold gb
  rw [List.getD_eq_getElem?_getD, List.getElem?_eq_getElem h]
  rfl
theorem size_l0 (l : List UInt8) (n : Nat) (hn : n ≤ l.length) (hn4 : n ≤ 4) : ∀ d i low high, i + d = n → Ev (fun k => oculusref13_Size.l0 k (tx l) (n : Int) low high (i : Int)) (lpS l d i low high (n : Int))
  | 0, i, low, high, h => by
    refine Ev.step (f := fun k => some (n : Int)) (fun k => ?_) (Ev.now _)
    simp only [oculusref13_Size.l0]
    rw [if_neg (by omega)]
  | d + 1, i, low, high, h => by
    have hz := size_tx l
    refine Ev.step (f := fun k => if (gb l i : Int) < low then some 1 else if (gb l i : Int) > high then some 1 else oculusref13_Size.l0 k (tx l) (n : Int) 128 191 ((i + 1 : Nat) : Int)) (fun k => ?_) ?_
    · simp only [oculusref13_Size.l0]
      rw [if_pos (by omega), if_pos (by omega), if_pos (by omega), bt_gb l i (by omega), w64s (n := 100) (by omega) (by omega)]
    · simp only [lpS]
      by_cases h1 : (gb l i : Int) < low
      · rw [if_pos h1]; exact ev_pos h1 (Ev.now _)
      · rw [if_neg h1]
        refine ev_neg h1 ?_
        by_cases h2 : (gb l i : Int) > high
        · rw [if_pos h2]; exact ev_pos h2 (Ev.now _)
        · rw [if_neg h2]; exact ev_neg h2 (size_l0 l n hn hn4 d (i + 1) 128 191 (by omega))
def vS (l : List UInt8) (n : Nat) (low high : Int) : Int := if l.length < n then 1 else lpS l (n - 1) 1 low high (n : Int)
theorem vS_1 (l : List UInt8) (low high : Int) : vS l 1 low high = if l.length < 1 then 1 else 1 := rfl
theorem vS_2 (l : List UInt8) (low high : Int) : vS l 2 low high = if l.length < 2 then 1 else if (gb l 1 : Int) < low then 1 else if (gb l 1 : Int) > high then 1 else 2 := rfl
theorem vS_3 (l : List UInt8) (low high : Int) : vS l 3 low high = if l.length < 3 then 1 else if (gb l 1 : Int) < low then 1 else if (gb l 1 : Int) > high then 1 else if (gb l 2 : Int) < 128 then 1 else if (gb l 2 : Int) > 191 then 1 else 3 := rfl
theorem vS_4 (l : List UInt8) (low high : Int) : vS l 4 low high = if l.length < 4 then 1 else if (gb l 1 : Int) < low then 1 else if (gb l 1 : Int) > high then 1 else if (gb l 2 : Int) < 128 then 1 else if (gb l 2 : Int) > 191 then 1 else if (gb l 3 : Int) < 128 then 1 else if (gb l 3 : Int) > 191 then 1 else 4 := rfl
theorem size_j3 (l : List UInt8) (n : Nat) (hn1 : 1 ≤ n) (hn4 : n ≤ 4) (low high : Int) : Ev (fun k => oculusref13_Size.j3 k (tx l) (n : Int) low high) (vS l n low high) := by
  have hz := size_tx l
  refine Ev.step (fun k => oculusref13_Size.j3.eq_2 _ _ _ _ _) ?_
  unfold vS
  by_cases h : l.length < n
  · rw [if_pos h]; exact ev_pos (by omega) (Ev.now _)
  · rw [if_neg h]; exact ev_neg (by omega) (size_l0 l n (by omega) hn4 (n - 1) 1 low high (by omega))
theorem size_j2 (l : List UInt8) (hl : l ≠ []) (n : Nat) (hn1 : 1 ≤ n) (hn4 : n ≤ 4) : Ev (fun k => oculusref13_Size.j2 k (tx l) (n : Int) 128 191)
    (if (gb l 0 : Int) = 224 then vS l n 160 191 else if (gb l 0 : Int) = 237 then vS l n 128 159 else if (gb l 0 : Int) = 240 then vS l n 144 191 else if (gb l 0 : Int) = 244 then vS l n 128 143 else vS l n 128 191) := by
  have hz := size_tx l
  have hp : 0 < l.length := by cases l with | nil => exact absurd rfl hl | cons a t => simp
  refine Ev.step (fun k => oculusref13_Size.j2.eq_2 _ _ _ _ _) ?_
  refine ev_pos (by omega) ?_
  have hb : bt (tx l) 0 = (gb l 0 : Int) := bt_gb l 0 hp
  simp only [hb]
  by_cases h1 : (gb l 0 : Int) = 224
  · rw [if_pos h1]; exact ev_pos h1 (size_j3 l n hn1 hn4 _ _)
  rw [if_neg h1]; refine ev_neg h1 ?_
  by_cases h2 : (gb l 0 : Int) = 237
  · rw [if_pos h2]; exact ev_pos h2 (size_j3 l n hn1 hn4 _ _)
  rw [if_neg h2]; refine ev_neg h2 ?_
  by_cases h3 : (gb l 0 : Int) = 240
  · rw [if_pos h3]; exact ev_pos h3 (size_j3 l n hn1 hn4 _ _)
  rw [if_neg h3]; refine ev_neg h3 ?_
  by_cases h4 : (gb l 0 : Int) = 244
  · rw [if_pos h4]; exact ev_pos h4 (size_j3 l n hn1 hn4 _ _)
  rw [if_neg h4]; exact ev_neg h4 (size_j3 l n hn1 hn4 _ _)
set_option maxHeartbeats 4000000 in
theorem vS_fin (l : List UInt8) (hl : l ≠ []) (n : Nat) (h1 : 1 ≤ n) (h4 : n ≤ 4) (e2 : n = 2 ↔ 194 ≤ gb l 0 ∧ gb l 0 ≤ 223) (e3 : n = 3 ↔ 224 ≤ gb l 0 ∧ gb l 0 ≤ 239) (e4 : n = 4 ↔ 240 ≤ gb l 0 ∧ gb l 0 ≤ 244) :
    (if (gb l 0 : Int) = 224 then vS l n 160 191 else if (gb l 0 : Int) = 237 then vS l n 128 159 else if (gb l 0 : Int) = 240 then vS l n 144 191 else if (gb l 0 : Int) = 244 then vS l n 128 143 else vS l n 128 191) = (wL l : Int) := by
  have g0 := gb_lt l 0
  have g1 := gb_lt l 1
  have g2 := gb_lt l 2
  have g3 := gb_lt l 3
  unfold wL
  rcases (by omega : n = 1 ∨ n = 2 ∨ n = 3 ∨ n = 4) with rfl | rfl | rfl | rfl
  · rw [vS_1, vS_1, vS_1, vS_1, vS_1]
    generalize gb l 0 = b0 at *
    generalize gb l 1 = b1 at *
    generalize gb l 2 = b2 at *
    generalize gb l 3 = b3 at *
    generalize l.length = m at *
    repeat' split
    all_goals omega
  · have p0 := e2.1 rfl
    rw [vS_2, vS_2, vS_2, vS_2, vS_2]
    generalize gb l 0 = b0 at *
    generalize gb l 1 = b1 at *
    generalize gb l 2 = b2 at *
    generalize gb l 3 = b3 at *
    generalize l.length = m at *
    rw [if_neg (by omega), if_neg (by omega), if_neg (by omega), if_neg (by omega), if_neg (by omega : ¬ b0 < 128)]
    repeat' split
    all_goals omega
  · have p0 := e3.1 rfl
    rw [vS_3, vS_3, vS_3, vS_3, vS_3]
    generalize gb l 0 = b0 at *
    generalize gb l 1 = b1 at *
    generalize gb l 2 = b2 at *
    generalize gb l 3 = b3 at *
    generalize l.length = m at *
    rw [if_neg (by omega : ¬ b0 < 128), if_neg (by omega : ¬ (b0 / 32 = 6 ∧ 1 < m ∧ b1 / 64 = 2))]
    by_cases q1 : (b0 : Int) = 224
    · rw [if_pos q1]
      repeat' split
      all_goals omega
    rw [if_neg q1]
    by_cases q2 : (b0 : Int) = 237
    · rw [if_pos q2]
      repeat' split
      all_goals omega
    rw [if_neg q2, if_neg (by omega), if_neg (by omega)]
    repeat' split
    all_goals omega
  · have p0 := e4.1 rfl
    rw [vS_4, vS_4, vS_4, vS_4, vS_4]
    generalize gb l 0 = b0 at *
    generalize gb l 1 = b1 at *
    generalize gb l 2 = b2 at *
    generalize gb l 3 = b3 at *
    generalize l.length = m at *
    rw [if_neg (by omega : ¬ b0 < 128), if_neg (by omega : ¬ (b0 / 32 = 6 ∧ 1 < m ∧ b1 / 64 = 2)), if_neg (by omega : ¬ (b0 / 16 = 14 ∧ (1 < m ∧ b1 / 64 = 2) ∧ (2 < m ∧ b2 / 64 = 2))), if_neg (by omega), if_neg (by omega)]
    by_cases q1 : (b0 : Int) = 240
    · rw [if_pos q1]
      repeat' split
      all_goals omega
    rw [if_neg q1]
    by_cases q2 : (b0 : Int) = 244
    · rw [if_pos q2]
      repeat' split
      all_goals omega
    rw [if_neg q2]
    repeat' split
    all_goals omega
theorem size13_ev (l : List UInt8) (hl : l ≠ []) : Ev (fun k => oculusref13_Size.f k (tx l)) (wL l : Int) := by
  have hz := size_tx l
  have hp : 0 < l.length := by cases l with | nil => exact absurd rfl hl | cons a t => simp
  have hb : bt (tx l) 0 = (gb l 0 : Int) := bt_gb l 0 hp
  have g0 := gb_lt l 0
  have g1 := gb_lt l 1
  have g2 := gb_lt l 2
  have g3 := gb_lt l 3
  unfold oculusref13_Size.f
  refine ev_neg (by omega) (ev_pos (by omega) ?_)
  simp only [hb]
  have fin : ∀ n : Nat, 1 ≤ n → n ≤ 4 → (n = 2 ↔ 194 ≤ gb l 0 ∧ gb l 0 ≤ 223) → (n = 3 ↔ 224 ≤ gb l 0 ∧ gb l 0 ≤ 239) → (n = 4 ↔ 240 ≤ gb l 0 ∧ gb l 0 ≤ 244) → Ev (fun k => oculusref13_Size.j2 k (tx l) (n : Int) 128 191) (wL l : Int) := by
    intro n h1 h4 e2 e3 e4
    have := size_j2 l hl n h1 h4
    refine (congrArg (Ev _) ?_).mp this
    exact vS_fin l hl n h1 h4 e2 e3 e4
  by_cases h1 : (gb l 0 : Int) ≥ 194
  · refine ev_pos h1 ?_
    by_cases h2 : (gb l 0 : Int) ≤ 223
    · rw [decide_eq_true h2]
      refine Ev.step (fun k => oculusref13_Size.j0.eq_2 _ _ _ _ _ _) ?_
      exact ev_pos rfl (fin 2 (by omega) (by omega) (by omega) (by omega) (by omega))
    · rw [decide_eq_false h2]
      refine Ev.step (fun k => oculusref13_Size.j0.eq_2 _ _ _ _ _ _) ?_
      refine ev_neg (by simp) (ev_pos (by omega) ?_)
      simp only [hb]
      refine ev_pos (by omega) ?_
      by_cases h3 : (gb l 0 : Int) ≤ 239
      · rw [decide_eq_true h3]
        refine Ev.step (fun k => oculusref13_Size.j1.eq_2 _ _ _ _ _ _) ?_
        exact ev_pos rfl (fin 3 (by omega) (by omega) (by omega) (by omega) (by omega))
      · rw [decide_eq_false h3]
        refine Ev.step (fun k => oculusref13_Size.j1.eq_2 _ _ _ _ _ _) ?_
        refine ev_neg (by simp) (ev_pos (by omega) ?_)
        simp only [hb]
        refine ev_pos (by omega) ?_
        by_cases h5 : (gb l 0 : Int) ≤ 244
        · exact ev_pos h5 (fin 4 (by omega) (by omega) (by omega) (by omega) (by omega))
        · exact ev_neg h5 (fin 1 (by omega) (by omega) (by omega) (by omega) (by omega))
  · refine ev_neg h1 ?_
    refine Ev.step (fun k => oculusref13_Size.j0.eq_2 _ _ _ _ _ _) ?_
    refine ev_neg (by simp) (ev_pos (by omega) ?_)
    simp only [hb]
    refine ev_neg (by omega) ?_
    refine Ev.step (fun k => oculusref13_Size.j1.eq_2 _ _ _ _ _ _) ?_
    refine ev_neg (by simp) (ev_pos (by omega) ?_)
    simp only [hb]
    exact ev_neg (by omega) (fin 1 (by omega) (by omega) (by omega) (by omega) (by omega))
theorem pieces_l0 : ∀ (n : Nat) (l : List UInt8) (acc : List ByteArray), l.length ≤ n → l.length + acc.length ≤ 1000000 → Ev (fun k => oculusref13_Pieces.l0 k (tx l) acc) (acc ++ (pcs l).map tx)
  | n, l, acc, h, hs => by
    have hz := size_tx l
    by_cases hl : l = []
    · subst hl
      rw [pcs_nil, List.map_nil, List.append_nil]
      refine Ev.step (fun k => oculusref13_Pieces.l0.eq_2 _ _ _) ?_
      exact ev_neg (by rw [hz]; simp) (Ev.now _)
    · have hb := wL_bounds l hl
      refine Ev.step (fun k => oculusref13_Pieces.l0.eq_2 _ _ _) ?_
      refine ev_pos (by omega) ?_
      refine ev_bind (size13_ev l hl) ?_
      refine ev_pos (by omega) (ev_pos (by omega) (ev_pos (by omega) ?_))
      obtain ⟨n', rfl⟩ : ∃ n', n = n' + 1 := ⟨n - 1, by omega⟩
      have := pieces_l0 n' (l.drop (wL l)) (acc ++ [tx (l.take (wL l))]) (by rw [List.length_drop]; omega) (by rw [List.length_drop, List.length_append, List.length_singleton]; omega)
      have e : acc ++ (pcs l).map tx = (acc ++ [tx (l.take (wL l))]) ++ (pcs (l.drop (wL l))).map tx := by rw [pcs_cons l hl]; simp
      rw [e, Int.toNat_natCast, ext_head, ext_tail, by_tx]
      exact this
theorem pieces_ev (s : ByteArray) (h : s.size ≤ 1000) : Ev (fun k => oculusref13_Pieces.f k s) ((pcs (by_ s)).map tx) := by
  unfold oculusref13_Pieces.f
  have := pieces_l0 (by_ s).length (by_ s) [] (Nat.le_refl _) (by rw [← size_by]; simp; omega)
  rw [tx_by] at this
  simpa using this
end Go.Proofs.Ytlchgkoafabapaa.X
namespace Go.Proofs.Ytlchgkoafabapaa.X
open Go.RowKit Go.Proofs.YtlchgkoafabapaaW.PrintWords Go.Proofs.YtlchgkoafabapaaW.PrintLast Go.Proofs.YtlchgkoafabapaaW.PrintMore
attribute [local go_sem] max2_int min2_int max_two min_two max_three min_three max_four min_four   -- for this text's walks alone
set_option linter.unusedVariables false
set_option linter.unusedSimpArgs false

/-! ### oculusref13_Join: function 70 -/
def oculusref13_Join.l0 : Nat → List ByteArray → ByteArray → Int → Option (ByteArray)
  | 0, _, _, _ => none
  | k + 1, x0, x3, x4 => if x4 < (x0.length : Int) then (if 0 ≤ x4 then (if x3.size + (rdOf ByteArray.empty x0 x4).size ≤ 9223372036854775807 then (oculusref13_Join.l0 k x0 (x3 ++ (rdOf ByteArray.empty x0 x4)) (wrap64 (x4 + 1))) else (none)) else (none)) else (some x3)
def oculusref13_Join.f (k : Nat) (l0 : List ByteArray) : Option (ByteArray) := oculusref13_Join.l0 k l0 (⟨#[]⟩ : ByteArray) 0
theorem oculusref13_Join.mono_l : ∀ k, (∀ y0 y1 y2, LeO (oculusref13_Join.l0 k y0 y1 y2) (oculusref13_Join.l0 (k + 1) y0 y1 y2))
  | 0 => fun _ _ _ r h => by simp [oculusref13_Join.l0] at h
  | k + 1 => by
    have ih0 := oculusref13_Join.mono_l k
    · intro y0 y1 y2
      unfold oculusref13_Join.l0
      repeat' first
      | (with_reducible exact ih0 _ _ _)
      | (with_reducible exact LeO.refl _)
      | (with_reducible exact LeO.none _)
      | (with_reducible refine LeO.ite ?_ ?_)
      | (with_reducible refine LeO.bind ?_ (fun _ => ?_))
      | exact ih0 _ _ _
      | exact LeO.none _
      | refine LeO.ite ?_ ?_
      | refine LeO.bind ?_ (fun _ => ?_)
theorem oculusref13_Join.mono : ∀ a0 k, LeO (oculusref13_Join.f k a0) (oculusref13_Join.f (k + 1) a0) := by
  intro a0 k
  have ih0 := oculusref13_Join.mono_l k
  unfold oculusref13_Join.f
  repeat' first
      | (with_reducible exact ih0 _ _ _)
      | (with_reducible exact LeO.refl _)
      | (with_reducible exact LeO.none _)
      | (with_reducible refine LeO.ite ?_ ?_)
      | (with_reducible refine LeO.bind ?_ (fun _ => ?_))
      | exact ih0 _ _ _
      | exact LeO.none _
      | refine LeO.ite ?_ ?_
      | refine LeO.bind ?_ (fun _ => ?_)
set_option maxHeartbeats 8000000 in
set_option maxRecDepth 100000 in
theorem oculusref13_Join.calls (k : Nat) (A0 : Option Addr) (c0 : Nat) (l0 : List ByteArray) (r : ByteArray) (w : World) (hr0 : Kd.C Kd.string w A0 l0.length l0) (hc0 : l0.length ≤ c0) (h : oculusref13_Join.f k l0 = some r) :
    Calls Try.prog 70 #[.slice A0 l0.length c0] w fun e w' => e = .returned (.string r) ∧ Drawn0 w w' := by
  have HR0 := Aside0.mk hr0
  have HC0 := Aside0.mk hc0
  clear hr0 hc0
  have H : (oculusref13_Join.l0 k l0 (⟨#[]⟩ : ByteArray) 0) = some r := h
  clear h
  have H' := Aside0.mk H
  clear H
  go_enter Try.func70, Try.ntmps70
  go_wp2
  go_loopg [3, 4] k (fun kq v3 v4 w' => ∃ (x3_1 : ByteArray) (x4_1 : Int), v3 = .string x3_1 ∧ v4 = .int .i64 x4_1 ∧ Aside0 (oculusref13_Join.l0 kq l0 x3_1 x4_1 = some r) ∧ Aside0 (kq ≤ k) ∧ Drawn0 w w')
  case atStart => exact ⟨((⟨#[]⟩ : ByteArray)), (0), (by first | rfl | (simp; done) | (simp [*]; done)), (by first | rfl | (simp; done) | (simp [*]; done)), H', ⟨Nat.le_refl _⟩, by repeat (first | exact Drawn0.refl _ | apply Drawn0.step)⟩
  case round =>
    clear H'
    obtain ⟨x3_1, x4_1, rfl, rfl, HA, HK1, ⟨m1, rfl⟩⟩ := hrel
    cases gk with
    | zero => exact absurd HA.out (by simp [oculusref13_Join.l0])
    | succ k1 =>
      have H := HA.out
      clear HA
      simp only [oculusref13_Join.l0] at H
      by_cases c2 : x4_1 < (l0.length : Int)
      · rw [if_pos c2] at H
        have c2b0 : decide (x4_1 < (l0.length : Int)) = true := decide_eq_true c2
        clear c2
        by_cases c3 : 0 ≤ x4_1
        · rw [if_pos c3] at H
          have c3b0 : decide (0 ≤ x4_1) = true := decide_eq_true c3
          clear c3
          by_cases c4 : x3_1.size + (rdOf ByteArray.empty l0 x4_1).size ≤ 9223372036854775807
          · rw [if_pos c4] at H
            have c4b0 := eq_true c4
            have c4b1 : decide (x3_1.size + (rdOf ByteArray.empty l0 x4_1).size ≤ 9223372036854775807) = true := decide_eq_true c4
            try have c4b2 : (9223372036854775807 < x3_1.size + (rdOf ByteArray.empty l0 x4_1).size) = False := eq_false (Nat.not_lt.2 c4)
            have H' := Aside0.mk H
            clear H
            have p101 : 0 ≤ (x4_1 : Int) := of_decide_eq_true (by first | (with_reducible assumption) | assumption)
            have q101 : x4_1 < (l0.length : Int) := of_decide_eq_true (by first | (with_reducible assumption) | assumption)
            obtain ⟨ad101, e101, hx101_0⟩ := Kd.at_string HR0.out x4_1 p101 q101
            cases e101
            replace p101 := eq_true p101
            replace q101 := eq_true q101
            go_wp2
            go_roundg k1
            case measure => have := HK1.out; omega
            case rel => exact ⟨(x3_1 ++ (rdOf ByteArray.empty l0 x4_1)), (wrap64 (x4_1 + 1)), (by first | rfl | (simp; done) | (simp [*]; done)), (by first | rfl | (simp; done) | (simp [*]; done)), H', ⟨by have := HK1.out; omega⟩, by repeat (first | exact Drawn0.refl _ | apply Drawn0.step)⟩
          · rw [if_neg c4] at H
            exact absurd H (by simp)
        · rw [if_neg c3] at H
          exact absurd H (by simp)
      · rw [if_neg c2] at H
        have c2b0 : decide (x4_1 < (l0.length : Int)) = false := decide_eq_false c2
        clear c2
        obtain rfl := Option.some.inj H
        go_wp2
        go_ret
        exact ⟨by first | rfl | (simp; done) | (simp [*]; done), by repeat (first | exact Drawn0.refl _ | apply Drawn0.step)⟩

end Go.Proofs.Ytlchgkoafabapaa.X
namespace Go.Proofs.Ytlchgkoafabapaa.X
open Go.RowKit Go.Proofs.YtlchgkoafabapaaW.PrintWords Go.Proofs.YtlchgkoafabapaaW.PrintLast Go.Proofs.YtlchgkoafabapaaW.PrintMore
attribute [local go_sem] max2_int min2_int max_two min_two max_three min_three max_four min_four   -- for this text's walks alone
set_option linter.unusedVariables false
set_option linter.unusedSimpArgs false

/-! ### oculusref13_Mid: function 31 -/
def oculusref13_Mid.l0 : Nat → Int → Int → List ByteArray → List ByteArray → Int → Option (ByteArray)
  | 0, _, _, _, _, _ => none
  | k + 1, x1, x2, x7, x8, x9 => if x9 < (x8.length : Int) then (if x1 ≥ 0 then (if x9 ≥ x1 then (if (wrap64 (x9 - x1)) < x2 then (if 0 ≤ x9 then (if x7.length < 8796093022208 then (oculusref13_Mid.l0 k x1 x2 (x7 ++ [rdOf ByteArray.empty x8 x9]) x8 (wrap64 (x9 + 1))) else (none)) else (none)) else (oculusref13_Mid.l0 k x1 x2 x7 x8 (wrap64 (x9 + 1)))) else (oculusref13_Mid.l0 k x1 x2 x7 x8 (wrap64 (x9 + 1)))) else (oculusref13_Mid.l0 k x1 x2 x7 x8 (wrap64 (x9 + 1)))) else ((oculusref13_Join.f k x7).bind fun t108 => (some t108))
def oculusref13_Mid.f (k : Nat) (a0 : ByteArray) (a1 : Int) (a2 : Int) : Option (ByteArray) := (oculusref13_Pieces.f k a0).bind fun t101 => (oculusref13_Mid.l0 k a1 a2 ([] : List ByteArray) t101 0)
theorem oculusref13_Mid.mono_l : ∀ k, (∀ y0 y1 y2 y3 y4, LeO (oculusref13_Mid.l0 k y0 y1 y2 y3 y4) (oculusref13_Mid.l0 (k + 1) y0 y1 y2 y3 y4))
  | 0 => fun _ _ _ _ _ r h => by simp [oculusref13_Mid.l0] at h
  | k + 1 => by
    have ih0 := oculusref13_Mid.mono_l k
    · intro y0 y1 y2 y3 y4
      unfold oculusref13_Mid.l0
      repeat' first
      | (with_reducible exact ih0 _ _ _ _ _)
      | (with_reducible exact oculusref13_Join.mono _ _)
      | (with_reducible exact oculusref13_Pieces.mono _ _)
      | (with_reducible exact LeO.refl _)
      | (with_reducible exact LeO.none _)
      | (with_reducible refine LeO.ite ?_ ?_)
      | (with_reducible refine LeO.bind ?_ (fun _ => ?_))
      | exact ih0 _ _ _ _ _
      | exact oculusref13_Join.mono _ _
      | exact oculusref13_Pieces.mono _ _
      | exact LeO.none _
      | refine LeO.ite ?_ ?_
      | refine LeO.bind ?_ (fun _ => ?_)
theorem oculusref13_Mid.mono : ∀ a0 a1 a2 k, LeO (oculusref13_Mid.f k a0 a1 a2) (oculusref13_Mid.f (k + 1) a0 a1 a2) := by
  intro a0 a1 a2 k
  have ih0 := oculusref13_Mid.mono_l k
  unfold oculusref13_Mid.f
  repeat' first
      | (with_reducible exact ih0 _ _ _ _ _)
      | (with_reducible exact oculusref13_Join.mono _ _)
      | (with_reducible exact oculusref13_Pieces.mono _ _)
      | (with_reducible exact LeO.refl _)
      | (with_reducible exact LeO.none _)
      | (with_reducible refine LeO.ite ?_ ?_)
      | (with_reducible refine LeO.bind ?_ (fun _ => ?_))
      | exact ih0 _ _ _ _ _
      | exact oculusref13_Join.mono _ _
      | exact oculusref13_Pieces.mono _ _
      | exact LeO.none _
      | refine LeO.ite ?_ ?_
      | refine LeO.bind ?_ (fun _ => ?_)
set_option maxHeartbeats 8000000 in
set_option maxRecDepth 100000 in
theorem oculusref13_Mid.calls (k : Nat) (a0 : ByteArray) (a1 : Int) (a2 : Int) (r : ByteArray) (w : World) (h : oculusref13_Mid.f k a0 a1 a2 = some r) :
    Calls Try.prog 31 #[.string a0, .int .i64 a1, .int .i64 a2] w fun e w' => e = .returned (.string r) ∧ Below w.heap.size w w' := by
  have HB := Aside0.mk (Below.refl w.heap.size w)
  have H : ((oculusref13_Pieces.f k a0).bind fun t101 => (oculusref13_Mid.l0 k a1 a2 ([] : List ByteArray) t101 0)) = some r := h
  clear h
  replace H := Option.bind_eq_some_iff.mp H
  obtain ⟨t101, A40, H⟩ := H
  replace H : (oculusref13_Mid.l0 k a1 a2 ([] : List ByteArray) t101 0) = some r := H
  have A4 := Aside0.mk A40
  clear A40
  have H' := Aside0.mk H
  clear H
  go_enter Try.func31, Try.ntmps31
  go_wp2_with (first | ((with_reducible refine gate_callee (f := 29) rfl ?_); refine goesL_ (some 11) rfl rfl Try.func29 (by kernel_rfl) rfl #[.string a0] rfl (by (try simp only [List.map_toArray, List.map_cons, List.map_nil]); first | done | rfl | (simp only [List.length_drop, List.length_take]; rfl)) ?_; (with_reducible refine (oculusref13_Pieces.calls k a0 t101 _ A4.out).mono ?_); rintro e w5 ⟨v102, rfl, ho0, hb⟩; refine ⟨_, rfl, ?_⟩; have n0_ := Aside0.mk (Kd.R_lower ho0 (below_size (pbx HB))); have n1_ := Aside0.mk (below_step (pbx HB) hb); clear HB; have HO103 := n0_; have HB := n1_; clear n0_ n1_; (try clear hb); (try clear hb2); (try clear hk); (try clear hi); (try clear ho0)))
  go_loopg [7, 9] k (fun kq v7 v9 w' => ∃ (x7_1 : List ByteArray) (x9_1 : Int), v9 = .int .i64 x9_1 ∧ Aside0 (oculusref13_Mid.l0 kq a1 a2 x7_1 t101 x9_1 = some r) ∧ Aside0 (kq ≤ k) ∧ Aside0 (Kd.R Kd.string 9 w' w.heap.size (fun k_ => some k_ ≠ (v102 : Value).ownBlock) v7 x7_1) ∧ Aside0 (Kd.R Kd.string 9 w' w.heap.size (fun k_ => some k_ ≠ (v7 : Value).ownBlock) v102 t101) ∧ Aside0 (Below w.heap.size w w'))
  case atStart => exact ⟨(([] : List ByteArray)), (0), (by first | rfl | (simp; done) | (simp [*]; done)), H', ⟨Nat.le_refl _⟩, ⟨by first | exact Kd.R_nil _ _ _ _ _ | exact Kd.N_nil _ _ _ _ _ | exact Kd.V_nil _ _ _ _ _ | exact Kd.Q_nil _ _ _ _ _ | exact Kd.S_nil _ _ _ _ _⟩, ⟨by (with_reducible repeat (first | apply Kd.R_alloc | apply Kd.R_drewN | apply Kd.R_drew)); exact Kd.R_mono HO103.out (fun _ hk => (by simp [Value.ownBlock]))⟩, ⟨pbx HB⟩⟩
  case round =>
    clear H'
    try clear c2
    try clear p2
    try clear c3
    obtain ⟨x7_1, x9_1, rfl, HA, HK1, HO_7, HO_8, HB⟩ := hrel
    cases gk with
    | zero => exact absurd HA.out (by simp [oculusref13_Mid.l0])
    | succ k1 =>
      have H := HA.out
      clear HA
      simp only [oculusref13_Mid.l0] at H
      by_cases c6 : x9_1 < (t101.length : Int)
      · rw [if_pos c6] at H
        have c6b0 : decide (x9_1 < (t101.length : Int)) = true := decide_eq_true c6
        clear c6
        by_cases c7 : a1 ≥ 0
        · rw [if_pos c7] at H
          have c7b0 : decide (0 ≤ a1) = true := decide_eq_true c7
          clear c7
          by_cases c8 : x9_1 ≥ a1
          · rw [if_pos c8] at H
            have c8b0 : decide (a1 ≤ x9_1) = true := decide_eq_true c8
            clear c8
            by_cases c9 : (wrap64 (x9_1 - a1)) < a2
            · rw [if_pos c9] at H
              have c9b0 : decide ((wrap64 (x9_1 - a1)) < a2) = true := decide_eq_true c9
              clear c9
              by_cases c10 : 0 ≤ x9_1
              · rw [if_pos c10] at H
                have c10b0 : decide (0 ≤ x9_1) = true := decide_eq_true c10
                clear c10
                by_cases c11 : x7_1.length < 8796093022208
                · rw [if_pos c11] at H
                  have LMc11 := Aside0.mk c11
                  clear c11
                  obtain ⟨y105, hy105⟩ : ∃ y_ : List ByteArray, y_ = (x7_1 ++ [rdOf ByteArray.empty t101 x9_1]) := ⟨_, rfl⟩
                  replace H : (oculusref13_Mid.l0 k1 a1 a2 y105 t101 (wrap64 (x9_1 + 1))) = some r := by first | (rw [hy105]; with_reducible exact H) | (have H2_ := (Option.bind_some _ _).symm.trans H; rw [hy105]; with_reducible exact H2_) | (have H2_ := (Option.bind_some _ _).symm.trans H; with_reducible exact H2_) | with_reducible exact H | (rw [hy105]; exact H) | exact H
                  have Ny105 := Aside0.mk hy105
                  clear hy105
                  have H' := Aside0.mk H
                  clear H
                  obtain ⟨Ao12, co12, eo12⟩ := Kd.R_slice HO_8.out
                  subst eo12
                  have p104 : 0 ≤ (x9_1 : Int) := of_decide_eq_true (by first | (with_reducible assumption) | assumption)
                  have q104 : x9_1 < (t101.length : Int) := of_decide_eq_true (by first | (with_reducible assumption) | assumption)
                  obtain ⟨ad104, e104, hx104_0⟩ := Kd.at_string (Kd.R_reads' HO_8.out).2.2 x9_1 p104 q104
                  cases e104
                  replace p104 := eq_true p104
                  replace q104 := eq_true q104
                  go_wp2_with (first | ((with_reducible refine gate_builtin (b := .append) (xs := #[.tmp 32, .tmp 37]) rfl ?_); at_builtin; refine Kd.R_append Kd.string (w0 := w) w.heap.size rfl (.tmp 32) (.tmp 37) 64 9 (.string ⟨#[]⟩) 16 rfl Try.underlying64 info9 rfl (by decide) (by omega) u7 x7_1 (rdOf ByteArray.empty t101 x9_1) [.string (rdOf ByteArray.empty t101 x9_1)] (fun k_ => some k_ ≠ (.slice (some ad104) t101.length co12 : Value).ownBlock) (fun _ => False) rfl rfl ?aP (fun _ hk => hk.elim) ?aF ?aO ?aB ?aS ?aL ?_; (case aP => exact rfl); (case aB => exact (pbx HB)); (case aF => exact (fun k_ hk => Kd.fresh' (Kd.R_lt (by (with_reducible repeat (first | apply Kd.R_alloc | apply Kd.R_drewN | apply Kd.R_drew)); exact HO_8.out)) k_ hk)); (case aO => exact (by (with_reducible repeat (first | apply Kd.R_alloc | apply Kd.R_drewN | apply Kd.R_drew)); exact HO_7.out)); (case aS => exact (below_size (pbx HB))); (case aL => have := LMc11.out; omega); intro v106 w13 ho hb hg hat; rw [← Ny105.out] at ho; have n0_ := Aside0.mk (Kd.R_after (ok := (fun _ => True)) (by (with_reducible repeat (first | apply Kd.R_alloc | apply Kd.R_drewN | apply Kd.R_drew)); exact Kd.R_mono HO_8.out (fun _ hk => ⟨trivial, hk⟩)) hg hat); have n1_ := Aside0.mk (hb); have n2_ := Aside0.mk (ho); clear HO_8; clear HB; clear HO_7; have HO_8 := n0_; have HB := n1_; have HO107 := n2_; clear n0_ n1_ n2_; clear ho hb hg hat))
                  go_roundg k1
                  case measure => have := HK1.out; omega
                  case rel => exact ⟨(y105), (wrap64 (x9_1 + 1)), (by first | rfl | (simp; done) | (simp [*]; done)), H', ⟨by have := HK1.out; omega⟩, ⟨by (with_reducible repeat (first | apply Kd.R_alloc | apply Kd.R_drewN | apply Kd.R_drew)); exact HO107.out⟩, ⟨by (with_reducible repeat (first | apply Kd.R_alloc | apply Kd.R_drewN | apply Kd.R_drew)); exact Kd.R_mono HO_8.out (fun _ hk => hk.2)⟩, ⟨pbx HB⟩⟩
                · rw [if_neg c11] at H
                  exact absurd H (by simp)
              · rw [if_neg c10] at H
                exact absurd H (by simp)
            · rw [if_neg c9] at H
              have c9b0 : decide ((wrap64 (x9_1 - a1)) < a2) = false := decide_eq_false c9
              clear c9
              have H' := Aside0.mk H
              clear H
              obtain ⟨Ao14, co14, eo14⟩ := Kd.R_slice HO_8.out
              subst eo14
              go_wp2
              go_roundg k1
              case measure => have := HK1.out; omega
              case rel => exact ⟨(x7_1), (wrap64 (x9_1 + 1)), (by first | rfl | (simp; done) | (simp [*]; done)), H', ⟨by have := HK1.out; omega⟩, ⟨by (with_reducible repeat (first | apply Kd.R_alloc | apply Kd.R_drewN | apply Kd.R_drew)); exact HO_7.out⟩, ⟨by (with_reducible repeat (first | apply Kd.R_alloc | apply Kd.R_drewN | apply Kd.R_drew)); exact HO_8.out⟩, ⟨pbx HB⟩⟩
          · rw [if_neg c8] at H
            have c8b0 : decide (a1 ≤ x9_1) = false := decide_eq_false c8
            clear c8
            have H' := Aside0.mk H
            clear H
            obtain ⟨Ao15, co15, eo15⟩ := Kd.R_slice HO_8.out
            subst eo15
            go_wp2
            go_roundg k1
            case measure => have := HK1.out; omega
            case rel => exact ⟨(x7_1), (wrap64 (x9_1 + 1)), (by first | rfl | (simp; done) | (simp [*]; done)), H', ⟨by have := HK1.out; omega⟩, ⟨by (with_reducible repeat (first | apply Kd.R_alloc | apply Kd.R_drewN | apply Kd.R_drew)); exact HO_7.out⟩, ⟨by (with_reducible repeat (first | apply Kd.R_alloc | apply Kd.R_drewN | apply Kd.R_drew)); exact HO_8.out⟩, ⟨pbx HB⟩⟩
        · rw [if_neg c7] at H
          have c7b0 : decide (0 ≤ a1) = false := decide_eq_false c7
          clear c7
          have H' := Aside0.mk H
          clear H
          obtain ⟨Ao16, co16, eo16⟩ := Kd.R_slice HO_8.out
          subst eo16
          go_wp2
          go_roundg k1
          case measure => have := HK1.out; omega
          case rel => exact ⟨(x7_1), (wrap64 (x9_1 + 1)), (by first | rfl | (simp; done) | (simp [*]; done)), H', ⟨by have := HK1.out; omega⟩, ⟨by (with_reducible repeat (first | apply Kd.R_alloc | apply Kd.R_drewN | apply Kd.R_drew)); exact HO_7.out⟩, ⟨by (with_reducible repeat (first | apply Kd.R_alloc | apply Kd.R_drewN | apply Kd.R_drew)); exact HO_8.out⟩, ⟨pbx HB⟩⟩
      · rw [if_neg c6] at H
        have c6b0 : decide (x9_1 < (t101.length : Int)) = false := decide_eq_false c6
        clear c6
        replace H := Option.bind_eq_some_iff.mp H
        obtain ⟨t108, A170, H⟩ := H
        replace H : (some t108) = some r := H
        have A17 := Aside0.mk A170
        clear A170
        obtain rfl := Option.some.inj H
        obtain ⟨Ao18, co18, eo18⟩ := Kd.R_slice HO_8.out
        subst eo18
        obtain ⟨Ao19, co19, eo19⟩ := Kd.R_slice HO_7.out
        subst eo19
        go_wp2_with (first | ((with_reducible refine gate_callee (f := 70) rfl ?_); refine goesL_ (some 40) rfl rfl Try.func70 (by kernel_rfl) rfl #[.slice Ao19 x7_1.length co19] rfl (by (try simp only [List.map_toArray, List.map_cons, List.map_nil]); first | done | rfl | (simp only [List.length_drop, List.length_take]; rfl)) ?_; (with_reducible refine (oculusref13_Join.calls k1 _ _ x7_1 t108 _ ?side1 ?side2 A17.out).mono ?_); (case side1 => repeat (first | exact (Kd.R_reads' HO_7.out).2.2 | (with_reducible refine Kd.C_alloc ?_ _) | (with_reducible refine Kd.C_drewN ?_ _) | (with_reducible refine Kd.C_drew ?_))); (case side2 => exact (Kd.R_reads' HO_7.out).2.1); rintro e w' ⟨rfl, ⟨nd, rfl⟩⟩; refine ⟨_, rfl, ?_⟩))
        go_ret
        exact ⟨by first | rfl | (simp [errW_none, errW_some] <;> rfl) | (simp [*, errW_none, errW_some] <;> rfl), pbx HB⟩

end Go.Proofs.Ytlchgkoafabapaa.X
namespace Go.Proofs.Ytlchgkoafabapaa.X
open Go.RowKit Go.Proofs.YtlchgkoafabapaaW.PrintWords Go.Proofs.YtlchgkoafabapaaW.PrintLast Go.Proofs.YtlchgkoafabapaaW.PrintMore
attribute [local go_sem] max2_int min2_int max_two min_two max_three min_three max_four min_four   -- for this text's walks alone
set_option linter.unusedVariables false
set_option linter.unusedSimpArgs false

/-! ### oculusref13_Right: function 33 -/
def oculusref13_Right.l0 : Nat → Int → List ByteArray → List ByteArray → Int → Option (ByteArray)
  | 0, _, _, _, _ => none
  | k + 1, x1, x5, x6, x7 => if x7 < (x6.length : Int) then (if (wrap64 ((x6.length : Int) - x7)) ≤ x1 then (if 0 ≤ x7 then (if x5.length < 8796093022208 then (oculusref13_Right.l0 k x1 (x5 ++ [rdOf ByteArray.empty x6 x7]) x6 (wrap64 (x7 + 1))) else (none)) else (none)) else (oculusref13_Right.l0 k x1 x5 x6 (wrap64 (x7 + 1)))) else ((oculusref13_Join.f k x5).bind fun t108 => (some t108))
def oculusref13_Right.f (k : Nat) (a0 : ByteArray) (a1 : Int) : Option (ByteArray) := (oculusref13_Pieces.f k a0).bind fun t101 => (oculusref13_Right.l0 k a1 ([] : List ByteArray) t101 0)
theorem oculusref13_Right.mono_l : ∀ k, (∀ y0 y1 y2 y3, LeO (oculusref13_Right.l0 k y0 y1 y2 y3) (oculusref13_Right.l0 (k + 1) y0 y1 y2 y3))
  | 0 => fun _ _ _ _ r h => by simp [oculusref13_Right.l0] at h
  | k + 1 => by
    have ih0 := oculusref13_Right.mono_l k
    · intro y0 y1 y2 y3
      unfold oculusref13_Right.l0
      repeat' first
      | (with_reducible exact ih0 _ _ _ _)
      | (with_reducible exact oculusref13_Join.mono _ _)
      | (with_reducible exact oculusref13_Pieces.mono _ _)
      | (with_reducible exact LeO.refl _)
      | (with_reducible exact LeO.none _)
      | (with_reducible refine LeO.ite ?_ ?_)
      | (with_reducible refine LeO.bind ?_ (fun _ => ?_))
      | exact ih0 _ _ _ _
      | exact oculusref13_Join.mono _ _
      | exact oculusref13_Pieces.mono _ _
      | exact LeO.none _
      | refine LeO.ite ?_ ?_
      | refine LeO.bind ?_ (fun _ => ?_)
theorem oculusref13_Right.mono : ∀ a0 a1 k, LeO (oculusref13_Right.f k a0 a1) (oculusref13_Right.f (k + 1) a0 a1) := by
  intro a0 a1 k
  have ih0 := oculusref13_Right.mono_l k
  unfold oculusref13_Right.f
  repeat' first
      | (with_reducible exact ih0 _ _ _ _)
      | (with_reducible exact oculusref13_Join.mono _ _)
      | (with_reducible exact oculusref13_Pieces.mono _ _)
      | (with_reducible exact LeO.refl _)
      | (with_reducible exact LeO.none _)
      | (with_reducible refine LeO.ite ?_ ?_)
      | (with_reducible refine LeO.bind ?_ (fun _ => ?_))
      | exact ih0 _ _ _ _
      | exact oculusref13_Join.mono _ _
      | exact oculusref13_Pieces.mono _ _
      | exact LeO.none _
      | refine LeO.ite ?_ ?_
      | refine LeO.bind ?_ (fun _ => ?_)
set_option maxHeartbeats 8000000 in
set_option maxRecDepth 100000 in
theorem oculusref13_Right.calls (k : Nat) (a0 : ByteArray) (a1 : Int) (r : ByteArray) (w : World) (h : oculusref13_Right.f k a0 a1 = some r) :
    Calls Try.prog 33 #[.string a0, .int .i64 a1] w fun e w' => e = .returned (.string r) ∧ Below w.heap.size w w' := by
  have HB := Aside0.mk (Below.refl w.heap.size w)
  have H : ((oculusref13_Pieces.f k a0).bind fun t101 => (oculusref13_Right.l0 k a1 ([] : List ByteArray) t101 0)) = some r := h
  clear h
  replace H := Option.bind_eq_some_iff.mp H
  obtain ⟨t101, A30, H⟩ := H
  replace H : (oculusref13_Right.l0 k a1 ([] : List ByteArray) t101 0) = some r := H
  have A3 := Aside0.mk A30
  clear A30
  have H' := Aside0.mk H
  clear H
  go_enter Try.func33, Try.ntmps33
  go_wp2_with (first | ((with_reducible refine gate_callee (f := 29) rfl ?_); refine goesL_ (some 9) rfl rfl Try.func29 (by kernel_rfl) rfl #[.string a0] rfl (by (try simp only [List.map_toArray, List.map_cons, List.map_nil]); first | done | rfl | (simp only [List.length_drop, List.length_take]; rfl)) ?_; (with_reducible refine (oculusref13_Pieces.calls k a0 t101 _ A3.out).mono ?_); rintro e w4 ⟨v102, rfl, ho0, hb⟩; refine ⟨_, rfl, ?_⟩; have n0_ := Aside0.mk (Kd.R_lower ho0 (below_size (pbx HB))); have n1_ := Aside0.mk (below_step (pbx HB) hb); clear HB; have HO103 := n0_; have HB := n1_; clear n0_ n1_; (try clear hb); (try clear hb2); (try clear hk); (try clear hi); (try clear ho0)))
  go_loopg [5, 7] k (fun kq v5 v7 w' => ∃ (x5_1 : List ByteArray) (x7_1 : Int), v7 = .int .i64 x7_1 ∧ Aside0 (oculusref13_Right.l0 kq a1 x5_1 t101 x7_1 = some r) ∧ Aside0 (kq ≤ k) ∧ Aside0 (Kd.R Kd.string 9 w' w.heap.size (fun k_ => some k_ ≠ (v102 : Value).ownBlock) v5 x5_1) ∧ Aside0 (Kd.R Kd.string 9 w' w.heap.size (fun k_ => some k_ ≠ (v5 : Value).ownBlock) v102 t101) ∧ Aside0 (Below w.heap.size w w'))
  case atStart => exact ⟨(([] : List ByteArray)), (0), (by first | rfl | (simp; done) | (simp [*]; done)), H', ⟨Nat.le_refl _⟩, ⟨by first | exact Kd.R_nil _ _ _ _ _ | exact Kd.N_nil _ _ _ _ _ | exact Kd.V_nil _ _ _ _ _ | exact Kd.Q_nil _ _ _ _ _ | exact Kd.S_nil _ _ _ _ _⟩, ⟨by (with_reducible repeat (first | apply Kd.R_alloc | apply Kd.R_drewN | apply Kd.R_drew)); exact Kd.R_mono HO103.out (fun _ hk => (by simp [Value.ownBlock]))⟩, ⟨pbx HB⟩⟩
  case round =>
    clear H'
    try clear c2
    try clear p2
    try clear c3
    obtain ⟨x5_1, x7_1, rfl, HA, HK1, HO_5, HO_6, HB⟩ := hrel
    cases gk with
    | zero => exact absurd HA.out (by simp [oculusref13_Right.l0])
    | succ k1 =>
      have H := HA.out
      clear HA
      simp only [oculusref13_Right.l0] at H
      by_cases c5 : x7_1 < (t101.length : Int)
      · rw [if_pos c5] at H
        have c5b0 : decide (x7_1 < (t101.length : Int)) = true := decide_eq_true c5
        clear c5
        by_cases c6 : (wrap64 ((t101.length : Int) - x7_1)) ≤ a1
        · rw [if_pos c6] at H
          have c6b0 : decide ((wrap64 ((t101.length : Int) - x7_1)) ≤ a1) = true := decide_eq_true c6
          clear c6
          by_cases c7 : 0 ≤ x7_1
          · rw [if_pos c7] at H
            have c7b0 : decide (0 ≤ x7_1) = true := decide_eq_true c7
            clear c7
            by_cases c8 : x5_1.length < 8796093022208
            · rw [if_pos c8] at H
              have LMc8 := Aside0.mk c8
              clear c8
              obtain ⟨y105, hy105⟩ : ∃ y_ : List ByteArray, y_ = (x5_1 ++ [rdOf ByteArray.empty t101 x7_1]) := ⟨_, rfl⟩
              replace H : (oculusref13_Right.l0 k1 a1 y105 t101 (wrap64 (x7_1 + 1))) = some r := by first | (rw [hy105]; with_reducible exact H) | (have H2_ := (Option.bind_some _ _).symm.trans H; rw [hy105]; with_reducible exact H2_) | (have H2_ := (Option.bind_some _ _).symm.trans H; with_reducible exact H2_) | with_reducible exact H | (rw [hy105]; exact H) | exact H
              have Ny105 := Aside0.mk hy105
              clear hy105
              have H' := Aside0.mk H
              clear H
              obtain ⟨Ao9, co9, eo9⟩ := Kd.R_slice HO_6.out
              subst eo9
              have p104 : 0 ≤ (x7_1 : Int) := of_decide_eq_true (by first | (with_reducible assumption) | assumption)
              have q104 : x7_1 < (t101.length : Int) := of_decide_eq_true (by first | (with_reducible assumption) | assumption)
              obtain ⟨ad104, e104, hx104_0⟩ := Kd.at_string (Kd.R_reads' HO_6.out).2.2 x7_1 p104 q104
              cases e104
              replace p104 := eq_true p104
              replace q104 := eq_true q104
              go_wp2_with (first | ((with_reducible refine gate_builtin (b := .append) (xs := #[.tmp 22, .tmp 27]) rfl ?_); at_builtin; refine Kd.R_append Kd.string (w0 := w) w.heap.size rfl (.tmp 22) (.tmp 27) 64 9 (.string ⟨#[]⟩) 16 rfl Try.underlying64 info9 rfl (by decide) (by omega) u5 x5_1 (rdOf ByteArray.empty t101 x7_1) [.string (rdOf ByteArray.empty t101 x7_1)] (fun k_ => some k_ ≠ (.slice (some ad104) t101.length co9 : Value).ownBlock) (fun _ => False) rfl rfl ?aP (fun _ hk => hk.elim) ?aF ?aO ?aB ?aS ?aL ?_; (case aP => exact rfl); (case aB => exact (pbx HB)); (case aF => exact (fun k_ hk => Kd.fresh' (Kd.R_lt (by (with_reducible repeat (first | apply Kd.R_alloc | apply Kd.R_drewN | apply Kd.R_drew)); exact HO_6.out)) k_ hk)); (case aO => exact (by (with_reducible repeat (first | apply Kd.R_alloc | apply Kd.R_drewN | apply Kd.R_drew)); exact HO_5.out)); (case aS => exact (below_size (pbx HB))); (case aL => have := LMc8.out; omega); intro v106 w10 ho hb hg hat; rw [← Ny105.out] at ho; have n0_ := Aside0.mk (Kd.R_after (ok := (fun _ => True)) (by (with_reducible repeat (first | apply Kd.R_alloc | apply Kd.R_drewN | apply Kd.R_drew)); exact Kd.R_mono HO_6.out (fun _ hk => ⟨trivial, hk⟩)) hg hat); have n1_ := Aside0.mk (hb); have n2_ := Aside0.mk (ho); clear HO_6; clear HB; clear HO_5; have HO_6 := n0_; have HB := n1_; have HO107 := n2_; clear n0_ n1_ n2_; clear ho hb hg hat))
              go_roundg k1
              case measure => have := HK1.out; omega
              case rel => exact ⟨(y105), (wrap64 (x7_1 + 1)), (by first | rfl | (simp; done) | (simp [*]; done)), H', ⟨by have := HK1.out; omega⟩, ⟨by (with_reducible repeat (first | apply Kd.R_alloc | apply Kd.R_drewN | apply Kd.R_drew)); exact HO107.out⟩, ⟨by (with_reducible repeat (first | apply Kd.R_alloc | apply Kd.R_drewN | apply Kd.R_drew)); exact Kd.R_mono HO_6.out (fun _ hk => hk.2)⟩, ⟨pbx HB⟩⟩
            · rw [if_neg c8] at H
              exact absurd H (by simp)
          · rw [if_neg c7] at H
            exact absurd H (by simp)
        · rw [if_neg c6] at H
          have c6b0 : decide ((wrap64 ((t101.length : Int) - x7_1)) ≤ a1) = false := decide_eq_false c6
          clear c6
          have H' := Aside0.mk H
          clear H
          obtain ⟨Ao11, co11, eo11⟩ := Kd.R_slice HO_6.out
          subst eo11
          go_wp2
          go_roundg k1
          case measure => have := HK1.out; omega
          case rel => exact ⟨(x5_1), (wrap64 (x7_1 + 1)), (by first | rfl | (simp; done) | (simp [*]; done)), H', ⟨by have := HK1.out; omega⟩, ⟨by (with_reducible repeat (first | apply Kd.R_alloc | apply Kd.R_drewN | apply Kd.R_drew)); exact HO_5.out⟩, ⟨by (with_reducible repeat (first | apply Kd.R_alloc | apply Kd.R_drewN | apply Kd.R_drew)); exact HO_6.out⟩, ⟨pbx HB⟩⟩
      · rw [if_neg c5] at H
        have c5b0 : decide (x7_1 < (t101.length : Int)) = false := decide_eq_false c5
        clear c5
        replace H := Option.bind_eq_some_iff.mp H
        obtain ⟨t108, A120, H⟩ := H
        replace H : (some t108) = some r := H
        have A12 := Aside0.mk A120
        clear A120
        obtain rfl := Option.some.inj H
        obtain ⟨Ao13, co13, eo13⟩ := Kd.R_slice HO_6.out
        subst eo13
        obtain ⟨Ao14, co14, eo14⟩ := Kd.R_slice HO_5.out
        subst eo14
        go_wp2_with (first | ((with_reducible refine gate_callee (f := 70) rfl ?_); refine goesL_ (some 30) rfl rfl Try.func70 (by kernel_rfl) rfl #[.slice Ao14 x5_1.length co14] rfl (by (try simp only [List.map_toArray, List.map_cons, List.map_nil]); first | done | rfl | (simp only [List.length_drop, List.length_take]; rfl)) ?_; (with_reducible refine (oculusref13_Join.calls k1 _ _ x5_1 t108 _ ?side1 ?side2 A12.out).mono ?_); (case side1 => repeat (first | exact (Kd.R_reads' HO_5.out).2.2 | (with_reducible refine Kd.C_alloc ?_ _) | (with_reducible refine Kd.C_drewN ?_ _) | (with_reducible refine Kd.C_drew ?_))); (case side2 => exact (Kd.R_reads' HO_5.out).2.1); rintro e w' ⟨rfl, ⟨nd, rfl⟩⟩; refine ⟨_, rfl, ?_⟩))
        go_ret
        exact ⟨by first | rfl | (simp [errW_none, errW_some] <;> rfl) | (simp [*, errW_none, errW_some] <;> rfl), pbx HB⟩

end Go.Proofs.Ytlchgkoafabapaa.X
/- What runes and its reference answer, on a list of pieces. -/
set_option linter.unusedVariables false
set_option linter.unusedSimpArgs false
namespace Go.Proofs.Ytlchgkoafabapaa.X
open Go.RowKit Go.Proofs.YtlchgkoafabapaaW.PrintWords Go.Proofs.YtlchgkoafabapaaW.PrintLast Go.Proofs.YtlchgkoafabapaaW.PrintMore
theorem rdP (xs : List (List UInt8)) (i : Nat) (h : i < xs.length) : rdOf ByteArray.empty (xs.map tx) (i : Int) = tx xs[i] := by
  unfold rdOf
  rw [Int.toNat_natCast, List.getD_eq_getElem?_getD, List.getElem?_map, List.getElem?_eq_getElem h]; rfl
theorem join_l0 (xs : List (List UInt8)) (hx : xs.length ≤ 1000000) : ∀ d i a, i + d = xs.length → a.length + (xs.drop i).flatten.length ≤ 1000000 → Ev (fun k => oculusref13_Join.l0 k (xs.map tx) (tx a) (i : Int)) (tx (a ++ (xs.drop i).flatten))
  | 0, i, a, h, hs => by
    rw [List.drop_eq_nil_of_le (by omega)]
    refine Ev.step (fun k => oculusref13_Join.l0.eq_2 _ _ _ _) ?_
    refine ev_neg (by rw [List.length_map]; omega) ?_
    simp only [List.flatten_nil, List.append_nil]
    exact Ev.now _
  | d + 1, i, a, h, hs => by
    have hlt : i < xs.length := by omega
    rw [List.drop_eq_getElem_cons hlt] at hs ⊢
    rw [List.flatten_cons, List.length_append] at hs
    refine Ev.step (fun k => oculusref13_Join.l0.eq_2 _ _ _ _) ?_
    refine ev_pos (by rw [List.length_map]; omega) (ev_pos (by omega) ?_)
    simp only [rdP xs i hlt, w64s hlt (by omega : xs.length ≤ 9223372036854775807), tx_append]
    refine ev_pos (by rw [size_tx, size_tx]; omega) ?_
    rw [List.flatten_cons, ← List.append_assoc]
    exact join_l0 xs hx d (i + 1) (a ++ xs[i]) (by omega) (by rw [List.length_append]; omega)
theorem join_ev (xs : List (List UInt8)) (hx : xs.length ≤ 1000000) (hs : xs.flatten.length ≤ 1000000) : Ev (fun k => oculusref13_Join.f k (xs.map tx)) (tx xs.flatten) := by
  have := join_l0 xs hx xs.length 0 [] (by omega) (by rw [List.drop_zero, List.length_nil]; omega)
  rw [List.drop_zero, List.nil_append] at this
  exact this
def selM (fr n : Int) : Nat → List (List UInt8) → List (List UInt8)
  | _, [] => []
  | i, x :: l => if 0 ≤ fr ∧ fr ≤ (i : Int) ∧ (i : Int) - fr < n then x :: selM fr n (i + 1) l else selM fr n (i + 1) l
theorem selM_len (fr n : Int) : ∀ l i, (selM fr n i l).length ≤ l.length ∧ (selM fr n i l).flatten.length ≤ l.flatten.length
  | [], _ => by simp [selM]
  | x :: l, i => by
    have := selM_len fr n l (i + 1)
    simp only [selM]
    split <;> simp only [List.length_cons, List.flatten_cons, List.length_append] <;> omega
theorem mid_l0 (fr n : Int) (xs : List (List UInt8)) (hx : xs.length ≤ 100000) (hs : xs.flatten.length ≤ 100000) : ∀ d i acc, i + d = xs.length → acc.length ≤ 100000 + i → acc.flatten.length + (xs.drop i).flatten.length ≤ 200000 →
    Ev (fun k => oculusref13_Mid.l0 k fr n (acc.map tx) (xs.map tx) (i : Int)) (tx (acc ++ selM fr n i (xs.drop i)).flatten)
  | 0, i, acc, h, ha, hf => by
    have hd : xs.drop i = [] := List.drop_eq_nil_of_le (by omega)
    rw [hd] at hf ⊢
    simp only [selM, List.append_nil]
    refine Ev.step (fun k => oculusref13_Mid.l0.eq_2 _ _ _ _ _ _) ?_
    refine ev_neg (by rw [List.length_map]; omega) ?_
    rw [List.flatten_nil, List.length_nil] at hf
    exact ev_bind (join_ev acc (by omega) (by omega)) (Ev.now _)
  | d + 1, i, acc, h, ha, hf => by
    have hlt : i < xs.length := by omega
    rw [List.drop_eq_getElem_cons hlt] at hf ⊢
    rw [List.flatten_cons, List.length_append] at hf
    have skip := mid_l0 fr n xs hx hs d (i + 1) acc (by omega) (by omega) (by omega)
    have take_ := mid_l0 fr n xs hx hs d (i + 1) (acc ++ [xs[i]]) (by omega) (by rw [List.length_append, List.length_singleton]; omega) (by rw [List.flatten_append, List.length_append, List.flatten_cons, List.flatten_nil, List.append_nil]; omega)
    refine Ev.step (fun k => oculusref13_Mid.l0.eq_2 _ _ _ _ _ _) ?_
    refine ev_pos (by rw [List.length_map]; omega) ?_
    simp only [rdP xs i hlt, w64s hlt (by omega : xs.length ≤ 9223372036854775807), selM]
    by_cases g1 : fr ≥ 0
    · refine ev_pos g1 ?_
      by_cases g2 : (i : Int) ≥ fr
      · refine ev_pos g2 ?_
        rw [w64 (by omega) (by omega)]
        by_cases g3 : (i : Int) - fr < n
        · refine ev_pos g3 (ev_pos (by omega) (ev_pos (by rw [List.length_map]; omega) ?_))
          rw [if_pos ⟨g1, g2, g3⟩]
          rw [List.map_append, List.append_assoc] at take_
          exact take_
        · rw [if_neg (fun h => g3 h.2.2)]
          exact ev_neg g3 skip
      · rw [if_neg (fun h => g2 h.2.1)]
        exact ev_neg g2 skip
    · rw [if_neg (fun h => g1 h.1)]
      exact ev_neg g1 skip
theorem rmid_ev (s : ByteArray) (hs : s.size ≤ 1000) (fr n : Int) : Ev (fun k => oculusref13_Mid.f k s fr n) (tx (selM fr n 0 (pcs (by_ s))).flatten) := by
  unfold oculusref13_Mid.f
  refine ev_bind (pieces_ev s hs) ?_
  have h1 := pcs_le (by_ s)
  have h2 := pcs_flat (by_ s)
  rw [← size_by] at h1
  have := mid_l0 fr n (pcs (by_ s)) (by omega) (by rw [h2, ← size_by]; omega) (pcs (by_ s)).length 0 [] (by omega) (by simp) (by rw [List.drop_zero, h2, ← size_by, List.flatten_nil, List.length_nil]; omega)
  simpa using this
theorem selM_neg (fr n : Int) (h : fr < 0) : ∀ l i, selM fr n i l = []
  | [], _ => rfl
  | x :: l, i => by simp only [selM]; rw [if_neg (by omega), selM_neg fr n h l]
theorem selM_all (fr n : Int) (h0 : 0 ≤ fr) : ∀ l (i : Nat), fr ≤ (i : Int) → selM fr n i l = l.take (n - ((i : Int) - fr)).toNat
  | [], _, _ => by simp [selM]
  | x :: l, i, h => by
    simp only [selM]
    rw [selM_all fr n h0 l (i + 1) (by omega)]
    by_cases g : (i : Int) - fr < n
    · rw [if_pos ⟨h0, h, g⟩]
      rw [show (n - ((i : Int) - fr)).toNat = (n - (((i + 1 : Nat) : Int) - fr)).toNat + 1 by omega, List.take_succ_cons]
    · rw [if_neg (fun k => g k.2.2)]
      rw [show (n - ((i : Int) - fr)).toNat = 0 by omega, show (n - (((i + 1 : Nat) : Int) - fr)).toNat = 0 by omega]
      simp
theorem selM_at (fr n : Int) (h0 : 0 ≤ fr) : ∀ l (i : Nat), (i : Int) ≤ fr → selM fr n i l = (l.drop (fr - (i : Int)).toNat).take n.toNat
  | [], _, _ => by simp [selM]
  | x :: l, i, h => by
    by_cases g : (i : Int) = fr
    · rw [selM_all fr n h0 (x :: l) i (by omega)]
      rw [show (n - ((i : Int) - fr)).toNat = n.toNat by omega, show (fr - (i : Int)).toNat = 0 by omega, List.drop_zero]
    · simp only [selM]
      rw [if_neg (by omega), selM_at fr n h0 l (i + 1) (by omega)]
      rw [show (fr - (i : Int)).toNat = (fr - ((i + 1 : Nat) : Int)).toNat + 1 by omega, List.drop_succ_cons]
theorem right_l0 (n : Int) (xs : List (List UInt8)) (hx : xs.length ≤ 100000) (hs : xs.flatten.length ≤ 100000) : ∀ d i acc, i + d = xs.length → acc.length ≤ 100000 + i → acc.flatten.length + (xs.drop i).flatten.length ≤ 200000 →
    Ev (fun k => oculusref13_Right.l0 k n (acc.map tx) (xs.map tx) (i : Int)) (tx (acc ++ (xs.drop i).drop (((xs.length : Int) - (i : Int)) - n).toNat).flatten)
  | 0, i, acc, h, ha, hf => by
    have hd : xs.drop i = [] := List.drop_eq_nil_of_le (by omega)
    rw [hd] at hf ⊢
    simp only [List.drop_nil, List.append_nil]
    refine Ev.step (fun k => oculusref13_Right.l0.eq_2 _ _ _ _ _) ?_
    refine ev_neg (by rw [List.length_map]; omega) ?_
    rw [List.flatten_nil, List.length_nil] at hf
    exact ev_bind (join_ev acc (by omega) (by omega)) (Ev.now _)
  | d + 1, i, acc, h, ha, hf => by
    have hlt : i < xs.length := by omega
    rw [List.drop_eq_getElem_cons hlt] at hf ⊢
    rw [List.flatten_cons, List.length_append] at hf
    refine Ev.step (fun k => oculusref13_Right.l0.eq_2 _ _ _ _ _) ?_
    refine ev_pos (by rw [List.length_map]; omega) ?_
    simp only [rdP xs i hlt, w64s hlt (by omega : xs.length ≤ 9223372036854775807), List.length_map]
    rw [w64 (by omega) (by omega)]
    by_cases g : (xs.length : Int) - (i : Int) ≤ n
    · refine ev_pos g (ev_pos (by omega) (ev_pos (by omega) ?_))
      have := right_l0 n xs hx hs d (i + 1) (acc ++ [xs[i]]) (by omega) (by rw [List.length_append, List.length_singleton]; omega) (by rw [List.flatten_append, List.length_append, List.flatten_cons, List.flatten_nil, List.append_nil]; omega)
      rw [show (((xs.length : Int) - (i : Int)) - n).toNat = 0 by omega, List.drop_zero]
      rw [show (((xs.length : Int) - ((i + 1 : Nat) : Int)) - n).toNat = 0 by omega, List.drop_zero, List.map_append, List.append_assoc] at this
      exact this
    · refine ev_neg g ?_
      have := right_l0 n xs hx hs d (i + 1) acc (by omega) (by omega) (by omega)
      rw [show (((xs.length : Int) - (i : Int)) - n).toNat = (((xs.length : Int) - ((i + 1 : Nat) : Int)) - n).toNat + 1 by omega, List.drop_succ_cons]
      exact this
theorem rright_ev (s : ByteArray) (hs : s.size ≤ 1000) (n : Int) : Ev (fun k => oculusref13_Right.f k s n) (tx ((pcs (by_ s)).drop (((pcs (by_ s)).length : Int) - n).toNat).flatten) := by
  unfold oculusref13_Right.f
  refine ev_bind (pieces_ev s hs) ?_
  have h1 := pcs_le (by_ s)
  have h2 := pcs_flat (by_ s)
  rw [← size_by] at h1
  have := right_l0 n (pcs (by_ s)) (by omega) (by rw [h2, ← size_by]; omega) (pcs (by_ s)).length 0 [] (by omega) (by simp) (by rw [List.drop_zero, h2, ← size_by, List.flatten_nil, List.length_nil]; omega)
  simpa using this
/-! The code. -/
theorem left_eq (s : ByteArray) (n : Int) (h : s.size ≤ 4611686018427387904) (hn : n ≤ 9223372036854775807) : runes_Left.f s n = some (tx ((pcs (by_ s)).take n.toNat).flatten) := by
  unfold runes_Left.f
  have hl := at_le (by_ s) n.toNat
  rw [at_eq s n h hn, Option.bind_some, if_pos (by omega), if_pos (by rw [size_by]; omega), Int.toNat_natCast, ext_head, take_at]
theorem right_eq (s : ByteArray) (n : Int) (h : s.size ≤ 4611686018427387904) (hn : n ≤ 9223372036854775807) : runes_Right.f s n = some (tx (if n < 1 then [] else ((pcs (by_ s)).drop (((pcs (by_ s)).length : Int) - n).toNat).flatten)) := by
  unfold runes_Right.f
  by_cases h1 : n < 1
  · rw [if_pos h1, if_pos h1]; rfl
  · have hc := pcs_le (by_ s)
    rw [← size_by] at hc
    rw [if_neg h1, if_neg h1, count_eq s h, Option.bind_some, w64 (by omega) (by omega)]
    have hm : mx (((pcs (by_ s)).length : Int) - n) 0 ≤ 9223372036854775807 := by unfold mx; split <;> omega
    have hl := at_le (by_ s) (mx (((pcs (by_ s)).length : Int) - n) 0).toNat
    have ht : (mx (((pcs (by_ s)).length : Int) - n) 0).toNat = (((pcs (by_ s)).length : Int) - n).toNat := by unfold mx; split <;> omega
    rw [at_eq s _ h hm, Option.bind_some, if_pos (by omega), if_pos (by rw [size_by]; omega), Int.toNat_natCast, ext_tail, drop_at, ht]
theorem mid_eq (s : ByteArray) (fr n : Int) (h : s.size ≤ 4611686018427387904) (hf : fr ≤ 9223372036854775807) (hn : n ≤ 9223372036854775807) : runes_Mid.f s fr n = some (tx (if fr < 0 then [] else (((pcs (by_ s)).drop fr.toNat).take n.toNat).flatten)) := by
  unfold runes_Mid.f
  by_cases h1 : fr < 0
  · rw [if_pos h1, if_pos h1]; rfl
  · have hl := at_le (by_ s) fr.toNat
    rw [if_neg h1, if_neg h1, at_eq s fr h hf, Option.bind_some, if_pos (by omega), if_pos (by rw [size_by]; omega), Int.toNat_natCast, ext_tail, drop_at]
    have hsz : (tx ((pcs (by_ s)).drop fr.toNat).flatten).size ≤ 4611686018427387904 := by
      rw [size_tx, ← drop_at, List.length_drop, ← size_by]; omega
    rw [left_eq _ n hsz hn, by_tx, pcs_drop]
    rfl
/-! Find. -/
def pre (d l : List UInt8) : Bool := l.take d.length == d
def fndL (d : List UInt8) : Nat → List (List UInt8) → Int × Bool
  | _, [] => (0, false)
  | n, x :: xs => if pre d (x ++ xs.flatten) = true then ((n : Int), true) else fndL d (n + 1) xs
theorem hp_pre (s d : ByteArray) : hp s d = pre (by_ d) (by_ s) := by
  unfold hp
  have hd := size_by d
  have hs := size_by s
  have : strings_HasPrefix.f s d = some (pre (by_ d) (by_ s)) := by
    unfold strings_HasPrefix.f stringslite_HasPrefix.f pre
    by_cases h : (s.size : Int) ≥ (d.size : Int)
    · rw [if_pos h, if_pos (by omega), if_pos (by omega), Option.bind_some]
      congr 1
      simp only [Int.toNat_natCast, toList_by, by_head, hd]
    · rw [if_neg h, Option.bind_some]
      congr 1
      symm
      rw [beq_eq_false_iff_ne]
      intro e
      have := congrArg List.length e
      rw [List.length_take] at this
      omega
  rw [this]
  cases pre (by_ d) (by_ s) <;> simp
theorem fnd_fndL (d t : ByteArray) : ∀ (xs : List (List UInt8)) (n p : Nat), (by_ t).drop p = xs.flatten → fnd d t n (sts p xs) = fndL (by_ d) n xs
  | [], _, _, _ => rfl
  | x :: xs, n, p, h => by
    have hh : by_ (t.extract p t.size) = x ++ xs.flatten := by rw [by_tail, h, List.flatten_cons]
    have hr : (by_ t).drop (p + x.length) = xs.flatten := by
      rw [← List.drop_drop, h, List.flatten_cons, List.drop_left' rfl]
    simp only [sts, fnd, fndL]
    rw [hp_pre, hh, fnd_fndL d t xs (n + 1) (p + x.length) hr]
theorem find_eq (d t : ByteArray) (h : t.size ≤ 4611686018427387904) : runes_Find.f d t = some (if by_ d = [] then (0, true) else fndL (by_ d) 0 (pcs (by_ t))) := by
  unfold runes_Find.f
  rw [if_pos h, toList_by]
  by_cases e : by_ d = []
  · rw [if_pos e, if_pos e]
  · rw [if_neg e, if_neg e, runeP_sts, fnd_fndL d t _ 0 0 (by rw [List.drop_zero, pcs_flat])]
/-! alive. -/
theorem single_ev : Ev (fun k => runes_Single.f k 8364) (tx [226, 130, 172], true) := by
  unfold runes_Single.f
  refine ev_neg (by decide) (ev_neg (by decide) ?_)
  have hv : Ev (fun k => utf8_ValidRune.f k (wrap32 8364)) true := by
    unfold utf8_ValidRune.f
    refine ev_pos (by decide +kernel) ?_
    refine Ev.step (fun k => utf8_ValidRune.j0.eq_2 _ _ _) ?_
    exact ev_pos (by decide +kernel) (Ev.now _)
  refine ev_bind hv (ev_pos rfl (ev_some fun _ => ?_))
  have e : by_ (Utf8.encode (wrap32 8364)) = [226, 130, 172] := by decide +kernel
  rw [← e, tx_by]
theorem alive13_ev : Ev (fun k => oculuslaw13_alive.f k) true := by
  unfold oculuslaw13_alive.f
  have hs : (⟨#[97, 195, 169, 255, 122]⟩ : ByteArray).size ≤ 4611686018427387904 := by decide
  have hp : pcs (by_ (⟨#[97, 195, 169, 255, 122]⟩ : ByteArray)) = [[97], [195, 169], [255], [122]] := by
    show pcs [97, 195, 169, 255, 122] = _
    rw [pcs_cons _ (by simp), show wL [97, 195, 169, 255, 122] = 1 by decide +kernel]
    show [97] :: pcs [195, 169, 255, 122] = _
    rw [pcs_cons _ (by simp), show wL [195, 169, 255, 122] = 2 by decide +kernel]
    show [97] :: [195, 169] :: pcs [255, 122] = _
    rw [pcs_cons _ (by simp), show wL [255, 122] = 1 by decide +kernel]
    show [97] :: [195, 169] :: [255] :: pcs [122] = _
    rw [pcs_cons _ (by simp), show wL [122] = 1 by decide +kernel]
    show [97] :: [195, 169] :: [255] :: [122] :: pcs [] = _
    rw [pcs_nil]
  refine ev_bind (a := (2, true)) (ev_some fun _ => ?_) ?_
  · rw [find_eq _ _ hs, hp]
    decide +kernel
  refine ev_bind (a := (8364, true)) (ev_some fun _ => ?_) ?_
  · decide +kernel
  refine ev_bind single_ev ?_
  refine ev_bind (ev_some fun _ => count_eq _ hs) ?_
  refine ev_pos (by rw [hp]; rfl) ?_
  refine ev_bind (ev_some fun _ => left_eq _ _ hs (by decide)) ?_
  refine ev_pos (by rw [toList_by, by_tx, hp]; decide +kernel) ?_
  refine ev_bind (ev_some fun _ => right_eq _ _ hs (by decide)) ?_
  refine ev_pos (by rw [toList_by, by_tx, hp]; decide +kernel) ?_
  refine ev_bind (ev_some fun _ => mid_eq _ _ _ hs (by decide) (by decide)) ?_
  refine ev_pos (by rw [toList_by, by_tx, hp]; decide +kernel) ?_
  refine ev_pos rfl (ev_pos rfl (ev_pos rfl (ev_pos rfl (ev_pos rfl (ev_some fun _ => ?_)))))
  rw [toList_by, by_tx]
  decide +kernel
end Go.Proofs.Ytlchgkoafabapaa.X
/- The pure statement of the law RunesFinds: over texts alone. -/
set_option linter.unusedVariables false
set_option linter.unusedSimpArgs false
namespace Go.Proofs.Ytlchgkoafabapaa.Pure
open Go.RowKit Go.Proofs.Ytlchgkoafabapaa.X Go.Proofs.YtlchgkoafabapaaW.PrintWords Go.Proofs.YtlchgkoafabapaaW.PrintLast Go.Proofs.YtlchgkoafabapaaW.PrintMore
theorem fndL_true (d : List UInt8) : ∀ (xs : List (List UInt8)) (n : Nat) (m : Int), fndL d n xs = (m, true) → ∃ j : Nat, j < xs.length ∧ m = ((n + j : Nat) : Int) ∧ pre d (xs.drop j).flatten = true
  | [], n, m, h => by simp [fndL] at h
  | x :: xs, n, m, h => by
    simp only [fndL] at h
    by_cases g : pre d (x ++ xs.flatten) = true
    · rw [if_pos g] at h
      simp only [Prod.mk.injEq] at h
      exact ⟨0, by simp, by omega, by rw [List.drop_zero, List.flatten_cons]; exact g⟩
    · rw [if_neg g] at h
      obtain ⟨j, h1, h2, h3⟩ := fndL_true d xs (n + 1) m h
      exact ⟨j + 1, by simp; omega, by omega, by rw [List.drop_succ_cons]; exact h3⟩
theorem fndL_false (d : List UInt8) : ∀ (xs : List (List UInt8)) (n : Nat) (m : Int), fndL d n xs = (m, false) → m = 0
  | [], n, m, h => by simp [fndL] at h; omega
  | x :: xs, n, m, h => by
    simp only [fndL] at h
    by_cases g : pre d (x ++ xs.flatten) = true
    · rw [if_pos g] at h; simp at h
    · rw [if_neg g] at h; exact fndL_false d xs (n + 1) m h
theorem pre_iff (s d : ByteArray) (p : Nat) (hp : p ≤ s.size) (h : (d.size : Int) ≤ ((s.size - p : Nat) : Int)) : ((s.extract p s.size).extract 0 d.size).toList = d.toList ↔ pre (by_ d) ((by_ s).drop p) = true := by
  unfold pre
  rw [toList_by, toList_by, by_head, by_tail, ← size_by, beq_iff_eq]
theorem pre_long {d l : List UInt8} (h : pre d l = true) : d.length ≤ l.length := by
  unfold pre at h
  have := congrArg List.length (beq_iff_eq.1 h)
  rw [List.length_take] at this
  omega
/-- What the reference answers for a needle that is not empty. -/
def fndR (d : List UInt8) (n : Nat) (xs : List (List UInt8)) : Int := if (fndL d n xs).2 = true then (fndL d n xs).1 else -1
theorem rfind_l0 (d t : ByteArray) (hd : by_ d ≠ []) (ht : t.size ≤ 1000) : ∀ e i, i + e = (pcs (by_ t)).length → Ev (fun k => oculusref13_Find.l0 k d t ((pcs (by_ t)).map tx) ((((pcs (by_ t)).take i).flatten.length : Nat) : Int) (i : Int)) (fndR (by_ d) i ((pcs (by_ t)).drop i))
  | e, i, h => by
    have hc := pcs_le (by_ t)
    rw [← size_by] at hc
    have hl := at_le (by_ t) i
    rw [← size_by] at hl
    have hda := drop_at (by_ t) i
    have hsz := size_by d
    have hlen := congrArg List.length hda
    rw [List.length_drop, ← size_by] at hlen
    refine Ev.step (fun k => oculusref13_Find.l0.eq_2 _ _ _ _ _ _) ?_
    refine ev_pos (by rw [List.length_map]; omega) (ev_pos (by omega) (ev_pos (by omega) ?_))
    simp only [Int.toNat_natCast]
    have next : e = 0 ∨ (∃ e', e = e' + 1) := by cases e <;> simp
    have j1f : ((i : Nat) < (pcs (by_ t)).length → pre (by_ d) ((pcs (by_ t)).drop i).flatten = false) → Ev (fun k => oculusref13_Find.j1 k d t ((pcs (by_ t)).map tx) ((((pcs (by_ t)).take i).flatten.length : Nat) : Int) (i : Int) false) (fndR (by_ d) i ((pcs (by_ t)).drop i)) := by
      intro hpre
      refine Ev.step (fun k => oculusref13_Find.j1.eq_2 _ _ _ _ _ _ _) ?_
      refine ev_neg (by simp) ?_
      rcases next with rfl | ⟨e', rfl⟩
      · refine ev_neg (by rw [List.length_map]; omega) ?_
        rw [List.drop_eq_nil_of_le (by omega)]
        rw [w64 (by omega) (by omega)]
        refine Ev.step (fun k => oculusref13_Find.l0.eq_2 _ _ _ _ _ _) ?_
        exact ev_neg (by rw [List.length_map]; omega) (Ev.now _)
      · have hlt : i < (pcs (by_ t)).length := by omega
        refine ev_pos (by rw [List.length_map]; omega) (ev_pos (by omega) ?_)
        have hp := hpre hlt
        have hdc : (pcs (by_ t)).drop i = (pcs (by_ t))[i] :: (pcs (by_ t)).drop (i + 1) := List.drop_eq_getElem_cons hlt
        rw [hdc, List.flatten_cons] at hp
        have hnext := rfind_l0 d t hd ht e' (i + 1) (by omega)
        have hat : (((pcs (by_ t)).take (i + 1)).flatten.length : Nat) = ((pcs (by_ t)).take i).flatten.length + ((pcs (by_ t))[i]).length := by
          rw [List.take_succ_eq_append_getElem hlt, List.flatten_append, List.length_append]; simp
        have hl1 := at_le (by_ t) (i + 1)
        rw [← size_by] at hl1
        simp only [rdP _ i hlt, size_tx]
        rw [w64 (by omega) (by omega), w64s hlt (by omega)]
        rw [hat] at hnext
        have er : fndR (by_ d) i ((pcs (by_ t)).drop i) = fndR (by_ d) (i + 1) ((pcs (by_ t)).drop (i + 1)) := by
          have em : fndL (by_ d) i ((pcs (by_ t))[i] :: (pcs (by_ t)).drop (i + 1)) = fndL (by_ d) (i + 1) ((pcs (by_ t)).drop (i + 1)) := by
            simp only [fndL]
            rw [if_neg (by rw [hp]; simp)]
          unfold fndR
          rw [hdc, em]
        rw [er]
        have ec : ((((pcs (by_ t)).take i).flatten.length : Nat) : Int) + ((((pcs (by_ t))[i]).length : Nat) : Int) = ((((pcs (by_ t)).take i).flatten.length + ((pcs (by_ t))[i]).length : Nat) : Int) := by simp
        rw [ec]
        exact hnext
    by_cases g1 : ((t.size - ((pcs (by_ t)).take i).flatten.length : Nat) : Int) ≥ (d.size : Int)
    · refine ev_pos g1 (ev_pos (by omega) (ev_pos g1 ?_))
      have hiff := pre_iff t d _ hl g1
      rw [hda] at hiff
      by_cases g2 : ((t.extract ((pcs (by_ t)).take i).flatten.length t.size).extract 0 d.size).toList = d.toList
      · refine ev_pos g2 ?_
        have hp := hiff.1 g2
        have hlt : i < (pcs (by_ t)).length := by
          have h1 := pre_long hp
          have h2 : 1 ≤ (by_ d).length := by cases hh : by_ d with | nil => exact absurd hh hd | cons a b => simp
          rcases Nat.lt_or_ge i (pcs (by_ t)).length with h3 | h3
          · exact h3
          · rw [List.drop_eq_nil_of_le h3, List.flatten_nil, List.length_nil] at h1
            omega
        refine ev_pos (by rw [List.length_map]; omega) ?_
        refine Ev.step (fun k => oculusref13_Find.j1.eq_2 _ _ _ _ _ _ _) ?_
        refine ev_pos rfl ?_
        have hdc : (pcs (by_ t)).drop i = (pcs (by_ t))[i] :: (pcs (by_ t)).drop (i + 1) := List.drop_eq_getElem_cons hlt
        have er : fndR (by_ d) i ((pcs (by_ t)).drop i) = (i : Int) := by
          unfold fndR
          rw [hdc, List.flatten_cons] at hp
          have em : fndL (by_ d) i ((pcs (by_ t))[i] :: (pcs (by_ t)).drop (i + 1)) = ((i : Int), true) := by
            simp only [fndL]
            rw [if_pos hp]
          rw [hdc, em]
          rfl
        rw [er]
        exact Ev.now _
      · refine ev_neg g2 (j1f fun _ => ?_)
        cases hq : pre (by_ d) ((pcs (by_ t)).drop i).flatten with
        | false => rfl
        | true => exact absurd (hiff.2 hq) g2
    · refine ev_neg g1 (j1f fun _ => ?_)
      cases hq : pre (by_ d) ((pcs (by_ t)).drop i).flatten with
      | false => rfl
      | true =>
        have := pre_long hq
        omega
theorem rfind_nil (d t : ByteArray) (hd : by_ d = []) (ht : t.size ≤ 1000) : Ev (fun k => oculusref13_Find.f k d t) 0 := by
  unfold oculusref13_Find.f
  have hsz : d.size = 0 := by rw [size_by, hd]; rfl
  refine ev_bind (pieces_ev t ht) ?_
  have hj : Ev (fun k => oculusref13_Find.j1 k d t ((pcs (by_ t)).map tx) 0 0 true) 0 := by
    refine Ev.step (fun k => oculusref13_Find.j1.eq_2 _ _ _ _ _ _ _) ?_
    exact ev_pos rfl (Ev.now _)
  refine Ev.step (fun k => oculusref13_Find.l0.eq_2 _ _ _ _ _ _) ?_
  refine ev_pos (by omega) (ev_pos (by omega) (ev_pos (by omega) (ev_pos (by omega) (ev_pos (by omega) (ev_pos (by omega) ?_)))))
  refine ev_pos ?_ ?_
  · rw [toList_by, toList_by, by_head, hd, hsz]; rfl
  · refine ev_ite (fun _ => hj) (fun _ => ?_)
    have e : (d.toList == ([] : List UInt8)) = true := by rw [toList_by, hd]; rfl
    simp only [e]
    exact hj
theorem rfind_ev (d t : ByteArray) (ht : t.size ≤ 1000) : Ev (fun k => oculusref13_Find.f k d t) (if by_ d = [] then 0 else fndR (by_ d) 0 (pcs (by_ t))) := by
  by_cases hd : by_ d = []
  · rw [if_pos hd]; exact rfind_nil d t hd ht
  · rw [if_neg hd]
    unfold oculusref13_Find.f
    refine ev_bind (pieces_ev t ht) ?_
    have := rfind_l0 d t hd ht (pcs (by_ t)).length 0 (by omega)
    simpa using this
theorem finds_j1t (d t : ByteArray) (ht : t.size ≤ 300) (j : Nat) (hj : j < (pcs (by_ t)).length ∨ (j = 0 ∧ by_ d = [])) (hp : pre (by_ d) ((pcs (by_ t)).drop j).flatten = true) : Ev (fun k => oculuslaw13_RunesFinds.j1 k d t (j : Int) true false) true := by
  have hb : t.size ≤ 4611686018427387904 := by omega
  have hc := pcs_le (by_ t)
  rw [← size_by] at hc
  have hsz := size_by d
  refine Ev.step (fun k => oculuslaw13_RunesFinds.j1.eq_2 _ _ _ _ _ _) ?_
  refine ev_neg (by simp) (ev_pos rfl ?_)
  refine ev_bind (ev_some fun _ => count_eq t hb) ?_
  have hj2 : j ≤ (pcs (by_ t)).length := by omega
  have hw : wrap64 (((pcs (by_ t)).length : Int) - (j : Int)) = (((pcs (by_ t)).length - j : Nat) : Int) := by rw [w64 (by omega) (by omega)]; omega
  have hr : (if ((((pcs (by_ t)).length - j : Nat) : Int)) < 1 then [] else ((pcs (by_ t)).drop (((pcs (by_ t)).length : Int) - (((pcs (by_ t)).length - j : Nat) : Int)).toNat).flatten) = ((pcs (by_ t)).drop j).flatten := by
    by_cases h1 : ((((pcs (by_ t)).length - j : Nat) : Int)) < 1
    · rw [if_pos h1, List.drop_eq_nil_of_le (by omega)]; rfl
    · rw [if_neg h1, show (((pcs (by_ t)).length : Int) - (((pcs (by_ t)).length - j : Nat) : Int)).toNat = j by omega]
  have e2 := right_eq t (((pcs (by_ t)).length - j : Nat) : Int) hb (by omega)
  rw [hr, ← hw] at e2
  refine ev_bind (ev_some fun _ => e2) ?_
  have hlong := pre_long hp
  refine ev_pos (by rw [size_tx]; omega) (ev_pos (by omega) (ev_pos (by rw [size_tx]; omega) (ev_pos ?_ (ev_bind alive13_ev (Ev.now _)))))
  rw [toList_by, toList_by, by_head, by_tx, hsz]
  unfold pre at hp
  exact beq_iff_eq.1 hp
theorem finds_j1f (d t : ByteArray) (m : Int) : Ev (fun k => oculuslaw13_RunesFinds.j1 k d t m false false) true := by
  refine Ev.step (fun k => oculuslaw13_RunesFinds.j1.eq_2 _ _ _ _ _ _) ?_
  exact ev_neg (by simp) (ev_neg (by simp) (ev_bind alive13_ev (Ev.now _)))
theorem RunesFinds : oculuslaw13_RunesFinds.PureX := by
  intro d t _ _
  apply Ev.rounds
  unfold oculuslaw13_RunesFinds.f
  have ht_ : Ev (fun k => oculuslaw13_RunesFinds.j0 k d t true) true := by
    refine Ev.step (fun k => oculuslaw13_RunesFinds.j0.eq_2 _ _ _ _) ?_
    exact ev_pos rfl (ev_bind alive13_ev (Ev.now _))
  refine ev_ite (fun _ => ht_) (fun h => ?_)
  by_cases h2 : (d.size : Int) > 300
  · rw [decide_eq_true h2]; exact ht_
  · rw [decide_eq_false h2]
    have ht : t.size ≤ 300 := by omega
    refine Ev.step (fun k => oculuslaw13_RunesFinds.j0.eq_2 _ _ _ _) ?_
    refine ev_neg (by simp) ?_
    have hf := find_eq d t (by omega)
    have hr := rfind_ev d t (by omega)
    by_cases hd : by_ d = []
    · rw [if_pos hd] at hf hr
      refine ev_bind (ev_some fun _ => hf) (ev_bind hr ?_)
      refine ev_neg (by decide) (ev_pos rfl (ev_pos rfl ?_))
      exact finds_j1t d t ht 0 (Or.inr ⟨rfl, hd⟩) (by unfold pre; rw [hd]; simp)
    · rw [if_neg hd] at hf hr
      cases hq : (fndL (by_ d) 0 (pcs (by_ t))).2 with
      | true =>
        obtain ⟨m, hm⟩ : ∃ m, fndL (by_ d) 0 (pcs (by_ t)) = (m, true) := ⟨_, by rw [← hq]⟩
        obtain ⟨j, h1, h2, h3⟩ := fndL_true _ _ _ _ hm
        unfold fndR at hr
        rw [hm] at hf hr
        rw [if_pos rfl] at hr
        refine ev_bind (ev_some fun _ => hf) (ev_bind hr ?_)
        refine ev_neg (by rw [decide_eq_true (by omega)]; simp) (ev_pos rfl (ev_pos rfl ?_))
        have := finds_j1t d t ht j (Or.inl h1) h3
        rw [show m = (j : Int) by omega]
        exact this
      | false =>
        obtain ⟨m, hm⟩ : ∃ m, fndL (by_ d) 0 (pcs (by_ t)) = (m, false) := ⟨_, by rw [← hq]⟩
        have h0 := fndL_false _ _ _ _ hm
        subst h0
        unfold fndR at hr
        rw [hm] at hf hr
        rw [if_neg (by simp)] at hr
        refine ev_bind (ev_some fun _ => hf) (ev_bind hr ?_)
        refine ev_neg (by decide) (ev_neg (by simp) ?_)
        exact finds_j1f d t 0
end Go.Proofs.Ytlchgkoafabapaa.Pure
/- The row of the law RunesFinds: for every input the call returns true and each argument reads afterwards as before, out of its pure statement and the contract of its function. Conditions: none beyond the given statement. -/
namespace Go.Proofs.Ytlchgkoafabapaa.runesFinds
open Go.ChangeShapes Go.WideShapes Go.ChangeAt Go.RowKit
open Go.ChangeMaps (open_string shut_string)
open Go.Proofs.Ytlchgkoafabapaa.Opn Go.Proofs.Ytlchgkoafabapaa.X
open Go.Proofs.YtlchgkoafabapaaW.PrintWords (Kd Drawn0)
set_option linter.unusedVariables false
theorem own : ownKnob Try.prog.godebug = none := by kernel_rfl
theorem laidOut : laidOutB Try.prog = true := by kernel_rfl
set_option maxRecDepth 100000 in
set_option maxHeartbeats 1000000 in
theorem lifted (os : Os) (started : os.Started) (H : Type) (enc : TypeId × Value → H) :
    ReturnsInHanded {} Try.checked os 8 .any (Rows.runesFindsSpec.pre6 enc Try.prog Try.f8 Rows.runesFindsRow.domain false) (Rows.runesFindsSpec.post enc Try.prog Try.f8 false true false false) := by
  refine returnsInHanded_of_change_sized (C := Try.checked) own started (by kernel_rfl) Try.func8
    (ChangeSpec.witness6 (enc := enc) (C := Try.checked) false ⟨#[], #[.string ByteArray.empty, .string ByteArray.empty], []⟩ 8 (by kernel_rfl) (by kernel_rfl) (by kernel_rfl) (by kernel_rfl)) ?_
  intro W base args ds gs before hval0 hW hcnd hsz0 _
  have hsz : (DataW.weightsEach Try.prog (Try.f8.params.toList ++ Rows.runesFindsSpec.plain.varTypes Try.prog) (ds ++ gs)).all (· ≤ reachBytes) = true := hsz0
  have hval : ∀ (j : Nat) t v, Try.f8.params[j]? = some t → args[j]? = some v → Value.okWide Try.prog W .any base t v := hval0
  have hW' := hW
  obtain ⟨p, q, hA0, hV, rfl, hfz, hnd⟩ := hW
  have hA : DataW.TrodAll enc Try.prog W 0 (fun _ => true) true Try.f8.params.toList args.toList ds p := hA0
  rw [Try.params8] at hA hval hsz
  obtain ⟨v0, vs0, d0, ds0, p0, q0, hargs, rfl, rfl, h0, r0⟩ := trodAll_cons hA
  obtain ⟨v1, vs1, d1, ds1, p1, q1, rfl, rfl, rfl, h1, r1⟩ := trodAll_cons r0
  obtain ⟨rfl, rfl, rfl⟩ := trodAll_nil r1
  obtain rfl : args = #[v0, v1] := by cases args; simp_all
  obtain ⟨rfl, rfl⟩ := trodVars_none hV
  have lt0 : ∀ x ∈ p0, x.block < W.heap.size := by obtain ⟨m, hm⟩ := h0; exact DataW.trod_lt m _ _ _ hm
  have hw0 : ∀ m ∈ d0.weights Try.prog 9, m ≤ reachBytes := fun m hm => of_decide_eq_true (List.all_eq_true.1 hsz m (DataW.weights_mem_each (j := 0) (t := 9) rfl rfl m hm))
  obtain ⟨a0, K0, g0⟩ : ∃ a, (Kd.string : Kd ByteArray).K W a v0.cells.toList ∧ (a.size ≤ reachBytes) := by
    obtain ⟨fuel, hf⟩ := h0
    exact (opens_string Try.underlying9) hf hw0
  obtain rfl : v0 = .string a0 := by
    obtain ⟨x, rfl, _⟩ := open_string Try.underlying9 (hval 0 9 v0 rfl rfl) h0
    have := K0
    simpa [Kd.string, Kd.scalar, Value.cells] using this
  have lt1 : ∀ x ∈ p1, x.block < W.heap.size := by obtain ⟨m, hm⟩ := h1; exact DataW.trod_lt m _ _ _ hm
  have hw1 : ∀ m ∈ d1.weights Try.prog 9, m ≤ reachBytes := fun m hm => of_decide_eq_true (List.all_eq_true.1 hsz m (DataW.weights_mem_each (j := 1) (t := 9) rfl rfl m hm))
  obtain ⟨a1, K1, g1⟩ : ∃ a, (Kd.string : Kd ByteArray).K W a v1.cells.toList ∧ (a.size ≤ reachBytes) := by
    obtain ⟨fuel, hf⟩ := h1
    exact (opens_string Try.underlying9) hf hw1
  obtain rfl : v1 = .string a1 := by
    obtain ⟨x, rfl, _⟩ := open_string Try.underlying9 (hval 1 9 v1 rfl rfl) h1
    have := K1
    simpa [Kd.string, Kd.scalar, Value.cells] using this
  obtain ⟨k, hk⟩ := Pure.RunesFinds a0 a1 g0 g1
  clear hA0 hval0 hsz0 hsz
  refine (oculuslaw13_RunesFinds.calls k a0 a1 true W hk).mono fun e W' ⟨he, bel0⟩ => ?_
  have bel : Below W.heap.size W W' := bel0
  subst he
  exact ⟨_, rfl, _, _, _, [], _, [], hW', trodAll_mk1 (shut_bool Try.underlying4 _), (trodAll_cons_mk (Below.trod laidOut (by kernel_rfl) (of_decide_eq_true (by kernel_rfl)) h0 bel lt0) (trodAll_cons_mk (Below.trod laidOut (by kernel_rfl) (of_decide_eq_true (by kernel_rfl)) h1 bel lt1) trodAll_mk0)), rfl, bel.frame _, fun h => by cases h⟩
theorem over : Rows.runesFindsRow.holds Try.pinned (OpenSpec.ofChange Rows.runesFindsSpec) :=
  OpenClaim.holds_of_wide 8 Try.f8 rfl rfl rfl rfl rfl rfl rfl ⟨rfl, rfl, rfl, rfl, rfl⟩ rfl rfl rfl rfl rfl (by kernel_rfl) Try.func8 (by kernel_rfl)
    (of_decide_eq_true (by kernel_rfl)) (by unfold Func.isWrapper; first | (rw [if_pos (by decide +kernel)]; kernel_rfl) | (rw [if_neg (by decide +kernel)]; exact ⟨rfl, rfl⟩))
    (fun os started H enc _ => lifted os started H enc)
theorem proved : Rows.RunesFindsSaid := over
end Go.Proofs.Ytlchgkoafabapaa.runesFinds
namespace Go.Proofs.Ytlchgkoafabapaa
/-- The row, under a short name, for the claim. -/
theorem runesFinds_holds : Rows.RunesFindsSaid := runesFinds.proved
#print axioms runesFinds_holds
end Go.Proofs.Ytlchgkoafabapaa
