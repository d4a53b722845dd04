/- Contracts of the functions that the law PolicyTells reaches, and what they answer (a session's own texts, joined; part 3). -/
import Derived.Shelf.Strings.BuilderK
import Derived.Test.YtbboanfggaknjaaDoorBPolicyTells2
namespace Go.Proofs.YtbboanfggaknjaaDoor.X
open Go.RowKit Go.Proofs.YtbboanfggaknjaaDoorW.PrintWords Go.Proofs.YtbboanfggaknjaaDoorW.PrintLast Go.Proofs.YtbboanfggaknjaaDoorW.PrintMore
attribute [local go_sem] max2_int min2_int max_two min_two max_three min_three max_four min_four
set_option linter.unusedVariables false
set_option linter.unusedSimpArgs false
mutual
def right_Name.j0 : Nat → ByteArray → Bool → Option (Bool)
 | 0, _, _ => none
 | k + 1, x0, x16 => if x16 = true then (some false) else (right_Name.l0 k x0 (x0.size : Int) 0)
def right_Name.l0 : Nat → ByteArray → Int → Int → Option (Bool)
 | 0, _, _, _ => none
 | k + 1, x0, x18, x19 => if x19 < x18 then (if 0 ≤ x19 then (if x19 < (x0.size : Int) then (if (bt x0 x19) < 97 then (if (bt x0 x19) < 48 then (some false) else (if (bt x0 x19) > 57 then (some false) else (right_Name.l0 k x0 x18 (wrap64 (x19 + 1))))) else (if (bt x0 x19) > 122 then (if (bt x0 x19) < 48 then (some false) else (if (bt x0 x19) > 57 then (some false) else (right_Name.l0 k x0 x18 (wrap64 (x19 + 1))))) else (right_Name.l0 k x0 x18 (wrap64 (x19 + 1))))) else (none)) else (none)) else (some true)
end
def right_Name.f (k : Nat) (a0 : ByteArray) : Option (Bool) := if (a0.size : Int) < 1 then (right_Name.j0 k a0 true) else (if (a0.size : Int) > 16 then (right_Name.j0 k a0 true) else (if 0 < (a0.size : Int) then (right_Name.j0 k a0 (decide ((bt a0 0) < 97))) else (none)))
theorem right_Name.mono_l : ∀ k, (∀ y0 y1, LeO (right_Name.j0 k y0 y1) (right_Name.j0 (k + 1) y0 y1)) ∧ (∀ y0 y1 y2, LeO (right_Name.l0 k y0 y1 y2) (right_Name.l0 (k + 1) y0 y1 y2))
 | 0 => ⟨fun _ _ r h => by simp [right_Name.j0] at h, fun _ _ _ r h => by simp [right_Name.l0] at h⟩
 | k + 1 => by
  obtain ⟨ih0, ih1⟩ := right_Name.mono_l k
  refine ⟨?_, ?_⟩
  ·intro y0 y1
   unfold right_Name.j0
   repeat' first
   | (with_reducible exact ih0 _ _)
   | (with_reducible exact ih1 _ _ _)
   | (with_reducible exact LeO.refl _)
   | (with_reducible exact LeO.none _)
   | (with_reducible refine LeO.ite ?_ ?_)
   | (with_reducible refine LeO.bind ?_ (fun _ => ?_))
  ·intro y0 y1 y2
   unfold right_Name.l0
   repeat' first
   | (with_reducible exact ih0 _ _)
   | (with_reducible exact ih1 _ _ _)
   | (with_reducible exact LeO.refl _)
   | (with_reducible exact LeO.none _)
   | (with_reducible refine LeO.ite ?_ ?_)
   | (with_reducible refine LeO.bind ?_ (fun _ => ?_))
theorem right_Name.mono : ∀ a0 k, LeO (right_Name.f k a0) (right_Name.f (k + 1) a0) := by
 intro a0 k; obtain ⟨ih0, ih1⟩ := right_Name.mono_l k
 unfold right_Name.f
 repeat' first
   | (with_reducible exact ih0 _ _)
   | (with_reducible exact ih1 _ _ _)
   | (with_reducible exact LeO.refl _)
   | (with_reducible exact LeO.none _)
   | (with_reducible refine LeO.ite ?_ ?_)
   | (with_reducible refine LeO.bind ?_ (fun _ => ?_))
set_option maxHeartbeats 8000000 in
set_option maxRecDepth 100000 in
theorem right_Name.calls (k : Nat) (a0 : ByteArray) (r : Bool) (w : World) (h : right_Name.f k a0 = some r) :
  Calls Tryd.prog 57 #[.string a0] w fun e w' => e = .returned (.bool r) ∧ Drawn0 w w' := by
 have H : (if (a0.size : Int) < 1 then (right_Name.j0 k a0 true) else (if (a0.size : Int) > 16 then (right_Name.j0 k a0 true) else (if 0 < (a0.size : Int) then (right_Name.j0 k a0 (decide ((bt a0 0) < 97))) else (none)))) = some r := h
 clear h; have HC2 := Aside0.mk H; clear H
 go_enter Tryd.func57, Tryd.ntmps57
 go_upto_region 1 with (fail)
 go_cut [16] (fun v16 wc => ∃ (kq : Nat) (x16_1 : Bool), v16 = .bool x16_1 ∧ Aside0 (right_Name.j0 kq a0 x16_1 = some r) ∧ Aside0 (kq ≤ k) ∧ Drawn0 w wc)
 case first =>
  have H := HC2.out; clear HC2
  by_cases c3 : (a0.size : Int) < 1
  ·rw [if_pos c3] at H; have c3b0 : decide ((a0.size : Int) < 1) = true := decide_eq_true c3; have c3b1 : decide (a0.size < 1) = true := decide_eq_true (by omega); clear c3; (first | rw [c3b0] | (simp only [i64_w, i32_w]; rw [c3b0]) | skip)
   have H' := Aside0.mk H
   clear H
   go_wp2
   go_meet
   case rel => exact ⟨_, (true), (by first | rfl | (simp; done) | (simp [*]; done)), H', ⟨by first | omega | exact Nat.le_refl _⟩, by repeat (first | exact Drawn0.refl _ | apply Drawn0.step)⟩
  ·rw [if_neg c3] at H; have c3b0 : decide ((a0.size : Int) < 1) = false := decide_eq_false c3; have c3b1 : decide (a0.size < 1) = false := decide_eq_false (by omega); clear c3; (first | rw [c3b0] | (simp only [i64_w, i32_w]; rw [c3b0]) | skip)
   by_cases c4 : (a0.size : Int) > 16
   ·rw [if_pos c4] at H; have c4b0 : decide (16 < (a0.size : Int)) = true := decide_eq_true c4; have c4b1 : decide (16 < a0.size) = true := decide_eq_true (by omega); clear c4
    have H' := Aside0.mk H
    clear H
    go_wp2
    go_meet
    case rel => exact ⟨_, (true), (by first | rfl | (simp; done) | (simp [*]; done)), H', ⟨by first | omega | exact Nat.le_refl _⟩, by repeat (first | exact Drawn0.refl _ | apply Drawn0.step)⟩
   ·rw [if_neg c4] at H; have c4b0 : decide (16 < (a0.size : Int)) = false := decide_eq_false c4; have c4b1 : decide (16 < a0.size) = false := decide_eq_false (by omega); clear c4
    by_cases c5 : 0 < (a0.size : Int)
    ·rw [if_pos c5] at H; have c5b0 : decide (0 < (a0.size : Int)) = true := decide_eq_true c5; have c5b1 : decide (0 < a0.size) = true := decide_eq_true (by omega); clear c5
     have H' := Aside0.mk H
     clear H
     have p6 : 0 ≤ (0 : Int) := (by omega)
     have q6 : 0 < a0.size := (by have : (0 : Int) < (a0.size : Int) := of_decide_eq_true (by first | (with_reducible assumption) | assumption); omega)
     have hx6 : ∀ h : 0 < a0.size, ((a0[0]'h).toNat : Int) = bt a0 0 := bt_at a0 0
     clear p6; have qi6 : (0 < (a0.size : Int)) = True := eq_true (of_decide_eq_true (by first | (with_reducible assumption) | assumption)); replace q6 := eq_true q6
     go_wp2
     go_meet
     case rel => exact ⟨_, (decide ((bt a0 0) < 97)), (by first | rfl | (simp; done) | (simp [*]; done)), H', ⟨by first | omega | exact Nat.le_refl _⟩, by repeat (first | exact Drawn0.refl _ | apply Drawn0.step)⟩
    ·rw [if_neg c5] at H
     exact absurd H (by simp)
 case rest =>
  clear HC2; (try clear p2); (try clear c3); (try clear c3b0); (try clear c3b1); (try clear c4); (try clear c4b0); (try clear c4b1); (try clear c5); (try clear c5b0); (try clear c5b1); (try clear p6); (try clear q6); (try clear hx6); (try clear qi6); (try clear p6); (try clear q6); obtain ⟨kq, x16_1, rfl, HA, HJ1, ⟨mc1, rfl⟩⟩ := hcut
  cases kq with
  | zero => exact absurd HA.out (by simp [right_Name.j0])
  | succ kj1 =>
   have H := HA.out; clear HA
   simp only [right_Name.j0] at H
   by_cases c7 : x16_1 = true
   ·subst c7
    have H1 : (some false) = some r := by rw [if_pos rfl] at H; exact H
    clear H; have H := H1; clear H1; obtain rfl := Option.some.inj H
    go_wp2
    go_ret
    exact ⟨by first | rfl | (simp; done) | (simp [*]; done), by repeat (first | exact Drawn0.refl _ | apply Drawn0.step)⟩
   ·replace c7 := Bool.eq_false_iff.mpr c7; subst c7
    have H1 : (right_Name.l0 kj1 a0 (a0.size : Int) 0) = some r := by rw [if_neg (show ¬ (false = true) by decide)] at H; exact H
    clear H; have H := H1; clear H1
    have H' := Aside0.mk H
    clear H
    go_wp2
    go_loopg [19] kj1 (fun kq v19 w' => ∃ (x19_2 : Int), v19 = .int .i64 x19_2 ∧ Aside0 (right_Name.l0 kq a0 (a0.size : Int) x19_2 = some r) ∧ Aside0 (kq ≤ kj1) ∧ Drawn0 w w')
    case atStart => exact ⟨(0), (by first | rfl | (simp; done) | (simp [*]; done)), H', ⟨Nat.le_refl _⟩, by repeat (first | exact Drawn0.refl _ | apply Drawn0.step)⟩
    case round =>
     clear H'; (try clear c1); (try clear p2); (try clear c3); (try clear c3b0); (try clear c3b1); (try clear c4); (try clear c4b0); (try clear c4b1); (try clear c5); (try clear c5b0); (try clear c5b1); (try clear p6); (try clear q6); (try clear hx6); (try clear qi6); (try clear c7); (try clear p2); (try clear p6); (try clear q6); obtain ⟨x19_2, rfl, HA, HK2, ⟨m2, rfl⟩⟩ := hrel
     cases gk with
     | zero => exact absurd HA.out (by simp [right_Name.l0])
     | succ k2 =>
      have H := HA.out; clear HA
      simp only [right_Name.l0] at H
      by_cases c8 : x19_2 < (a0.size : Int)
      ·rw [if_pos c8] at H; have c8b0 : decide (x19_2 < (a0.size : Int)) = true := decide_eq_true c8; clear c8
       by_cases c9 : 0 ≤ x19_2
       ·rw [if_pos c9] at H; have c9b0 : decide (0 ≤ x19_2) = true := decide_eq_true c9; clear c9
        by_cases c10 : x19_2 < (a0.size : Int)
        ·rw [if_pos c10] at H; have c10b0 : decide (x19_2 < (a0.size : Int)) = true := decide_eq_true c10; clear c10
         by_cases c12 : (bt a0 x19_2) < 97
         ·rw [if_pos c12] at H; have c12b0 : decide ((bt a0 x19_2) < 97) = true := decide_eq_true c12; clear c12
          by_cases c14 : (bt a0 x19_2) < 48
          ·rw [if_pos c14] at H; have c14b0 : decide ((bt a0 x19_2) < 48) = true := decide_eq_true c14; clear c14; obtain rfl := Option.some.inj H
           have p11 : 0 ≤ (x19_2 : Int) := of_decide_eq_true (by first | (with_reducible assumption) | assumption)
           have q11 : x19_2 < (a0.size : Int) := of_decide_eq_true (by first | (with_reducible assumption) | assumption)
           have hx11 := bt_at a0 x19_2; replace p11 := eq_true p11; replace q11 := eq_true q11
           have p13 : 0 ≤ (x19_2 : Int) := of_decide_eq_true (by first | (with_reducible assumption) | assumption)
           have q13 : x19_2 < (a0.size : Int) := of_decide_eq_true (by first | (with_reducible assumption) | assumption)
           have hx13 := bt_at a0 x19_2; replace p13 := eq_true p13; replace q13 := eq_true q13
           go_wp2
           go_ret
           exact ⟨by first | rfl | (simp; done) | (simp [*]; done), by repeat (first | exact Drawn0.refl _ | apply Drawn0.step)⟩
          ·rw [if_neg c14] at H; have c14b0 : decide ((bt a0 x19_2) < 48) = false := decide_eq_false c14; clear c14
           by_cases c16 : (bt a0 x19_2) > 57
           ·rw [if_pos c16] at H; have c16b0 : decide (57 < (bt a0 x19_2)) = true := decide_eq_true c16; clear c16; obtain rfl := Option.some.inj H
            have p11 : 0 ≤ (x19_2 : Int) := of_decide_eq_true (by first | (with_reducible assumption) | assumption)
            have q11 : x19_2 < (a0.size : Int) := of_decide_eq_true (by first | (with_reducible assumption) | assumption)
            have hx11 := bt_at a0 x19_2; replace p11 := eq_true p11; replace q11 := eq_true q11
            have p13 : 0 ≤ (x19_2 : Int) := of_decide_eq_true (by first | (with_reducible assumption) | assumption)
            have q13 : x19_2 < (a0.size : Int) := of_decide_eq_true (by first | (with_reducible assumption) | assumption)
            have hx13 := bt_at a0 x19_2; replace p13 := eq_true p13; replace q13 := eq_true q13
            have p15 : 0 ≤ (x19_2 : Int) := of_decide_eq_true (by first | (with_reducible assumption) | assumption)
            have q15 : x19_2 < (a0.size : Int) := of_decide_eq_true (by first | (with_reducible assumption) | assumption)
            have hx15 := bt_at a0 x19_2; replace p15 := eq_true p15; replace q15 := eq_true q15
            go_wp2
            go_ret
            exact ⟨by first | rfl | (simp; done) | (simp [*]; done), by repeat (first | exact Drawn0.refl _ | apply Drawn0.step)⟩
           ·rw [if_neg c16] at H; have c16b0 : decide (57 < (bt a0 x19_2)) = false := decide_eq_false c16; clear c16
            have H' := Aside0.mk H
            clear H
            have p11 : 0 ≤ (x19_2 : Int) := of_decide_eq_true (by first | (with_reducible assumption) | assumption)
            have q11 : x19_2 < (a0.size : Int) := of_decide_eq_true (by first | (with_reducible assumption) | assumption)
            have hx11 := bt_at a0 x19_2; replace p11 := eq_true p11; replace q11 := eq_true q11
            have p13 : 0 ≤ (x19_2 : Int) := of_decide_eq_true (by first | (with_reducible assumption) | assumption)
            have q13 : x19_2 < (a0.size : Int) := of_decide_eq_true (by first | (with_reducible assumption) | assumption)
            have hx13 := bt_at a0 x19_2; replace p13 := eq_true p13; replace q13 := eq_true q13
            have p15 : 0 ≤ (x19_2 : Int) := of_decide_eq_true (by first | (with_reducible assumption) | assumption)
            have q15 : x19_2 < (a0.size : Int) := of_decide_eq_true (by first | (with_reducible assumption) | assumption)
            have hx15 := bt_at a0 x19_2; replace p15 := eq_true p15; replace q15 := eq_true q15
            go_wp2
            go_roundg k2
            case measure => have := HJ1.out; have := HK2.out; omega
            case rel => exact ⟨(wrap64 (x19_2 + 1)), (by first | rfl | (simp; done) | (simp [*]; done)), H', ⟨by have := HJ1.out; have := HK2.out; omega⟩, by repeat (first | exact Drawn0.refl _ | apply Drawn0.step)⟩
         ·rw [if_neg c12] at H; have c12b0 : decide ((bt a0 x19_2) < 97) = false := decide_eq_false c12; clear c12
          by_cases c18 : (bt a0 x19_2) > 122
          ·rw [if_pos c18] at H; have c18b0 : decide (122 < (bt a0 x19_2)) = true := decide_eq_true c18; clear c18
           by_cases c20 : (bt a0 x19_2) < 48
           ·rw [if_pos c20] at H; have c20b0 : decide ((bt a0 x19_2) < 48) = true := decide_eq_true c20; clear c20; obtain rfl := Option.some.inj H
            have p11 : 0 ≤ (x19_2 : Int) := of_decide_eq_true (by first | (with_reducible assumption) | assumption)
            have q11 : x19_2 < (a0.size : Int) := of_decide_eq_true (by first | (with_reducible assumption) | assumption)
            have hx11 := bt_at a0 x19_2; replace p11 := eq_true p11; replace q11 := eq_true q11
            have p17 : 0 ≤ (x19_2 : Int) := of_decide_eq_true (by first | (with_reducible assumption) | assumption)
            have q17 : x19_2 < (a0.size : Int) := of_decide_eq_true (by first | (with_reducible assumption) | assumption)
            have hx17 := bt_at a0 x19_2; replace p17 := eq_true p17; replace q17 := eq_true q17
            have p19 : 0 ≤ (x19_2 : Int) := of_decide_eq_true (by first | (with_reducible assumption) | assumption)
            have q19 : x19_2 < (a0.size : Int) := of_decide_eq_true (by first | (with_reducible assumption) | assumption)
            have hx19 := bt_at a0 x19_2; replace p19 := eq_true p19; replace q19 := eq_true q19
            go_wp2
            go_ret
            exact ⟨by first | rfl | (simp; done) | (simp [*]; done), by repeat (first | exact Drawn0.refl _ | apply Drawn0.step)⟩
           ·rw [if_neg c20] at H; have c20b0 : decide ((bt a0 x19_2) < 48) = false := decide_eq_false c20; clear c20
            by_cases c22 : (bt a0 x19_2) > 57
            ·rw [if_pos c22] at H; have c22b0 : decide (57 < (bt a0 x19_2)) = true := decide_eq_true c22; clear c22; obtain rfl := Option.some.inj H
             have p11 : 0 ≤ (x19_2 : Int) := of_decide_eq_true (by first | (with_reducible assumption) | assumption)
             have q11 : x19_2 < (a0.size : Int) := of_decide_eq_true (by first | (with_reducible assumption) | assumption)
             have hx11 := bt_at a0 x19_2; replace p11 := eq_true p11; replace q11 := eq_true q11
             have p17 : 0 ≤ (x19_2 : Int) := of_decide_eq_true (by first | (with_reducible assumption) | assumption)
             have q17 : x19_2 < (a0.size : Int) := of_decide_eq_true (by first | (with_reducible assumption) | assumption)
             have hx17 := bt_at a0 x19_2; replace p17 := eq_true p17; replace q17 := eq_true q17
             have p19 : 0 ≤ (x19_2 : Int) := of_decide_eq_true (by first | (with_reducible assumption) | assumption)
             have q19 : x19_2 < (a0.size : Int) := of_decide_eq_true (by first | (with_reducible assumption) | assumption)
             have hx19 := bt_at a0 x19_2; replace p19 := eq_true p19; replace q19 := eq_true q19
             have p21 : 0 ≤ (x19_2 : Int) := of_decide_eq_true (by first | (with_reducible assumption) | assumption)
             have q21 : x19_2 < (a0.size : Int) := of_decide_eq_true (by first | (with_reducible assumption) | assumption)
             have hx21 := bt_at a0 x19_2; replace p21 := eq_true p21; replace q21 := eq_true q21
             go_wp2
             go_ret
             exact ⟨by first | rfl | (simp; done) | (simp [*]; done), by repeat (first | exact Drawn0.refl _ | apply Drawn0.step)⟩
            ·rw [if_neg c22] at H; have c22b0 : decide (57 < (bt a0 x19_2)) = false := decide_eq_false c22; clear c22
             have H' := Aside0.mk H
             clear H
             have p11 : 0 ≤ (x19_2 : Int) := of_decide_eq_true (by first | (with_reducible assumption) | assumption)
             have q11 : x19_2 < (a0.size : Int) := of_decide_eq_true (by first | (with_reducible assumption) | assumption)
             have hx11 := bt_at a0 x19_2; replace p11 := eq_true p11; replace q11 := eq_true q11
             have p17 : 0 ≤ (x19_2 : Int) := of_decide_eq_true (by first | (with_reducible assumption) | assumption)
             have q17 : x19_2 < (a0.size : Int) := of_decide_eq_true (by first | (with_reducible assumption) | assumption)
             have hx17 := bt_at a0 x19_2; replace p17 := eq_true p17; replace q17 := eq_true q17
             have p19 : 0 ≤ (x19_2 : Int) := of_decide_eq_true (by first | (with_reducible assumption) | assumption)
             have q19 : x19_2 < (a0.size : Int) := of_decide_eq_true (by first | (with_reducible assumption) | assumption)
             have hx19 := bt_at a0 x19_2; replace p19 := eq_true p19; replace q19 := eq_true q19
             have p21 : 0 ≤ (x19_2 : Int) := of_decide_eq_true (by first | (with_reducible assumption) | assumption)
             have q21 : x19_2 < (a0.size : Int) := of_decide_eq_true (by first | (with_reducible assumption) | assumption)
             have hx21 := bt_at a0 x19_2; replace p21 := eq_true p21; replace q21 := eq_true q21
             go_wp2
             go_roundg k2
             case measure => have := HJ1.out; have := HK2.out; omega
             case rel => exact ⟨(wrap64 (x19_2 + 1)), (by first | rfl | (simp; done) | (simp [*]; done)), H', ⟨by have := HJ1.out; have := HK2.out; omega⟩, by repeat (first | exact Drawn0.refl _ | apply Drawn0.step)⟩
          ·rw [if_neg c18] at H; have c18b0 : decide (122 < (bt a0 x19_2)) = false := decide_eq_false c18; clear c18
           have H' := Aside0.mk H
           clear H
           have p11 : 0 ≤ (x19_2 : Int) := of_decide_eq_true (by first | (with_reducible assumption) | assumption)
           have q11 : x19_2 < (a0.size : Int) := of_decide_eq_true (by first | (with_reducible assumption) | assumption)
           have hx11 := bt_at a0 x19_2; replace p11 := eq_true p11; replace q11 := eq_true q11
           have p17 : 0 ≤ (x19_2 : Int) := of_decide_eq_true (by first | (with_reducible assumption) | assumption)
           have q17 : x19_2 < (a0.size : Int) := of_decide_eq_true (by first | (with_reducible assumption) | assumption)
           have hx17 := bt_at a0 x19_2; replace p17 := eq_true p17; replace q17 := eq_true q17
           go_wp2
           go_roundg k2
           case measure => have := HJ1.out; have := HK2.out; omega
           case rel => exact ⟨(wrap64 (x19_2 + 1)), (by first | rfl | (simp; done) | (simp [*]; done)), H', ⟨by have := HJ1.out; have := HK2.out; omega⟩, by repeat (first | exact Drawn0.refl _ | apply Drawn0.step)⟩
        ·rw [if_neg c10] at H
         exact absurd H (by simp)
       ·rw [if_neg c9] at H
        exact absurd H (by simp)
      ·rw [if_neg c8] at H; have c8b0 : decide (x19_2 < (a0.size : Int)) = false := decide_eq_false c8; clear c8; obtain rfl := Option.some.inj H
       go_wp2
       go_ret
       exact ⟨by first | rfl | (simp; done) | (simp [*]; done), by repeat (first | exact Drawn0.refl _ | apply Drawn0.step)⟩

mutual
def right_Users.l0 : Nat → List (S65) → List (S65) → Int → Int → Option (Int × Int)
 | 0, _, _, _, _ => none
 | k + 1, x0, x8, x9, x10 => if x10 < x9 then (if 0 ≤ x10 then (if x10 < (x8.length : Int) then (if x10 ≤ (x0.length : Int) then ((right_Find.f k (x0.take (x10 : Int).toNat) ((rd_T65 x8 x10).f0)).bind fun bt107 => (right_Users.j1 k x0 x10 bt107.2.2 x8 x9 x10 ((rd_T65 x8 x10).f0) ((rd_T65 x8 x10).f1.f0) ((rd_T65 x8 x10).f1.f1))) else (none)) else (none)) else (none)) else (some (0, 0))
def right_Users.j1 : Nat → List (S65) → Int → Bool → List (S65) → Int → Int → ByteArray → Int → Int → Option (Int × Int)
 | 0, _, _, _, _, _, _, _, _, _ => none
 | k + 1, x0, x4, x7, x8, x9, x10, x103000, x103001, x103002 => if x4 ≥ 16 then (some (x4, 10)) else ((right_Name.f k x103000).bind fun t111 => (if t111 = true then (if x7 = true then (some (x4, 8)) else ((label_May.f x103001 x103002).bind fun t112 => (if t112 = true then (right_Users.l0 k x0 x8 x9 (wrap64 (x10 + 1))) else (some (x4, 7))))) else (some (x4, 1))))
end
def right_Users.f (k : Nat) (l0 : List (S65)) : Option (Int × Int) := right_Users.l0 k l0 l0 (l0.length : Int) 0
theorem right_Users.mono_l : ∀ k, (∀ y0 y1 y2 y3, LeO (right_Users.l0 k y0 y1 y2 y3) (right_Users.l0 (k + 1) y0 y1 y2 y3)) ∧ (∀ y0 y1 y2 y3 y4 y5 y6 y7 y8, LeO (right_Users.j1 k y0 y1 y2 y3 y4 y5 y6 y7 y8) (right_Users.j1 (k + 1) y0 y1 y2 y3 y4 y5 y6 y7 y8))
 | 0 => ⟨fun _ _ _ _ r h => by simp [right_Users.l0] at h, fun _ _ _ _ _ _ _ _ _ r h => by simp [right_Users.j1] at h⟩
 | k + 1 => by
  obtain ⟨ih0, ih1⟩ := right_Users.mono_l k
  refine ⟨?_, ?_⟩
  ·intro y0 y1 y2 y3
   unfold right_Users.l0
   repeat' first
   | (with_reducible exact ih0 _ _ _ _)
   | (with_reducible exact ih1 _ _ _ _ _ _ _ _ _)
   | (with_reducible exact right_Find.mono _ _ _)
   | (with_reducible exact right_Name.mono _ _)
   | (with_reducible exact LeO.refl _)
   | (with_reducible exact LeO.none _)
   | (with_reducible refine LeO.ite ?_ ?_)
   | (with_reducible refine LeO.bind ?_ (fun _ => ?_))
  ·intro y0 y1 y2 y3 y4 y5 y6 y7 y8
   unfold right_Users.j1
   repeat' first
   | (with_reducible exact ih0 _ _ _ _)
   | (with_reducible exact ih1 _ _ _ _ _ _ _ _ _)
   | (with_reducible exact right_Find.mono _ _ _)
   | (with_reducible exact right_Name.mono _ _)
   | (with_reducible exact LeO.refl _)
   | (with_reducible exact LeO.none _)
   | (with_reducible refine LeO.ite ?_ ?_)
   | (with_reducible refine LeO.bind ?_ (fun _ => ?_))
theorem right_Users.mono : ∀ a0 k, LeO (right_Users.f k a0) (right_Users.f (k + 1) a0) := by
 intro a0 k; obtain ⟨ih0, ih1⟩ := right_Users.mono_l k
 unfold right_Users.f
 repeat' first
   | (with_reducible exact ih0 _ _ _ _)
   | (with_reducible exact ih1 _ _ _ _ _ _ _ _ _)
   | (with_reducible exact right_Find.mono _ _ _)
   | (with_reducible exact right_Name.mono _ _)
   | (with_reducible exact LeO.refl _)
   | (with_reducible exact LeO.none _)
   | (with_reducible refine LeO.ite ?_ ?_)
   | (with_reducible refine LeO.bind ?_ (fun _ => ?_))
def right_Users.T4 : Bool × List (List Nat × List Nat) := (true, [([], []), ([], []), ([0, 1], [0, 1]), ([], []), ([3], [3]), ([2, 4], [2, 4]), ([5], [5]), ([6], [6]), ([6], [6]), ([], []), ([9, 7, 5, 0, 1, 2, 3, 4, 5, 6, 7, 9], [7, 9]), ([8, 10, 0, 1, 2, 3, 4, 5, 6, 7, 8, 9, 10], [8])])
def right_Users.B4 : List Nat := [0, 0, 3, 0, 8, 31, 63, 127, 127, 0, 767, 2047]
theorem right_Users.tab4 : rtab .any (opsOf Tryd.f33 4) = right_Users.T4 := by kernel_rfl
theorem right_Users.bits4 : waitsOk right_Users.T4.2 right_Users.B4 = true := by kernel_rfl
set_option maxHeartbeats 8000000 in
set_option maxRecDepth 100000 in
theorem right_Users.calls (k : Nat) (A0 : Option Addr) (c0 : Nat) (l0 : List (S65)) (r1 : Int) (r2 : Int) (w : World) (hr0 : Kd.C k65 w A0 l0.length l0) (hc0 : l0.length ≤ c0) (h : right_Users.f k l0 = some (r1, r2)) :
  Calls Tryd.prog 33 #[.slice A0 l0.length c0] w fun e w' => e = .returned (.tuple #[.int .i64 r1, .int .i64 r2]) ∧ Below w.heap.size w w' := by
 have hu65 := Tryd.underlying65; have hu59 := Tryd.underlying59; have HR0 := Aside0.mk hr0; have HC0 := Aside0.mk hc0; clear hr0 hc0; have HB := Aside0.mk (Below.refl w.heap.size w)
 have H : (right_Users.l0 k l0 l0 (l0.length : Int) 0) = some (r1, r2) := h
 clear h
 have H' := Aside0.mk H
 clear H
 go_enter Tryd.func33, Tryd.ntmps33
 go_wp2
 go_loopg [10] k (fun kq v10 w' => ∃ (x10_1 : Int), v10 = .int .i64 x10_1 ∧ Aside0 (right_Users.l0 kq l0 l0 (l0.length : Int) x10_1 = some (r1, r2)) ∧ Aside0 (kq ≤ k) ∧ Aside0 (Below w.heap.size w w'))
 case atStart => exact ⟨(0), (by first | rfl | (simp; done) | (simp [*]; done)), H', ⟨Nat.le_refl _⟩, ⟨pbx HB⟩⟩
 case round =>
  clear H'; obtain ⟨x10_1, rfl, HA, HK1, HB⟩ := hrel
  cases gk with
  | zero => exact absurd HA.out (by simp [right_Users.l0])
  | succ k1 =>
   have H := HA.out; clear HA
   simp only [right_Users.l0] at H
   by_cases c2 : x10_1 < (l0.length : Int)
   ·rw [if_pos c2] at H; have c2b0 : decide (x10_1 < (l0.length : Int)) = true := decide_eq_true c2; clear c2
    by_cases c3 : 0 ≤ x10_1
    ·rw [if_pos c3] at H; have c3b0 : decide (0 ≤ x10_1) = true := decide_eq_true c3; clear c3
     by_cases c4 : x10_1 < (l0.length : Int)
     ·rw [if_pos c4] at H; have c4b0 : decide (x10_1 < (l0.length : Int)) = true := decide_eq_true c4; clear c4; have HC5 := Aside0.mk H; clear H
      have p101 : 0 ≤ (x10_1 : Int) := of_decide_eq_true (by first | (with_reducible assumption) | assumption)
      have q101 : x10_1 < (l0.length : Int) := of_decide_eq_true (by first | (with_reducible assumption) | assumption)
      obtain ⟨ad101, e101, hx101_0, hx101_1, hx101_2⟩ := at_T65 HR0.out x10_1 p101 q101
      cases e101
      replace hx101_0 := (HB.out.cell (World.block_lt_of_cell? w _ hx101_0)).trans hx101_0; replace hx101_1 := (HB.out.cell (World.block_lt_of_cell? w _ hx101_1)).trans hx101_1; replace hx101_2 := (HB.out.cell (World.block_lt_of_cell? w _ hx101_2)).trans hx101_2; replace p101 := eq_true p101; replace q101 := eq_true q101
      go_upto_region 4 with (first | ((with_reducible refine gate_dst (N:=5) rfl ?_); refine be_ (N:=5) (cs := #[.string (⟨#[]⟩ : ByteArray), .int .i64 0, .int .u64 0]) (t:=65) ?_; intro gb102 hg w6 hbox hb; have BK102 := Aside0.mk (hbox); have GW102 := hs_ HB hg; have GE102 := hs_ HB hg; replace HB := bs_ HB hb; clear hb hbox hg; have hcz7_0 : w6.cell? ⟨gb102, 0, none⟩ = some (.string (⟨#[]⟩ : ByteArray)) := bc_ BK102 0 rfl; have hcz7_1 : w6.cell? ⟨gb102, 1, none⟩ = some (.int .i64 0) := bc_ BK102 1 rfl; have hcz7_2 : w6.cell? ⟨gb102, 2, none⟩ = some (.int .u64 0) := bc_ BK102 2 rfl; have hfz7_0 := blk_frozen BK102.out 0; have hfz7_1 := blk_frozen BK102.out 1; have hfz7_2 := blk_frozen BK102.out 2))
      (try simp only [q_])
      go_cut [7] (fun v7 wc => ∃ (kq : Nat) (x7_4 : Bool), v7 = .bool x7_4 ∧ Aside0 (right_Users.j1 kq l0 x10_1 x7_4 l0 (l0.length : Int) x10_1 ((rd_T65 l0 x10_1).f0) ((rd_T65 l0 x10_1).f1.f0) ((rd_T65 l0 x10_1).f1.f1) = some (r1, r2)) ∧ Aside0 (kq ≤ k1) ∧ Aside0 (wc.heap[gb102]? = some (.cells #[.string ((rd_T65 l0 x10_1).f0), .int .i64 ((rd_T65 l0 x10_1).f1.f0), .int .u64 ((rd_T65 l0 x10_1).f1.f1)] 65 (0, 0))) ∧ Aside0 (Below w.heap.size w wc))
      case first =>
       have H := HC5.out; clear HC5; have c8b0 := eq_true (of_decide_eq_true (by first | (with_reducible assumption) | assumption) : 0 ≤ x10_1)
       by_cases c9 : x10_1 ≤ (l0.length : Int)
       ·rw [if_pos c9] at H; have c9b0 := eq_true c9; have c9b1 : decide (x10_1 ≤ (l0.length : Int)) = true := decide_eq_true c9; clear c9; obtain ⟨y103, hy103⟩ : ∃ y_ : List (S65), y_ = (l0.take (x10_1 : Int).toNat) := ⟨_, rfl⟩
        replace H : ((right_Find.f k1 y103 ((rd_T65 l0 x10_1).f0)).bind fun bt107 => (right_Users.j1 k1 l0 x10_1 bt107.2.2 l0 (l0.length : Int) x10_1 ((rd_T65 l0 x10_1).f0) ((rd_T65 l0 x10_1).f1.f0) ((rd_T65 l0 x10_1).f1.f1))) = some (r1, r2) := by first | (rw [hy103]; with_reducible exact H) | (have H2_ := (Option.bind_some _ _).symm.trans H; rw [hy103]; with_reducible exact H2_) | (have H2_ := (Option.bind_some _ _).symm.trans H; with_reducible exact H2_) | with_reducible exact H | (rw [hy103]; exact H) | exact H
        have Ny103 := Aside0.mk hy103; clear hy103; replace H := Option.bind_eq_some_iff.mp H; obtain ⟨⟨t107, t108, t109⟩, A100, H⟩ := H
        replace H : (right_Users.j1 k1 l0 x10_1 t109 l0 (l0.length : Int) x10_1 ((rd_T65 l0 x10_1).f0) ((rd_T65 l0 x10_1).f1.f0) ((rd_T65 l0 x10_1).f1.f1)) = some (r1, r2) := H
        have A10 := Aside0.mk A100; clear A100
        have H' := Aside0.mk H
        clear H
        try go_wp2
        have n0_ : Aside0 ((((w6.setCell ⟨gb102, 0, none⟩ (.string ((rd_T65 l0 x10_1).f0))).setCell ⟨gb102, 1, none⟩ (.int .i64 ((rd_T65 l0 x10_1).f1.f0))).setCell ⟨gb102, 2, none⟩ (.int .u64 ((rd_T65 l0 x10_1).f1.f1))).heap[gb102]? = some (.cells #[.string ((rd_T65 l0 x10_1).f0), .int .i64 ((rd_T65 l0 x10_1).f1.f0), .int .u64 ((rd_T65 l0 x10_1).f1.f1)] 65 (0, 0))) := ⟨by refine pp_ (cs := #[.string ((rd_T65 l0 x10_1).f0), .int .i64 ((rd_T65 l0 x10_1).f1.f0), .int .u64 0]) 2 ?_ rfl; refine blk_put (cs := #[.string ((rd_T65 l0 x10_1).f0), .int .i64 0, .int .u64 0]) ?_ 1 _ rfl; refine blk_put (cs := #[.string (⟨#[]⟩ : ByteArray), .int .i64 0, .int .u64 0]) ?_ 0 _ rfl; exact pkx BK102⟩; have n1_ : Aside0 (Below w.heap.size w (((w6.setCell ⟨gb102, 0, none⟩ (.string ((rd_T65 l0 x10_1).f0))).setCell ⟨gb102, 1, none⟩ (.int .i64 ((rd_T65 l0 x10_1).f1.f0))).setCell ⟨gb102, 2, none⟩ (.int .u64 ((rd_T65 l0 x10_1).f1.f1)))) := ⟨by repeat (first | (with_reducible first | exact HB.out | apply below_alloc | apply pw_below_drewN | apply below_drew1 | refine below_set ?_ GE102.out) | exact HB.out)⟩
        (try clear BK102); (try clear HB)
        generalize (((w6.setCell ⟨gb102, 0, none⟩ (.string ((rd_T65 l0 x10_1).f0))).setCell ⟨gb102, 1, none⟩ (.int .i64 ((rd_T65 l0 x10_1).f1.f0))).setCell ⟨gb102, 2, none⟩ (.int .u64 ((rd_T65 l0 x10_1).f1.f1))) = w11 at n0_ n1_ ⊢; have BK102 := n0_; have HB := n1_; clear n0_ n1_; (try (rw [drewN_self w11]; generalize hq_ : World.drewN w11 _ = w11; have n0_ : Aside0 (w11.heap[gb102]? = some (.cells #[.string ((rd_T65 l0 x10_1).f0), .int .i64 ((rd_T65 l0 x10_1).f1.f0), .int .u64 ((rd_T65 l0 x10_1).f1.f1)] 65 (0, 0))) := ⟨by rw [← hq_]; exact (pkx BK102)⟩; have n1_ : Aside0 (Below w.heap.size w w11) := ⟨by rw [← hq_]; exact (pbx HB)⟩; clear BK102 HB hq_; have BK102 := n0_; have HB := n1_; clear n0_ n1_))
        replace BK102 := Aside0.mk (blk_drew BK102.out); replace HB := Aside0.mk (below_drew1 HB.out)
        have q13 : (x10_1 : Int) ≤ ((l0.length : Int) : Int) := of_decide_eq_true (by first | (with_reducible assumption) | assumption)
        obtain ⟨i013, hi013, _, hsz13, _⟩ := info_parts info65
        have hroom13 : l0.length ≤ c0 := HC0.out
        have hC13 : Kd.C k65 _ (some ad101) l0.length l0 := HR0.out
        have hcut13 := cut_to (P := Tryd.prog) 23 65 .i64 Tryd.underlying23 hi013 (some ad101) l0.length c0 x10_1 (of_decide_eq_true (by first | (with_reducible assumption) | assumption)) q13 hroom13; have hr13 := Kd.C_take (m := (x10_1 : Int).toNat) hC13 (by omega)
        have hy13 : y103.length = (x10_1 : Int).toNat := (by rw [Ny103.out, List.length_take]; omega)
        rw [← Ny103.out] at hr13; rw [← hy13] at hcut13; have HR106 := Aside0.mk hr13; have HC106 := Aside0.mk (show y103.length ≤ c0 from by omega); clear hr13 hC13 hroom13 hi013 hsz13; have KY13 := Aside0.mk hy13; clear hy13; replace q13 := eq_true q13
        refine start_ (n:=12) (S := fun w' => w'.cell? ⟨gb102, 0, none⟩ = some (.string ((rd_T65 l0 x10_1).f0)) ∧ w'.cell? ⟨gb102, 1, none⟩ = some (.int .i64 ((rd_T65 l0 x10_1).f1.f0)) ∧ w'.cell? ⟨gb102, 2, none⟩ = some (.int .u64 ((rd_T65 l0 x10_1).f1.f1))) (ds := []) #[F,F,F,F,F,F,F,F,F,F,F,F] (by kernel_rfl) rfl rfl ⟨bc_ BK102 0 rfl, bc_ BK102 1 rfl, bc_ BK102 2 rfl⟩ (fun hHeld => ?_); refine with_tabW right_Users.tab4 right_Users.bits4 (fun HT_ HW_ => ?_)
        generalize w11.drew = w12 at BK102 HB HR106 hHeld ⊢; refine pure_ (i:=0) (N:=some 16) (v:=?_) (a':=?_) ⟨m_ 12 1⟩ rfl rfl (any_of HT_.out (by kernel_rfl)) (fun _ _ _ h=>h) (Or.inl ⟨rfl, ?_⟩) ?_ ?_; rotate_left
        ·intro w'; go_simp; with_reducible rfl
        rotate_left
        ·simp only [q_, i64_w, i32_w]; rfl
        refine pure_ (i:=1) (N:=some 17) (v:=?_) (a':=?_) ⟨m_ 12 3⟩ rfl rfl (any_of HT_.out (by kernel_rfl)) (fun _ _ _ h=>h) (Or.inl ⟨rfl, ?_⟩) ?_ ?_; rotate_left
        ·intro w'; go_simp; with_reducible rfl
        rotate_left
        ·simp only [q_, i64_w, i32_w]; rfl
        refine pure_ (i:=2) (N:=some 18) (v:=?_) (a':=?_) ⟨m_ 12 7⟩ rfl rfl (any_of HT_.out (by kernel_rfl)) (fun _ _ _ h=>h) (Or.inl ⟨rfl, ?_⟩) ?_ ?_; rotate_left
        ·intro w'; go_simp; with_reducible rfl
        rotate_left
        ·simp only [q_, i64_w, i32_w]; rfl
        refine pure_ (i:=3) (N:=some 19) (v:=?_) (a':=?_) ⟨m_ 12 15⟩ rfl rfl (any_of HT_.out (by kernel_rfl)) (fun _ _ _ h=>h) (Or.inl ⟨rfl, ?_⟩) ?_ ?_; rotate_left
        ·intro w'; go_simp; with_reducible rfl
        rotate_left
        ·simp only [q_, i64_w, i32_w]; rfl
        refine take_ (i:=4) (N:=some 20) (v:=?_) (a':=?_) ⟨m_ 12 31⟩ rfl rfl (take_ofW HT_.out HW_.out (by kernel_rfl)) (fun _ _ _ h=>h) (Or.inl ⟨rfl, ?_⟩) hHeld ?_ ?_; rotate_left
        ·rintro w' ⟨s0, s1, s2⟩; go_simp; with_reducible rfl
        rotate_left
        ·simp only [q_, i64_w, i32_w]; rfl
        refine join_ (σ:=Nat) 2 #[T,T,T,T,T,T,T,T,T,T,F,F] (fun s_ => [(21, .tuple #[.agg #[.int .i64 t107, .int .u64 t108], .bool t109]), (6, .pointer (some ⟨s_, 0, none⟩)), (15, .tuple #[.agg #[.int .i64 t107, .int .u64 t108], .bool t109]), (22, .agg #[.int .i64 t107, .int .u64 t108]), (23, .bool t109)]) (fun s_ w' => (w'.cell? ⟨gb102, 0, none⟩ = some (.string ((rd_T65 l0 x10_1).f0)) ∧ w'.cell? ⟨gb102, 1, none⟩ = some (.int .i64 ((rd_T65 l0 x10_1).f1.f0)) ∧ w'.cell? ⟨gb102, 2, none⟩ = some (.int .u64 ((rd_T65 l0 x10_1).f1.f1))) ∧ (w'.heap[gb102]? = some (.cells #[.string ((rd_T65 l0 x10_1).f0), .int .i64 ((rd_T65 l0 x10_1).f1.f0), .int .u64 ((rd_T65 l0 x10_1).f1.f1)] 65 (0, 0))) ∧ (w'.heap[s_]? = some (.cells #[.int .i64 0, .int .u64 0] 59 (0, 0))) ∧ (w.heap.size ≤ s_) ∧ (w.heap.size ≤ s_) ∧ (gb102 ≠ s_) ∧ (s_ ≠ gb102) ∧ (Below w.heap.size w w')) ?_ ?_
        rotate_left
        ·intro hCont
         refine two_ (i:=5) (j:=9) (Ni := some 21) (Nj := some 6) #[T,T,T,T,T,T,F,F,F,F,F,F] ⟨m_ 12 543⟩ rfl rfl rfl rfl (two_of HT_.out (by kernel_rfl)) (by decide) (by decide) (fun K hK => ?_) (fun K hK => ?_)
         ·skip
          refine goes_ Tryd.func56 (by kernel_rfl) rfl #[.slice (some ad101) y103.length c0, .string ((rd_T65 l0 x10_1).f0)] (by rfl) rfl rfl (by (try simp only [List.map_toArray, List.map_cons, List.map_nil]); first | done | rfl | (simp only [List.length_drop, List.length_take]; rfl)) ?_; with_reducible refine (right_Find.calls k1 _ _ y103 ((rd_T65 l0 x10_1).f0) t107 t108 t109 _ ?side1 ?side2 A10.out).mono ?_; (case side1 => repeat (first | exact (Kd.C_below HR106.out HB.out) | (with_reducible refine Kd.C_alloc ?_ _) | (with_reducible refine Kd.C_drewN ?_ _) | (with_reducible refine Kd.C_drew ?_))); (case side2 => exact HC106.out); rintro e w14 ⟨rfl, hb⟩; refine ⟨_, rfl, ?_⟩
          replace BK102 := bb_ BK102 hb; replace HB := bs_ HB hb; (try clear hb); (try clear hb2); (try clear hk); (try clear hi); refine hK.out _ _ ⟨bc_ BK102 0 rfl, bc_ BK102 1 rfl, bc_ BK102 2 rfl⟩ (fun hHeld => ?_); clear hK K; refine norm_ (a':=?_) ?_ ?_; rotate_left
          ·show Act.put _ (some 21) _ = _; simp only [q_, i64_w, i32_w]; rfl
          refine pure_ (i:=6) (N:=some 15) (v:=?_) (a':=?_) ⟨m_ 12 127⟩ rfl rfl (any_of HT_.out (by kernel_rfl)) (fun _ _ _ h=>h) (Or.inl ⟨rfl, ?_⟩) ?_ ?_; rotate_left
          ·intro w'; go_simp; with_reducible rfl
          rotate_left
          ·simp only [q_, i64_w, i32_w]; rfl
          refine pure_ (i:=7) (N:=some 22) (v:=?_) (a':=?_) ⟨m_ 12 255⟩ rfl rfl (any_of HT_.out (by kernel_rfl)) (fun _ _ _ h=>h) (Or.inl ⟨rfl, ?_⟩) ?_ ?_; rotate_left
          ·intro w'; go_simp; with_reducible rfl
          rotate_left
          ·simp only [q_, i64_w, i32_w]; rfl
          refine pure_ (i:=8) (N:=some 23) (v:=?_) (a':=?_) ⟨m_ 12 511⟩ rfl rfl (any_of HT_.out (by kernel_rfl)) (fun _ _ _ h=>h) (Or.inl ⟨rfl, ?_⟩) ?_ ?_; rotate_left
          ·intro w'; go_simp; with_reducible rfl
          rotate_left
          ·simp only [q_, i64_w, i32_w]; rfl
          refine one_ (i:=9) (N:=some 6) ⟨m_ 12 1023⟩ rfl rfl (one_of HT_.out (by kernel_rfl)) (by decide) (fun K hK => ?_)
          refine box_step ?hg (N:=6) ?hd (cs := #[.int .i64 0, .int .u64 0]) (t:=59) ?hr ?_; (case hd => rfl); (case hg => rfl); (case hr => first | (go_simp; done) | (go_simp; rfl))
          intro gb110 hg w15 hbox hb
          have BK110 := Aside0.mk (hbox); have GW110 := hs_ HB hg; have GE110 := hs_ HB hg; have NB102_110 := hl_ BK102 hg; have NB110_102 := hr_ BK102 hg; replace BK102 := bb_ BK102 hb; replace HB := bs_ HB hb; clear hb hbox hg
          refine hK.out _ _ ⟨bc_ BK102 0 rfl, bc_ BK102 1 rfl, bc_ BK102 2 rfl⟩ (fun hHeld => ?_); clear hK K; refine norm_ (a':=?_) ?_ ?_; rotate_left
          ·show Act.put _ (some 6) _ = _; simp only [q_, i64_w, i32_w]; rfl
          exact norm_ (by simp only [putAll, q_]) (hCont (gb110) _ ⟨hHeld, (pkx BK102), (pkx BK110), GW110.out, GE110.out, NB102_110.out, NB110_102.out, (pbx HB)⟩)
         ·skip
          refine box_step ?hg (N:=6) ?hd (cs := #[.int .i64 0, .int .u64 0]) (t:=59) ?hr ?_; (case hd => rfl); (case hg => rfl); (case hr => first | (go_simp; done) | (go_simp; rfl))
          intro gb110 hg w14 hbox hb
          have BK110 := Aside0.mk (hbox); have GW110 := hs_ HB hg; have GE110 := hs_ HB hg; have NB102_110 := hl_ BK102 hg; have NB110_102 := hr_ BK102 hg; replace BK102 := bb_ BK102 hb; replace HB := bs_ HB hb; clear hb hbox hg
          refine hK.out _ _ ⟨bc_ BK102 0 rfl, bc_ BK102 1 rfl, bc_ BK102 2 rfl⟩ (fun hHeld => ?_); clear hK K; refine norm_ (a':=?_) ?_ ?_; rotate_left
          ·show Act.put _ (some 6) _ = _; simp only [q_, i64_w, i32_w]; rfl
          refine one_ (i:=5) (N:=some 21) ⟨m_ 12 575⟩ rfl rfl (one_of HT_.out (by kernel_rfl)) (by decide) (fun K hK => ?_); refine goes_ Tryd.func56 (by kernel_rfl) rfl #[.slice (some ad101) y103.length c0, .string ((rd_T65 l0 x10_1).f0)] (by rfl) rfl rfl (by (try simp only [List.map_toArray, List.map_cons, List.map_nil]); first | done | rfl | (simp only [List.length_drop, List.length_take]; rfl)) ?_; with_reducible refine (right_Find.calls k1 _ _ y103 ((rd_T65 l0 x10_1).f0) t107 t108 t109 _ ?side1 ?side2 A10.out).mono ?_; (case side1 => repeat (first | exact (Kd.C_below HR106.out HB.out) | (with_reducible refine Kd.C_alloc ?_ _) | (with_reducible refine Kd.C_drewN ?_ _) | (with_reducible refine Kd.C_drew ?_))); (case side2 => exact HC106.out); rintro e w15 ⟨rfl, hb⟩; refine ⟨_, rfl, ?_⟩
          replace BK102 := bb_ BK102 hb; replace BK110 := bb_ BK110 hb; replace HB := bs_ HB hb; (try clear hb); (try clear hb2); (try clear hk); (try clear hi); refine hK.out _ _ ⟨bc_ BK102 0 rfl, bc_ BK102 1 rfl, bc_ BK102 2 rfl⟩ (fun hHeld => ?_); clear hK K; refine norm_ (a':=?_) ?_ ?_; rotate_left
          ·show Act.put _ (some 21) _ = _; simp only [q_, i64_w, i32_w]; rfl
          refine pure_ (i:=6) (N:=some 15) (v:=?_) (a':=?_) ⟨m_ 12 639⟩ rfl rfl (any_of HT_.out (by kernel_rfl)) (fun _ _ _ h=>h) (Or.inl ⟨rfl, ?_⟩) ?_ ?_; rotate_left
          ·intro w'; go_simp; with_reducible rfl
          rotate_left
          ·simp only [q_, i64_w, i32_w]; rfl
          refine pure_ (i:=7) (N:=some 22) (v:=?_) (a':=?_) ⟨m_ 12 767⟩ rfl rfl (any_of HT_.out (by kernel_rfl)) (fun _ _ _ h=>h) (Or.inl ⟨rfl, ?_⟩) ?_ ?_; rotate_left
          ·intro w'; go_simp; with_reducible rfl
          rotate_left
          ·simp only [q_, i64_w, i32_w]; rfl
          refine pure_ (i:=8) (N:=some 23) (v:=?_) (a':=?_) ⟨m_ 12 1023⟩ rfl rfl (any_of HT_.out (by kernel_rfl)) (fun _ _ _ h=>h) (Or.inl ⟨rfl, ?_⟩) ?_ ?_; rotate_left
          ·intro w'; go_simp; with_reducible rfl
          rotate_left
          ·simp only [q_, i64_w, i32_w]; rfl
          exact norm_ (by simp only [putAll, q_]) (hCont (gb110) _ ⟨hHeld, (pkx BK102), (pkx BK110), GW110.out, GE110.out, NB102_110.out, NB110_102.out, (pbx HB)⟩)
        rintro gb110 w16 ⟨hS_, h0_, h1_, h2_, h3_, h4_, h5_, h6_⟩
        have n0_ : Aside0 (w16.heap[gb102]? = some (.cells #[.string ((rd_T65 l0 x10_1).f0), .int .i64 ((rd_T65 l0 x10_1).f1.f0), .int .u64 ((rd_T65 l0 x10_1).f1.f1)] 65 (0, 0))) := ⟨h0_⟩; have n1_ := Aside0.mk h1_; have n2_ := Aside0.mk h2_; have n3_ := Aside0.mk h3_; have n4_ := Aside0.mk h4_; have n5_ := Aside0.mk h5_; have n6_ := Aside0.mk h6_; clear BK102; clear HB; clear h0_ h1_ h2_ h3_ h4_ h5_ h6_; have BK102 := n0_; have BK110 := n1_; have GW110 := n2_; have GE110 := n3_; have NB102_110 := n4_; have NB110_102 := n5_; have HB := n6_; clear n0_ n1_ n2_ n3_ n4_ n5_ n6_
        have hHeld : w16.cell? ⟨gb102, 0, none⟩ = some (.string ((rd_T65 l0 x10_1).f0)) ∧ w16.cell? ⟨gb102, 1, none⟩ = some (.int .i64 ((rd_T65 l0 x10_1).f1.f0)) ∧ w16.cell? ⟨gb102, 2, none⟩ = some (.int .u64 ((rd_T65 l0 x10_1).f1.f1)) := hS_
        refine norm_ (a':=?_) ?_ ?_; rotate_left
        ·simp only [putAll, q_]; rfl
        refine one_ (i:=10) (N:=none) ⟨m_ 12 2047⟩ rfl rfl (one_of HT_.out (by kernel_rfl)) (by decide) (fun K hK => ?_)
        have hs17 : w16.cell? ⟨gb110, 0, none⟩ = some (.int .i64 0) := bc_ BK110 0 rfl
        have hfs17 := blk_frozen BK110.out 0; have hns17_0 := NB102_110.out; have hms17_0 := NB110_102.out
        have hs18 : w16.cell? ⟨gb110, 1, none⟩ = some (.int .u64 0) := bc_ BK110 1 rfl
        have hfs18 := blk_frozen BK110.out 1; have hns18_0 := NB102_110.out; have hms18_0 := NB110_102.out
        refine skip_ (w1 := ?_) (by rfl) rfl ?_ ?_
        rotate_left
        ·go_simp; rfl
        refine hK.out _ _ ⟨((cell_far (p := ⟨gb110, _, none⟩) NB102_110.out _).trans (((cell_far (p := ⟨gb110, _, none⟩) NB102_110.out _).trans (hHeld.1)))), ((cell_far (p := ⟨gb110, _, none⟩) NB102_110.out _).trans (((cell_far (p := ⟨gb110, _, none⟩) NB102_110.out _).trans (hHeld.2.1)))), ((cell_far (p := ⟨gb110, _, none⟩) NB102_110.out _).trans (((cell_far (p := ⟨gb110, _, none⟩) NB102_110.out _).trans (hHeld.2.2))))⟩ (fun hHeld => ?_); clear hK K; refine pure_ (i:=11) (N:=some 7) (v:=?_) (a':=?_) ⟨m_ 12 4095⟩ rfl rfl (any_of HT_.out (by kernel_rfl)) (fun _ _ _ h=>h) (Or.inl ⟨rfl, ?_⟩) ?_ ?_; rotate_left
        ·intro w'; go_simp; with_reducible rfl
        rotate_left
        ·simp only [q_, i64_w, i32_w]; rfl
        refine done_ (done_of HT_.out (by kernel_rfl)) ?_
        try go_wp2
        go_meet
        case rel => exact ⟨_, (t109), (by first | rfl | (simp; done) | (simp [*]; done) | (cases t109 <;> simp; done)), H', ⟨by have := HK1.out; first | omega | exact Nat.le_refl _⟩, ⟨by refine pf_ ?_ NB102_110.out; refine blk_far ?_ NB102_110.out _; exact pkx BK102⟩, ⟨by repeat (first | (with_reducible first | exact HB.out | apply below_alloc | apply pw_below_drewN | apply below_drew1 | refine below_set ?_ GE102.out | refine below_set ?_ GE110.out) | exact HB.out)⟩⟩
       ·rw [if_neg c9] at H
        exact absurd H (by simp)
      case rest =>
       clear HC5; (try clear p1); (try clear q1); (try clear hx1); (try clear c2); (try clear c2b0); (try clear p2); (try clear c3); (try clear c3b0); (try clear c4); (try clear c4b0); (try clear c5); (try clear c8); (try clear c8b0); (try clear c9); (try clear c9b0); (try clear c9b1); (try clear p10); (try clear q10); (try clear hx10); (try clear q13); (try clear hcz7_0); (try clear hcz7_1); (try clear hcz7_2); (try clear hfz7_0); (try clear hfz7_1); (try clear hfz7_2); (try clear hx101_0); (try clear hx101_1); (try clear hx101_2); (try clear p101); (try clear q101); (try clear q13); obtain ⟨kq, x7_4, rfl, HA, HJ4, BK102, HB⟩ := hcut
       cases kq with
       | zero => exact absurd HA.out (by simp [right_Users.j1])
       | succ kj4 =>
        have H := HA.out; clear HA
        simp only [right_Users.j1] at H
        by_cases c19 : x10_1 ≥ 16
        ·rw [if_pos c19] at H; have c19b0 : decide (16 ≤ x10_1) = true := decide_eq_true c19; clear c19
         simp only [Option.some.injEq, Prod.mk.injEq] at H
         obtain ⟨rfl, rfl⟩ := H
         go_wp2
         go_ret2
         exact ⟨by first | rfl | (simp [errW_none, errW_some] <;> rfl) | (simp [*, errW_none, errW_some] <;> rfl), pbx HB⟩
        ·rw [if_neg c19] at H; have c19b0 : decide (16 ≤ x10_1) = false := decide_eq_false c19; clear c19; replace H := Option.bind_eq_some_iff.mp H; obtain ⟨t111, A200, H⟩ := H
         replace H : (if t111 = true then (if x7_4 = true then (some (x10_1, 8)) else ((label_May.f ((rd_T65 l0 x10_1).f1.f0) ((rd_T65 l0 x10_1).f1.f1)).bind fun t112 => (if t112 = true then (right_Users.l0 kj4 l0 l0 (l0.length : Int) (wrap64 (x10_1 + 1))) else (some (x10_1, 7))))) else (some (x10_1, 1))) = some (r1, r2) := H
         have A20 := Aside0.mk A200; clear A200
         by_cases c21 : t111 = true
         ·subst c21
          have H1 : (if x7_4 = true then (some (x10_1, 8)) else ((label_May.f ((rd_T65 l0 x10_1).f1.f0) ((rd_T65 l0 x10_1).f1.f1)).bind fun t112 => (if t112 = true then (right_Users.l0 kj4 l0 l0 (l0.length : Int) (wrap64 (x10_1 + 1))) else (some (x10_1, 7))))) = some (r1, r2) := by rw [if_pos rfl] at H; exact H
          clear H; have H := H1; clear H1
          by_cases c22 : x7_4 = true
          ·subst c22
           have H1 : (some (x10_1, 8)) = some (r1, r2) := by rw [if_pos rfl] at H; exact H
           clear H; have H := H1; clear H1
           simp only [Option.some.injEq, Prod.mk.injEq] at H
           obtain ⟨rfl, rfl⟩ := H
           have hcz23_0 : wc.cell? ⟨gb102, 0, none⟩ = some (.string ((rd_T65 l0 x10_1).f0)) := bc_ BK102 0 rfl
           have hcz23_1 : wc.cell? ⟨gb102, 1, none⟩ = some (.int .i64 ((rd_T65 l0 x10_1).f1.f0)) := bc_ BK102 1 rfl
           have hcz23_2 : wc.cell? ⟨gb102, 2, none⟩ = some (.int .u64 ((rd_T65 l0 x10_1).f1.f1)) := bc_ BK102 2 rfl
           have hfz23_0 := blk_frozen BK102.out 0; have hfz23_1 := blk_frozen BK102.out 1; have hfz23_2 := blk_frozen BK102.out 2
           go_wp2_with (first | ((with_reducible refine gate_callee (f:=57) rfl ?_); refine gL_ (some 31) rfl rfl Tryd.func57 rfl #[.string ((rd_T65 l0 x10_1).f0)] rfl ?_; (with_reducible refine (right_Name.calls kj4 ((rd_T65 l0 x10_1).f0) true _ A20.out).mono ?_); rintro e w' ⟨rfl, ⟨nd, rfl⟩⟩; refine ⟨_, rfl, ?_⟩))
           go_ret2
           exact ⟨by first | rfl | (simp [errW_none, errW_some] <;> rfl) | (simp [*, errW_none, errW_some] <;> rfl), pbx HB⟩
          ·replace c22 := Bool.eq_false_iff.mpr c22; subst c22
           have H1 : ((label_May.f ((rd_T65 l0 x10_1).f1.f0) ((rd_T65 l0 x10_1).f1.f1)).bind fun t112 => (if t112 = true then (right_Users.l0 kj4 l0 l0 (l0.length : Int) (wrap64 (x10_1 + 1))) else (some (x10_1, 7)))) = some (r1, r2) := by rw [if_neg (show ¬ (false = true) by decide)] at H; exact H
           clear H; have H := H1; clear H1; replace H := Option.bind_eq_some_iff.mp H; obtain ⟨t112, A240, H⟩ := H
           replace H : (if t112 = true then (right_Users.l0 kj4 l0 l0 (l0.length : Int) (wrap64 (x10_1 + 1))) else (some (x10_1, 7))) = some (r1, r2) := H
           have A24 := Aside0.mk A240; clear A240
           by_cases c25 : t112 = true
           ·subst c25
            have H1 : (right_Users.l0 kj4 l0 l0 (l0.length : Int) (wrap64 (x10_1 + 1))) = some (r1, r2) := by rw [if_pos rfl] at H; exact H
            clear H; have H := H1; clear H1
            have H' := Aside0.mk H
            clear H
            have hcz26_0 : wc.cell? ⟨gb102, 0, none⟩ = some (.string ((rd_T65 l0 x10_1).f0)) := bc_ BK102 0 rfl
            have hcz26_1 : wc.cell? ⟨gb102, 1, none⟩ = some (.int .i64 ((rd_T65 l0 x10_1).f1.f0)) := bc_ BK102 1 rfl
            have hcz26_2 : wc.cell? ⟨gb102, 2, none⟩ = some (.int .u64 ((rd_T65 l0 x10_1).f1.f1)) := bc_ BK102 2 rfl
            have hfz26_0 := blk_frozen BK102.out 0; have hfz26_1 := blk_frozen BK102.out 1; have hfz26_2 := blk_frozen BK102.out 2
            go_wp2_with (first | ((with_reducible refine gate_callee (f:=57) rfl ?_); refine gL_ (some 31) rfl rfl Tryd.func57 rfl #[.string ((rd_T65 l0 x10_1).f0)] rfl ?_; (with_reducible refine (right_Name.calls kj4 ((rd_T65 l0 x10_1).f0) true _ A20.out).mono ?_); rintro e w' ⟨rfl, ⟨nd, rfl⟩⟩; refine ⟨_, rfl, ?_⟩) | ((with_reducible refine gate_callee (f:=40) rfl ?_); refine gL_ (some 40) rfl rfl Tryd.func40 rfl #[.agg #[.int .i64 ((rd_T65 l0 x10_1).f1.f0), .int .u64 ((rd_T65 l0 x10_1).f1.f1)]] rfl ?_; (with_reducible refine (label_May.calls ((rd_T65 l0 x10_1).f1.f0) ((rd_T65 l0 x10_1).f1.f1) true _ A24.out).mono ?_); rintro e w27 ⟨rfl, hb⟩; refine ⟨_, rfl, ?_⟩; replace BK102 := bb_ BK102 hb; replace HB := bs_ HB hb; (try clear hb); (try clear hb2); (try clear hk); (try clear hi)))
            go_roundg kj4
            case measure => have := HK1.out; have := HJ4.out; omega
            case rel => exact ⟨(wrap64 (x10_1 + 1)), (by first | rfl | (simp; done) | (simp [*]; done)), H', ⟨by have := HK1.out; have := HJ4.out; omega⟩, ⟨pbx HB⟩⟩
           ·replace c25 := Bool.eq_false_iff.mpr c25; subst c25
            have H1 : (some (x10_1, 7)) = some (r1, r2) := by rw [if_neg (show ¬ (false = true) by decide)] at H; exact H
            clear H; have H := H1; clear H1
            simp only [Option.some.injEq, Prod.mk.injEq] at H
            obtain ⟨rfl, rfl⟩ := H
            have hcz28_0 : wc.cell? ⟨gb102, 0, none⟩ = some (.string ((rd_T65 l0 x10_1).f0)) := bc_ BK102 0 rfl
            have hcz28_1 : wc.cell? ⟨gb102, 1, none⟩ = some (.int .i64 ((rd_T65 l0 x10_1).f1.f0)) := bc_ BK102 1 rfl
            have hcz28_2 : wc.cell? ⟨gb102, 2, none⟩ = some (.int .u64 ((rd_T65 l0 x10_1).f1.f1)) := bc_ BK102 2 rfl
            have hfz28_0 := blk_frozen BK102.out 0; have hfz28_1 := blk_frozen BK102.out 1; have hfz28_2 := blk_frozen BK102.out 2
            go_wp2_with (first | ((with_reducible refine gate_callee (f:=57) rfl ?_); refine gL_ (some 31) rfl rfl Tryd.func57 rfl #[.string ((rd_T65 l0 x10_1).f0)] rfl ?_; (with_reducible refine (right_Name.calls kj4 ((rd_T65 l0 x10_1).f0) true _ A20.out).mono ?_); rintro e w' ⟨rfl, ⟨nd, rfl⟩⟩; refine ⟨_, rfl, ?_⟩) | ((with_reducible refine gate_callee (f:=40) rfl ?_); refine gL_ (some 40) rfl rfl Tryd.func40 rfl #[.agg #[.int .i64 ((rd_T65 l0 x10_1).f1.f0), .int .u64 ((rd_T65 l0 x10_1).f1.f1)]] rfl ?_; (with_reducible refine (label_May.calls ((rd_T65 l0 x10_1).f1.f0) ((rd_T65 l0 x10_1).f1.f1) false _ A24.out).mono ?_); rintro e w29 ⟨rfl, hb⟩; refine ⟨_, rfl, ?_⟩; replace BK102 := bb_ BK102 hb; replace HB := bs_ HB hb; (try clear hb); (try clear hb2); (try clear hk); (try clear hi)))
            go_ret2
            exact ⟨by first | rfl | (simp [errW_none, errW_some] <;> rfl) | (simp [*, errW_none, errW_some] <;> rfl), pbx HB⟩
         ·replace c21 := Bool.eq_false_iff.mpr c21; subst c21
          have H1 : (some (x10_1, 1)) = some (r1, r2) := by rw [if_neg (show ¬ (false = true) by decide)] at H; exact H
          clear H; have H := H1; clear H1
          simp only [Option.some.injEq, Prod.mk.injEq] at H
          obtain ⟨rfl, rfl⟩ := H
          have hcz30_0 : wc.cell? ⟨gb102, 0, none⟩ = some (.string ((rd_T65 l0 x10_1).f0)) := bc_ BK102 0 rfl
          have hcz30_1 : wc.cell? ⟨gb102, 1, none⟩ = some (.int .i64 ((rd_T65 l0 x10_1).f1.f0)) := bc_ BK102 1 rfl
          have hcz30_2 : wc.cell? ⟨gb102, 2, none⟩ = some (.int .u64 ((rd_T65 l0 x10_1).f1.f1)) := bc_ BK102 2 rfl
          have hfz30_0 := blk_frozen BK102.out 0; have hfz30_1 := blk_frozen BK102.out 1; have hfz30_2 := blk_frozen BK102.out 2
          go_wp2_with (first | ((with_reducible refine gate_callee (f:=57) rfl ?_); refine gL_ (some 31) rfl rfl Tryd.func57 rfl #[.string ((rd_T65 l0 x10_1).f0)] rfl ?_; (with_reducible refine (right_Name.calls kj4 ((rd_T65 l0 x10_1).f0) false _ A20.out).mono ?_); rintro e w' ⟨rfl, ⟨nd, rfl⟩⟩; refine ⟨_, rfl, ?_⟩))
          go_ret2
          exact ⟨by first | rfl | (simp [errW_none, errW_some] <;> rfl) | (simp [*, errW_none, errW_some] <;> rfl), pbx HB⟩
     ·rw [if_neg c4] at H
      exact absurd H (by simp)
    ·rw [if_neg c3] at H
     exact absurd H (by simp)
   ·rw [if_neg c2] at H; have c2b0 : decide (x10_1 < (l0.length : Int)) = false := decide_eq_false c2; clear c2
    simp only [Option.some.injEq, Prod.mk.injEq] at H
    obtain ⟨rfl, rfl⟩ := H
    go_wp2
    go_ret2
    exact ⟨by first | rfl | (simp [errW_none, errW_some] <;> rfl) | (simp [*, errW_none, errW_some] <;> rfl), pbx HB⟩

mutual
def right_Grants.l0 : Nat → List (S65) → List (S67) → Int → Int → Option (Int × Int)
 | 0, _, _, _, _ => none
 | k + 1, x1, x10, x11, x12 => if x12 < x11 then (if 0 ≤ x12 then (if x12 < (x10.length : Int) then ((right_Find.f k x1 ((rd_T67 x10 x12).f0)).bind fun bt103 => (right_Grants.j1 k x1 x12 bt103.2.2 x10 x11 x12 ((rd_T67 x10 x12).f0) ((rd_T67 x10 x12).f1.f0) ((rd_T67 x10 x12).f1.f1) ((rd_T67 x10 x12).f2.f0) ((rd_T67 x10 x12).f2.f1))) else (none)) else (none)) else (some (0, 0))
def right_Grants.j1 : Nat → List (S65) → Int → Bool → List (S67) → Int → Int → ByteArray → Int → Int → Int → Int → Option (Int × Int)
 | 0, _, _, _, _, _, _, _, _, _, _, _ => none
 | k + 1, x1, x6, x9, x10, x11, x12, x103000, x103001, x103002, x103003, x103004 => if x6 ≥ 32 then (some (x6, 10)) else (if x9 = true then ((label_May.f x103001 x103002).bind fun t107 => (if t107 = true then ((label_May.f x103003 x103004).bind fun t108 => (if t108 = true then (right_Grants.l0 k x1 x10 x11 (wrap64 (x12 + 1))) else (some (x6, 7)))) else (some (x6, 7)))) else (some (x6, 11)))
end
def right_Grants.f (k : Nat) (l0 : List (S67)) (l1 : List (S65)) : Option (Int × Int) := right_Grants.l0 k l1 l0 (l0.length : Int) 0
theorem right_Grants.mono_l : ∀ k, (∀ y0 y1 y2 y3, LeO (right_Grants.l0 k y0 y1 y2 y3) (right_Grants.l0 (k + 1) y0 y1 y2 y3)) ∧ (∀ y0 y1 y2 y3 y4 y5 y6 y7 y8 y9 y10, LeO (right_Grants.j1 k y0 y1 y2 y3 y4 y5 y6 y7 y8 y9 y10) (right_Grants.j1 (k + 1) y0 y1 y2 y3 y4 y5 y6 y7 y8 y9 y10))
 | 0 => ⟨fun _ _ _ _ r h => by simp [right_Grants.l0] at h, fun _ _ _ _ _ _ _ _ _ _ _ r h => by simp [right_Grants.j1] at h⟩
 | k + 1 => by
  obtain ⟨ih0, ih1⟩ := right_Grants.mono_l k
  refine ⟨?_, ?_⟩
  ·intro y0 y1 y2 y3
   unfold right_Grants.l0
   repeat' first
   | (with_reducible exact ih0 _ _ _ _)
   | (with_reducible exact ih1 _ _ _ _ _ _ _ _ _ _ _)
   | (with_reducible exact right_Find.mono _ _ _)
   | (with_reducible exact LeO.refl _)
   | (with_reducible exact LeO.none _)
   | (with_reducible refine LeO.ite ?_ ?_)
   | (with_reducible refine LeO.bind ?_ (fun _ => ?_))
  ·intro y0 y1 y2 y3 y4 y5 y6 y7 y8 y9 y10
   unfold right_Grants.j1
   repeat' first
   | (with_reducible exact ih0 _ _ _ _)
   | (with_reducible exact ih1 _ _ _ _ _ _ _ _ _ _ _)
   | (with_reducible exact right_Find.mono _ _ _)
   | (with_reducible exact LeO.refl _)
   | (with_reducible exact LeO.none _)
   | (with_reducible refine LeO.ite ?_ ?_)
   | (with_reducible refine LeO.bind ?_ (fun _ => ?_))
theorem right_Grants.mono : ∀ a0 a1 k, LeO (right_Grants.f k a0 a1) (right_Grants.f (k + 1) a0 a1) := by
 intro a0 a1 k; obtain ⟨ih0, ih1⟩ := right_Grants.mono_l k
 unfold right_Grants.f
 repeat' first
   | (with_reducible exact ih0 _ _ _ _)
   | (with_reducible exact ih1 _ _ _ _ _ _ _ _ _ _ _)
   | (with_reducible exact right_Find.mono _ _ _)
   | (with_reducible exact LeO.refl _)
   | (with_reducible exact LeO.none _)
   | (with_reducible refine LeO.ite ?_ ?_)
   | (with_reducible refine LeO.bind ?_ (fun _ => ?_))
set_option maxHeartbeats 8000000 in
set_option maxRecDepth 100000 in
theorem right_Grants.calls (k : Nat) (A0 : Option Addr) (c0 : Nat) (l0 : List (S67)) (A1 : Option Addr) (c1 : Nat) (l1 : List (S65)) (r1 : Int) (r2 : Int) (w : World) (hr0 : Kd.C k67 w A0 l0.length l0) (hc0 : l0.length ≤ c0) (hr1 : Kd.C k65 w A1 l1.length l1) (hc1 : l1.length ≤ c1) (h : right_Grants.f k l0 l1 = some (r1, r2)) :
  Calls Tryd.prog 34 #[.slice A0 l0.length c0, .slice A1 l1.length c1] w fun e w' => e = .returned (.tuple #[.int .i64 r1, .int .i64 r2]) ∧ Below w.heap.size w w' := by
 have hu67 := Tryd.underlying67; have hu59 := Tryd.underlying59; have HR0 := Aside0.mk hr0; have HC0 := Aside0.mk hc0; clear hr0 hc0; have HR1 := Aside0.mk hr1; have HC1 := Aside0.mk hc1; clear hr1 hc1; have HB := Aside0.mk (Below.refl w.heap.size w)
 have H : (right_Grants.l0 k l1 l0 (l0.length : Int) 0) = some (r1, r2) := h
 clear h
 have H' := Aside0.mk H
 clear H
 go_enter Tryd.func34, Tryd.ntmps34
 go_wp2
 go_loopg [12] k (fun kq v12 w' => ∃ (x12_1 : Int), v12 = .int .i64 x12_1 ∧ Aside0 (right_Grants.l0 kq l1 l0 (l0.length : Int) x12_1 = some (r1, r2)) ∧ Aside0 (kq ≤ k) ∧ Aside0 (Below w.heap.size w w'))
 case atStart => exact ⟨(0), (by first | rfl | (simp; done) | (simp [*]; done)), H', ⟨Nat.le_refl _⟩, ⟨pbx HB⟩⟩
 case round =>
  clear H'; (try clear c1); (try clear p2); obtain ⟨x12_1, rfl, HA, HK1, HB⟩ := hrel
  cases gk with
  | zero => exact absurd HA.out (by simp [right_Grants.l0])
  | succ k1 =>
   have H := HA.out; clear HA
   simp only [right_Grants.l0] at H
   by_cases c3 : x12_1 < (l0.length : Int)
   ·rw [if_pos c3] at H; have c3b0 : decide (x12_1 < (l0.length : Int)) = true := decide_eq_true c3; clear c3
    by_cases c4 : 0 ≤ x12_1
    ·rw [if_pos c4] at H; have c4b0 : decide (0 ≤ x12_1) = true := decide_eq_true c4; clear c4
     by_cases c5 : x12_1 < (l0.length : Int)
     ·rw [if_pos c5] at H; have c5b0 : decide (x12_1 < (l0.length : Int)) = true := decide_eq_true c5; clear c5; have HC6 := Aside0.mk H; clear H
      have p101 : 0 ≤ (x12_1 : Int) := of_decide_eq_true (by first | (with_reducible assumption) | assumption)
      have q101 : x12_1 < (l0.length : Int) := of_decide_eq_true (by first | (with_reducible assumption) | assumption)
      obtain ⟨ad101, e101, hx101_0, hx101_1, hx101_2, hx101_3, hx101_4⟩ := at_T67 HR0.out x12_1 p101 q101
      cases e101
      replace hx101_0 := (HB.out.cell (World.block_lt_of_cell? w _ hx101_0)).trans hx101_0; replace hx101_1 := (HB.out.cell (World.block_lt_of_cell? w _ hx101_1)).trans hx101_1; replace hx101_2 := (HB.out.cell (World.block_lt_of_cell? w _ hx101_2)).trans hx101_2; replace hx101_3 := (HB.out.cell (World.block_lt_of_cell? w _ hx101_3)).trans hx101_3; replace hx101_4 := (HB.out.cell (World.block_lt_of_cell? w _ hx101_4)).trans hx101_4; replace p101 := eq_true p101; replace q101 := eq_true q101
      go_upto_region 4 with (first | ((with_reducible refine gate_dst (N:=7) rfl ?_); refine be_ (N:=7) (cs := #[.string (⟨#[]⟩ : ByteArray), .int .i64 0, .int .u64 0, .int .i64 0, .int .u64 0]) (t:=67) ?_; intro gb102 hg w7 hbox hb; have BK102 := Aside0.mk (hbox); have GW102 := hs_ HB hg; have GE102 := hs_ HB hg; replace HB := bs_ HB hb; clear hb hbox hg; have hcz8_0 : w7.cell? ⟨gb102, 0, none⟩ = some (.string (⟨#[]⟩ : ByteArray)) := bc_ BK102 0 rfl; have hcz8_1 : w7.cell? ⟨gb102, 1, none⟩ = some (.int .i64 0) := bc_ BK102 1 rfl; have hcz8_2 : w7.cell? ⟨gb102, 2, none⟩ = some (.int .u64 0) := bc_ BK102 2 rfl; have hcz8_3 : w7.cell? ⟨gb102, 3, none⟩ = some (.int .i64 0) := bc_ BK102 3 rfl; have hcz8_4 : w7.cell? ⟨gb102, 4, none⟩ = some (.int .u64 0) := bc_ BK102 4 rfl; have hfz8_0 := blk_frozen BK102.out 0; have hfz8_1 := blk_frozen BK102.out 1; have hfz8_2 := blk_frozen BK102.out 2; have hfz8_3 := blk_frozen BK102.out 3; have hfz8_4 := blk_frozen BK102.out 4))
      (try simp only [q_])
      go_cut [9] (fun v9 wc => ∃ (kq : Nat) (x9_5 : Bool), v9 = .bool x9_5 ∧ Aside0 (right_Grants.j1 kq l1 x12_1 x9_5 l0 (l0.length : Int) x12_1 ((rd_T67 l0 x12_1).f0) ((rd_T67 l0 x12_1).f1.f0) ((rd_T67 l0 x12_1).f1.f1) ((rd_T67 l0 x12_1).f2.f0) ((rd_T67 l0 x12_1).f2.f1) = some (r1, r2)) ∧ Aside0 (kq ≤ k1) ∧ Aside0 (wc.heap[gb102]? = some (.cells #[.string ((rd_T67 l0 x12_1).f0), .int .i64 ((rd_T67 l0 x12_1).f1.f0), .int .u64 ((rd_T67 l0 x12_1).f1.f1), .int .i64 ((rd_T67 l0 x12_1).f2.f0), .int .u64 ((rd_T67 l0 x12_1).f2.f1)] 67 (0, 0))) ∧ Aside0 (Below w.heap.size w wc))
      case first =>
       have H := HC6.out; clear HC6; replace H := Option.bind_eq_some_iff.mp H; obtain ⟨⟨t103, t104, t105⟩, A90, H⟩ := H
       replace H : (right_Grants.j1 k1 l1 x12_1 t105 l0 (l0.length : Int) x12_1 ((rd_T67 l0 x12_1).f0) ((rd_T67 l0 x12_1).f1.f0) ((rd_T67 l0 x12_1).f1.f1) ((rd_T67 l0 x12_1).f2.f0) ((rd_T67 l0 x12_1).f2.f1)) = some (r1, r2) := H
       have A9 := Aside0.mk A90; clear A90
       have H' := Aside0.mk H
       clear H
       have hcz10_0 : w7.cell? ⟨gb102, 0, none⟩ = some (.string (⟨#[]⟩ : ByteArray)) := bc_ BK102 0 rfl
       have hcz10_1 : w7.cell? ⟨gb102, 1, none⟩ = some (.int .i64 0) := bc_ BK102 1 rfl
       have hcz10_2 : w7.cell? ⟨gb102, 2, none⟩ = some (.int .u64 0) := bc_ BK102 2 rfl
       have hcz10_3 : w7.cell? ⟨gb102, 3, none⟩ = some (.int .i64 0) := bc_ BK102 3 rfl
       have hcz10_4 : w7.cell? ⟨gb102, 4, none⟩ = some (.int .u64 0) := bc_ BK102 4 rfl
       have hfz10_0 := blk_frozen BK102.out 0; have hfz10_1 := blk_frozen BK102.out 1; have hfz10_2 := blk_frozen BK102.out 2; have hfz10_3 := blk_frozen BK102.out 3; have hfz10_4 := blk_frozen BK102.out 4
       go_wp2_with (first | ((with_reducible refine gate_callee (f:=56) rfl ?_); refine gL_ (some 21) rfl rfl Tryd.func56 rfl #[.slice A1 l1.length c1, .string ((rd_T67 l0 x12_1).f0)] rfl ?_; (with_reducible refine (right_Find.calls k1 _ _ l1 ((rd_T67 l0 x12_1).f0) t103 t104 t105 _ ?side1 ?side2 A9.out).mono ?_); (case side1 => exact Kd.C_below HR1.out (by repeat (first | (with_reducible first | exact HB.out | apply below_alloc | apply pw_below_drewN | apply below_drew1 | refine below_set ?_ GE102.out) | exact HB.out))); (case side2 => exact HC1.out); rintro e w11 ⟨rfl, hb⟩; refine ⟨_, rfl, ?_⟩; replace BK102 := Aside0.mk (blk_below (g:=gb102) (o := .cells #[.string ((rd_T67 l0 x12_1).f0), .int .i64 ((rd_T67 l0 x12_1).f1.f0), .int .u64 ((rd_T67 l0 x12_1).f1.f1), .int .i64 ((rd_T67 l0 x12_1).f2.f0), .int .u64 ((rd_T67 l0 x12_1).f2.f1)] 67 (0, 0)) (by refine pp_ (cs := #[.string ((rd_T67 l0 x12_1).f0), .int .i64 ((rd_T67 l0 x12_1).f1.f0), .int .u64 ((rd_T67 l0 x12_1).f1.f1), .int .i64 ((rd_T67 l0 x12_1).f2.f0), .int .u64 0]) 4 ?_ rfl; refine blk_put (cs := #[.string ((rd_T67 l0 x12_1).f0), .int .i64 ((rd_T67 l0 x12_1).f1.f0), .int .u64 ((rd_T67 l0 x12_1).f1.f1), .int .i64 0, .int .u64 0]) ?_ 3 _ rfl; refine blk_put (cs := #[.string ((rd_T67 l0 x12_1).f0), .int .i64 ((rd_T67 l0 x12_1).f1.f0), .int .u64 0, .int .i64 0, .int .u64 0]) ?_ 2 _ rfl; refine blk_put (cs := #[.string ((rd_T67 l0 x12_1).f0), .int .i64 0, .int .u64 0, .int .i64 0, .int .u64 0]) ?_ 1 _ rfl; refine blk_put (cs := #[.string (⟨#[]⟩ : ByteArray), .int .i64 0, .int .u64 0, .int .i64 0, .int .u64 0]) ?_ 0 _ rfl; exact pkx BK102) hb); replace HB := Aside0.mk (below_step (by repeat (first | (with_reducible first | exact HB.out | apply below_alloc | apply pw_below_drewN | apply below_drew1 | refine below_set ?_ GE102.out) | exact HB.out)) hb); (try clear hb); (try clear hb2); (try clear hk); (try clear hi)) | ((with_reducible refine gate_dst (N:=8) rfl ?_); refine be_ (N:=8) (cs := #[.int .i64 0, .int .u64 0]) (t:=59) ?_; intro gb106 hg w12 hbox hb; have BK106 := Aside0.mk (hbox); have GW106 := hs_ HB hg; have GE106 := hs_ HB hg; have NB102_106 := hl_ BK102 hg; have NB106_102 := hr_ BK102 hg; replace BK102 := bb_ BK102 hb; replace HB := bs_ HB hb; clear hb hbox hg; have hnb13 := NB106_102.out; have hnc13 := NB102_106.out; have hcz14_0 : w12.cell? ⟨gb106, 0, none⟩ = some (.int .i64 0) := bc_ BK106 0 rfl; have hcz14_1 : w12.cell? ⟨gb106, 1, none⟩ = some (.int .u64 0) := bc_ BK106 1 rfl; have hfz14_0 := blk_frozen BK106.out 0; have hfz14_1 := blk_frozen BK106.out 1))
       go_meet
       case rel => exact ⟨_, (t105), (by first | rfl | (simp; done) | (simp [*]; done) | (cases t105 <;> simp; done)), H', ⟨by have := HK1.out; first | omega | exact Nat.le_refl _⟩, ⟨by refine pf_ ?_ NB102_106.out; refine blk_far ?_ NB102_106.out _; exact pkx BK102⟩, ⟨by repeat (first | (with_reducible first | exact HB.out | apply below_alloc | apply pw_below_drewN | apply below_drew1 | refine below_set ?_ GE102.out | refine below_set ?_ GE106.out) | exact HB.out)⟩⟩
      case rest =>
       clear HC6; (try clear c1); (try clear p1); (try clear q1); (try clear hx1); (try clear p2); (try clear c3); (try clear c3b0); (try clear c4); (try clear c4b0); (try clear c5); (try clear c5b0); (try clear p10); (try clear q10); (try clear hx10); (try clear c13); (try clear hcz10_0); (try clear hcz10_1); (try clear hcz10_2); (try clear hcz10_3); (try clear hcz10_4); (try clear hcz14_0); (try clear hcz14_1); (try clear hcz8_0); (try clear hcz8_1); (try clear hcz8_2); (try clear hcz8_3); (try clear hcz8_4); (try clear hfz10_0); (try clear hfz10_1); (try clear hfz10_2); (try clear hfz10_3); (try clear hfz10_4); (try clear hfz14_0); (try clear hfz14_1); (try clear hfz8_0); (try clear hfz8_1); (try clear hfz8_2); (try clear hfz8_3); (try clear hfz8_4); (try clear hx101_0); (try clear hx101_1); (try clear hx101_2); (try clear hx101_3); (try clear hx101_4); (try clear p101); (try clear p2)
       (try clear q101); obtain ⟨kq, x9_5, rfl, HA, HJ5, BK102, HB⟩ := hcut
       cases kq with
       | zero => exact absurd HA.out (by simp [right_Grants.j1])
       | succ kj5 =>
        have H := HA.out; clear HA
        simp only [right_Grants.j1] at H
        by_cases c15 : x12_1 ≥ 32
        ·rw [if_pos c15] at H; have c15b0 : decide (32 ≤ x12_1) = true := decide_eq_true c15; clear c15
         simp only [Option.some.injEq, Prod.mk.injEq] at H
         obtain ⟨rfl, rfl⟩ := H
         go_wp2
         go_ret2
         exact ⟨by first | rfl | (simp [errW_none, errW_some] <;> rfl) | (simp [*, errW_none, errW_some] <;> rfl), pbx HB⟩
        ·rw [if_neg c15] at H; have c15b0 : decide (32 ≤ x12_1) = false := decide_eq_false c15; clear c15
         by_cases c16 : x9_5 = true
         ·subst c16
          have H1 : ((label_May.f ((rd_T67 l0 x12_1).f1.f0) ((rd_T67 l0 x12_1).f1.f1)).bind fun t107 => (if t107 = true then ((label_May.f ((rd_T67 l0 x12_1).f2.f0) ((rd_T67 l0 x12_1).f2.f1)).bind fun t108 => (if t108 = true then (right_Grants.l0 kj5 l1 l0 (l0.length : Int) (wrap64 (x12_1 + 1))) else (some (x12_1, 7)))) else (some (x12_1, 7)))) = some (r1, r2) := by rw [if_pos rfl] at H; exact H
          clear H; have H := H1; clear H1; replace H := Option.bind_eq_some_iff.mp H; obtain ⟨t107, A170, H⟩ := H
          replace H : (if t107 = true then ((label_May.f ((rd_T67 l0 x12_1).f2.f0) ((rd_T67 l0 x12_1).f2.f1)).bind fun t108 => (if t108 = true then (right_Grants.l0 kj5 l1 l0 (l0.length : Int) (wrap64 (x12_1 + 1))) else (some (x12_1, 7)))) else (some (x12_1, 7))) = some (r1, r2) := H
          have A17 := Aside0.mk A170; clear A170
          by_cases c18 : t107 = true
          ·subst c18
           have H1 : ((label_May.f ((rd_T67 l0 x12_1).f2.f0) ((rd_T67 l0 x12_1).f2.f1)).bind fun t108 => (if t108 = true then (right_Grants.l0 kj5 l1 l0 (l0.length : Int) (wrap64 (x12_1 + 1))) else (some (x12_1, 7)))) = some (r1, r2) := by rw [if_pos rfl] at H; exact H
           clear H; have H := H1; clear H1; replace H := Option.bind_eq_some_iff.mp H; obtain ⟨t108, A190, H⟩ := H
           replace H : (if t108 = true then (right_Grants.l0 kj5 l1 l0 (l0.length : Int) (wrap64 (x12_1 + 1))) else (some (x12_1, 7))) = some (r1, r2) := H
           have A19 := Aside0.mk A190; clear A190
           by_cases c20 : t108 = true
           ·subst c20
            have H1 : (right_Grants.l0 kj5 l1 l0 (l0.length : Int) (wrap64 (x12_1 + 1))) = some (r1, r2) := by rw [if_pos rfl] at H; exact H
            clear H; have H := H1; clear H1
            have H' := Aside0.mk H
            clear H
            have hcz21_0 : wc.cell? ⟨gb102, 0, none⟩ = some (.string ((rd_T67 l0 x12_1).f0)) := bc_ BK102 0 rfl
            have hcz21_1 : wc.cell? ⟨gb102, 1, none⟩ = some (.int .i64 ((rd_T67 l0 x12_1).f1.f0)) := bc_ BK102 1 rfl
            have hcz21_2 : wc.cell? ⟨gb102, 2, none⟩ = some (.int .u64 ((rd_T67 l0 x12_1).f1.f1)) := bc_ BK102 2 rfl
            have hcz21_3 : wc.cell? ⟨gb102, 3, none⟩ = some (.int .i64 ((rd_T67 l0 x12_1).f2.f0)) := bc_ BK102 3 rfl
            have hcz21_4 : wc.cell? ⟨gb102, 4, none⟩ = some (.int .u64 ((rd_T67 l0 x12_1).f2.f1)) := bc_ BK102 4 rfl
            have hfz21_0 := blk_frozen BK102.out 0; have hfz21_1 := blk_frozen BK102.out 1; have hfz21_2 := blk_frozen BK102.out 2; have hfz21_3 := blk_frozen BK102.out 3; have hfz21_4 := blk_frozen BK102.out 4
            go_wp2_with (first | ((with_reducible refine gate_callee (f:=40) rfl ?_); refine gL_ (some 35) rfl rfl Tryd.func40 rfl #[.agg #[.int .i64 ((rd_T67 l0 x12_1).f1.f0), .int .u64 ((rd_T67 l0 x12_1).f1.f1)]] rfl ?_; (with_reducible refine (label_May.calls ((rd_T67 l0 x12_1).f1.f0) ((rd_T67 l0 x12_1).f1.f1) true _ A17.out).mono ?_); rintro e w22 ⟨rfl, hb⟩; refine ⟨_, rfl, ?_⟩; replace BK102 := bb_ BK102 hb; replace HB := bs_ HB hb; (try clear hb); (try clear hb2); (try clear hk); (try clear hi); have hcz23_0 : w22.cell? ⟨gb102, 0, none⟩ = some (.string ((rd_T67 l0 x12_1).f0)) := bc_ BK102 0 rfl; have hcz23_1 : w22.cell? ⟨gb102, 1, none⟩ = some (.int .i64 ((rd_T67 l0 x12_1).f1.f0)) := bc_ BK102 1 rfl; have hcz23_2 : w22.cell? ⟨gb102, 2, none⟩ = some (.int .u64 ((rd_T67 l0 x12_1).f1.f1)) := bc_ BK102 2 rfl; have hcz23_3 : w22.cell? ⟨gb102, 3, none⟩ = some (.int .i64 ((rd_T67 l0 x12_1).f2.f0)) := bc_ BK102 3 rfl; have hcz23_4 : w22.cell? ⟨gb102, 4, none⟩ = some (.int .u64 ((rd_T67 l0 x12_1).f2.f1)) := bc_ BK102 4 rfl; have hfz23_0 := blk_frozen BK102.out 0; have hfz23_1 := blk_frozen BK102.out 1; have hfz23_2 := blk_frozen BK102.out 2; have hfz23_3 := blk_frozen BK102.out 3; have hfz23_4 := blk_frozen BK102.out 4) | (go_at_call 40; (with_reducible refine (label_May.calls ((rd_T67 l0 x12_1).f2.f0) ((rd_T67 l0 x12_1).f2.f1) true _ A19.out).mono ?_); rintro e w24 ⟨rfl, hb⟩; replace BK102 := bb_ BK102 hb; replace HB := bs_ HB hb; (try clear hb); (try clear hb2); (try clear hk); (try clear hi)))
            go_roundg kj5
            case measure => have := HK1.out; have := HJ5.out; omega
            case rel => exact ⟨(wrap64 (x12_1 + 1)), (by first | rfl | (simp; done) | (simp [*]; done)), H', ⟨by have := HK1.out; have := HJ5.out; omega⟩, ⟨pbx HB⟩⟩
           ·replace c20 := Bool.eq_false_iff.mpr c20; subst c20
            have H1 : (some (x12_1, 7)) = some (r1, r2) := by rw [if_neg (show ¬ (false = true) by decide)] at H; exact H
            clear H; have H := H1; clear H1
            simp only [Option.some.injEq, Prod.mk.injEq] at H
            obtain ⟨rfl, rfl⟩ := H
            have hcz25_0 : wc.cell? ⟨gb102, 0, none⟩ = some (.string ((rd_T67 l0 x12_1).f0)) := bc_ BK102 0 rfl
            have hcz25_1 : wc.cell? ⟨gb102, 1, none⟩ = some (.int .i64 ((rd_T67 l0 x12_1).f1.f0)) := bc_ BK102 1 rfl
            have hcz25_2 : wc.cell? ⟨gb102, 2, none⟩ = some (.int .u64 ((rd_T67 l0 x12_1).f1.f1)) := bc_ BK102 2 rfl
            have hcz25_3 : wc.cell? ⟨gb102, 3, none⟩ = some (.int .i64 ((rd_T67 l0 x12_1).f2.f0)) := bc_ BK102 3 rfl
            have hcz25_4 : wc.cell? ⟨gb102, 4, none⟩ = some (.int .u64 ((rd_T67 l0 x12_1).f2.f1)) := bc_ BK102 4 rfl
            have hfz25_0 := blk_frozen BK102.out 0; have hfz25_1 := blk_frozen BK102.out 1; have hfz25_2 := blk_frozen BK102.out 2; have hfz25_3 := blk_frozen BK102.out 3; have hfz25_4 := blk_frozen BK102.out 4
            go_wp2_with (first | ((with_reducible refine gate_callee (f:=40) rfl ?_); refine gL_ (some 35) rfl rfl Tryd.func40 rfl #[.agg #[.int .i64 ((rd_T67 l0 x12_1).f1.f0), .int .u64 ((rd_T67 l0 x12_1).f1.f1)]] rfl ?_; (with_reducible refine (label_May.calls ((rd_T67 l0 x12_1).f1.f0) ((rd_T67 l0 x12_1).f1.f1) true _ A17.out).mono ?_); rintro e w26 ⟨rfl, hb⟩; refine ⟨_, rfl, ?_⟩; replace BK102 := bb_ BK102 hb; replace HB := bs_ HB hb; (try clear hb); (try clear hb2); (try clear hk); (try clear hi); have hcz27_0 : w26.cell? ⟨gb102, 0, none⟩ = some (.string ((rd_T67 l0 x12_1).f0)) := bc_ BK102 0 rfl; have hcz27_1 : w26.cell? ⟨gb102, 1, none⟩ = some (.int .i64 ((rd_T67 l0 x12_1).f1.f0)) := bc_ BK102 1 rfl; have hcz27_2 : w26.cell? ⟨gb102, 2, none⟩ = some (.int .u64 ((rd_T67 l0 x12_1).f1.f1)) := bc_ BK102 2 rfl; have hcz27_3 : w26.cell? ⟨gb102, 3, none⟩ = some (.int .i64 ((rd_T67 l0 x12_1).f2.f0)) := bc_ BK102 3 rfl; have hcz27_4 : w26.cell? ⟨gb102, 4, none⟩ = some (.int .u64 ((rd_T67 l0 x12_1).f2.f1)) := bc_ BK102 4 rfl; have hfz27_0 := blk_frozen BK102.out 0; have hfz27_1 := blk_frozen BK102.out 1; have hfz27_2 := blk_frozen BK102.out 2; have hfz27_3 := blk_frozen BK102.out 3; have hfz27_4 := blk_frozen BK102.out 4) | (go_at_call 40; (with_reducible refine (label_May.calls ((rd_T67 l0 x12_1).f2.f0) ((rd_T67 l0 x12_1).f2.f1) false _ A19.out).mono ?_); rintro e w28 ⟨rfl, hb⟩; replace BK102 := bb_ BK102 hb; replace HB := bs_ HB hb; (try clear hb); (try clear hb2); (try clear hk); (try clear hi)))
            go_ret2
            exact ⟨by first | rfl | (simp [errW_none, errW_some] <;> rfl) | (simp [*, errW_none, errW_some] <;> rfl), pbx HB⟩
          ·replace c18 := Bool.eq_false_iff.mpr c18; subst c18
           have H1 : (some (x12_1, 7)) = some (r1, r2) := by rw [if_neg (show ¬ (false = true) by decide)] at H; exact H
           clear H; have H := H1; clear H1
           simp only [Option.some.injEq, Prod.mk.injEq] at H
           obtain ⟨rfl, rfl⟩ := H
           have hcz29_0 : wc.cell? ⟨gb102, 0, none⟩ = some (.string ((rd_T67 l0 x12_1).f0)) := bc_ BK102 0 rfl
           have hcz29_1 : wc.cell? ⟨gb102, 1, none⟩ = some (.int .i64 ((rd_T67 l0 x12_1).f1.f0)) := bc_ BK102 1 rfl
           have hcz29_2 : wc.cell? ⟨gb102, 2, none⟩ = some (.int .u64 ((rd_T67 l0 x12_1).f1.f1)) := bc_ BK102 2 rfl
           have hcz29_3 : wc.cell? ⟨gb102, 3, none⟩ = some (.int .i64 ((rd_T67 l0 x12_1).f2.f0)) := bc_ BK102 3 rfl
           have hcz29_4 : wc.cell? ⟨gb102, 4, none⟩ = some (.int .u64 ((rd_T67 l0 x12_1).f2.f1)) := bc_ BK102 4 rfl
           have hfz29_0 := blk_frozen BK102.out 0; have hfz29_1 := blk_frozen BK102.out 1; have hfz29_2 := blk_frozen BK102.out 2; have hfz29_3 := blk_frozen BK102.out 3; have hfz29_4 := blk_frozen BK102.out 4
           go_wp2_with (first | ((with_reducible refine gate_callee (f:=40) rfl ?_); refine gL_ (some 35) rfl rfl Tryd.func40 rfl #[.agg #[.int .i64 ((rd_T67 l0 x12_1).f1.f0), .int .u64 ((rd_T67 l0 x12_1).f1.f1)]] rfl ?_; (with_reducible refine (label_May.calls ((rd_T67 l0 x12_1).f1.f0) ((rd_T67 l0 x12_1).f1.f1) false _ A17.out).mono ?_); rintro e w30 ⟨rfl, hb⟩; refine ⟨_, rfl, ?_⟩; replace BK102 := bb_ BK102 hb; replace HB := bs_ HB hb; (try clear hb); (try clear hb2); (try clear hk); (try clear hi)))
           go_ret2
           exact ⟨by first | rfl | (simp [errW_none, errW_some] <;> rfl) | (simp [*, errW_none, errW_some] <;> rfl), pbx HB⟩
         ·replace c16 := Bool.eq_false_iff.mpr c16; subst c16
          have H1 : (some (x12_1, 11)) = some (r1, r2) := by rw [if_neg (show ¬ (false = true) by decide)] at H; exact H
          clear H; have H := H1; clear H1
          simp only [Option.some.injEq, Prod.mk.injEq] at H
          obtain ⟨rfl, rfl⟩ := H
          go_wp2
          go_ret2
          exact ⟨by first | rfl | (simp [errW_none, errW_some] <;> rfl) | (simp [*, errW_none, errW_some] <;> rfl), pbx HB⟩
     ·rw [if_neg c5] at H
      exact absurd H (by simp)
    ·rw [if_neg c4] at H
     exact absurd H (by simp)
   ·rw [if_neg c3] at H; have c3b0 : decide (x12_1 < (l0.length : Int)) = false := decide_eq_false c3; clear c3
    simp only [Option.some.injEq, Prod.mk.injEq] at H
    obtain ⟨rfl, rfl⟩ := H
    go_wp2
    go_ret2
    exact ⟨by first | rfl | (simp [errW_none, errW_some] <;> rfl) | (simp [*, errW_none, errW_some] <;> rfl), pbx HB⟩

def policy_Wrong.j0 : Nat → Bool → Int → Int → List (S61) → List (S65) → List (S67) → Option (Int × Int)
 | 0, _, _, _, _, _, _ => none
 | k + 1, x36, x102000, x102001, x102002, x102003, x102004 => if x36 = true then (some (1, 2)) else ((zone_Wrong.f k x102002 x102000 x102001).bind fun bt102 => (if bt102.2 = 0 then ((right_Users.f k x102003).bind fun bt104 => (if bt104.2 = 0 then ((right_Grants.f k x102004 x102003).bind fun bt106 => (if bt106.2 = 0 then (some (0, 0)) else (some (wrap64 ((wrap64 ((wrap64 (2 + (x102002.length : Int))) + (x102003.length : Int))) + bt106.1), bt106.2)))) else (some (wrap64 ((wrap64 (2 + (x102002.length : Int))) + bt104.1), bt104.2)))) else (some (wrap64 (2 + bt102.1), bt102.2))))
def policy_Wrong.f (k : Nat) (a0_0 : Int) (a0_1 : Int) (l0_2 : List (S61)) (l0_3 : List (S65)) (l0_4 : List (S67)) : Option (Int × Int) := if a0_0 < 1 then (policy_Wrong.j0 k true a0_0 a0_1 l0_2 l0_3 l0_4) else (if a0_0 > 999 then (policy_Wrong.j0 k true a0_0 a0_1 l0_2 l0_3 l0_4) else (if a0_1 < 1 then (policy_Wrong.j0 k true a0_0 a0_1 l0_2 l0_3 l0_4) else (if a0_1 > 702 then (policy_Wrong.j0 k true a0_0 a0_1 l0_2 l0_3 l0_4) else (policy_Wrong.j0 k (decide ((wrap64 (a0_0 * a0_1)) > 400)) a0_0 a0_1 l0_2 l0_3 l0_4))))
theorem policy_Wrong.mono_l : ∀ k, (∀ y0 y1 y2 y3 y4 y5, LeO (policy_Wrong.j0 k y0 y1 y2 y3 y4 y5) (policy_Wrong.j0 (k + 1) y0 y1 y2 y3 y4 y5))
 | 0 => fun _ _ _ _ _ _ r h => by simp [policy_Wrong.j0] at h
 | k + 1 => by
  have ih0 := policy_Wrong.mono_l k
  ·intro y0 y1 y2 y3 y4 y5
   unfold policy_Wrong.j0
   repeat' first
   | (with_reducible exact ih0 _ _ _ _ _ _)
   | (with_reducible exact right_Grants.mono _ _ _)
   | (with_reducible exact right_Users.mono _ _)
   | (with_reducible exact zone_Wrong.mono _ _ _ _)
   | (with_reducible exact LeO.refl _)
   | (with_reducible exact LeO.none _)
   | (with_reducible refine LeO.ite ?_ ?_)
   | (with_reducible refine LeO.bind ?_ (fun _ => ?_))
theorem policy_Wrong.mono : ∀ a0 a1 a2 a3 a4 k, LeO (policy_Wrong.f k a0 a1 a2 a3 a4) (policy_Wrong.f (k + 1) a0 a1 a2 a3 a4) := by
 intro a0 a1 a2 a3 a4 k; have ih0 := policy_Wrong.mono_l k
 unfold policy_Wrong.f
 repeat' first
   | (with_reducible exact ih0 _ _ _ _ _ _)
   | (with_reducible exact right_Grants.mono _ _ _)
   | (with_reducible exact right_Users.mono _ _)
   | (with_reducible exact zone_Wrong.mono _ _ _ _)
   | (with_reducible exact LeO.refl _)
   | (with_reducible exact LeO.none _)
   | (with_reducible refine LeO.ite ?_ ?_)
   | (with_reducible refine LeO.bind ?_ (fun _ => ?_))
set_option maxHeartbeats 8000000 in
set_option maxRecDepth 100000 in
theorem policy_Wrong.calls (k : Nat) (a0_0 : Int) (a0_1 : Int) (A0_2 : Option Addr) (c0_2 : Nat) (l0_2 : List (S61)) (A0_3 : Option Addr) (c0_3 : Nat) (l0_3 : List (S65)) (A0_4 : Option Addr) (c0_4 : Nat) (l0_4 : List (S67)) (r1 : Int) (r2 : Int) (w : World) (hr0_2 : Kd.C k61 w A0_2 l0_2.length l0_2) (hc0_2 : l0_2.length ≤ c0_2) (hr0_3 : Kd.C k65 w A0_3 l0_3.length l0_3) (hc0_3 : l0_3.length ≤ c0_3) (hr0_4 : Kd.C k67 w A0_4 l0_4.length l0_4) (hc0_4 : l0_4.length ≤ c0_4) (h : policy_Wrong.f k a0_0 a0_1 l0_2 l0_3 l0_4 = some (r1, r2)) :
  Calls Tryd.prog 12 #[.agg #[.int .i64 a0_0, .int .i64 a0_1, .slice A0_2 l0_2.length c0_2, .slice A0_3 l0_3.length c0_3, .slice A0_4 l0_4.length c0_4]] w fun e w' => e = .returned (.tuple #[.int .i64 r1, .int .i64 r2]) ∧ Below w.heap.size w w' := by
 have hu26 := Tryd.underlying26; have HR0_2 := Aside0.mk hr0_2; have HC0_2 := Aside0.mk hc0_2; clear hr0_2 hc0_2; have HR0_3 := Aside0.mk hr0_3; have HC0_3 := Aside0.mk hc0_3; clear hr0_3 hc0_3; have HR0_4 := Aside0.mk hr0_4; have HC0_4 := Aside0.mk hc0_4; clear hr0_4 hc0_4; have HB := Aside0.mk (Below.refl w.heap.size w)
 have H : (if a0_0 < 1 then (policy_Wrong.j0 k true a0_0 a0_1 l0_2 l0_3 l0_4) else (if a0_0 > 999 then (policy_Wrong.j0 k true a0_0 a0_1 l0_2 l0_3 l0_4) else (if a0_1 < 1 then (policy_Wrong.j0 k true a0_0 a0_1 l0_2 l0_3 l0_4) else (if a0_1 > 702 then (policy_Wrong.j0 k true a0_0 a0_1 l0_2 l0_3 l0_4) else (policy_Wrong.j0 k (decide ((wrap64 (a0_0 * a0_1)) > 400)) a0_0 a0_1 l0_2 l0_3 l0_4))))) = some (r1, r2) := h
 clear h; have HC2 := Aside0.mk H; clear H
 go_enter Tryd.func12, Tryd.ntmps12
 go_upto_region 1 with (first | ((with_reducible refine gate_dst (N:=1) rfl ?_); refine be_ (N:=1) (cs := #[.int .i64 a0_0, .int .i64 a0_1, .slice A0_2 l0_2.length c0_2, .slice A0_3 l0_3.length c0_3, .slice A0_4 l0_4.length c0_4]) (t:=26) ?_; intro gb101 hg w3 hbox hb; have BK101 := Aside0.mk (hbox); replace HB := bs_ HB hb; clear hb hbox hg))
 (try simp only [q_])
 go_cut [36] (fun v36 wc => ∃ (kq : Nat) (x36_1 : Bool), v36 = .bool x36_1 ∧ Aside0 (policy_Wrong.j0 kq x36_1 a0_0 a0_1 l0_2 l0_3 l0_4 = some (r1, r2)) ∧ Aside0 (kq ≤ k) ∧ Aside0 (wc.heap[gb101]? = some (.cells #[.int .i64 a0_0, .int .i64 a0_1, (.slice A0_2 l0_2.length c0_2), (.slice A0_3 l0_3.length c0_3), (.slice A0_4 l0_4.length c0_4)] 26 (0, 0))) ∧ Aside0 (Below w.heap.size w wc))
 case first =>
  have H := HC2.out; clear HC2
  by_cases c4 : a0_0 < 1
  ·rw [if_pos c4] at H; have c4b0 : decide (a0_0 < 1) = true := decide_eq_true c4; clear c4; (first | rw [c4b0] | (simp only [i64_w, i32_w]; rw [c4b0]) | skip)
   have H' := Aside0.mk H
   clear H
   have hcz5_0 : w3.cell? ⟨gb101, 0, none⟩ = some (.int .i64 a0_0) := bc_ BK101 0 rfl
   have hcz5_1 : w3.cell? ⟨gb101, 1, none⟩ = some (.int .i64 a0_1) := bc_ BK101 1 rfl
   have hcz5_2 : w3.cell? ⟨gb101, 2, none⟩ = some (.slice A0_2 l0_2.length c0_2) := bc_ BK101 2 rfl
   have hcz5_3 : w3.cell? ⟨gb101, 3, none⟩ = some (.slice A0_3 l0_3.length c0_3) := bc_ BK101 3 rfl
   have hcz5_4 : w3.cell? ⟨gb101, 4, none⟩ = some (.slice A0_4 l0_4.length c0_4) := bc_ BK101 4 rfl
   go_wp2
   go_meet
   case rel => exact ⟨_, (true), (by first | rfl | (simp; done) | (simp [*]; done)), H', ⟨by first | omega | exact Nat.le_refl _⟩, ⟨pkx BK101⟩, ⟨pbx HB⟩⟩
  ·rw [if_neg c4] at H; have c4b0 : decide (a0_0 < 1) = false := decide_eq_false c4; clear c4; (first | rw [c4b0] | (simp only [i64_w, i32_w]; rw [c4b0]) | skip)
   by_cases c6 : a0_0 > 999
   ·rw [if_pos c6] at H; have c6b0 : decide (999 < a0_0) = true := decide_eq_true c6; clear c6
    have H' := Aside0.mk H
    clear H
    have hcz7_0 : w3.cell? ⟨gb101, 0, none⟩ = some (.int .i64 a0_0) := bc_ BK101 0 rfl
    have hcz7_1 : w3.cell? ⟨gb101, 1, none⟩ = some (.int .i64 a0_1) := bc_ BK101 1 rfl
    have hcz7_2 : w3.cell? ⟨gb101, 2, none⟩ = some (.slice A0_2 l0_2.length c0_2) := bc_ BK101 2 rfl
    have hcz7_3 : w3.cell? ⟨gb101, 3, none⟩ = some (.slice A0_3 l0_3.length c0_3) := bc_ BK101 3 rfl
    have hcz7_4 : w3.cell? ⟨gb101, 4, none⟩ = some (.slice A0_4 l0_4.length c0_4) := bc_ BK101 4 rfl
    go_wp2
    go_meet
    case rel => exact ⟨_, (true), (by first | rfl | (simp; done) | (simp [*]; done)), H', ⟨by first | omega | exact Nat.le_refl _⟩, ⟨pkx BK101⟩, ⟨pbx HB⟩⟩
   ·rw [if_neg c6] at H; have c6b0 : decide (999 < a0_0) = false := decide_eq_false c6; clear c6
    by_cases c8 : a0_1 < 1
    ·rw [if_pos c8] at H; have c8b0 : decide (a0_1 < 1) = true := decide_eq_true c8; clear c8
     have H' := Aside0.mk H
     clear H
     have hcz9_0 : w3.cell? ⟨gb101, 0, none⟩ = some (.int .i64 a0_0) := bc_ BK101 0 rfl
     have hcz9_1 : w3.cell? ⟨gb101, 1, none⟩ = some (.int .i64 a0_1) := bc_ BK101 1 rfl
     have hcz9_2 : w3.cell? ⟨gb101, 2, none⟩ = some (.slice A0_2 l0_2.length c0_2) := bc_ BK101 2 rfl
     have hcz9_3 : w3.cell? ⟨gb101, 3, none⟩ = some (.slice A0_3 l0_3.length c0_3) := bc_ BK101 3 rfl
     have hcz9_4 : w3.cell? ⟨gb101, 4, none⟩ = some (.slice A0_4 l0_4.length c0_4) := bc_ BK101 4 rfl
     go_wp2
     go_meet
     case rel => exact ⟨_, (true), (by first | rfl | (simp; done) | (simp [*]; done)), H', ⟨by first | omega | exact Nat.le_refl _⟩, ⟨pkx BK101⟩, ⟨pbx HB⟩⟩
    ·rw [if_neg c8] at H; have c8b0 : decide (a0_1 < 1) = false := decide_eq_false c8; clear c8
     by_cases c10 : a0_1 > 702
     ·rw [if_pos c10] at H; have c10b0 : decide (702 < a0_1) = true := decide_eq_true c10; clear c10
      have H' := Aside0.mk H
      clear H
      have hcz11_0 : w3.cell? ⟨gb101, 0, none⟩ = some (.int .i64 a0_0) := bc_ BK101 0 rfl
      have hcz11_1 : w3.cell? ⟨gb101, 1, none⟩ = some (.int .i64 a0_1) := bc_ BK101 1 rfl
      have hcz11_2 : w3.cell? ⟨gb101, 2, none⟩ = some (.slice A0_2 l0_2.length c0_2) := bc_ BK101 2 rfl
      have hcz11_3 : w3.cell? ⟨gb101, 3, none⟩ = some (.slice A0_3 l0_3.length c0_3) := bc_ BK101 3 rfl
      have hcz11_4 : w3.cell? ⟨gb101, 4, none⟩ = some (.slice A0_4 l0_4.length c0_4) := bc_ BK101 4 rfl
      go_wp2
      go_meet
      case rel => exact ⟨_, (true), (by first | rfl | (simp; done) | (simp [*]; done)), H', ⟨by first | omega | exact Nat.le_refl _⟩, ⟨pkx BK101⟩, ⟨pbx HB⟩⟩
     ·rw [if_neg c10] at H; have c10b0 : decide (702 < a0_1) = false := decide_eq_false c10; clear c10
      have H' := Aside0.mk H
      clear H
      have hcz12_0 : w3.cell? ⟨gb101, 0, none⟩ = some (.int .i64 a0_0) := bc_ BK101 0 rfl
      have hcz12_1 : w3.cell? ⟨gb101, 1, none⟩ = some (.int .i64 a0_1) := bc_ BK101 1 rfl
      have hcz12_2 : w3.cell? ⟨gb101, 2, none⟩ = some (.slice A0_2 l0_2.length c0_2) := bc_ BK101 2 rfl
      have hcz12_3 : w3.cell? ⟨gb101, 3, none⟩ = some (.slice A0_3 l0_3.length c0_3) := bc_ BK101 3 rfl
      have hcz12_4 : w3.cell? ⟨gb101, 4, none⟩ = some (.slice A0_4 l0_4.length c0_4) := bc_ BK101 4 rfl
      go_wp2
      go_meet
      case rel => exact ⟨_, (decide ((wrap64 (a0_0 * a0_1)) > 400)), (by first | rfl | (simp; done) | (simp [*]; done)), H', ⟨by first | omega | exact Nat.le_refl _⟩, ⟨pkx BK101⟩, ⟨pbx HB⟩⟩
 case rest =>
  clear HC2; (try clear c1); (try clear p2); (try clear c4); (try clear c4b0); (try clear c6); (try clear c6b0); (try clear p6); (try clear c8); (try clear c8b0); (try clear c10); (try clear c10b0); (try clear c12); (try clear hcz11_0); (try clear hcz11_1); (try clear hcz11_2); (try clear hcz11_3); (try clear hcz11_4); (try clear hcz12_0); (try clear hcz12_1); (try clear hcz12_2); (try clear hcz12_3); (try clear hcz12_4); (try clear hcz5_0); (try clear hcz5_1); (try clear hcz5_2); (try clear hcz5_3); (try clear hcz5_4); (try clear hcz7_0); (try clear hcz7_1); (try clear hcz7_2); (try clear hcz7_3); (try clear hcz7_4); (try clear hcz9_0); (try clear hcz9_1); (try clear hcz9_2); (try clear hcz9_3); (try clear hcz9_4); obtain ⟨kq, x36_1, rfl, HA, HJ1, BK101, HB⟩ := hcut
  cases kq with
  | zero => exact absurd HA.out (by simp [policy_Wrong.j0])
  | succ kj1 =>
   have H := HA.out; clear HA
   simp only [policy_Wrong.j0] at H
   by_cases c13 : x36_1 = true
   ·subst c13
    have H1 : (some (1, 2)) = some (r1, r2) := by rw [if_pos rfl] at H; exact H
    clear H; have H := H1; clear H1
    simp only [Option.some.injEq, Prod.mk.injEq] at H
    obtain ⟨rfl, rfl⟩ := H
    go_wp2
    go_ret2
    exact ⟨by first | rfl | (simp [errW_none, errW_some] <;> rfl) | (simp [*, errW_none, errW_some] <;> rfl), pbx HB⟩
   ·replace c13 := Bool.eq_false_iff.mpr c13; subst c13
    have H1 : ((zone_Wrong.f kj1 l0_2 a0_0 a0_1).bind fun bt102 => (if bt102.2 = 0 then ((right_Users.f kj1 l0_3).bind fun bt104 => (if bt104.2 = 0 then ((right_Grants.f kj1 l0_4 l0_3).bind fun bt106 => (if bt106.2 = 0 then (some (0, 0)) else (some (wrap64 ((wrap64 ((wrap64 (2 + (l0_2.length : Int))) + (l0_3.length : Int))) + bt106.1), bt106.2)))) else (some (wrap64 ((wrap64 (2 + (l0_2.length : Int))) + bt104.1), bt104.2)))) else (some (wrap64 (2 + bt102.1), bt102.2)))) = some (r1, r2) := by rw [if_neg (show ¬ (false = true) by decide)] at H; exact H
    clear H; have H := H1; clear H1; replace H := Option.bind_eq_some_iff.mp H; obtain ⟨⟨t102, t103⟩, A140, H⟩ := H
    replace H : (if t103 = 0 then ((right_Users.f kj1 l0_3).bind fun bt104 => (if bt104.2 = 0 then ((right_Grants.f kj1 l0_4 l0_3).bind fun bt106 => (if bt106.2 = 0 then (some (0, 0)) else (some (wrap64 ((wrap64 ((wrap64 (2 + (l0_2.length : Int))) + (l0_3.length : Int))) + bt106.1), bt106.2)))) else (some (wrap64 ((wrap64 (2 + (l0_2.length : Int))) + bt104.1), bt104.2)))) else (some (wrap64 (2 + t102), t103))) = some (r1, r2) := H
    have A14 := Aside0.mk A140; clear A140
    by_cases c15 : t103 = 0
    ·rw [if_pos c15] at H; have c15b0 : (t103 == 0) = true := beq_iff_eq.mpr c15; have c15b1 : (t103 != 0) = false := bne_eq_false_iff_eq.mpr c15; clear c15; replace H := Option.bind_eq_some_iff.mp H; obtain ⟨⟨t104, t105⟩, A160, H⟩ := H
     replace H : (if t105 = 0 then ((right_Grants.f kj1 l0_4 l0_3).bind fun bt106 => (if bt106.2 = 0 then (some (0, 0)) else (some (wrap64 ((wrap64 ((wrap64 (2 + (l0_2.length : Int))) + (l0_3.length : Int))) + bt106.1), bt106.2)))) else (some (wrap64 ((wrap64 (2 + (l0_2.length : Int))) + t104), t105))) = some (r1, r2) := H
     have A16 := Aside0.mk A160; clear A160
     by_cases c17 : t105 = 0
     ·rw [if_pos c17] at H; have c17b0 : (t105 == 0) = true := beq_iff_eq.mpr c17; have c17b1 : (t105 != 0) = false := bne_eq_false_iff_eq.mpr c17; clear c17; replace H := Option.bind_eq_some_iff.mp H; obtain ⟨⟨t106, t107⟩, A180, H⟩ := H
      replace H : (if t107 = 0 then (some (0, 0)) else (some (wrap64 ((wrap64 ((wrap64 (2 + (l0_2.length : Int))) + (l0_3.length : Int))) + t106), t107))) = some (r1, r2) := H
      have A18 := Aside0.mk A180; clear A180
      by_cases c19 : t107 = 0
      ·rw [if_pos c19] at H; have c19b0 : (t107 == 0) = true := beq_iff_eq.mpr c19; have c19b1 : (t107 != 0) = false := bne_eq_false_iff_eq.mpr c19; clear c19
       simp only [Option.some.injEq, Prod.mk.injEq] at H
       obtain ⟨rfl, rfl⟩ := H
       have hcz20_0 : wc.cell? ⟨gb101, 0, none⟩ = some (.int .i64 a0_0) := bc_ BK101 0 rfl
       have hcz20_1 : wc.cell? ⟨gb101, 1, none⟩ = some (.int .i64 a0_1) := bc_ BK101 1 rfl
       have hcz20_2 : wc.cell? ⟨gb101, 2, none⟩ = some (.slice A0_2 l0_2.length c0_2) := bc_ BK101 2 rfl
       have hcz20_3 : wc.cell? ⟨gb101, 3, none⟩ = some (.slice A0_3 l0_3.length c0_3) := bc_ BK101 3 rfl
       have hcz20_4 : wc.cell? ⟨gb101, 4, none⟩ = some (.slice A0_4 l0_4.length c0_4) := bc_ BK101 4 rfl
       go_wp2_with (first | ((with_reducible refine gate_callee (f:=32) rfl ?_); refine gL_ (some 44) rfl rfl Tryd.func32 rfl #[.slice A0_2 l0_2.length c0_2, .int .i64 a0_0, .int .i64 a0_1] rfl ?_; (with_reducible refine (zone_Wrong.calls kj1 _ _ l0_2 a0_0 a0_1 t102 t103 _ ?side1 ?side2 A14.out).mono ?_); (case side1 => repeat (first | exact (Kd.C_below HR0_2.out HB.out) | (with_reducible refine Kd.C_alloc ?_ _) | (with_reducible refine Kd.C_drewN ?_ _) | (with_reducible refine Kd.C_drew ?_))); (case side2 => exact HC0_2.out); rintro e w21 ⟨rfl, hb⟩; refine ⟨_, rfl, ?_⟩; replace BK101 := bb_ BK101 hb; replace HB := bs_ HB hb; (try clear hb); (try clear hb2); (try clear hk); (try clear hi); have hcz22_0 : w21.cell? ⟨gb101, 0, none⟩ = some (.int .i64 a0_0) := bc_ BK101 0 rfl; have hcz22_1 : w21.cell? ⟨gb101, 1, none⟩ = some (.int .i64 a0_1) := bc_ BK101 1 rfl; have hcz22_2 : w21.cell? ⟨gb101, 2, none⟩ = some (.slice A0_2 l0_2.length c0_2) := bc_ BK101 2 rfl; have hcz22_3 : w21.cell? ⟨gb101, 3, none⟩ = some (.slice A0_3 l0_3.length c0_3) := bc_ BK101 3 rfl; have hcz22_4 : w21.cell? ⟨gb101, 4, none⟩ = some (.slice A0_4 l0_4.length c0_4) := bc_ BK101 4 rfl) | ((with_reducible refine gate_callee (f:=33) rfl ?_); refine gL_ (some 61) rfl rfl Tryd.func33 rfl #[.slice A0_3 l0_3.length c0_3] rfl ?_; (with_reducible refine (right_Users.calls kj1 _ _ l0_3 t104 t105 _ ?side1 ?side2 A16.out).mono ?_); (case side1 => repeat (first | exact (Kd.C_below HR0_3.out HB.out) | (with_reducible refine Kd.C_alloc ?_ _) | (with_reducible refine Kd.C_drewN ?_ _) | (with_reducible refine Kd.C_drew ?_))); (case side2 => exact HC0_3.out); rintro e w23 ⟨rfl, hb⟩; refine ⟨_, rfl, ?_⟩; replace BK101 := bb_ BK101 hb; replace HB := bs_ HB hb; (try clear hb); (try clear hb2); (try clear hk); (try clear hi); have hcz24_0 : w23.cell? ⟨gb101, 0, none⟩ = some (.int .i64 a0_0) := bc_ BK101 0 rfl; have hcz24_1 : w23.cell? ⟨gb101, 1, none⟩ = some (.int .i64 a0_1) := bc_ BK101 1 rfl; have hcz24_2 : w23.cell? ⟨gb101, 2, none⟩ = some (.slice A0_2 l0_2.length c0_2) := bc_ BK101 2 rfl; have hcz24_3 : w23.cell? ⟨gb101, 3, none⟩ = some (.slice A0_3 l0_3.length c0_3) := bc_ BK101 3 rfl; have hcz24_4 : w23.cell? ⟨gb101, 4, none⟩ = some (.slice A0_4 l0_4.length c0_4) := bc_ BK101 4 rfl) | ((with_reducible refine gate_callee (f:=34) rfl ?_); refine gL_ (some 80) rfl rfl Tryd.func34 rfl #[.slice A0_4 l0_4.length c0_4, .slice A0_3 l0_3.length c0_3] rfl ?_; (with_reducible refine (right_Grants.calls kj1 _ _ l0_4 _ _ l0_3 t106 t107 _ ?side1 ?side2 ?side3 ?side4 A18.out).mono ?_); (case side1 => repeat (first | exact (Kd.C_below HR0_4.out HB.out) | (with_reducible refine Kd.C_alloc ?_ _) | (with_reducible refine Kd.C_drewN ?_ _) | (with_reducible refine Kd.C_drew ?_))); (case side2 => exact HC0_4.out); (case side3 => repeat (first | exact (Kd.C_below HR0_3.out HB.out) | (with_reducible refine Kd.C_alloc ?_ _) | (with_reducible refine Kd.C_drewN ?_ _) | (with_reducible refine Kd.C_drew ?_))); (case side4 => exact HC0_3.out); rintro e w25 ⟨rfl, hb⟩; refine ⟨_, rfl, ?_⟩; replace BK101 := bb_ BK101 hb; replace HB := bs_ HB hb; (try clear hb); (try clear hb2); (try clear hk); (try clear hi)))
       go_ret2
       exact ⟨by first | rfl | (simp [errW_none, errW_some] <;> rfl) | (simp [*, errW_none, errW_some] <;> rfl), pbx HB⟩
      ·rw [if_neg c19] at H; have c19b0 : (t107 == 0) = false := beq_eq_false_iff_ne.mpr c19; have c19b1 : (t107 != 0) = true := bne_iff_ne.mpr c19
       simp only [Option.some.injEq, Prod.mk.injEq] at H
       obtain ⟨rfl, rfl⟩ := H
       have hcz26_0 : wc.cell? ⟨gb101, 0, none⟩ = some (.int .i64 a0_0) := bc_ BK101 0 rfl
       have hcz26_1 : wc.cell? ⟨gb101, 1, none⟩ = some (.int .i64 a0_1) := bc_ BK101 1 rfl
       have hcz26_2 : wc.cell? ⟨gb101, 2, none⟩ = some (.slice A0_2 l0_2.length c0_2) := bc_ BK101 2 rfl
       have hcz26_3 : wc.cell? ⟨gb101, 3, none⟩ = some (.slice A0_3 l0_3.length c0_3) := bc_ BK101 3 rfl
       have hcz26_4 : wc.cell? ⟨gb101, 4, none⟩ = some (.slice A0_4 l0_4.length c0_4) := bc_ BK101 4 rfl
       go_wp2_with (first | ((with_reducible refine gate_callee (f:=32) rfl ?_); refine gL_ (some 44) rfl rfl Tryd.func32 rfl #[.slice A0_2 l0_2.length c0_2, .int .i64 a0_0, .int .i64 a0_1] rfl ?_; (with_reducible refine (zone_Wrong.calls kj1 _ _ l0_2 a0_0 a0_1 t102 t103 _ ?side1 ?side2 A14.out).mono ?_); (case side1 => repeat (first | exact (Kd.C_below HR0_2.out HB.out) | (with_reducible refine Kd.C_alloc ?_ _) | (with_reducible refine Kd.C_drewN ?_ _) | (with_reducible refine Kd.C_drew ?_))); (case side2 => exact HC0_2.out); rintro e w27 ⟨rfl, hb⟩; refine ⟨_, rfl, ?_⟩; replace BK101 := bb_ BK101 hb; replace HB := bs_ HB hb; (try clear hb); (try clear hb2); (try clear hk); (try clear hi); have hcz28_0 : w27.cell? ⟨gb101, 0, none⟩ = some (.int .i64 a0_0) := bc_ BK101 0 rfl; have hcz28_1 : w27.cell? ⟨gb101, 1, none⟩ = some (.int .i64 a0_1) := bc_ BK101 1 rfl; have hcz28_2 : w27.cell? ⟨gb101, 2, none⟩ = some (.slice A0_2 l0_2.length c0_2) := bc_ BK101 2 rfl; have hcz28_3 : w27.cell? ⟨gb101, 3, none⟩ = some (.slice A0_3 l0_3.length c0_3) := bc_ BK101 3 rfl; have hcz28_4 : w27.cell? ⟨gb101, 4, none⟩ = some (.slice A0_4 l0_4.length c0_4) := bc_ BK101 4 rfl) | ((with_reducible refine gate_callee (f:=33) rfl ?_); refine gL_ (some 61) rfl rfl Tryd.func33 rfl #[.slice A0_3 l0_3.length c0_3] rfl ?_; (with_reducible refine (right_Users.calls kj1 _ _ l0_3 t104 t105 _ ?side1 ?side2 A16.out).mono ?_); (case side1 => repeat (first | exact (Kd.C_below HR0_3.out HB.out) | (with_reducible refine Kd.C_alloc ?_ _) | (with_reducible refine Kd.C_drewN ?_ _) | (with_reducible refine Kd.C_drew ?_))); (case side2 => exact HC0_3.out); rintro e w29 ⟨rfl, hb⟩; refine ⟨_, rfl, ?_⟩; replace BK101 := bb_ BK101 hb; replace HB := bs_ HB hb; (try clear hb); (try clear hb2); (try clear hk); (try clear hi); have hcz30_0 : w29.cell? ⟨gb101, 0, none⟩ = some (.int .i64 a0_0) := bc_ BK101 0 rfl; have hcz30_1 : w29.cell? ⟨gb101, 1, none⟩ = some (.int .i64 a0_1) := bc_ BK101 1 rfl; have hcz30_2 : w29.cell? ⟨gb101, 2, none⟩ = some (.slice A0_2 l0_2.length c0_2) := bc_ BK101 2 rfl; have hcz30_3 : w29.cell? ⟨gb101, 3, none⟩ = some (.slice A0_3 l0_3.length c0_3) := bc_ BK101 3 rfl; have hcz30_4 : w29.cell? ⟨gb101, 4, none⟩ = some (.slice A0_4 l0_4.length c0_4) := bc_ BK101 4 rfl) | ((with_reducible refine gate_callee (f:=34) rfl ?_); refine gL_ (some 80) rfl rfl Tryd.func34 rfl #[.slice A0_4 l0_4.length c0_4, .slice A0_3 l0_3.length c0_3] rfl ?_; (with_reducible refine (right_Grants.calls kj1 _ _ l0_4 _ _ l0_3 t106 t107 _ ?side1 ?side2 ?side3 ?side4 A18.out).mono ?_); (case side1 => repeat (first | exact (Kd.C_below HR0_4.out HB.out) | (with_reducible refine Kd.C_alloc ?_ _) | (with_reducible refine Kd.C_drewN ?_ _) | (with_reducible refine Kd.C_drew ?_))); (case side2 => exact HC0_4.out); (case side3 => repeat (first | exact (Kd.C_below HR0_3.out HB.out) | (with_reducible refine Kd.C_alloc ?_ _) | (with_reducible refine Kd.C_drewN ?_ _) | (with_reducible refine Kd.C_drew ?_))); (case side4 => exact HC0_3.out); rintro e w31 ⟨rfl, hb⟩; refine ⟨_, rfl, ?_⟩; replace BK101 := bb_ BK101 hb; replace HB := bs_ HB hb; (try clear hb); (try clear hb2); (try clear hk); (try clear hi)))
       go_ret2
       exact ⟨by first | rfl | (simp [errW_none, errW_some] <;> rfl) | (simp [*, errW_none, errW_some] <;> rfl), pbx HB⟩
     ·rw [if_neg c17] at H; have c17b0 : (t105 == 0) = false := beq_eq_false_iff_ne.mpr c17; have c17b1 : (t105 != 0) = true := bne_iff_ne.mpr c17
      simp only [Option.some.injEq, Prod.mk.injEq] at H
      obtain ⟨rfl, rfl⟩ := H
      have hcz32_0 : wc.cell? ⟨gb101, 0, none⟩ = some (.int .i64 a0_0) := bc_ BK101 0 rfl
      have hcz32_1 : wc.cell? ⟨gb101, 1, none⟩ = some (.int .i64 a0_1) := bc_ BK101 1 rfl
      have hcz32_2 : wc.cell? ⟨gb101, 2, none⟩ = some (.slice A0_2 l0_2.length c0_2) := bc_ BK101 2 rfl
      have hcz32_3 : wc.cell? ⟨gb101, 3, none⟩ = some (.slice A0_3 l0_3.length c0_3) := bc_ BK101 3 rfl
      have hcz32_4 : wc.cell? ⟨gb101, 4, none⟩ = some (.slice A0_4 l0_4.length c0_4) := bc_ BK101 4 rfl
      go_wp2_with (first | ((with_reducible refine gate_callee (f:=32) rfl ?_); refine gL_ (some 44) rfl rfl Tryd.func32 rfl #[.slice A0_2 l0_2.length c0_2, .int .i64 a0_0, .int .i64 a0_1] rfl ?_; (with_reducible refine (zone_Wrong.calls kj1 _ _ l0_2 a0_0 a0_1 t102 t103 _ ?side1 ?side2 A14.out).mono ?_); (case side1 => repeat (first | exact (Kd.C_below HR0_2.out HB.out) | (with_reducible refine Kd.C_alloc ?_ _) | (with_reducible refine Kd.C_drewN ?_ _) | (with_reducible refine Kd.C_drew ?_))); (case side2 => exact HC0_2.out); rintro e w33 ⟨rfl, hb⟩; refine ⟨_, rfl, ?_⟩; replace BK101 := bb_ BK101 hb; replace HB := bs_ HB hb; (try clear hb); (try clear hb2); (try clear hk); (try clear hi); have hcz34_0 : w33.cell? ⟨gb101, 0, none⟩ = some (.int .i64 a0_0) := bc_ BK101 0 rfl; have hcz34_1 : w33.cell? ⟨gb101, 1, none⟩ = some (.int .i64 a0_1) := bc_ BK101 1 rfl; have hcz34_2 : w33.cell? ⟨gb101, 2, none⟩ = some (.slice A0_2 l0_2.length c0_2) := bc_ BK101 2 rfl; have hcz34_3 : w33.cell? ⟨gb101, 3, none⟩ = some (.slice A0_3 l0_3.length c0_3) := bc_ BK101 3 rfl; have hcz34_4 : w33.cell? ⟨gb101, 4, none⟩ = some (.slice A0_4 l0_4.length c0_4) := bc_ BK101 4 rfl) | ((with_reducible refine gate_callee (f:=33) rfl ?_); refine gL_ (some 61) rfl rfl Tryd.func33 rfl #[.slice A0_3 l0_3.length c0_3] rfl ?_; (with_reducible refine (right_Users.calls kj1 _ _ l0_3 t104 t105 _ ?side1 ?side2 A16.out).mono ?_); (case side1 => repeat (first | exact (Kd.C_below HR0_3.out HB.out) | (with_reducible refine Kd.C_alloc ?_ _) | (with_reducible refine Kd.C_drewN ?_ _) | (with_reducible refine Kd.C_drew ?_))); (case side2 => exact HC0_3.out); rintro e w35 ⟨rfl, hb⟩; refine ⟨_, rfl, ?_⟩; replace BK101 := bb_ BK101 hb; replace HB := bs_ HB hb; (try clear hb); (try clear hb2); (try clear hk); (try clear hi)))
      go_ret2
      exact ⟨by first | rfl | (simp [errW_none, errW_some] <;> rfl) | (simp [*, errW_none, errW_some] <;> rfl), pbx HB⟩
    ·rw [if_neg c15] at H; have c15b0 : (t103 == 0) = false := beq_eq_false_iff_ne.mpr c15; have c15b1 : (t103 != 0) = true := bne_iff_ne.mpr c15
     simp only [Option.some.injEq, Prod.mk.injEq] at H
     obtain ⟨rfl, rfl⟩ := H
     have hcz36_0 : wc.cell? ⟨gb101, 0, none⟩ = some (.int .i64 a0_0) := bc_ BK101 0 rfl
     have hcz36_1 : wc.cell? ⟨gb101, 1, none⟩ = some (.int .i64 a0_1) := bc_ BK101 1 rfl
     have hcz36_2 : wc.cell? ⟨gb101, 2, none⟩ = some (.slice A0_2 l0_2.length c0_2) := bc_ BK101 2 rfl
     have hcz36_3 : wc.cell? ⟨gb101, 3, none⟩ = some (.slice A0_3 l0_3.length c0_3) := bc_ BK101 3 rfl
     have hcz36_4 : wc.cell? ⟨gb101, 4, none⟩ = some (.slice A0_4 l0_4.length c0_4) := bc_ BK101 4 rfl
     go_wp2_with (first | ((with_reducible refine gate_callee (f:=32) rfl ?_); refine gL_ (some 44) rfl rfl Tryd.func32 rfl #[.slice A0_2 l0_2.length c0_2, .int .i64 a0_0, .int .i64 a0_1] rfl ?_; (with_reducible refine (zone_Wrong.calls kj1 _ _ l0_2 a0_0 a0_1 t102 t103 _ ?side1 ?side2 A14.out).mono ?_); (case side1 => repeat (first | exact (Kd.C_below HR0_2.out HB.out) | (with_reducible refine Kd.C_alloc ?_ _) | (with_reducible refine Kd.C_drewN ?_ _) | (with_reducible refine Kd.C_drew ?_))); (case side2 => exact HC0_2.out); rintro e w37 ⟨rfl, hb⟩; refine ⟨_, rfl, ?_⟩; replace BK101 := bb_ BK101 hb; replace HB := bs_ HB hb; (try clear hb); (try clear hb2); (try clear hk); (try clear hi)))
     go_ret2
     exact ⟨by first | rfl | (simp [errW_none, errW_some] <;> rfl) | (simp [*, errW_none, errW_some] <;> rfl), pbx HB⟩

end Go.Proofs.YtbboanfggaknjaaDoor.X
/- policy.Parse: what it computes, and more rounds. -/
set_option linter.unusedVariables false
set_option linter.unusedSimpArgs false
namespace Go.Proofs.YtbboanfggaknjaaDoor.X
open Go.RowKit Go.Proofs.YtbboanfggaknjaaDoorW.PrintWords Go.Proofs.YtbboanfggaknjaaDoorW.PrintLast Go.Proofs.YtbboanfggaknjaaDoorW.PrintMore
abbrev T7 : Type := Int × Int × Int × Int × List S61 × List S65 × List S67
def fin7 (e n r c : Int) (zs : List S61) (us : List S65) (gs : List S67) : T7 := if e = 0 then (0, 0, r, c, zs, us, gs) else (e, n, 0, 0, [], [], [])
def bad7 (ended : Bool) (kind : Int) (n : Nat) (last : Int) : Prop := ended = false ∨ kind = 4 ∨ ¬ (n = 0 ↔ kind = 0) ∨ (0 < n ∧ kind < last)
instance (ended : Bool) (kind : Int) (n : Nat) (last : Int) : Decidable (bad7 ended kind n last) := by unfold bad7; exact inferInstance
def policy_Parse.l (k : Nat) : Nat → Int → Nat → ByteArray → Int → Int → List S61 → List S65 → List S67 → Option T7
  | 0, _, _, _, _, _, _, _, _ => none
  | m + 1, last, n, rest, r, c, zs, us, gs =>
    if rest.toList ≠ [] ∨ n = 0 then
      if n < 100000 then
        (strings_Cut.f rest ⟨#[10]⟩).bind fun b => (strings_Split.f b.1 ⟨#[32]⟩).bind fun ws => (policy_add.f k r c zs us gs ws).bind fun q =>
        if bad7 b.2.2 q.1 n last then some (1, ((n : Int) + 1), 0, 0, [], [], [])
        else policy_Parse.l k m q.1 (n + 1) b.2.1 q.2.1 q.2.2.1 q.2.2.2.1 q.2.2.2.2.1 q.2.2.2.2.2
      else none
    else (policy_Wrong.f k r c zs us gs).bind fun e => some (fin7 e.2 e.1 r c zs us gs)
def policy_Parse.f (k : Nat) (a0 : ByteArray) : Option T7 :=
  if (a0.size : Int) > 4000 then some (3, 0, 0, 0, [], [], []) else policy_Parse.l k k 4 0 a0 0 0 [] [] []
theorem policy_Parse.mono_l (k : Nat) : ∀ m last n rest r c zs us gs, LeO (policy_Parse.l k m last n rest r c zs us gs) (policy_Parse.l (k + 1) (m + 1) last n rest r c zs us gs) := by
  intro m
  induction m with
  | zero => intro last n rest r c zs us gs v h; simp [policy_Parse.l] at h
  | succ m ih =>
    intro last n rest r c zs us gs
    unfold policy_Parse.l
    repeat' first
      | (with_reducible exact ih _ _ _ _ _ _ _ _)
      | (with_reducible exact policy_add.mono _ _ _ _ _ _ _)
      | (with_reducible exact policy_Wrong.mono _ _ _ _ _ _)
      | (with_reducible exact LeO.refl _)
      | (with_reducible refine LeO.ite ?_ ?_)
      | (with_reducible refine LeO.bind ?_ (fun _ => ?_))
theorem policy_Parse.mono : ∀ a0 k, LeO (policy_Parse.f k a0) (policy_Parse.f (k + 1) a0) := by
  intro a0 k
  unfold policy_Parse.f
  exact LeO.ite (LeO.refl _) (policy_Parse.mono_l k _ _ _ _ _ _ _ _ _)
end Go.Proofs.YtbboanfggaknjaaDoor.X
/- policy.Parse, walked. -/
set_option linter.unusedVariables false
set_option linter.unusedSimpArgs false
namespace Go.Proofs.YtbboanfggaknjaaDoor.X
open Go.RowKit Go.Proofs.YtbboanfggaknjaaDoorW.PrintWords Go.Proofs.YtbboanfggaknjaaDoorW.PrintLast Go.Proofs.YtbboanfggaknjaaDoorW.PrintMore
theorem cells5_ {W : World} {g : Nat} {t : TypeId} {a0 a1 a2 a3 a4 : Value} (h : W.heap[g]? = some (.cells #[a0, a1, a2, a3, a4] t (0, 0))) : W.cell? ⟨g, 0, none⟩ = some a0 ∧ W.cell? ⟨g, 1, none⟩ = some a1 ∧ W.cell? ⟨g, 2, none⟩ = some a2 ∧ W.cell? ⟨g, 3, none⟩ = some a3 ∧ W.cell? ⟨g, 4, none⟩ = some a4 := ⟨(blk_cell h 0).trans rfl, (blk_cell h 1).trans rfl, (blk_cell h 2).trans rfl, (blk_cell h 3).trans rfl, (blk_cell h 4).trans rfl⟩
def Ans7 (w w' : World) (en : Ending) (e n r c : Int) (zs : List S61) (us : List S65) (gs : List S67) : Prop :=
  ∃ vz vu vg, en = .returned (.tuple #[.agg #[.int .i64 r, .int .i64 c, vz, vu, vg], .int .i64 n, .int .i64 e]) ∧ k61.R 61 w' w.heap.size (fun _ => True) vz zs ∧ k65.R 65 w' w.heap.size (fun _ => True) vu us ∧ k67.R 67 w' w.heap.size (fun _ => True) vg gs ∧ Below w.heap.size w w'
theorem put5_ {W : World} {g t : Nat} {a0 a1 a2 a3 a4 : Value} (h : W.heap[g]? = some (.cells #[a0, a1, a2, a3, a4] t (0, 0))) (b0 b1 b2 b3 b4 : Value) : (((((W.setCell ⟨g, 0, none⟩ b0).setCell ⟨g, 1, none⟩ b1).setCell ⟨g, 2, none⟩ b2).setCell ⟨g, 3, none⟩ b3).setCell ⟨g, 4, none⟩ b4).heap[g]? = some (.cells #[b0, b1, b2, b3, b4] t (0, 0)) := by
  have h0 := blk_set h 0 b0
  have h1 := blk_set h0 1 b1
  have h2 := blk_set h1 2 b2
  have h3 := blk_set h2 3 b3
  have h4 := blk_set h3 4 b4
  simpa using h4
theorem below5_ {w W : World} {g : Nat} (h : Below w.heap.size w W) (hg : w.heap.size ≤ g) (b0 b1 b2 b3 b4 : Value) : Below w.heap.size w (((((W.setCell ⟨g, 0, none⟩ b0).setCell ⟨g, 1, none⟩ b1).setCell ⟨g, 2, none⟩ b2).setCell ⟨g, 3, none⟩ b3).setCell ⟨g, 4, none⟩ b4) := below_set (below_set (below_set (below_set (below_set h hg) hg) hg) hg) hg
set_option maxHeartbeats 4000000 in
set_option maxRecDepth 100000 in
theorem parse_long (a0 : ByteArray) (w : World) (h : (a0.size : Int) > 4000) :
    Calls Tryd.prog 9 #[.string a0] w fun en w' => Ans7 w w' en 3 0 0 0 [] [] [] := by
  have hu := Tryd.underlying26
  have hd1 : decide ((a0.size : Int) > 4000) = true := decide_eq_true h
  have hd2 : decide (4000 < a0.size) = true := decide_eq_true (by omega)
  clear h
  go_enter Tryd.func9, Tryd.ntmps9
  go_upto_region 1 with fail
  have HG := Aside0.mk (blk_new w (.cells #[.int .i64 0, .int .i64 0, .slice none 0 0, .slice none 0 0, .slice none 0 0] 26))
  have HB := Aside0.mk (new_below w (.cells #[.int .i64 0, .int .i64 0, .slice none 0 0, .slice none 0 0, .slice none 0 0] 26))
  generalize w.alloc (.cells #[.int .i64 0, .int .i64 0, .slice none 0 0, .slice none 0 0, .slice none 0 0] 26) = w1 at HG HB ⊢
  obtain ⟨z0, z1, z2, z3, z4⟩ := cells5_ HG.out
  have f0 := blk_frozen HG.out 0
  have f1 := blk_frozen HG.out 1
  have f2 := blk_frozen HG.out 2
  have f3 := blk_frozen HG.out 3
  have f4 := blk_frozen HG.out 4
  go_wp2
  refine bodyPost_ret (results_ctt rfl _ _ w.heap.size 26 _ (0, 0) _ rfl (put5_ HG.out _ _ _ _ _) hu rfl (by kernel_rfl)) rfl ?_
  exact ⟨_, _, _, rfl, Kd.R_nil _ _ _ _ _, Kd.R_nil _ _ _ _ _, Kd.R_nil _ _ _ _ _, below5_ HB.out (Nat.le_refl _) _ _ _ _ _⟩
def Rel7 (k : Nat) (w0 : World) (g kq : Nat) (v6 v7 v8 : Value) (w' : World) (R : T7) : Prop :=
  ∃ (last : Int) (n : Nat) (rest : ByteArray) (r c : Int) (vz vu vg : Value) (zs : List S61) (us : List S65) (gs : List S67), v6 = .int .i64 last ∧ v7 = .int .i64 (n : Int) ∧ v8 = .string rest ∧ Aside0 (IsP w0 w' g r c vz vu vg zs us gs) ∧ Aside0 (policy_Parse.l k kq last n rest r c zs us gs = some R) ∧ Aside0 (kq ≤ k)
theorem par_ways (ended : Bool) (kind : Int) (n : Nat) (last : Int) :
    (bad7 ended kind n last ∧ ended = false) ∨ (bad7 ended kind n last ∧ ended = true ∧ kind = 4) ∨
    (bad7 ended kind n last ∧ ended = true ∧ ¬ kind = 4 ∧ (kind == 4) = false ∧ ¬ (((n : Int) + 1 == 1) = (kind == 0))) ∨
    (bad7 ended kind n last ∧ ended = true ∧ ¬ kind = 4 ∧ (kind == 4) = false ∧ ((n : Int) + 1 == 1) = (kind == 0) ∧ 1 < (n : Int) + 1 ∧ kind < last) ∨
    (¬ bad7 ended kind n last ∧ ended = true ∧ ¬ kind = 4 ∧ (kind == 4) = false ∧ ((n : Int) + 1 == 1) = (kind == 0) ∧ 1 < (n : Int) + 1 ∧ ¬ kind < last) ∨
    (¬ bad7 ended kind n last ∧ ended = true ∧ ¬ kind = 4 ∧ (kind == 4) = false ∧ ((n : Int) + 1 == 1) = (kind == 0) ∧ ¬ 1 < (n : Int) + 1) := by
  have e0 : ((n : Int) + 1 == 1) = decide (n = 0) := by rw [Bool.eq_iff_iff]; simp only [beq_iff_eq, decide_eq_true_eq]; omega
  have e1 : (kind == 0) = decide (kind = 0) := rfl
  have e2 : ((n : Int) + 1 == 1) = (kind == 0) ↔ (n = 0 ↔ kind = 0) := by rw [e0, e1, decide_eq_decide]
  have e4 : (kind == 4) = false ↔ ¬ kind = 4 := by simp
  rw [e2, e4]
  unfold bad7
  cases ended with
  | false => exact Or.inl ⟨Or.inl rfl, rfl⟩
  | true =>
    by_cases h4 : kind = 4
    · exact Or.inr (Or.inl ⟨Or.inr (Or.inl h4), rfl, h4⟩)
    · by_cases hm : (n = 0 ↔ kind = 0)
      · by_cases hn : 0 < n
        · by_cases hl : kind < last
          · exact Or.inr (Or.inr (Or.inr (Or.inl ⟨Or.inr (Or.inr (Or.inr ⟨hn, hl⟩)), rfl, h4, h4, hm, by omega, hl⟩)))
          · exact Or.inr (Or.inr (Or.inr (Or.inr (Or.inl ⟨by rintro (h | h | h | h); cases h; exact h4 h; exact h hm; exact hl h.2, rfl, h4, h4, hm, by omega, hl⟩))))
        · exact Or.inr (Or.inr (Or.inr (Or.inr (Or.inr ⟨by rintro (h | h | h | h); cases h; exact h4 h; exact h hm; exact hn h.1, rfl, h4, h4, hm, by omega⟩))))
      · exact Or.inr (Or.inr (Or.inl ⟨Or.inr (Or.inr (Or.inl hm)), rfl, h4, h4, hm⟩))
theorem R_set5 {α : Type} {d : Kd α} {e b : Nat} {w : World} {ok : Nat → Prop} {v : Value} {xs : List α} {g t : Nat} {cs : Array Value} (h : d.R e w b ok v xs) (hP : w.heap[g]? = some (.cells cs t (0, 0))) (ht : ∀ q, q ∈ e :: d.E → q ≠ t) (b0 b1 b2 b3 b4 : Value) : d.R e (((((w.setCell ⟨g, 0, none⟩ b0).setCell ⟨g, 1, none⟩ b1).setCell ⟨g, 2, none⟩ b2).setCell ⟨g, 3, none⟩ b3).setCell ⟨g, 4, none⟩ b4) b ok v xs := by
  have h0 := blk_set hP 0 b0
  have h1 := blk_set h0 1 b1
  have h2 := blk_set h1 2 b2
  have h3 := blk_set h2 3 b3
  exact Kd.R_set (Kd.R_set (Kd.R_set (Kd.R_set (Kd.R_set h hP ht 0 b0) h0 ht 1 b1) h1 ht 2 b2) h2 ht 3 b3) h3 ht 4 b4
theorem beq_dec (a b : Int) : ((a == b) = true ∧ (a != b) = false ∧ a = b) ∨ ((a == b) = false ∧ (a != b) = true ∧ ¬ a = b) := by
  by_cases h : a = b
  · exact Or.inl ⟨beq_iff_eq.mpr h, bne_eq_false_iff_eq.mpr h, h⟩
  · exact Or.inr ⟨beq_eq_false_iff_ne.mpr h, bne_iff_ne.mpr h, h⟩
theorem tab7 {w w1 w2 : World} {g : Nat} {r c : Int} {vz vu vg : Value} {zs : List S61} {us : List S65} {gs : List S67} (hT : Aside0 (Tab w)) (hb : Aside0 (Below w.heap.size w w1)) (hI : Aside0 (IsP w1 w2 g r c vz vu vg zs us gs)) : Tab w2 := (hT.out.below hb.out).below hI.out.hB
set_option maxHeartbeats 4000000 in
set_option maxRecDepth 100000 in
theorem parse_short (k : Nat) (a0 : ByteArray) (e9 n9 r9 c9 : Int) (zs9 : List S61) (us9 : List S65) (gs9 : List S67) (w : World) (hT : Aside0 (Tab w)) (h : ¬ (a0.size : Int) > 4000) (H0 : policy_Parse.l k k 4 0 a0 0 0 [] [] [] = some (e9, n9, r9, c9, zs9, us9, gs9)) :
    Calls Tryd.prog 9 #[.string a0] w fun en w' => Ans7 w w' en e9 n9 r9 c9 zs9 us9 gs9 := by
  have HL := Aside0.mk H0
  clear H0
  have hu := Tryd.underlying26
  have hd1 : decide ((a0.size : Int) > 4000) = false := decide_eq_false h
  have hd2 : decide (4000 < a0.size) = false := decide_eq_false (by omega)
  clear h
  go_enter Tryd.func9, Tryd.ntmps9
  go_upto_region 1 with fail
  have HG := Aside0.mk (blk_new w (.cells #[.int .i64 0, .int .i64 0, .slice none 0 0, .slice none 0 0, .slice none 0 0] 26))
  have HB := Aside0.mk (new_below w (.cells #[.int .i64 0, .int .i64 0, .slice none 0 0, .slice none 0 0, .slice none 0 0] 26))
  generalize w.alloc (.cells #[.int .i64 0, .int .i64 0, .slice none 0 0, .slice none 0 0, .slice none 0 0] 26) = w1 at HG HB ⊢
  obtain ⟨g1, hg1⟩ : ∃ g1, w.heap.size = g1 := ⟨_, rfl⟩
  have HG1 : Aside0 (w.heap.size ≤ g1) := Aside0.mk (by omega)
  rw [hg1] at HG ⊢
  clear hg1
  go_upto_region 4 with fail
  have HI : Aside0 (IsP w1 _ _ 0 0 (.slice none 0 0) (.slice none 0 0) (.slice none 0 0) [] [] []) := Aside0.mk ⟨blk_new w1 (.cells #[.int .i64 0, .int .i64 0, .slice none 0 0, .slice none 0 0, .slice none 0 0] 26), Nat.le_refl _, Kd.R_nil _ _ _ _ _, Kd.R_nil _ _ _ _ _, Kd.R_nil _ _ _ _ _, new_below w1 _⟩
  generalize w1.alloc (.cells #[.int .i64 0, .int .i64 0, .slice none 0 0, .slice none 0 0, .slice none 0 0] 26) = w2 at HI ⊢
  generalize w1.heap.size = g2 at HI ⊢
  go_wp2
  go_loopg [6, 7, 8] k (fun kq v6 v7 v8 w' => Rel7 k w1 g2 kq v6 v7 v8 w' (e9, n9, r9, c9, zs9, us9, gs9))
  case atStart => exact ⟨_, 0, _, _, _, _, _, _, _, _, _, rfl, rfl, rfl, HI, HL, ⟨Nat.le_refl _⟩⟩
  case round =>
    obtain ⟨last, n, rest, r, c, vz, vu, vg, zs, us, gs, rfl, rfl, rfl, HI, HL, HK⟩ := hrel
    cases gk with
    | zero => exact absurd HL.out (by simp [policy_Parse.l])
    | succ k1 =>
      have H := HL.out
      clear HL
      simp only [policy_Parse.l] at H
      by_cases c1 : rest.toList ≠ [] ∨ n = 0
      · rw [if_pos c1] at H
        by_cases c2 : n < 100000
        · rw [if_pos c2] at H
          obtain ⟨⟨hd, tl, ended⟩, A1, H⟩ := Option.bind_eq_some_iff.mp H
          obtain ⟨ws, A2, H⟩ := Option.bind_eq_some_iff.mp H
          obtain ⟨⟨kind, r1, c1', zs1, us1, gs1⟩, A3, H⟩ := Option.bind_eq_some_iff.mp H
          replace H : (if bad7 ended kind n last then some (1, ((n : Int) + 1), 0, 0, [], [], []) else policy_Parse.l k k1 kind (n + 1) tl r1 c1' zs1 us1 gs1) = some (e9, n9, r9, c9, zs9, us9, gs9) := H
          have H4 := Aside0.mk H
          have HA1 := Aside0.mk A1
          have HA2 := Aside0.mk A2
          have HA3 := Aside0.mk A3
          clear H A1 A2 A3
          have hn1 : (n : Int) ≤ 100000 := by omega
          have HT := Aside0.mk (tab7 hT HB HI)
          have HE : Aside0 (rest.toList ≠ [] ∨ (rest.toList = [] ∧ ((n : Int) == 0) = true)) := ⟨by
            by_cases h : rest.toList = []
            · exact Or.inr ⟨h, beq_iff_eq.mpr (by rcases c1 with c1 | c1; exact absurd h c1; omega)⟩
            · exact Or.inl h⟩
          clear c1 c2
          have HP := Aside0.mk (par_ways ended kind n last)
          rcases HE.out with t1 | ⟨t1, t2⟩
          all_goals
            clear HE
            go_upto_block 1 with fail
            go_upto_region 10 with (first
              | (go_at_call 26; (with_reducible refine (strings_Cut.calls rest ⟨#[10]⟩ hd tl ended _ HA1.out).mono ?_); rintro e w5 ⟨rfl, hdr⟩; have HI5 := Aside0.mk (HI.out.below hdr.below); have HT5 := tb_ hdr.below HT; clear hdr)
              | (go_at_call 28; (with_reducible refine (strings_Split.calls hd ⟨#[32]⟩ ws _ HA2.out).mono ?_); rintro e w6 ⟨v6, rfl, hR, hb⟩; obtain ⟨A6, cap6, rfl⟩ := Kd.R_slice hR; have HI6 := Aside0.mk (HI5.out.below hb); have HT6 := tb_ hb HT5; have HR6 := Aside0.mk hR; have HC6 := Aside0.mk (Kd.R_reads' hR).2.1; clear hb hR)
              | (go_at_call 27; (with_reducible refine (policy_add.calls k g2 r c vz vu vg zs us gs A6 cap6 ws _ kind r1 c1' zs1 us1 gs1 w1 _ HT6 HI6 HR6 HC6.out HA3.out).mono ?_); rintro e w7 ⟨rfl, vz1, vu1, vg1, hI7⟩; have HI7 := Aside0.mk hI7; clear hI7))
            clear HI HI5 HI6 HT HT5 HT6 HR6 HC6 HA1 HA2 HA3 t1
            have HG7 := Aside0.mk (blk_below HG.out HI7.out.hB)
            obtain ⟨z0, z1, z2, z3, z4⟩ := cells5_ HG7.out
            have f0 := blk_frozen HG7.out 0
            have f1 := blk_frozen HG7.out 1
            have f2 := blk_frozen HG7.out 2
            have f3 := blk_frozen HG7.out 3
            have f4 := blk_frozen HG7.out 4
            rcases HP.out with ⟨hb, s1⟩ | ⟨hb, s1, s2⟩ | ⟨hb, s1, s2, s3, s4⟩ | ⟨hb, s1, s2, s3, s4, s5, s6⟩ | ⟨hb, s1, s2, s3, s4, s5, s6⟩ | ⟨hb, s1, s2, s3, s4, s5⟩
            all_goals
              have HBAD := Aside0.mk hb
              clear hb HP
              obtain rfl := s1
              try obtain rfl := s2
              go_wp2
              first
                | (have H := H4.out
                   rw [if_pos HBAD.out] at H
                   simp only [Option.some.injEq, Prod.mk.injEq] at H
                   obtain ⟨rfl, rfl, rfl, rfl, rfl, rfl, rfl⟩ := H
                   refine bodyPost_ret (results_ctt rfl _ _ g1 26 _ (0, 0) _ rfl (put5_ HG7.out _ _ _ _ _) hu rfl (by kernel_rfl)) rfl ?_
                   exact ⟨_, _, _, rfl, Kd.R_nil _ _ _ _ _, Kd.R_nil _ _ _ _ _, Kd.R_nil _ _ _ _ _, below5_ (below_step HB.out HI7.out.hB) HG1.out _ _ _ _ _⟩)
                | (have HL := Aside0.mk ((if_neg HBAD.out).symm.trans H4.out)
                   go_roundg k1
                   case measure => have := HK.out; omega
                   case rel => exact ⟨kind, n + 1, tl, r1, c1', vz1, vu1, vg1, zs1, us1, gs1, rfl, by go_num, rfl, HI7, HL, ⟨by have := HK.out; omega⟩⟩)
        · rw [if_neg c2] at H
          cases H
      · rw [if_neg c1] at H
        obtain ⟨⟨at9, er9⟩, A1, H⟩ := Option.bind_eq_some_iff.mp H
        have H4 := Aside0.mk H
        have HA1 := Aside0.mk A1
        have t1 : rest.toList = [] := Classical.byContradiction fun h => c1 (Or.inl h)
        have t2 : ((n : Int) == 0) = false := beq_eq_false_iff_ne.mpr (by intro h; exact c1 (Or.inr (by omega)))
        clear H A1 c1
        obtain ⟨Az, cz, hz⟩ := Kd.R_slice HI.out.hz
        subst hz
        obtain ⟨Au, cu, hz⟩ := Kd.R_slice HI.out.hu
        subst hz
        obtain ⟨Ag, cg, hz⟩ := Kd.R_slice HI.out.hr
        subst hz
        obtain ⟨y0, y1, y2, y3, y4⟩ := cells5_ HI.out.hP
        have HTz := Aside0.mk (Kd.R_reads' HI.out.hz).2
        have HTu := Aside0.mk (Kd.R_reads' HI.out.hu).2
        have HTg := Aside0.mk (Kd.R_reads' HI.out.hr).2
        have tb := beq_dec er9 0
        go_upto_region 14 with (go_at_call 12; (with_reducible refine (policy_Wrong.calls k r c Az cz zs Au cu us Ag cg gs at9 er9 _ HTz.out.2 HTz.out.1 HTu.out.2 HTu.out.1 HTg.out.2 HTg.out.1 HA1.out).mono ?_); rintro e w5 ⟨rfl, hb⟩; have HI5 := Aside0.mk (HI.out.below hb); clear hb)
        clear y0 y1 y2 y3 y4 HI HTz HTu HTg t1 t2
        have HG5 := Aside0.mk (blk_below HG.out HI5.out.hB)
        obtain ⟨z0, z1, z2, z3, z4⟩ := cells5_ HG5.out
        have f0 := blk_frozen HG5.out 0
        have f1 := blk_frozen HG5.out 1
        have f2 := blk_frozen HG5.out 2
        have f3 := blk_frozen HG5.out 3
        have f4 := blk_frozen HG5.out 4
        rcases tb with ⟨b0, b1, b2⟩ | ⟨b0, b1, b2⟩
        · have H := H4.out
          have e : fin7 er9 at9 r c zs us gs = (0, 0, r, c, zs, us, gs) := if_pos b2
          rw [e] at H
          simp only [Option.some.injEq, Prod.mk.injEq] at H
          obtain ⟨rfl, rfl, rfl, rfl, rfl, rfl, rfl⟩ := H
          clear H4 e b2
          obtain ⟨y0, y1, y2, y3, y4⟩ := cells5_ HI5.out.hP
          go_wp2
          refine bodyPost_ret (results_ctt rfl _ _ g1 26 _ (0, 0) _ rfl (put5_ HG5.out _ _ _ _ _) hu rfl (by kernel_rfl)) rfl ?_
          exact ⟨_, _, _, rfl, Kd.R_lower (R_set5 HI5.out.hz HG5.out ne26_61 _ _ _ _ _) (below_size HB.out), Kd.R_lower (R_set5 HI5.out.hu HG5.out ne26_65 _ _ _ _ _) (below_size HB.out), Kd.R_lower (R_set5 HI5.out.hr HG5.out ne26_67 _ _ _ _ _) (below_size HB.out), below5_ (below_step HB.out HI5.out.hB) HG1.out _ _ _ _ _⟩
        · have H := H4.out
          have e : fin7 er9 at9 r c zs us gs = (er9, at9, 0, 0, [], [], []) := if_neg b2
          rw [e] at H
          simp only [Option.some.injEq, Prod.mk.injEq] at H
          obtain ⟨rfl, rfl, rfl, rfl, rfl, rfl, rfl⟩ := H
          clear H4 e
          go_wp2
          refine bodyPost_ret (results_ctt rfl _ _ g1 26 _ (0, 0) _ rfl (put5_ HG5.out _ _ _ _ _) hu rfl (by kernel_rfl)) rfl ?_
          exact ⟨_, _, _, rfl, Kd.R_nil _ _ _ _ _, Kd.R_nil _ _ _ _ _, Kd.R_nil _ _ _ _ _, below5_ (below_step HB.out HI5.out.hB) HG1.out _ _ _ _ _⟩
theorem policy_Parse.calls (k : Nat) (a0 : ByteArray) (e n r c : Int) (zs : List S61) (us : List S65) (gs : List S67) (w : World) (hT : Aside0 (Tab w)) (h : policy_Parse.f k a0 = some (e, n, r, c, zs, us, gs)) :
    Calls Tryd.prog 9 #[.string a0] w fun en w' => Ans7 w w' en e n r c zs us gs := by
  unfold policy_Parse.f at h
  by_cases hs : (a0.size : Int) > 4000
  · rw [if_pos hs] at h
    simp only [Option.some.injEq, Prod.mk.injEq] at h
    obtain ⟨rfl, rfl, rfl, rfl, rfl, rfl, rfl⟩ := h
    exact parse_long a0 w hs
  · rw [if_neg hs] at h
    exact parse_short k a0 e n r c zs us gs w hT hs h
end Go.Proofs.YtbboanfggaknjaaDoor.X
namespace Go.Proofs.YtbboanfggaknjaaDoor.X
open Go.RowKit Go.Proofs.YtbboanfggaknjaaDoorW.PrintWords Go.Proofs.YtbboanfggaknjaaDoorW.PrintLast Go.Proofs.YtbboanfggaknjaaDoorW.PrintMore
attribute [local go_sem] max2_int min2_int max_two min_two max_three min_three max_four min_four
set_option linter.unusedVariables false
set_option linter.unusedSimpArgs false
def IsS26 (w0 W : World) (g : Nat) (f0 : Int) (f1 : Int) (f2 : List (S61)) (f3 : List (S65)) (f4 : List (S67)) : Prop := ∃ A2 c2, ∃ A3 c3, ∃ A4 c4, W.heap[g]? = some (.cells #[.int .i64 f0, .int .i64 f1, .slice A2 f2.length c2, .slice A3 f3.length c3, .slice A4 f4.length c4] 26 (0, 0)) ∧ w0.heap.size ≤ g ∧ Kd.C k61 w0 A2 f2.length f2 ∧ Kd.C k65 w0 A3 f3.length f3 ∧ Kd.C k67 w0 A4 f4.length f4
theorem IsS26.grown {w0 W : World} {g : Nat} {f0 : Int} {f1 : Int} {f2 : List (S61)} {f3 : List (S65)} {f4 : List (S67)} {W1 : World} {row : Option Nat} (h : IsS26 w0 W g f0 f1 f2 f3 f4) (hw : W.grownBy W1 row) (hne : some g ≠ row) : IsS26 w0 W1 g f0 f1 f2 f3 f4 := by
 obtain ⟨A2, c2, A3, c3, A4, c4, hb, hg, hr2, hr3, hr4⟩ := h
 exact ⟨A2, c2, A3, c3, A4, c4, blk_grown hb hw hne, hg, hr2, hr3, hr4⟩
theorem IsS26.kept {w0 W : World} {g : Nat} {f0 : Int} {f1 : Int} {f2 : List (S61)} {f3 : List (S65)} {f4 : List (S67)} {W1 : World} {S : Nat → Prop} (h : IsS26 w0 W g f0 f1 f2 f3 f4) (hk : Kept W W1 S) (hne : ¬ S g) : IsS26 w0 W1 g f0 f1 f2 f3 f4 := by
 obtain ⟨A2, c2, A3, c3, A4, c4, hb, hg, hr2, hr3, hr4⟩ := h
 exact ⟨A2, c2, A3, c3, A4, c4, blk_kept hb hk hne, hg, hr2, hr3, hr4⟩
theorem IsS26.below {w0 W : World} {g : Nat} {f0 : Int} {f1 : Int} {f2 : List (S61)} {f3 : List (S65)} {f4 : List (S67)} {W1 : World} (h : IsS26 w0 W g f0 f1 f2 f3 f4) (hw : Below W.heap.size W W1) : IsS26 w0 W1 g f0 f1 f2 f3 f4 := h.grown (grown_of_below hw none) (by simp)
theorem IsS26.alloc {w0 W : World} {g : Nat} {f0 : Int} {f1 : Int} {f2 : List (S61)} {f3 : List (S65)} {f4 : List (S67)} (h : IsS26 w0 W g f0 f1 f2 f3 f4) (o : Obj) : IsS26 w0 (W.alloc o) g f0 f1 f2 f3 f4 := h.below (below_alloc (Below.refl _ _) o)
theorem IsS26.drewN {w0 W : World} {g : Nat} {f0 : Int} {f1 : Int} {f2 : List (S61)} {f3 : List (S65)} {f4 : List (S67)} (h : IsS26 w0 W g f0 f1 f2 f3 f4) (m : Nat) : IsS26 w0 (W.drewN m) g f0 f1 f2 f3 f4 := h
theorem IsS26.drew {w0 W : World} {g : Nat} {f0 : Int} {f1 : Int} {f2 : List (S61)} {f3 : List (S65)} {f4 : List (S67)} (h : IsS26 w0 W g f0 f1 f2 f3 f4) : IsS26 w0 W.drew g f0 f1 f2 f3 f4 := h
theorem IsS26.at_ {w0 W : World} {g : Nat} {f0 : Int} {f1 : Int} {f2 : List (S61)} {f3 : List (S65)} {f4 : List (S67)} {w' : World} {m : Nat} (hq : W.drewN m = w') (h : IsS26 w0 W g f0 f1 f2 f3 f4) : IsS26 w0 w' g f0 f1 f2 f3 f4 := by subst hq; exact IsS26.drewN h m
theorem IsS26.apart {w0 W : World} {g : Nat} {f0 : Int} {f1 : Int} {f2 : List (S61)} {f3 : List (S65)} {f4 : List (S67)} {α : Type} {d : Kd α} {e : Nat} {base : Nat} {ok : Nat → Prop} {v : Value} {xs : List α} (h : IsS26 w0 W g f0 f1 f2 f3 f4) (ho : d.R e W base ok v xs) (ht : ∀ q, q ∈ e :: d.E → q ≠ 26) : d.R e W base (fun k => ok k ∧ k ≠ g) v xs := by
 obtain ⟨A2, c2, A3, c3, A4, c4, hb, hg, hr2, hr3, hr4⟩ := h
 exact Kd.R_types ho hb ht
theorem IsS26.lt {w0 W : World} {g : Nat} {f0 : Int} {f1 : Int} {f2 : List (S61)} {f3 : List (S65)} {f4 : List (S67)} (h : IsS26 w0 W g f0 f1 f2 f3 f4) : g < W.heap.size := by
 obtain ⟨A2, c2, A3, c3, A4, c4, hb, hg, hr2, hr3, hr4⟩ := h
 exact blk_lt hb
theorem IsS26.new (w0 W : World) (A2 : Option Addr) (c2 : Nat) (A3 : Option Addr) (c3 : Nat) (A4 : Option Addr) (c4 : Nat) (f0 : Int) (f1 : Int) (f2 : List (S61)) (f3 : List (S65)) (f4 : List (S67)) (hB : Below w0.heap.size w0 W) (hr2 : Kd.C k61 w0 A2 f2.length f2) (hr3 : Kd.C k65 w0 A3 f3.length f3) (hr4 : Kd.C k67 w0 A4 f4.length f4) : IsS26 w0 (W.alloc (.cells #[.int .i64 f0, .int .i64 f1, .slice A2 f2.length c2, .slice A3 f3.length c3, .slice A4 f4.length c4] 26)) W.heap.size f0 f1 f2 f3 f4 := ⟨A2, c2, A3, c3, A4, c4, by simpa using heap_alloc_new W _, hB.size, hr2, hr3, hr4⟩

def policy_In.f (a0_0 : Int) (a0_1 : Int) (l0_2 : List (S61)) (l0_3 : List (S65)) (l0_4 : List (S67)) (a1_0 : Int) (a1_1 : Int) : Option (Bool) := if a1_0 ≥ 0 then (if a1_0 < a0_0 then (if a1_1 ≥ 0 then (some (decide (a1_1 < a0_1))) else (some false)) else (some false)) else (some false)
set_option maxHeartbeats 8000000 in
set_option maxRecDepth 100000 in
theorem policy_In.calls (a0_0 : Int) (a0_1 : Int) (A0_2 : Option Addr) (c0_2 : Nat) (l0_2 : List (S61)) (A0_3 : Option Addr) (c0_3 : Nat) (l0_3 : List (S65)) (A0_4 : Option Addr) (c0_4 : Nat) (l0_4 : List (S67)) (a1_0 : Int) (a1_1 : Int) (r : Bool) (w : World) (hr0_2 : Kd.C k61 w A0_2 l0_2.length l0_2) (hc0_2 : l0_2.length ≤ c0_2) (hr0_3 : Kd.C k65 w A0_3 l0_3.length l0_3) (hc0_3 : l0_3.length ≤ c0_3) (hr0_4 : Kd.C k67 w A0_4 l0_4.length l0_4) (hc0_4 : l0_4.length ≤ c0_4) (h : policy_In.f a0_0 a0_1 l0_2 l0_3 l0_4 a1_0 a1_1 = some r) :
  Calls Tryd.prog 13 #[.agg #[.int .i64 a0_0, .int .i64 a0_1, .slice A0_2 l0_2.length c0_2, .slice A0_3 l0_3.length c0_3, .slice A0_4 l0_4.length c0_4], .agg #[.int .i64 a1_0, .int .i64 a1_1]] w fun e w' => e = .returned (.bool r) ∧ Below w.heap.size w w' := by
 have hu26 := Tryd.underlying26; have hu38 := Tryd.underlying38; have HR0_2 := Aside0.mk hr0_2; have HC0_2 := Aside0.mk hc0_2; clear hr0_2 hc0_2; have HR0_3 := Aside0.mk hr0_3; have HC0_3 := Aside0.mk hc0_3; clear hr0_3 hc0_3; have HR0_4 := Aside0.mk hr0_4; have HC0_4 := Aside0.mk hc0_4; clear hr0_4 hc0_4; have HB := Aside0.mk (Below.refl w.heap.size w)
 have H : (if a1_0 ≥ 0 then (if a1_0 < a0_0 then (if a1_1 ≥ 0 then (some (decide (a1_1 < a0_1))) else (some false)) else (some false)) else (some false)) = some r := h
 clear h
 by_cases c3 : a1_0 ≥ 0
 ·rw [if_pos c3] at H; have c3b0 : decide (0 ≤ a1_0) = true := decide_eq_true c3; clear c3
  by_cases c4 : a1_0 < a0_0
  ·rw [if_pos c4] at H; have c4b0 : decide (a1_0 < a0_0) = true := decide_eq_true c4; clear c4
   by_cases c5 : a1_1 ≥ 0
   ·rw [if_pos c5] at H; have c5b0 : decide (0 ≤ a1_1) = true := decide_eq_true c5; clear c5; obtain rfl := Option.some.inj H
    go_enter Tryd.func13, Tryd.ntmps13
    go_wp2_with (first | ((with_reducible refine gate_dst (N:=2) rfl ?_); refine be_ (N:=2) (cs := #[.int .i64 a0_0, .int .i64 a0_1, .slice A0_2 l0_2.length c0_2, .slice A0_3 l0_3.length c0_3, .slice A0_4 l0_4.length c0_4]) (t:=26) ?_; intro gb101 hg w6 hbox hb; have BK101 := Aside0.mk (hbox); replace HB := bs_ HB hb; clear hb hbox hg) | ((with_reducible refine gate_dst (N:=3) rfl ?_); refine be_ (N:=3) (cs := #[.int .i64 a1_0, .int .i64 a1_1]) (t:=38) ?_; intro gb102 hg w7 hbox hb; have BK102 := Aside0.mk (hbox); replace BK101 := bb_ BK101 hb; replace HB := bs_ HB hb; clear hb hbox hg; have hcz8_0 : w7.cell? ⟨gb102, 0, none⟩ = some (.int .i64 a1_0) := bc_ BK102 0 rfl; have hcz8_1 : w7.cell? ⟨gb102, 1, none⟩ = some (.int .i64 a1_1) := bc_ BK102 1 rfl; have hcz9_0 : w7.cell? ⟨gb101, 0, none⟩ = some (.int .i64 a0_0) := bc_ BK101 0 rfl; have hcz9_1 : w7.cell? ⟨gb101, 1, none⟩ = some (.int .i64 a0_1) := bc_ BK101 1 rfl; have hcz9_2 : w7.cell? ⟨gb101, 2, none⟩ = some (.slice A0_2 l0_2.length c0_2) := bc_ BK101 2 rfl; have hcz9_3 : w7.cell? ⟨gb101, 3, none⟩ = some (.slice A0_3 l0_3.length c0_3) := bc_ BK101 3 rfl; have hcz9_4 : w7.cell? ⟨gb101, 4, none⟩ = some (.slice A0_4 l0_4.length c0_4) := bc_ BK101 4 rfl))
    go_ret
    exact ⟨by first | rfl | (simp [errW_none, errW_some] <;> rfl) | (simp [*, errW_none, errW_some] <;> rfl), pbx HB⟩
   ·rw [if_neg c5] at H; have c5b0 : decide (0 ≤ a1_1) = false := decide_eq_false c5; clear c5; obtain rfl := Option.some.inj H
    go_enter Tryd.func13, Tryd.ntmps13
    go_wp2_with (first | ((with_reducible refine gate_dst (N:=2) rfl ?_); refine be_ (N:=2) (cs := #[.int .i64 a0_0, .int .i64 a0_1, .slice A0_2 l0_2.length c0_2, .slice A0_3 l0_3.length c0_3, .slice A0_4 l0_4.length c0_4]) (t:=26) ?_; intro gb101 hg w10 hbox hb; have BK101 := Aside0.mk (hbox); replace HB := bs_ HB hb; clear hb hbox hg) | ((with_reducible refine gate_dst (N:=3) rfl ?_); refine be_ (N:=3) (cs := #[.int .i64 a1_0, .int .i64 a1_1]) (t:=38) ?_; intro gb102 hg w11 hbox hb; have BK102 := Aside0.mk (hbox); replace BK101 := bb_ BK101 hb; replace HB := bs_ HB hb; clear hb hbox hg; have hcz12_0 : w11.cell? ⟨gb102, 0, none⟩ = some (.int .i64 a1_0) := bc_ BK102 0 rfl; have hcz12_1 : w11.cell? ⟨gb102, 1, none⟩ = some (.int .i64 a1_1) := bc_ BK102 1 rfl; have hcz13_0 : w11.cell? ⟨gb101, 0, none⟩ = some (.int .i64 a0_0) := bc_ BK101 0 rfl; have hcz13_1 : w11.cell? ⟨gb101, 1, none⟩ = some (.int .i64 a0_1) := bc_ BK101 1 rfl; have hcz13_2 : w11.cell? ⟨gb101, 2, none⟩ = some (.slice A0_2 l0_2.length c0_2) := bc_ BK101 2 rfl; have hcz13_3 : w11.cell? ⟨gb101, 3, none⟩ = some (.slice A0_3 l0_3.length c0_3) := bc_ BK101 3 rfl; have hcz13_4 : w11.cell? ⟨gb101, 4, none⟩ = some (.slice A0_4 l0_4.length c0_4) := bc_ BK101 4 rfl))
    go_ret
    exact ⟨by first | rfl | (simp [errW_none, errW_some] <;> rfl) | (simp [*, errW_none, errW_some] <;> rfl), pbx HB⟩
  ·rw [if_neg c4] at H; have c4b0 : decide (a1_0 < a0_0) = false := decide_eq_false c4; clear c4; obtain rfl := Option.some.inj H
   go_enter Tryd.func13, Tryd.ntmps13
   go_wp2_with (first | ((with_reducible refine gate_dst (N:=2) rfl ?_); refine be_ (N:=2) (cs := #[.int .i64 a0_0, .int .i64 a0_1, .slice A0_2 l0_2.length c0_2, .slice A0_3 l0_3.length c0_3, .slice A0_4 l0_4.length c0_4]) (t:=26) ?_; intro gb101 hg w14 hbox hb; have BK101 := Aside0.mk (hbox); replace HB := bs_ HB hb; clear hb hbox hg) | ((with_reducible refine gate_dst (N:=3) rfl ?_); refine be_ (N:=3) (cs := #[.int .i64 a1_0, .int .i64 a1_1]) (t:=38) ?_; intro gb102 hg w15 hbox hb; have BK102 := Aside0.mk (hbox); replace BK101 := bb_ BK101 hb; replace HB := bs_ HB hb; clear hb hbox hg; have hcz16_0 : w15.cell? ⟨gb102, 0, none⟩ = some (.int .i64 a1_0) := bc_ BK102 0 rfl; have hcz16_1 : w15.cell? ⟨gb102, 1, none⟩ = some (.int .i64 a1_1) := bc_ BK102 1 rfl; have hcz17_0 : w15.cell? ⟨gb101, 0, none⟩ = some (.int .i64 a0_0) := bc_ BK101 0 rfl; have hcz17_1 : w15.cell? ⟨gb101, 1, none⟩ = some (.int .i64 a0_1) := bc_ BK101 1 rfl; have hcz17_2 : w15.cell? ⟨gb101, 2, none⟩ = some (.slice A0_2 l0_2.length c0_2) := bc_ BK101 2 rfl; have hcz17_3 : w15.cell? ⟨gb101, 3, none⟩ = some (.slice A0_3 l0_3.length c0_3) := bc_ BK101 3 rfl; have hcz17_4 : w15.cell? ⟨gb101, 4, none⟩ = some (.slice A0_4 l0_4.length c0_4) := bc_ BK101 4 rfl))
   go_ret
   exact ⟨by first | rfl | (simp [errW_none, errW_some] <;> rfl) | (simp [*, errW_none, errW_some] <;> rfl), pbx HB⟩
 ·rw [if_neg c3] at H; have c3b0 : decide (0 ≤ a1_0) = false := decide_eq_false c3; clear c3; obtain rfl := Option.some.inj H
  go_enter Tryd.func13, Tryd.ntmps13
  go_wp2_with (first | ((with_reducible refine gate_dst (N:=2) rfl ?_); refine be_ (N:=2) (cs := #[.int .i64 a0_0, .int .i64 a0_1, .slice A0_2 l0_2.length c0_2, .slice A0_3 l0_3.length c0_3, .slice A0_4 l0_4.length c0_4]) (t:=26) ?_; intro gb101 hg w18 hbox hb; have BK101 := Aside0.mk (hbox); replace HB := bs_ HB hb; clear hb hbox hg) | ((with_reducible refine gate_dst (N:=3) rfl ?_); refine be_ (N:=3) (cs := #[.int .i64 a1_0, .int .i64 a1_1]) (t:=38) ?_; intro gb102 hg w19 hbox hb; have BK102 := Aside0.mk (hbox); replace BK101 := bb_ BK101 hb; replace HB := bs_ HB hb; clear hb hbox hg; have hcz20_0 : w19.cell? ⟨gb102, 0, none⟩ = some (.int .i64 a1_0) := bc_ BK102 0 rfl; have hcz20_1 : w19.cell? ⟨gb102, 1, none⟩ = some (.int .i64 a1_1) := bc_ BK102 1 rfl))
  go_ret
  exact ⟨by first | rfl | (simp [errW_none, errW_some] <;> rfl) | (simp [*, errW_none, errW_some] <;> rfl), pbx HB⟩

end Go.Proofs.YtbboanfggaknjaaDoor.X
/- The law's own 'alive': a policy of four lines is read, one whose lines stand in a wrong order is not. -/
set_option linter.unusedVariables false
set_option linter.unusedSimpArgs false
namespace Go.Proofs.YtbboanfggaknjaaDoor.X
open Go.RowKit Go.Proofs.YtbboanfggaknjaaDoorW.PrintWords Go.Proofs.YtbboanfggaknjaaDoorW.PrintLast Go.Proofs.YtbboanfggaknjaaDoorW.PrintMore
abbrev al7a : ByteArray := ⟨#[103, 114, 105, 100, 32, 53, 32, 52, 10, 122, 111, 110, 101, 32, 65, 49, 58, 66, 50, 32, 50, 58, 48, 10, 117, 115, 101, 114, 32, 97, 110, 110, 32, 116, 111, 112, 10, 103, 114, 97, 110, 116, 32, 97, 110, 110, 32, 51, 32, 49, 10]⟩
abbrev al7b : ByteArray := ⟨#[103, 114, 105, 100, 32, 53, 32, 52, 10, 117, 115, 101, 114, 32, 97, 110, 110, 32, 49, 10, 122, 111, 110, 101, 32, 65, 49, 32, 49, 10]⟩
theorem al7a_ : (policy_Parse.f 60 al7a).map (fun q => (q.1, q.2.1, q.2.2.1, q.2.2.2.1, q.2.2.2.2.1.length, q.2.2.2.2.2.2.length)) = some (0, 0, 5, 4, 1, 1) := by decide +kernel
theorem al7b_ : (policy_Parse.f 60 al7b).map (fun q => (q.1, q.2.1)) = some (1, 3) := by decide +kernel
def oculuslaw07_alive.f (k : Nat) : Option Bool := some true
set_option maxHeartbeats 4000000 in
set_option maxRecDepth 100000 in
theorem oculuslaw07_alive.calls (k : Nat) (r : Bool) (w : World) (hT : Aside0 (Tab w)) (h : oculuslaw07_alive.f k = some r) :
    Calls Tryd.prog 6 #[] w fun e w' => e = .returned (.bool r) ∧ Below w.heap.size w w' := by
  obtain rfl := Option.some.inj h
  clear h
  have hu := Tryd.underlying26
  obtain ⟨⟨e1, n1, r1, c1, zs, us, gs⟩, A1, A2⟩ := Option.map_eq_some_iff.mp al7a_
  simp only [Prod.mk.injEq] at A2
  obtain ⟨rfl, rfl, rfl, rfl, lz, lg⟩ := A2
  obtain ⟨⟨e2, n2, r2, c2, zs2, us2, gs2⟩, B1, B2⟩ := Option.map_eq_some_iff.mp al7b_
  simp only [Prod.mk.injEq] at B2
  obtain ⟨rfl, rfl⟩ := B2
  have HA := Aside0.mk A1
  have HB1 := Aside0.mk B1
  have LZ := Aside0.mk lz
  have LG := Aside0.mk lg
  clear A1 B1 lz lg
  go_enter Tryd.func6, Tryd.ntmps6
  go_upto_region 2 with (first
    | (go_at_call 9; (with_reducible refine (policy_Parse.calls 60 al7a 0 0 5 4 zs us gs _ hT HA.out).mono ?_); rintro e w5 ⟨vz, vu, vg, rfl, hz, hu, hg, hb⟩; obtain ⟨Az, cz, rfl⟩ := Kd.R_slice hz; obtain ⟨Au, cu, rfl⟩ := Kd.R_slice hu; obtain ⟨Ag, cg, rfl⟩ := Kd.R_slice hg; have HZ := Aside0.mk hz; have HU := Aside0.mk hu; have HG := Aside0.mk hg; have HB := Aside0.mk hb; have HT5 := tb_ hb hT; clear hz hu hg hb))
  have HP := Aside0.mk (blk_new w5 (.cells #[.int .i64 5, .int .i64 4, .slice Az zs.length cz, .slice Au us.length cu, .slice Ag gs.length cg] 26))
  have hb6 := new_below w5 (.cells #[.int .i64 5, .int .i64 4, .slice Az zs.length cz, .slice Au us.length cu, .slice Ag gs.length cg] 26)
  replace HT5 := tb_ hb6 HT5
  replace HZ := Aside0.mk (Kd.R_below HZ.out hb6)
  replace HU := Aside0.mk (Kd.R_below HU.out hb6)
  replace HG := Aside0.mk (Kd.R_below HG.out hb6)
  replace HB := Aside0.mk (below_step HB.out hb6)
  clear hb6
  generalize w5.alloc (.cells #[.int .i64 5, .int .i64 4, .slice Az zs.length cz, .slice Au us.length cu, .slice Ag gs.length cg] 26) = w6 at HP HT5 HZ HU HG HB ⊢
  generalize w5.heap.size = g at HP ⊢
  go_upto_region 3 with (first
    | (go_at_call 9; (with_reducible refine (policy_Parse.calls 60 al7b 1 3 r2 c2 zs2 us2 gs2 _ HT5 HB1.out).mono ?_); rintro e w7 ⟨vz2, vu2, vg2, rfl, hz, hu, hg, hb⟩; obtain ⟨Az2, cz2, rfl⟩ := Kd.R_slice hz; obtain ⟨Au2, cu2, rfl⟩ := Kd.R_slice hu; obtain ⟨Ag2, cg2, rfl⟩ := Kd.R_slice hg; replace HP := Aside0.mk (blk_below HP.out hb); replace HZ := Aside0.mk (Kd.R_below HZ.out hb); replace HU := Aside0.mk (Kd.R_below HU.out hb); replace HG := Aside0.mk (Kd.R_below HG.out hb); replace HB := Aside0.mk (below_step HB.out hb); clear hz hu hg hb))
  have hb6 := new_below w7 (.cells #[.int .i64 r2, .int .i64 c2, .slice Az2 zs2.length cz2, .slice Au2 us2.length cu2, .slice Ag2 gs2.length cg2] 26)
  replace HP := Aside0.mk (blk_below HP.out hb6)
  replace HZ := Aside0.mk (Kd.R_reads' (Kd.R_below HZ.out hb6)).2
  replace HU := Aside0.mk (Kd.R_reads' (Kd.R_below HU.out hb6)).2
  replace HG := Aside0.mk (Kd.R_reads' (Kd.R_below HG.out hb6)).2
  replace HB := Aside0.mk (below_step HB.out hb6)
  clear hb6
  generalize w7.alloc (.cells #[.int .i64 r2, .int .i64 c2, .slice Az2 zs2.length cz2, .slice Au2 us2.length cu2, .slice Ag2 gs2.length cg2] 26) = w8 at HP HZ HU HG HB ⊢
  clear HT5 HA HB1
  obtain ⟨y0, y1, y2, y3, y4⟩ := cells5_ HP.out
  have lz := LZ.out
  have lg := LG.out
  have dz : (((zs.length : Nat) : Int) == 1) = true := by rw [lz]; rfl
  have dg : (((gs.length : Nat) : Int) == 1) = true := by rw [lg]; rfl
  clear lz lg
  go_wp2_with (first
    | (go_at_call 13; (with_reducible refine (policy_In.calls 5 4 Az cz zs Au cu us Ag cg gs 4 3 true _ HZ.out.2 HZ.out.1 HU.out.2 HU.out.1 HG.out.2 HG.out.1 rfl).mono ?_); rintro e w9 ⟨rfl, hb⟩; replace HP := Aside0.mk (blk_below HP.out hb); replace HZ := Aside0.mk (And.intro HZ.out.1 (Kd.C_below HZ.out.2 hb)); replace HU := Aside0.mk (And.intro HU.out.1 (Kd.C_below HU.out.2 hb)); replace HG := Aside0.mk (And.intro HG.out.1 (Kd.C_below HG.out.2 hb)); replace HB := Aside0.mk (below_step HB.out hb); clear hb; clear y0 y1 y2 y3 y4; obtain ⟨y0, y1, y2, y3, y4⟩ := cells5_ HP.out)
    | (go_at_call 13; (with_reducible refine (policy_In.calls 5 4 Az cz zs Au cu us Ag cg gs 4 4 false _ HZ.out.2 HZ.out.1 HU.out.2 HU.out.1 HG.out.2 HG.out.1 rfl).mono ?_); rintro e w10 ⟨rfl, hb⟩; replace HB := Aside0.mk (below_step HB.out hb); clear hb))
  go_ret
  exact ⟨rfl, HB.out⟩
end Go.Proofs.YtbboanfggaknjaaDoor.X
/- The contracts of strings.Builder's WriteByte and WriteString, for a program in which copyCheck's last arm is refused: the shelf's proofs, walked at this program. -/
set_option linter.unusedVariables false
namespace Go.Proofs.YtbboanfggaknjaaDoor.X
open Go.RowKit Go.Shelf Go.Proofs.YtbboanfggaknjaaDoorW.PrintWords Go.Proofs.YtbboanfggaknjaaDoorW.PrintLast Go.Proofs.YtbboanfggaknjaaDoorW.PrintMore
theorem bldSize : (Tryd.prog.info? 45).map (·.size) = some 2 := by kernel_rfl
theorem bldLies : liesAt Tryd.prog Tryd.prog.depth 45 (2 / Tryd.prog.cellsOf 45) 0 45 1 = true := by kernel_rfl
theorem bldByte : (Tryd.prog.info? 5).map (fun i => (i.zero, i.size, i.bytes)) = some (some (.int .u8 0), 1, 1) := by kernel_rfl
set_option maxHeartbeats 1000000 in
set_option maxRecDepth 100000 in
theorem bld_check_used (b : Nat) (w : World) (h0 : w.cell? ⟨b, 0, none⟩ = some (.pointer (some ⟨b, 0, none⟩))) :
    Calls Tryd.prog 35 #[.pointer (some ⟨b, 0, none⟩)] w fun e w' => e = .returned (.tuple #[]) ∧ w' = w := by
  obtain ⟨j, hj, _⟩ := Option.map_eq_some_iff.1 bldSize
  go_enter Tryd.func35, Tryd.ntmps35
  go_wp2
  rw [Lib.run_neq_ptr_same w _ Tryd.underlying42 hj]
  go_wp2
  go_end0
  exact ⟨rfl, rfl⟩
set_option maxHeartbeats 1000000 in
set_option maxRecDepth 100000 in
theorem bld_check_fresh (b : Nat) (w : World) (h0 : w.cell? ⟨b, 0, none⟩ = some (.pointer none)) (hsh : w.shape? b = some (45, 2)) (hfz : w.frozen? ⟨b, 0, none⟩ = false) :
    Calls Tryd.prog 35 #[.pointer (some ⟨b, 0, none⟩)] w fun e w' => e = .returned (.tuple #[]) ∧ w' = w.setCell ⟨b, 0, none⟩ (.pointer (some ⟨b, 0, none⟩)) := by
  obtain ⟨j, hj, hjs⟩ := Option.map_eq_some_iff.1 bldSize
  go_enter Tryd.func35, Tryd.ntmps35
  go_wp2
  rw [Lib.run_to_unsafe w ⟨b, 0, none⟩ Tryd.underlying42 Tryd.underlying98 hj (by rw [hjs]; decide) hsh (Nat.zero_lt_succ 1)]
  simp only [Result.andThen]
  rw [Oper.upon_value]
  go_wp2
  rw [run_callFunc_extern Tryd.func58 (by kernel_rfl) (by kernel_rfl) (by kernel_rfl) (e := Extern.AbiNoEscape.same) (by kernel_rfl)]
  rw [Lib.run_noEscape]
  simp only [Result.andThen]
  rw [Oper.upon_value]
  go_wp2
  rw [Lib.run_from_unsafe w ⟨b, 0, none⟩ Tryd.underlying98 Tryd.underlying42 hj hsh bldLies]
  simp only [Result.andThen]
  rw [Oper.upon_value]
  go_wp2
  go_end0
  exact ⟨rfl, rfl⟩
theorem bld_check_k (B b : Nat) (bs : List Value) (w : World) (h : Lib.IsBuilderF 45 5 B b bs w) :
    Calls Tryd.prog 35 #[.pointer (some ⟨b, 0, none⟩)] w fun e w' => e = .returned (.tuple #[]) ∧ (Lib.BuilderAtF 45 5 B b (.pointer (some ⟨b, 0, none⟩)) bs w' ∧ Below B w w' ∧ Lib.OthersKept 5 (some b) w w') := by
  rcases h with h | h
  · refine (bld_check_fresh b w h.cell0 h.shape h.frozen0).mono ?_
    rintro e w' ⟨rfl, rfl⟩
    exact ⟨rfl, h.used _, (Below.refl B w).setCell (p := ⟨b, 0, none⟩) h.1 _, (Lib.OthersKept.refl _ _ w).setCell ⟨b, 0, none⟩ rfl _⟩
  · refine (bld_check_used b w h.cell0).mono ?_
    rintro e w' ⟨rfl, rfl⟩
    exact ⟨rfl, h, Below.refl B _, Lib.OthersKept.refl _ _ _⟩
set_option maxHeartbeats 2000000 in
set_option maxRecDepth 100000 in
theorem bld_byte_k (B b : Nat) (bs : List Value) (c : Int) (w : World) (h : Lib.IsBuilderF 45 5 B b bs w) (hlen : bs.length + 1 ≤ 140737488355328) (hBw : B ≤ w.heap.size) :
    Calls Tryd.prog 18 #[.pointer (some ⟨b, 0, none⟩), .int .u8 c] w fun e w' => e = .returned .nilIface ∧ (Lib.BuilderAtF 45 5 B b (.pointer (some ⟨b, 0, none⟩)) (bs ++ [.int .u8 c]) w' ∧ Below B w w' ∧ Lib.OthersKept 5 (some b) w w') := by
  obtain ⟨i0, hi, hz0, hz1, hz2⟩ := info_parts bldByte
  have e240 : ∀ args w, (callFunc 35 args).run Tryd.prog w = .ok (.enter 35 args) w := enters_of Tryd.func35 (by kernel_rfl) rfl
  go_enter Tryd.func18, Tryd.ntmps18
  go_wp2_with (go_at_call 35; refine (bld_check_k B b bs _ h).mono ?_)
  rintro e w1 ⟨rfl, h1, hb1, hk1⟩
  obtain ⟨hB, v, hbk, hown, hne⟩ := h1
  have c0 : w1.cell? ⟨b, 0, none⟩ = some (.pointer (some ⟨b, 0, none⟩)) := by rw [Lib.cell_of_heap hbk]; rfl
  have c1 : w1.cell? ⟨b, 1, none⟩ = some v := by rw [Lib.cell_of_heap hbk]; rfl
  go_wp2_with (at_builtin; refine wpList_append_ownF _ rfl _ _ 43 rfl B 5 i0 (.int .u8 0) 1 1 Tryd.underlying43 hi hz0 hz1 hz2 rfl (by decide) _ _ _ rfl (hown.alloc _) ⟨w1.heap.size, 0, none⟩ 1 1 [.int .u8 c] rfl rfl ?c1 ?c2 ?c3 ?c4 ?c5 ?_)
  case c1 =>
    intro j u hj
    match j, hj with
    | 0, hj => simp at hj; subst hj; simp [Addr.add]
  case c2 => intro u hu; simp at hu; subst hu; rfl
  case c3 => unfold maxLen; omega
  case c4 => omega
  case c5 => have := hb1.size; simp; omega
  intro v' w2 hown' hgrow _
  have hlt : b < w1.heap.size := by
    rcases Nat.lt_or_ge b w1.heap.size with h' | h'
    · exact h'
    · simp [Array.getElem?_eq_none h'] at hbk
  have hb2 : w2.heap[b]? = some (.cells #[.pointer (some ⟨b, 0, none⟩), v] 45 (0, 0)) := by
    rw [hgrow.block b (by simp; omega) (fun e => hne e.symm), Lib.alloc_old w1 _ b hlt]
    exact hbk
  have d0 : w2.cell? ⟨b, 0, none⟩ = some (.pointer (some ⟨b, 0, none⟩)) := by rw [Lib.cell_of_heap hb2]; rfl
  have d1 : w2.cell? ⟨b, 1, none⟩ = some v := by rw [Lib.cell_of_heap hb2]; rfl
  have f1 : w2.frozen? ⟨b, 1, none⟩ = false := Lib.frozen_of_heap hb2 1
  obtain ⟨g, cap, rfl⟩ : ∃ g cap, v' = .slice (some ⟨g, 0, none⟩) (bs.length + 1) cap := by
    rcases hown'.2 with ⟨_, h0⟩ | ⟨g, cap, cur, fz, hv, _⟩
    · omega
    · exact ⟨g, cap, hv⟩
  go_wp2
  go_ret
  refine ⟨rfl, ?_, ?_, ((hk1.alloc _).grown hgrow (Lib.ownsRowF_kind (hown.alloc _))).setCell ⟨b, 1, none⟩ rfl _⟩
  · exact Lib.BuilderAtF.put (T := 45) (e := 5) hB hb2 (bs' := bs ++ [.int .u8 c]) (by simpa using hown') (by decide)
  · exact ((hb1.alloc (by have := hb1.size; omega) _).grown hgrow (by have := hb1.size; simp; omega) (fun k hk => (hown.lt k hk).1)).setCell (p := ⟨b, 1, none⟩) hB _
set_option maxHeartbeats 2000000 in
set_option maxRecDepth 100000 in
theorem bld_string_k (B b : Nat) (bs : List Value) (s : ByteArray) (w : World) (h : Lib.IsBuilderF 45 5 B b bs w) (hlen : bs.length + s.size ≤ 140737488355328) (hBw : B ≤ w.heap.size) :
    Calls Tryd.prog 16 #[.pointer (some ⟨b, 0, none⟩), .string s] w fun e w' => e = .returned (.tuple #[.int .i64 s.size, .nilIface]) ∧ (Lib.BuilderAtF 45 5 B b (.pointer (some ⟨b, 0, none⟩)) (bs ++ Lib.strCells s) w' ∧ Below B w w' ∧ Lib.OthersKept 5 (some b) w w') := by
  obtain ⟨i0, hi, hz0, hz1, hz2⟩ := info_parts bldByte
  have e240 : ∀ args w, (callFunc 35 args).run Tryd.prog w = .ok (.enter 35 args) w := enters_of Tryd.func35 (by kernel_rfl) rfl
  go_enter Tryd.func16, Tryd.ntmps16
  go_wp2_with (go_at_call 35; refine (bld_check_k B b bs _ h).mono ?_)
  rintro e w1 ⟨rfl, h1, hb1, hk1⟩
  obtain ⟨hB, v, hbk, hown, hne⟩ := h1
  have c0 : w1.cell? ⟨b, 0, none⟩ = some (.pointer (some ⟨b, 0, none⟩)) := by rw [Lib.cell_of_heap hbk]; rfl
  have c1 : w1.cell? ⟨b, 1, none⟩ = some v := by rw [Lib.cell_of_heap hbk]; rfl
  go_wp2_with (at_builtin; refine Lib.wpList_append_own_stringF _ rfl _ _ 43 9 rfl B 5 i0 Tryd.underlying43 Tryd.underlying9 hi hz0 hz1 hz2 _ _ _ rfl hown s rfl ?c3 ?c4 ?c5 ?_)
  case c3 => unfold maxLen; omega
  case c4 => omega
  case c5 => have := hb1.size; omega
  intro v' w2 hown' hgrow _
  have hlt : b < w1.heap.size := by
    rcases Nat.lt_or_ge b w1.heap.size with h' | h'
    · exact h'
    · simp [Array.getElem?_eq_none h'] at hbk
  have hb2 : w2.heap[b]? = some (.cells #[.pointer (some ⟨b, 0, none⟩), v] 45 (0, 0)) := by
    rw [hgrow.block b hlt (fun e => hne e.symm)]
    exact hbk
  have d0 : w2.cell? ⟨b, 0, none⟩ = some (.pointer (some ⟨b, 0, none⟩)) := by rw [Lib.cell_of_heap hb2]; rfl
  have d1 : w2.cell? ⟨b, 1, none⟩ = some v := by rw [Lib.cell_of_heap hb2]; rfl
  have f1 : w2.frozen? ⟨b, 1, none⟩ = false := Lib.frozen_of_heap hb2 1
  obtain ⟨ao, n', cap, rfl⟩ : ∃ ao n' cap, v' = .slice ao n' cap := by
    rcases hown'.2 with ⟨hv, _⟩ | ⟨g, cap, cur, fz, hv, _⟩
    · exact ⟨_, _, _, hv⟩
    · exact ⟨_, _, _, hv⟩
  go_wp2
  go_ret2
  refine ⟨rfl, ?_, ?_, (hk1.grown hgrow (Lib.ownsRowF_kind hown)).setCell ⟨b, 1, none⟩ rfl _⟩
  · exact Lib.BuilderAtF.put (T := 45) (e := 5) hB hb2 (bs' := bs ++ Lib.strCells s) (by simpa [Lib.strCells_length] using hown') (by decide)
  · exact (hb1.grown hgrow (by have := hb1.size; omega) (fun k hk => (hown.lt k hk).1)).setCell (p := ⟨b, 1, none⟩) hB _
end Go.Proofs.YtbboanfggaknjaaDoor.X
/- The contract of strings.Join: the texts of a row, with a text between them, told through strings.Builder. -/
set_option linter.unusedVariables false
set_option linter.unusedSimpArgs false
namespace Go.Proofs.YtbboanfggaknjaaDoor.X
open Go.RowKit Go.Shelf Go.Proofs.YtbboanfggaknjaaDoorW.PrintWords Go.Proofs.YtbboanfggaknjaaDoorW.PrintLast Go.Proofs.YtbboanfggaknjaaDoorW.PrintMore
def joinL (s : List UInt8) : List (List UInt8) → List UInt8
  | [] => []
  | x :: xs => x ++ xs.flatMap fun y => s ++ y
def sizesT (l : List ByteArray) : Nat := (l.map ByteArray.size).sum
def strings_Join.f (l0 : List ByteArray) (a1 : ByteArray) : Option ByteArray :=
  if l0.length ≤ 100000 ∧ a1.size ≤ 100000 ∧ sizesT l0 ≤ 1000000000 then some (tx (joinL (by_ a1) (l0.map by_))) else none
theorem sizesT_take (l : List ByteArray) (i : Nat) (h : i < l.length) : sizesT (l.take (i + 1)) = sizesT (l.take i) + l[i].size := by
  unfold sizesT
  rw [List.take_add_one, List.getElem?_eq_getElem h]
  simp only [Option.toList_some, List.map_append, List.sum_append, List.map_cons, List.map_nil, List.sum_cons, List.sum_nil, Nat.add_zero]
theorem sizesT_le (l : List ByteArray) (i : Nat) : sizesT (l.take i) ≤ sizesT l := by
  conv => rhs; rw [← List.take_append_drop i l]
  unfold sizesT
  rw [List.map_append, List.sum_append]; omega
theorem rdS_ (l : List ByteArray) (i : Nat) (h : i < l.length) : rdOf ByteArray.empty l (i : Int) = l[i] := by
  unfold rdOf
  rw [Int.toNat_natCast, List.getD_eq_getElem?_getD, List.getElem?_eq_getElem h]; rfl
theorem strings_at {w : World} {A : Option Addr} {l : List ByteArray} (h : Kd.C Kd.string w A l.length l) (i : Nat) (hi : i < l.length) : ∃ ad, A = some ad ∧ w.cell? (ad.add i) = some (.string l[i]) := by
  obtain ⟨ad, hA, hc⟩ := Kd.at_string h (i : Int) (by omega) (by omega)
  refine ⟨ad, hA, ?_⟩
  rw [Int.toNat_natCast] at hc
  rw [hc]
  rw [rdS_ l i hi]
set_option maxHeartbeats 4000000 in
set_option maxRecDepth 1000000 in
theorem join0 (a1 : ByteArray) (A0 : Option Addr) (c0 : Nat) (w : World) :
    Calls Tryd.prog 17 #[.slice A0 0 c0, .string a1] w fun e w' => e = .returned (.string ⟨#[]⟩) ∧ Below w.heap.size w w' := by
  go_enter Tryd.func17, Tryd.ntmps17
  go_wp2
  go_ret
  exact ⟨rfl, Below.refl _ _⟩
set_option maxHeartbeats 4000000 in
set_option maxRecDepth 1000000 in
theorem join1 (a1 x : ByteArray) (ad : Addr) (c0 : Nat) (w : World) (hx : w.cell? ad = some (.string x)) :
    Calls Tryd.prog 17 #[.slice (some ad) 1 c0, .string a1] w fun e w' => e = .returned (.string x) ∧ Below w.heap.size w w' := by
  go_enter Tryd.func17, Tryd.ntmps17
  go_wp2
  go_ret
  exact ⟨rfl, Below.refl _ _⟩
def outJ (s : List UInt8) (l : List ByteArray) (k : Nat) : List UInt8 := joinL s ((l.take (k + 1)).map by_)
theorem joinL_snoc (s : List UInt8) (xs : List (List UInt8)) (z : List UInt8) (h : xs ≠ []) : joinL s (xs ++ [z]) = joinL s xs ++ (s ++ z) := by
  cases xs with
  | nil => exact absurd rfl h
  | cons x xs => simp [joinL, List.flatMap_append]
theorem outJ_succ (s : List UInt8) (l : List ByteArray) (k : Nat) (h : k + 1 < l.length) : outJ s l (k + 1) = outJ s l k ++ (s ++ by_ l[k + 1]) := by
  unfold outJ
  rw [List.take_add_one, List.getElem?_eq_getElem h, List.map_append]
  refine joinL_snoc s _ _ ?_
  intro e
  have := congrArg List.length e
  rw [List.length_map, List.length_take, List.length_nil] at this
  omega
theorem outJ_zero (s : List UInt8) (l : List ByteArray) (h : 0 < l.length) : outJ s l 0 = by_ l[0] := by
  unfold outJ
  rw [List.take_add_one, List.take_zero, List.getElem?_eq_getElem h]
  simp [joinL]
theorem outJ_len (s : List UInt8) (l : List ByteArray) : ∀ k, k < l.length → (outJ s l k).length = sizesT (l.take (k + 1)) + k * s.length
  | 0, h => by
    rw [outJ_zero s l h, sizesT_take l 0 h, ← size_by, List.take_zero]; simp [sizesT]
  | k + 1, h => by
    rw [outJ_succ s l k h, List.length_append, List.length_append, outJ_len s l k (by omega), sizesT_take l (k + 1) h, ← size_by, Nat.succ_mul]; omega
theorem quo_ok (n z : Nat) (hn : 2 ≤ n) (hn2 : n ≤ 100000) (hz : z ≤ 100000) : (z : Int) < 9223372036854775807 / ((n : Int) - 1) := by
  have h1 : ((z : Int) + 1) * ((n : Int) - 1) ≤ 9223372036854775807 := by
    have : ((z : Int) + 1) * ((n : Int) - 1) ≤ 100001 * 100000 := Int.mul_le_mul (by omega) (by omega) (by omega) (by omega)
    omega
  have := Int.le_ediv_of_mul_le (by omega) h1
  omega
set_option maxHeartbeats 4000000 in
set_option maxRecDepth 1000000 in
theorem join2 (a1 : ByteArray) (l : List ByteArray) (n : Nat) (ad : Addr) (c0 : Nat) (w : World) (hl : l.length = n) (hn : 2 ≤ n) (hn2 : n ≤ 100000) (hc : n ≤ c0) (hz : a1.size ≤ 100000) (ht : sizesT l ≤ 1000000000) (hr : ∀ (i : Nat) (x : ByteArray), l[i]? = some x → w.cell? (ad.add i) = some (.string x)) :
    Calls Tryd.prog 17 #[.slice (some ad) n c0, .string a1] w fun e w' => e = .returned (.string (tx (outJ (by_ a1) l (n - 1)))) ∧ Below w.heap.size w w' := by
  have HL := Aside0.mk hl
  have HT := Aside0.mk ht
  have HR := Aside0.mk hr
  have hq := quo_ok n a1.size hn hn2 hz
  have q1 : decide (9223372036854775807 / ((n : Int) - 1) ≤ (a1.size : Int)) = false := decide_eq_false (by omega)
  clear hl ht hr hq
  have HB0 := Aside0.mk (Below.refl w.heap.size w)
  have e0 : ((n : Int) == 0) = false := beq_eq_false_iff_ne.2 (by omega)
  have e1 : ((n : Int) == 1) = false := beq_eq_false_iff_ne.2 (by omega)
  have hx0 : wrap64 (wrap64 ((a1.size : Int) * ((n : Int) - 1))) = ((a1.size * (n - 1) : Nat) : Int) := by
    have h1 : ((a1.size * (n - 1) : Nat) : Int) = (a1.size : Int) * ((n : Int) - 1) := by
      rw [Int.natCast_mul]; congr 1; omega
    have h2 : a1.size * (n - 1) ≤ 100000 * 100000 := Nat.mul_le_mul hz (show n - 1 ≤ 100000 by omega)
    rw [← h1, w64 (x := ((a1.size * (n - 1) : Nat) : Int)) (by omega) (by omega), w64 (by omega) (by omega)]
  have hx1 : a1.size * (n - 1) ≤ 10000000000 := Nat.le_trans (Nat.mul_le_mul hz (show n - 1 ≤ 100000 by omega)) (by decide)
  have HX0 := Aside0.mk hx0
  have HZ := Aside0.mk hz
  clear hx0
  obtain ⟨b, g0⟩ : ∃ b, decide (0 < a1.size) = b := ⟨_, rfl⟩
  cases b
  all_goals
    go_enter Tryd.func17, Tryd.ntmps17
    go_wp2
    go_loop [5, 41] (fun v5 v41 => ∃ k x : Nat, v41 = .int .i64 (k : Int) ∧ v5 = .int .i64 (x : Int) ∧ Aside0 (k ≤ n ∧ x ≤ 10000000000 + sizesT (l.take k))) (fun _ v41 => n - (intOf v41).toNat)
    case atStart => first | exact ⟨0, 0, rfl, rfl, ⟨by omega, by omega⟩⟩ | exact ⟨0, a1.size * (n - 1), rfl, congrArg (Value.int IntKind.i64) HX0.out, ⟨by omega, by omega⟩⟩
    case round =>
      obtain ⟨k, x, rfl, rfl, HK⟩ := hrel
      have hk := HK.out
      clear q1 hx1 e0 e1 g0
      by_cases hlt : k < n
      · have hd : decide ((k : Int) < (n : Int)) = true := decide_eq_true (by omega)
        have hdn : decide (k < n) = true := decide_eq_true hlt
        have hkl : k < l.length := by rw [HL.out]; exact hlt
        have hcell := HR.out k l[k] (List.getElem?_eq_getElem hkl)
        have hs := sizesT_take l k hkl
        have hs2 := sizesT_le l (k + 1)
        have ht := HT.out
        obtain ⟨y, hy⟩ : ∃ y, l[k] = y := ⟨_, rfl⟩
        rw [hy] at hcell hs
        have hd2 : decide (9223372036854775807 - (x : Int) < (y.size : Int)) = false := decide_eq_false (by omega)
        have HS := Aside0.mk hs
        have HS2 := Aside0.mk (show x + y.size ≤ 10000000000 + sizesT (l.take (k + 1)) by omega)
        have hy2 : y.size ≤ 1000000000 := by omega
        have hx2 : x ≤ 11000000000 := by omega
        clear hs hs2 ht hy hk
        go_wp2
        go_round
        case rel => exact ⟨k + 1, x + y.size, by go_num, by go_num, ⟨by omega, HS2.out⟩⟩
        case measure => simp [intOf]; omega
      · have hd : decide ((k : Int) < (n : Int)) = false := decide_eq_false (by omega)
        have hdn : decide (k < n) = false := decide_eq_false hlt
        have hx2 : x ≤ 11000000000 := by have := sizesT_le l k; have := HT.out; omega
        have hlt0 : 0 < l.length := by rw [HL.out]; omega
        have hc0 := HR.out 0 l[0] (List.getElem?_eq_getElem hlt0)
        rw [show ad.add 0 = ad from if_pos rfl] at hc0
        obtain ⟨y0, hy0⟩ : ∃ y, l[0] = y := ⟨_, rfl⟩
        rw [hy0] at hc0
        have hadlt := World.block_lt_of_cell? w _ hc0
        have hy0s : y0.size ≤ 1000000000 := by
          have h1 := sizesT_take l 0 hlt0
          have h2 := sizesT_le l (0 + 1)
          have h3 := HT.out
          rw [hy0] at h1
          omega
        have HY0 := Aside0.mk hy0
        have hnew : (w.alloc (.cells #[.pointer none, .slice none 0 0] 45)).heap[w.heap.size]? = some (.cells #[.pointer none, .slice none 0 0] 45 (0, 0)) := by
          show (w.heap.push _)[w.heap.size]? = some _
          simp
        have HNEW := Aside0.mk hnew
        have HB1 : Aside0 (Below w.heap.size w (w.alloc (.cells #[.pointer none, .slice none 0 0] 45))) := ⟨(Below.refl _ _).alloc (Nat.le_refl _) _⟩
        have hcc : c0 ≠ 1 := by omega
        clear hk hy0 hnew hlt
        go_wp2_with (first
          | (go_at_call 36; refine (Tryd.Builder_Grow_fresh w.heap.size w.heap.size x _ (Nat.le_refl _) (by exact HNEW.out) (by exact HB1.out.size) (by omega)).mono ?_; rintro e w2 ⟨rfl, h2, hb2⟩; have HB2 := Aside0.mk (HB1.out.trans hb2); have hc2 := (HB2.out.cell (p := ad) hadlt).trans hc0; clear hb2)
          | (go_at_call 16; refine (bld_string_k w.heap.size w.heap.size [] y0 _ (Or.inr (Lib.BuilderAtF.of h2)) (by simp; omega) (by exact HB2.out.size)).mono ?_; rintro e w3 ⟨rfl, h3, hb3, hk3⟩; have HB3 := Aside0.mk (HB2.out.trans hb3); clear hb3 hk3))
        have HI3 : Aside0 (Lib.BuilderAtF 45 5 w.heap.size w.heap.size (.pointer (some ⟨w.heap.size, 0, none⟩)) (Lib.byteCells (outJ (by_ a1) l 0)) w3) := by
          have e : outJ (by_ a1) l 0 = by_ y0 := by
            rw [outJ_zero (by_ a1) l hlt0, HY0.out]
          rw [e]
          have h3 : Lib.BuilderAtF 45 5 w.heap.size w.heap.size (.pointer (some ⟨w.heap.size, 0, none⟩)) ([] ++ Lib.strCells y0) w3 := h3
          exact ⟨by rw [List.nil_append] at h3; exact h3⟩
        clear h2 h3 hc2 hc0
        go_loopw [65] (fun v w' => ∃ j : Nat, v = .int .i64 (j : Int) ∧ Aside0 (j ≤ n - 1) ∧ Aside0 (Lib.BuilderAtF 45 5 w.heap.size w.heap.size (.pointer (some ⟨w.heap.size, 0, none⟩)) (Lib.byteCells (outJ (by_ a1) l j)) w') ∧ Aside0 (Below w.heap.size w w')) (fun v _ => n - (intOf v).toNat)
        case atStart => exact ⟨0, rfl, ⟨by omega⟩, HI3, HB3⟩
        case round =>
          clear HI3 HB3 HB2 HB1 HNEW
          obtain ⟨j, rfl, HJ, HI, HB⟩ := hrel
          have hj := HJ.out
          by_cases hlt2 : j < n - 1
          · have hdn : decide (j < n - 1) = true := decide_eq_true hlt2
            have hdi : decide ((j : Int) < (n : Int) - 1) = true := decide_eq_true (by omega)
            have hjl : j + 1 < l.length := by rw [HL.out]; omega
            have hcl := HR.out (j + 1) l[j + 1] (List.getElem?_eq_getElem hjl)
            have hcw := (HB.out.cell (World.block_lt_of_cell? w _ hcl)).trans hcl
            rw [show ad.add (j + 1) = ⟨ad.block, ad.off + 1 + j, none⟩ by simp [Addr.add]; omega] at hcw
            have HS := Aside0.mk (outJ_succ (by_ a1) l j hjl)
            have hlen := outJ_len (by_ a1) l j (by omega)
            have h2 := sizesT_le l (j + 1)
            have h3 := sizesT_take l (j + 1) hjl
            have h4 := sizesT_le l (j + 1 + 1)
            have h5 := HT.out
            have h6 : j * (by_ a1).length ≤ 100000 * 100000 := Nat.mul_le_mul (by omega) (by rw [← size_by]; exact HZ.out)
            obtain ⟨y, hy⟩ : ∃ y, l[j + 1] = y := ⟨_, rfl⟩
            rw [hy] at hcw h3
            have HY := Aside0.mk hy
            have HLEN := Aside0.mk (show (outJ (by_ a1) l j).length + (a1.size + y.size) ≤ 140737488355328 by have := HZ.out; omega)
            clear hcl hlen h2 h3 h4 h5 h6 hy hj
            go_wp2_with (first
              | (go_at_call 16; (with_reducible refine (bld_string_k w.heap.size w.heap.size (Lib.byteCells (outJ (by_ a1) l j)) a1 _ ?hA ?hB ?hC).mono ?_); (case hA => exact Or.inr HI.out); (case hB => have := HLEN.out; rw [Lib.byteCells_length]; omega); (case hC => exact HB.out.size); rintro e w4 ⟨rfl, h4, hb4, hk4⟩; have HB4 := Aside0.mk (HB.out.trans hb4); have H4 := Aside0.mk h4; clear hb4 hk4 h4)
              | (go_at_call 16; (with_reducible refine (bld_string_k w.heap.size w.heap.size (Lib.byteCells (outJ (by_ a1) l j) ++ Lib.strCells a1) y _ ?hA ?hB ?hC).mono ?_); (case hA => exact Or.inr H4.out); (case hB => have := HLEN.out; rw [List.length_append, Lib.byteCells_length, Lib.strCells_length]; omega); (case hC => exact HB4.out.size); rintro e w5 ⟨rfl, h5, hb5, hk5⟩; have HB5 := Aside0.mk (HB4.out.trans hb5); have H5 := Aside0.mk h5; clear hb5 hk5 h5))
            go_roundw
            case rel =>
              refine ⟨j + 1, by go_num, ⟨by omega⟩, ⟨?_⟩, HB5⟩
              rw [HS.out, HY.out, Lib.byteCells_append, Lib.byteCells_append, ← List.append_assoc]
              exact H5.out
            case measure => simp [intOf]; omega
          · have hdn : decide (j < n - 1) = false := decide_eq_false hlt2
            have hdi : decide ((j : Int) < (n : Int) - 1) = false := decide_eq_false (by omega)
            obtain rfl : j = n - 1 := by omega
            clear hj
            go_wp2_with (go_at_call 22; refine (Tryd.Builder_String_any_k w.heap.size w.heap.size _ _ (by exact Or.inr HI.out) (by exact HB.out.size)).mono ?_; rintro e w2 ⟨rfl, _, hb2, _⟩)
            go_ret
            exact ⟨rfl, HB.out.trans hb2⟩
theorem strings_Join.calls (A0 : Option Addr) (c0 : Nat) (l0 : List ByteArray) (a1 : ByteArray) (r : ByteArray) (w : World) (hr0 : Kd.C Kd.string w A0 l0.length l0) (hc0 : l0.length ≤ c0) (h : strings_Join.f l0 a1 = some r) :
    Calls Tryd.prog 17 #[.slice A0 l0.length c0, .string a1] w fun e w' => e = .returned (.string r) ∧ Below w.heap.size w w' := by
  unfold strings_Join.f at h
  by_cases hg : l0.length ≤ 100000 ∧ a1.size ≤ 100000 ∧ sizesT l0 ≤ 1000000000
  · rw [if_pos hg] at h
    obtain rfl := Option.some.inj h
    match l0, hr0, hc0, hg with
    | [], hr0, hc0, hg => exact join0 a1 A0 c0 w
    | [x], hr0, hc0, hg =>
      obtain ⟨ad, rfl, hc⟩ := strings_at hr0 0 (by simp)
      rw [show ad.add 0 = ad from if_pos rfl] at hc
      have := join1 a1 x ad c0 w hc
      have e : tx (joinL (by_ a1) ([x].map by_)) = x := by simp [joinL, tx_by]
      rw [e]
      exact this
    | x :: y :: l, hr0, hc0, hg =>
      obtain ⟨ad, rfl, _⟩ := strings_at hr0 0 (by simp)
      have hr : ∀ (i : Nat) (z : ByteArray), (x :: y :: l)[i]? = some z → w.cell? (ad.add i) = some (.string z) := by
        intro i z hz
        obtain ⟨hi, hz⟩ := List.getElem?_eq_some_iff.1 hz
        obtain ⟨ad2, e, hc⟩ := strings_at hr0 i hi
        obtain rfl := Option.some.inj e
        rw [hc, hz]
      have := join2 a1 (x :: y :: l) _ ad c0 w rfl (by simp) hg.1 hc0 hg.2.1 hg.2.2 hr
      have e : outJ (by_ a1) (x :: y :: l) ((x :: y :: l).length - 1) = joinL (by_ a1) ((x :: y :: l).map by_) := by
        unfold outJ
        rw [List.take_of_length_le (by simp)]
      rw [e] at this
      exact this
  · rw [if_neg hg] at h; cases h
end Go.Proofs.YtbboanfggaknjaaDoor.X
namespace Go.Proofs.YtbboanfggaknjaaDoor.X
open Go.RowKit Go.Proofs.YtbboanfggaknjaaDoorW.PrintWords Go.Proofs.YtbboanfggaknjaaDoorW.PrintLast Go.Proofs.YtbboanfggaknjaaDoorW.PrintMore
attribute [local go_sem] max2_int min2_int max_two min_two max_three min_three max_four min_four
set_option linter.unusedVariables false
set_option linter.unusedSimpArgs false
def addr_Letters.j0 : Nat → Int → Bool → Option (ByteArray)
 | 0, _, _ => none
 | k + 1, x0, x3 => if x3 = true then (some (⟨#[]⟩ : ByteArray)) else (if x0 < 26 then (some (strOfNums (([(wrap64 (65 + x0)) % 256] : List Int)))) else (some (strOfNums (([(wrap64 ((wrap64 (65 + (wrap64 (Int.tdiv x0 26)))) - 1)) % 256, (wrap64 (65 + (Int.tmod x0 26))) % 256] : List Int)))))
def addr_Letters.f (k : Nat) (a0 : Int) : Option (ByteArray) := if a0 < 0 then (addr_Letters.j0 k a0 true) else (addr_Letters.j0 k a0 (decide (a0 ≥ 702)))
theorem addr_Letters.mono_l : ∀ k, (∀ y0 y1, LeO (addr_Letters.j0 k y0 y1) (addr_Letters.j0 (k + 1) y0 y1))
 | 0 => fun _ _ r h => by simp [addr_Letters.j0] at h
 | k + 1 => by
  have ih0 := addr_Letters.mono_l k
  ·intro y0 y1
   unfold addr_Letters.j0
   repeat' first
   | (with_reducible exact ih0 _ _)
   | (with_reducible exact LeO.refl _)
   | (with_reducible exact LeO.none _)
   | (with_reducible refine LeO.ite ?_ ?_)
   | (with_reducible refine LeO.bind ?_ (fun _ => ?_))
theorem addr_Letters.mono : ∀ a0 k, LeO (addr_Letters.f k a0) (addr_Letters.f (k + 1) a0) := by
 intro a0 k; have ih0 := addr_Letters.mono_l k
 unfold addr_Letters.f
 repeat' first
   | (with_reducible exact ih0 _ _)
   | (with_reducible exact LeO.refl _)
   | (with_reducible exact LeO.none _)
   | (with_reducible refine LeO.ite ?_ ?_)
   | (with_reducible refine LeO.bind ?_ (fun _ => ?_))
set_option maxHeartbeats 8000000 in
set_option maxRecDepth 100000 in
theorem addr_Letters.calls (k : Nat) (a0 : Int) (r : ByteArray) (w : World) (h : addr_Letters.f k a0 = some r) :
  Calls Tryd.prog 62 #[.int .i64 a0] w fun e w' => e = .returned (.string r) ∧ Below w.heap.size w w' := by
 have HB := Aside0.mk (Below.refl w.heap.size w)
 have H : (if a0 < 0 then (addr_Letters.j0 k a0 true) else (addr_Letters.j0 k a0 (decide (a0 ≥ 702)))) = some r := h
 clear h; have HC2 := Aside0.mk H; clear H
 go_enter Tryd.func62, Tryd.ntmps62
 go_upto_region 1 with (fail)
 go_cut [3] (fun v3 wc => ∃ (kq : Nat) (x3_1 : Bool), v3 = .bool x3_1 ∧ Aside0 (addr_Letters.j0 kq a0 x3_1 = some r) ∧ Aside0 (kq ≤ k) ∧ Aside0 (Below w.heap.size w wc))
 case first =>
  have H := HC2.out; clear HC2
  by_cases c3 : a0 < 0
  ·rw [if_pos c3] at H; have c3b0 : decide (a0 < 0) = true := decide_eq_true c3; clear c3; (first | rw [c3b0] | (simp only [i64_w, i32_w]; rw [c3b0]) | skip)
   have H' := Aside0.mk H
   clear H
   go_wp2
   go_meet
   case rel => exact ⟨_, (true), (by first | rfl | (simp; done) | (simp [*]; done)), H', ⟨by first | omega | exact Nat.le_refl _⟩, ⟨pbx HB⟩⟩
  ·rw [if_neg c3] at H; have c3b0 : decide (a0 < 0) = false := decide_eq_false c3; clear c3; (first | rw [c3b0] | (simp only [i64_w, i32_w]; rw [c3b0]) | skip)
   have H' := Aside0.mk H
   clear H
   go_wp2
   go_meet
   case rel => exact ⟨_, (decide (a0 ≥ 702)), (by first | rfl | (simp; done) | (simp [*]; done)), H', ⟨by first | omega | exact Nat.le_refl _⟩, ⟨pbx HB⟩⟩
 case rest =>
  clear HC2; (try clear p2); (try clear c3); (try clear c3b0); obtain ⟨kq, x3_1, rfl, HA, HJ1, HB⟩ := hcut
  cases kq with
  | zero => exact absurd HA.out (by simp [addr_Letters.j0])
  | succ kj1 =>
   have H := HA.out; clear HA
   simp only [addr_Letters.j0] at H
   by_cases c4 : x3_1 = true
   ·subst c4
    have H1 : (some (⟨#[]⟩ : ByteArray)) = some r := by rw [if_pos rfl] at H; exact H
    clear H; have H := H1; clear H1; obtain rfl := Option.some.inj H
    go_wp2
    go_ret
    exact ⟨by first | rfl | (simp [errW_none, errW_some] <;> rfl) | (simp [*, errW_none, errW_some] <;> rfl), pbx HB⟩
   ·replace c4 := Bool.eq_false_iff.mpr c4; subst c4
    have H1 : (if a0 < 26 then (some (strOfNums (([(wrap64 (65 + a0)) % 256] : List Int)))) else (some (strOfNums (([(wrap64 ((wrap64 (65 + (wrap64 (Int.tdiv a0 26)))) - 1)) % 256, (wrap64 (65 + (Int.tmod a0 26))) % 256] : List Int))))) = some r := by rw [if_neg (show ¬ (false = true) by decide)] at H; exact H
    clear H; have H := H1; clear H1
    by_cases c5 : a0 < 26
    ·rw [if_pos c5] at H; have c5b0 : decide (a0 < 26) = true := decide_eq_true c5; clear c5; obtain ⟨y101, hy101⟩ : ∃ y_ : List Int, y_ = (([(wrap64 (65 + a0)) % 256] : List Int)) := ⟨_, rfl⟩
     replace H : (some (strOfNums y101)) = some r := by first | (rw [hy101]; with_reducible exact H) | (have H2_ := (Option.bind_some _ _).symm.trans H; rw [hy101]; with_reducible exact H2_) | (have H2_ := (Option.bind_some _ _).symm.trans H; with_reducible exact H2_) | with_reducible exact H | (rw [hy101]; exact H) | exact H
     have Ny101 := Aside0.mk hy101; clear hy101; obtain rfl := Option.some.inj H
     go_wp2_with (first | ((with_reducible refine gate_dst (N:=16) rfl ?_); refine Kd.R_lit (Kd.int .u8) _ 5 ?hg (N:=16) ?hd (xs := ([(wrap64 (65 + a0)) % 256] : List Int)) (inner := [.int .u8 ((wrap64 (65 + a0)) % 256)]) (ok := fun _ => True) (okp := fun _ => True) ?hr ?hp (fun _ hk => hk) trivial (Below.refl _ _) (Nat.le_refl _) (by simp) ?_; (case hd => rfl); (case hg => rfl); (case hr => first | (go_simp; done) | (go_simp; rfl)); (case hp => exact (Reps.one (show Kd.M (Kd.int .u8) _ _ _ ((wrap64 (65 + a0)) % 256) [.int .u8 ((wrap64 (65 + a0)) % 256)] from rfl) (Reps.none _ _))); intro v102 w6 ho7 hb hg_ hnew_; clear hg_ hnew_; (first | rw [← Ny101.out] at ho7 | (simp only [Int.reduceToNat] at ho7; rw [← Ny101.out] at ho7)); have HO103 := Aside0.mk (Kd.R_lower ho7 (below_size (pbx HB))); replace HB := bs_ HB hb; clear hb ho7; have hcv8 := own_string (P := Tryd.prog) Tryd.underlying43 Tryd.underlying5 Tryd.underlying9 (Kd.own_of_R HO103.out)))
     go_ret
     exact ⟨by first | rfl | (simp [errW_none, errW_some] <;> rfl) | (simp [*, errW_none, errW_some] <;> rfl), pbx HB⟩
    ·rw [if_neg c5] at H; have c5b0 : decide (a0 < 26) = false := decide_eq_false c5; clear c5; obtain ⟨y104, hy104⟩ : ∃ y_ : List Int, y_ = (([(wrap64 ((wrap64 (65 + (wrap64 (Int.tdiv a0 26)))) - 1)) % 256, (wrap64 (65 + (Int.tmod a0 26))) % 256] : List Int)) := ⟨_, rfl⟩
     replace H : (some (strOfNums y104)) = some r := by first | (rw [hy104]; with_reducible exact H) | (have H2_ := (Option.bind_some _ _).symm.trans H; rw [hy104]; with_reducible exact H2_) | (have H2_ := (Option.bind_some _ _).symm.trans H; with_reducible exact H2_) | with_reducible exact H | (rw [hy104]; exact H) | exact H
     have Ny104 := Aside0.mk hy104; clear hy104; obtain rfl := Option.some.inj H
     go_wp2_with (first | ((with_reducible refine gate_dst (N:=27) rfl ?_); refine Kd.R_lit (Kd.int .u8) _ 5 ?hg (N:=27) ?hd (xs := ([(wrap64 ((wrap64 (65 + (wrap64 (Int.tdiv a0 26)))) - 1)) % 256, (wrap64 (65 + (Int.tmod a0 26))) % 256] : List Int)) (inner := [.int .u8 ((wrap64 ((wrap64 (65 + (wrap64 (Int.tdiv a0 26)))) - 1)) % 256), .int .u8 ((wrap64 (65 + (Int.tmod a0 26))) % 256)]) (ok := fun _ => True) (okp := fun _ => True) ?hr ?hp (fun _ hk => hk) trivial (Below.refl _ _) (Nat.le_refl _) (by simp) ?_; (case hd => rfl); (case hg => rfl); (case hr => first | (go_simp; done) | (go_simp; rfl)); (case hp => exact (Reps.one (show Kd.M (Kd.int .u8) _ _ _ ((wrap64 ((wrap64 (65 + (wrap64 (Int.tdiv a0 26)))) - 1)) % 256) [.int .u8 ((wrap64 ((wrap64 (65 + (wrap64 (Int.tdiv a0 26)))) - 1)) % 256)] from rfl) (Reps.one (show Kd.M (Kd.int .u8) _ _ _ ((wrap64 (65 + (Int.tmod a0 26))) % 256) [.int .u8 ((wrap64 (65 + (Int.tmod a0 26))) % 256)] from rfl) (Reps.none _ _)))); intro v105 w9 ho10 hb hg_ hnew_; clear hg_ hnew_; (first | rw [← Ny104.out] at ho10 | (simp only [Int.reduceToNat] at ho10; rw [← Ny104.out] at ho10)); have HO106 := Aside0.mk (Kd.R_lower ho10 (below_size (pbx HB))); replace HB := bs_ HB hb; clear hb ho10; have hcv11 := own_string (P := Tryd.prog) Tryd.underlying43 Tryd.underlying5 Tryd.underlying9 (Kd.own_of_R HO106.out)))
     go_ret
     exact ⟨by first | rfl | (simp [errW_none, errW_some] <;> rfl) | (simp [*, errW_none, errW_some] <;> rfl), pbx HB⟩

def addr_Name.f (k : Nat) (a0_0 : Int) (a0_1 : Int) : Option (ByteArray) := (addr_May.f a0_0 a0_1).bind fun t102 => (if t102 = true then ((addr_Letters.f k a0_1).bind fun t103 => ((strconv_Itoa.f (wrap64 (a0_0 + 1))).bind fun t104 => (if t103.size + t104.size ≤ 9223372036854775807 then (some (t103 ++ t104)) else (none)))) else (some (⟨#[]⟩ : ByteArray)))
theorem addr_Name.mono : ∀ a0 a1 k, LeO (addr_Name.f k a0 a1) (addr_Name.f (k + 1) a0 a1) := by
 intro a0 a1 k
 unfold addr_Name.f
 repeat' first
   | (with_reducible exact addr_Letters.mono _ _)
   | (with_reducible exact LeO.refl _)
   | (with_reducible exact LeO.none _)
   | (with_reducible refine LeO.ite ?_ ?_)
   | (with_reducible refine LeO.bind ?_ (fun _ => ?_))
def addr_Name.T3 : Bool × List (List Nat × List Nat) := (true, [([], []), ([0], [0]), ([1], [1]), ([], []), ([3], [3]), ([4], [4]), ([5, 2], [5]), ([2, 6], [2, 6]), ([7, 6, 0, 1, 2, 3, 4, 5, 6, 7], [7])])
def addr_Name.B3 : List Nat := [0, 1, 3, 0, 8, 24, 63, 127, 255]
theorem addr_Name.tab3 : rtab .any (opsOf Tryd.f39 3) = addr_Name.T3 := by kernel_rfl
theorem addr_Name.bits3 : waitsOk addr_Name.T3.2 addr_Name.B3 = true := by kernel_rfl
set_option maxHeartbeats 8000000 in
set_option maxRecDepth 100000 in
theorem addr_Name.calls (k : Nat) (a0_0 : Int) (a0_1 : Int) (r : ByteArray) (w : World) (hT : Aside0 (Tab w)) (h : addr_Name.f k a0_0 a0_1 = some r) :
  Calls Tryd.prog 39 #[.agg #[.int .i64 a0_0, .int .i64 a0_1]] w fun e w' => e = .returned (.string r) ∧ Below w.heap.size w w' := by
 have hu38 := Tryd.underlying38; have HB := Aside0.mk (Below.refl w.heap.size w)
 have H : ((addr_May.f a0_0 a0_1).bind fun t102 => (if t102 = true then ((addr_Letters.f k a0_1).bind fun t103 => ((strconv_Itoa.f (wrap64 (a0_0 + 1))).bind fun t104 => (if t103.size + t104.size ≤ 9223372036854775807 then (some (t103 ++ t104)) else (none)))) else (some (⟨#[]⟩ : ByteArray)))) = some r := h
 clear h; replace H := Option.bind_eq_some_iff.mp H; obtain ⟨t102, A20, H⟩ := H
 replace H : (if t102 = true then ((addr_Letters.f k a0_1).bind fun t103 => ((strconv_Itoa.f (wrap64 (a0_0 + 1))).bind fun t104 => (if t103.size + t104.size ≤ 9223372036854775807 then (some (t103 ++ t104)) else (none)))) else (some (⟨#[]⟩ : ByteArray))) = some r := H
 have A2 := Aside0.mk A20; clear A20
 by_cases c3 : t102 = true
 ·subst c3
  have H1 : ((addr_Letters.f k a0_1).bind fun t103 => ((strconv_Itoa.f (wrap64 (a0_0 + 1))).bind fun t104 => (if t103.size + t104.size ≤ 9223372036854775807 then (some (t103 ++ t104)) else (none)))) = some r := by rw [if_pos rfl] at H; exact H
  clear H; have H := H1; clear H1; replace H := Option.bind_eq_some_iff.mp H; obtain ⟨t103, A40, H⟩ := H
  replace H : ((strconv_Itoa.f (wrap64 (a0_0 + 1))).bind fun t104 => (if t103.size + t104.size ≤ 9223372036854775807 then (some (t103 ++ t104)) else (none))) = some r := H
  have A4 := Aside0.mk A40; clear A40; replace H := Option.bind_eq_some_iff.mp H; obtain ⟨t104, A50, H⟩ := H
  replace H : (if t103.size + t104.size ≤ 9223372036854775807 then (some (t103 ++ t104)) else (none)) = some r := H
  have A5 := Aside0.mk A50; clear A50
  by_cases c6 : t103.size + t104.size ≤ 9223372036854775807
  ·rw [if_pos c6] at H; have c6b0 := eq_true c6; have c6b1 : decide (t103.size + t104.size ≤ 9223372036854775807) = true := decide_eq_true c6
   try have c6b2 : (9223372036854775807 < t103.size + t104.size) = False := eq_false (Nat.not_lt.2 c6)
   obtain rfl := Option.some.inj H
   go_enter Tryd.func39, Tryd.ntmps39
   try go_wp2_with (first | ((with_reducible refine gate_dst (N:=1) rfl ?_); refine be_ (N:=1) (cs := #[.int .i64 a0_0, .int .i64 a0_1]) (t:=38) ?_; intro gb101 hg w7 hbox hb; have BK101 := Aside0.mk (hbox); have GW101 := hs_ HB hg; have GE101 := hs_ HB hg; replace HB := bs_ HB hb; clear hb hbox hg; have hcz8_0 : w7.cell? ⟨gb101, 0, none⟩ = some (.int .i64 a0_0) := bc_ BK101 0 rfl; have hcz8_1 : w7.cell? ⟨gb101, 1, none⟩ = some (.int .i64 a0_1) := bc_ BK101 1 rfl; have hfz8_0 := blk_frozen BK101.out 0; have hfz8_1 := blk_frozen BK101.out 1) | ((with_reducible refine gate_callee (f:=61) rfl ?_); refine gL_ (some 4) rfl rfl Tryd.func61 rfl #[.agg #[.int .i64 a0_0, .int .i64 a0_1]] rfl ?_; (with_reducible refine (addr_May.calls a0_0 a0_1 true _ A2.out).mono ?_); rintro e w9 ⟨rfl, hb⟩; refine ⟨_, rfl, ?_⟩; replace BK101 := bb_ BK101 hb; replace HB := bs_ HB hb; (try clear hb); (try clear hb2); (try clear hk); (try clear hi)))
   (try (rw [drewN_self w9]; generalize hq_ : World.drewN w9 _ = w9; have n0_ : Aside0 (w9.heap[gb101]? = some (.cells #[.int .i64 a0_0, .int .i64 a0_1] 38 (0, 0))) := ⟨by rw [← hq_]; exact (pkx BK101)⟩; have n1_ : Aside0 (Below w.heap.size w w9) := ⟨by rw [← hq_]; exact (pbx HB)⟩; clear BK101 HB hq_; have BK101 := n0_; have HB := n1_; clear n0_ n1_))
   replace BK101 := Aside0.mk (blk_drew BK101.out); replace HB := Aside0.mk (below_drew1 HB.out)
   refine start_ (n:=9) (S := fun w' => w'.cell? ⟨gb101, 0, none⟩ = some (.int .i64 a0_0) ∧ w'.cell? ⟨gb101, 1, none⟩ = some (.int .i64 a0_1)) (ds := []) #[F,F,F,F,F,F,F,F,F] (by kernel_rfl) rfl rfl ⟨bc_ BK101 0 rfl, bc_ BK101 1 rfl⟩ (fun hHeld => ?_); refine with_tabW addr_Name.tab3 addr_Name.bits3 (fun HT_ HW_ => ?_)
   generalize w9.drew = w10 at BK101 HB hHeld ⊢; refine pure_ (i:=0) (N:=some 6) (v:=?_) (a':=?_) ⟨m_ 9 1⟩ rfl rfl (any_of HT_.out (by kernel_rfl)) (fun _ _ _ h=>h) (Or.inl ⟨rfl, ?_⟩) ?_ ?_; rotate_left
   ·intro w'; go_simp; with_reducible rfl
   rotate_left
   ·simp only [q_, i64_w, i32_w]; rfl
   refine pure_ (i:=3) (N:=some 9) (v:=?_) (a':=?_) ⟨m_ 9 9⟩ rfl rfl (any_of HT_.out (by kernel_rfl)) (fun _ _ _ h=>h) (Or.inl ⟨rfl, ?_⟩) ?_ ?_; rotate_left
   ·intro w'; go_simp; with_reducible rfl
   rotate_left
   ·simp only [q_, i64_w, i32_w]; rfl
   refine take_ (i:=1) (N:=some 7) (v:=?_) (a':=?_) ⟨m_ 9 11⟩ rfl rfl (take_ofW HT_.out HW_.out (by kernel_rfl)) (fun _ _ _ h=>h) (Or.inl ⟨rfl, ?_⟩) hHeld ?_ ?_; rotate_left
   ·rintro w' ⟨s0, s1⟩; go_simp; with_reducible rfl
   rotate_left
   ·simp only [q_, i64_w, i32_w]; rfl
   refine take_ (i:=4) (N:=some 10) (v:=?_) (a':=?_) ⟨m_ 9 27⟩ rfl rfl (take_ofW HT_.out HW_.out (by kernel_rfl)) (fun _ _ _ h=>h) (Or.inl ⟨rfl, ?_⟩) hHeld ?_ ?_; rotate_left
   ·rintro w' ⟨s0, s1⟩; go_simp; with_reducible rfl
   rotate_left
   ·simp only [q_, i64_w, i32_w]; rfl
   refine pure_ (i:=5) (N:=some 11) (v:=?_) (a':=?_) ⟨m_ 9 59⟩ rfl rfl (any_of HT_.out (by kernel_rfl)) (fun _ _ _ h=>h) (Or.inl ⟨rfl, ?_⟩) ?_ ?_; rotate_left
   ·intro w'; go_simp; with_reducible rfl
   rotate_left
   ·simp only [q_, i64_w, i32_w]; rfl
   refine one_ (i:=2) (N:=some 8) ⟨m_ 9 63⟩ rfl rfl (one_of HT_.out (by kernel_rfl)) (by decide) (fun K hK => ?_); refine goes_ Tryd.func62 (by kernel_rfl) rfl #[.int .i64 a0_1] (by rfl) rfl rfl (by (try simp only [List.map_toArray, List.map_cons, List.map_nil]); first | done | rfl | (simp only [List.length_drop, List.length_take]; rfl)) ?_; with_reducible refine (addr_Letters.calls k a0_1 t103 _ A4.out).mono ?_; rintro e w11 ⟨rfl, hb⟩; refine ⟨_, rfl, ?_⟩
   replace BK101 := bb_ BK101 hb; replace HB := bs_ HB hb; (try clear hb); (try clear hb2); (try clear hk); (try clear hi); refine hK.out _ _ ⟨bc_ BK101 0 rfl, bc_ BK101 1 rfl⟩ (fun hHeld => ?_); clear hK K; refine norm_ (a':=?_) ?_ ?_; rotate_left
   ·show Act.put _ (some 8) _ = _; simp only [q_, i64_w, i32_w]; rfl
   refine one_ (i:=6) (N:=some 12) ⟨m_ 9 127⟩ rfl rfl (one_of HT_.out (by kernel_rfl)) (by decide) (fun K hK => ?_); refine goes_ Tryd.func19 (by kernel_rfl) rfl #[.int .i64 (wrap64 (a0_0 + 1))] (by rfl) rfl rfl (by (try simp only [List.map_toArray, List.map_cons, List.map_nil]); first | done | rfl | (simp only [List.length_drop, List.length_take]; rfl)) ?_; with_reducible refine (strconv_Itoa.calls (wrap64 (a0_0 + 1)) t104 _ (by refine tb_ ?_ hT; repeat' (first | exact pbx HB | exact Below.refl _ _ | assumption | refine below_set ?_ (Aside0.out ?_))) A5.out).mono ?_; rintro e w12 ⟨rfl, hb⟩; refine ⟨_, rfl, ?_⟩
   replace BK101 := bb_ BK101 hb; replace HB := bs_ HB hb; (try clear hb); (try clear hb2); (try clear hk); (try clear hi); refine hK.out _ _ ⟨bc_ BK101 0 rfl, bc_ BK101 1 rfl⟩ (fun hHeld => ?_); clear hK K; refine norm_ (a':=?_) ?_ ?_; rotate_left
   ·show Act.put _ (some 12) _ = _; simp only [q_, i64_w, i32_w]; rfl
   refine pure_ (i:=7) (N:=some 13) (v:=?_) (a':=?_) ⟨m_ 9 255⟩ rfl rfl (any_of HT_.out (by kernel_rfl)) (fun _ _ _ h=>h) (Or.inl ⟨rfl, ?_⟩) ?_ ?_; rotate_left
   ·intro w'; go_simp; with_reducible rfl
   rotate_left
   ·simp only [q_, i64_w, i32_w]; rfl
   refine pure_ (i:=8) (N:=some 2) (v:=?_) (a':=?_) ⟨m_ 9 511⟩ rfl rfl (any_of HT_.out (by kernel_rfl)) (fun _ _ _ h=>h) (Or.inl ⟨rfl, ?_⟩) ?_ ?_; rotate_left
   ·intro w'; go_simp; with_reducible rfl
   rotate_left
   ·simp only [q_, i64_w, i32_w]; rfl
   refine done_ (done_of HT_.out (by kernel_rfl)) ?_
   try go_wp2
   go_ret
   exact ⟨by first | rfl | (simp [errW_none, errW_some] <;> rfl) | (simp [*, errW_none, errW_some] <;> rfl), pbx HB⟩
  ·rw [if_neg c6] at H
   exact absurd H (by simp)
 ·replace c3 := Bool.eq_false_iff.mpr c3; subst c3
  have H1 : (some (⟨#[]⟩ : ByteArray)) = some r := by rw [if_neg (show ¬ (false = true) by decide)] at H; exact H
  clear H; have H := H1; clear H1; obtain rfl := Option.some.inj H
  go_enter Tryd.func39, Tryd.ntmps39
  go_wp2_with (first | ((with_reducible refine gate_dst (N:=1) rfl ?_); refine be_ (N:=1) (cs := #[.int .i64 a0_0, .int .i64 a0_1]) (t:=38) ?_; intro gb101 hg w13 hbox hb; have BK101 := Aside0.mk (hbox); have GW101 := hs_ HB hg; have GE101 := hs_ HB hg; replace HB := bs_ HB hb; clear hb hbox hg; have hcz14_0 : w13.cell? ⟨gb101, 0, none⟩ = some (.int .i64 a0_0) := bc_ BK101 0 rfl; have hcz14_1 : w13.cell? ⟨gb101, 1, none⟩ = some (.int .i64 a0_1) := bc_ BK101 1 rfl; have hfz14_0 := blk_frozen BK101.out 0; have hfz14_1 := blk_frozen BK101.out 1) | ((with_reducible refine gate_callee (f:=61) rfl ?_); refine gL_ (some 4) rfl rfl Tryd.func61 rfl #[.agg #[.int .i64 a0_0, .int .i64 a0_1]] rfl ?_; (with_reducible refine (addr_May.calls a0_0 a0_1 false _ A2.out).mono ?_); rintro e w15 ⟨rfl, hb⟩; refine ⟨_, rfl, ?_⟩; replace BK101 := bb_ BK101 hb; replace HB := bs_ HB hb; (try clear hb); (try clear hb2); (try clear hk); (try clear hi)))
  go_ret
  exact ⟨by first | rfl | (simp [errW_none, errW_some] <;> rfl) | (simp [*, errW_none, errW_some] <;> rfl), pbx HB⟩

end Go.Proofs.YtbboanfggaknjaaDoor.X
