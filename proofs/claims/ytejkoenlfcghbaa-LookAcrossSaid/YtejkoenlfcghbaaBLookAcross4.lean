/- Contracts of the functions that the law LookAcross reaches, and what they answer (a session's own texts, joined; part 4). -/
import Derived.Test.YtejkoenlfcghbaaBLookAcross3
namespace Go.Proofs.Ytejkoenlfcghbaa.X
open Go.RowKit Go.Proofs.YtejkoenlfcghbaaW.PrintWords Go.Proofs.YtejkoenlfcghbaaW.PrintLast Go.Proofs.YtejkoenlfcghbaaW.PrintMore
attribute [local go_sem] max2_int min2_int max_two min_two max_three min_three max_four min_four
set_option linter.unusedVariables false
set_option linter.unusedSimpArgs false
mutual
def crit_Like.j0 : Nat → ByteArray → ByteArray → ByteArray → Bool → Bool → Option (Bool)
 | 0, _, _, _, _, _ => none
 | k + 1, x1, x5, x6, x7, x28 => if x28 = true then (some false) else (if 0 ≤ (x5.size : Int) then (if (x5.size : Int) ≤ (x1.size : Int) then (crit_Like.l0 k (x1.extract x5.size x1.size) x6 x7) else (none)) else (none))
def crit_Like.l0 : Nat → ByteArray → ByteArray → Bool → Option (Bool)
 | 0, _, _, _ => none
 | k + 1, x1, x6, x7 => if x7 = true then ((strings_Cut.f x6 (⟨#[42]⟩ : ByteArray)).bind fun bt105 => (if bt105.2.2 = true then (crit_Like.l1 k x1 bt105.1 bt105.2.1 bt105.2.2) else (if (x1.size : Int) ≥ (bt105.1.size : Int) then (if 0 ≤ (wrap64 ((x1.size : Int) - (bt105.1.size : Int))) then (if (wrap64 ((x1.size : Int) - (bt105.1.size : Int))) ≤ (x1.size : Int) then ((crit_fits.f k bt105.1 (x1.extract ((wrap64 ((x1.size : Int) - (bt105.1.size : Int))) : Int).toNat x1.size)).bind fun t108 => (some t108)) else (none)) else (none)) else (some false)))) else (some true)
def crit_Like.l1 : Nat → ByteArray → ByteArray → ByteArray → Bool → Option (Bool)
 | 0, _, _, _, _ => none
 | k + 1, x1, x5, x6, x7 => (crit_fits.f k x5 x1).bind fun t109 => (if t109 = true then (if 0 ≤ (x5.size : Int) then (if (x5.size : Int) ≤ (x1.size : Int) then (crit_Like.l0 k (x1.extract x5.size x1.size) x6 x7) else (none)) else (none)) else (if x1.toList = ([] : List UInt8) then (some false) else (if 1 ≤ (x1.size : Int) then (crit_Like.l1 k (x1.extract 1 x1.size) x5 x6 x7) else (none))))
end
def crit_Like.f (k : Nat) (a0 : ByteArray) (a1 : ByteArray) : Option (Bool) := (strings_Cut.f a0 (⟨#[42]⟩ : ByteArray)).bind fun bt101 => ((crit_fits.f k bt101.1 a1).bind fun t104 => (if t104 = true then (if bt101.2.2 = true then (crit_Like.j0 k a1 bt101.1 bt101.2.1 bt101.2.2 false) else (crit_Like.j0 k a1 bt101.1 bt101.2.1 bt101.2.2 ((bt101.1.size : Int) != (a1.size : Int)))) else (crit_Like.j0 k a1 bt101.1 bt101.2.1 bt101.2.2 true)))
theorem crit_Like.mono_l : ∀ k, (∀ y0 y1 y2 y3 y4, LeO (crit_Like.j0 k y0 y1 y2 y3 y4) (crit_Like.j0 (k + 1) y0 y1 y2 y3 y4)) ∧ (∀ y0 y1 y2, LeO (crit_Like.l0 k y0 y1 y2) (crit_Like.l0 (k + 1) y0 y1 y2)) ∧ (∀ y0 y1 y2 y3, LeO (crit_Like.l1 k y0 y1 y2 y3) (crit_Like.l1 (k + 1) y0 y1 y2 y3))
 | 0 => ⟨fun _ _ _ _ _ r h => by simp [crit_Like.j0] at h, fun _ _ _ r h => by simp [crit_Like.l0] at h, fun _ _ _ _ r h => by simp [crit_Like.l1] at h⟩
 | k + 1 => by
  obtain ⟨ih0, ih1, ih2⟩ := crit_Like.mono_l k
  refine ⟨?_, ?_, ?_⟩
  ·intro y0 y1 y2 y3 y4
   unfold crit_Like.j0
   repeat' first
   | (with_reducible exact ih0 _ _ _ _ _)
   | (with_reducible exact ih1 _ _ _)
   | (with_reducible exact ih2 _ _ _ _)
   | (with_reducible exact crit_fits.mono _ _ _)
   | (with_reducible exact LeO.refl _)
   | (with_reducible exact LeO.none _)
   | (with_reducible refine LeO.ite ?_ ?_)
   | (with_reducible refine LeO.bind ?_ (fun _ => ?_))
  ·intro y0 y1 y2
   unfold crit_Like.l0
   repeat' first
   | (with_reducible exact ih0 _ _ _ _ _)
   | (with_reducible exact ih1 _ _ _)
   | (with_reducible exact ih2 _ _ _ _)
   | (with_reducible exact crit_fits.mono _ _ _)
   | (with_reducible exact LeO.refl _)
   | (with_reducible exact LeO.none _)
   | (with_reducible refine LeO.ite ?_ ?_)
   | (with_reducible refine LeO.bind ?_ (fun _ => ?_))
  ·intro y0 y1 y2 y3
   unfold crit_Like.l1
   repeat' first
   | (with_reducible exact ih0 _ _ _ _ _)
   | (with_reducible exact ih1 _ _ _)
   | (with_reducible exact ih2 _ _ _ _)
   | (with_reducible exact crit_fits.mono _ _ _)
   | (with_reducible exact LeO.refl _)
   | (with_reducible exact LeO.none _)
   | (with_reducible refine LeO.ite ?_ ?_)
   | (with_reducible refine LeO.bind ?_ (fun _ => ?_))
theorem crit_Like.mono : ∀ a0 a1 k, LeO (crit_Like.f k a0 a1) (crit_Like.f (k + 1) a0 a1) := by
 intro a0 a1 k; obtain ⟨ih0, ih1, ih2⟩ := crit_Like.mono_l k
 unfold crit_Like.f
 repeat' first
   | (with_reducible exact ih0 _ _ _ _ _)
   | (with_reducible exact ih1 _ _ _)
   | (with_reducible exact ih2 _ _ _ _)
   | (with_reducible exact crit_fits.mono _ _ _)
   | (with_reducible exact LeO.refl _)
   | (with_reducible exact LeO.none _)
   | (with_reducible refine LeO.ite ?_ ?_)
   | (with_reducible refine LeO.bind ?_ (fun _ => ?_))
set_option maxHeartbeats 8000000 in
set_option maxRecDepth 100000 in
theorem crit_Like.calls (k : Nat) (a0 : ByteArray) (a1 : ByteArray) (r : Bool) (w : World) (h : crit_Like.f k a0 a1 = some r) :
  Calls Try.prog 54 #[.string a0, .string a1] w fun e w' => e = .returned (.bool r) ∧ Drawn0 w w' := by
 have H : ((strings_Cut.f a0 (⟨#[42]⟩ : ByteArray)).bind fun bt101 => ((crit_fits.f k bt101.1 a1).bind fun t104 => (if t104 = true then (if bt101.2.2 = true then (crit_Like.j0 k a1 bt101.1 bt101.2.1 bt101.2.2 false) else (crit_Like.j0 k a1 bt101.1 bt101.2.1 bt101.2.2 ((bt101.1.size : Int) != (a1.size : Int)))) else (crit_Like.j0 k a1 bt101.1 bt101.2.1 bt101.2.2 true)))) = some r := h
 clear h; replace H := Option.bind_eq_some_iff.mp H; obtain ⟨⟨t101, t102, t103⟩, A30, H⟩ := H
 replace H : ((crit_fits.f k t101 a1).bind fun t104 => (if t104 = true then (if t103 = true then (crit_Like.j0 k a1 t101 t102 t103 false) else (crit_Like.j0 k a1 t101 t102 t103 ((t101.size : Int) != (a1.size : Int)))) else (crit_Like.j0 k a1 t101 t102 t103 true))) = some r := H
 have A3 := Aside0.mk A30; clear A30; have HC4 := Aside0.mk H; clear H
 go_enter Try.func54, Try.ntmps54
 go_upto_region 2 with (first | ((with_reducible refine gate_callee (f:=62) rfl ?_); refine gL_ (some 10) rfl rfl Try.func62 rfl #[.string a0, .string (⟨#[42]⟩ : ByteArray)] rfl ?_; (with_reducible refine (strings_Cut.calls a0 (⟨#[42]⟩ : ByteArray) t101 t102 t103 _ A3.out).mono ?_); rintro e w' ⟨rfl, ⟨nd, rfl⟩⟩; refine ⟨_, rfl, ?_⟩))
 (try simp only [q_])
 go_cut [28] (fun v28 wc => ∃ (kq : Nat) (x28_3 : Bool), v28 = .bool x28_3 ∧ Aside0 (crit_Like.j0 kq a1 t101 t102 t103 x28_3 = some r) ∧ Aside0 (kq ≤ k) ∧ Drawn0 w wc)
 case first =>
  have H := HC4.out; clear HC4; replace H := Option.bind_eq_some_iff.mp H; obtain ⟨t104, A50, H⟩ := H
  replace H : (if t104 = true then (if t103 = true then (crit_Like.j0 k a1 t101 t102 t103 false) else (crit_Like.j0 k a1 t101 t102 t103 ((t101.size : Int) != (a1.size : Int)))) else (crit_Like.j0 k a1 t101 t102 t103 true)) = some r := H
  have A5 := Aside0.mk A50; clear A50
  by_cases c6 : t104 = true
  ·subst c6
   have H1 : (if t103 = true then (crit_Like.j0 k a1 t101 t102 t103 false) else (crit_Like.j0 k a1 t101 t102 t103 ((t101.size : Int) != (a1.size : Int)))) = some r := by rw [if_pos rfl] at H; exact H
   clear H; have H := H1; clear H1
   by_cases c7 : t103 = true
   ·subst c7
    have H1 : (crit_Like.j0 k a1 t101 t102 true false) = some r := by rw [if_pos rfl] at H; exact H
    clear H; have H := H1; clear H1
    have H' := Aside0.mk H
    clear H
    go_wp2_with (first | ((with_reducible refine gate_callee (f:=63) rfl ?_); refine gL_ (some 16) rfl rfl Try.func63 rfl #[.string t101, .string a1] rfl ?_; (with_reducible refine (crit_fits.calls k t101 a1 true _ A5.out).mono ?_); rintro e w' ⟨rfl, ⟨nd, rfl⟩⟩; refine ⟨_, rfl, ?_⟩))
    go_meet
    case rel => exact ⟨_, (false), (by first | rfl | (simp; done) | (simp [*]; done)), H', ⟨by first | omega | exact Nat.le_refl _⟩, by repeat (first | exact Drawn0.refl _ | apply Drawn0.step)⟩
   ·replace c7 := Bool.eq_false_iff.mpr c7; subst c7
    have H1 : (crit_Like.j0 k a1 t101 t102 false ((t101.size : Int) != (a1.size : Int))) = some r := by rw [if_neg (show ¬ (false = true) by decide)] at H; exact H
    clear H; have H := H1; clear H1
    have H' := Aside0.mk H
    clear H
    go_wp2_with (first | ((with_reducible refine gate_callee (f:=63) rfl ?_); refine gL_ (some 16) rfl rfl Try.func63 rfl #[.string t101, .string a1] rfl ?_; (with_reducible refine (crit_fits.calls k t101 a1 true _ A5.out).mono ?_); rintro e w' ⟨rfl, ⟨nd, rfl⟩⟩; refine ⟨_, rfl, ?_⟩))
    go_meet
    case rel => exact ⟨_, (((t101.size : Int) != (a1.size : Int))), (by first | rfl | (simp; done) | (simp [*]; done) | (cases t101 <;> simp; done)), H', ⟨by first | omega | exact Nat.le_refl _⟩, by repeat (first | exact Drawn0.refl _ | apply Drawn0.step)⟩
  ·replace c6 := Bool.eq_false_iff.mpr c6; subst c6
   have H1 : (crit_Like.j0 k a1 t101 t102 t103 true) = some r := by rw [if_neg (show ¬ (false = true) by decide)] at H; exact H
   clear H; have H := H1; clear H1
   have H' := Aside0.mk H
   clear H
   go_wp2_with (first | ((with_reducible refine gate_callee (f:=63) rfl ?_); refine gL_ (some 16) rfl rfl Try.func63 rfl #[.string t101, .string a1] rfl ?_; (with_reducible refine (crit_fits.calls k t101 a1 false _ A5.out).mono ?_); rintro e w' ⟨rfl, ⟨nd, rfl⟩⟩; refine ⟨_, rfl, ?_⟩))
   go_meet
   case rel => exact ⟨_, (true), (by first | rfl | (simp; done) | (simp [*]; done)), H', ⟨by first | omega | exact Nat.le_refl _⟩, by repeat (first | exact Drawn0.refl _ | apply Drawn0.step)⟩
 case rest =>
  clear HC4; (try clear p2); (try clear c5); (try clear c6); (try clear c7); obtain ⟨kq, x28_3, rfl, HA, HJ3, ⟨mc3, rfl⟩⟩ := hcut
  cases kq with
  | zero => exact absurd HA.out (by simp [crit_Like.j0])
  | succ kj3 =>
   have H := HA.out; clear HA
   simp only [crit_Like.j0] at H
   by_cases c8 : x28_3 = true
   ·subst c8
    have H1 : (some false) = some r := by rw [if_pos rfl] at H; exact H
    clear H; have H := H1; clear H1; obtain rfl := Option.some.inj H
    go_wp2
    go_ret
    exact ⟨by first | rfl | (simp; done) | (simp [*]; done), by repeat (first | exact Drawn0.refl _ | apply Drawn0.step)⟩
   ·replace c8 := Bool.eq_false_iff.mpr c8; subst c8
    have H1 : (if 0 ≤ (t101.size : Int) then (if (t101.size : Int) ≤ (a1.size : Int) then (crit_Like.l0 kj3 (a1.extract t101.size a1.size) t102 t103) else (none)) else (none)) = some r := by rw [if_neg (show ¬ (false = true) by decide)] at H; exact H
    clear H; have H := H1; clear H1
    by_cases c9 : 0 ≤ (t101.size : Int)
    ·rw [if_pos c9] at H; have c9b0 := eq_true c9; have c9b1 : decide (0 ≤ (t101.size : Int)) = true := decide_eq_true c9; clear c9
     by_cases c10 : (t101.size : Int) ≤ (a1.size : Int)
     ·rw [if_pos c10] at H; have c10b0 := eq_true c10; have c10b1 : decide ((t101.size : Int) ≤ (a1.size : Int)) = true := decide_eq_true c10; clear c10
      have H' := Aside0.mk H
      clear H
      go_wp2
      go_loopg [1, 6, 7] kj3 (fun kq v1 v6 v7 w' => ∃ (x1_2 : ByteArray) (x6_2 : ByteArray) (x7_2 : Bool), v1 = .string x1_2 ∧ v6 = .string x6_2 ∧ v7 = .bool x7_2 ∧ Aside0 (crit_Like.l0 kq x1_2 x6_2 x7_2 = some r) ∧ Aside0 (kq ≤ kj3) ∧ Drawn0 w w')
      case atStart => exact ⟨(a1.extract t101.size a1.size), (t102), (t103), (by first | rfl | (simp; done) | (simp [*]; done) | (cases t101 <;> simp; done)), (by first | rfl | (simp; done) | (simp [*]; done) | (cases t102 <;> simp; done)), (by first | rfl | (simp; done) | (simp [*]; done) | (cases t103 <;> simp; done)), H', ⟨Nat.le_refl _⟩, by repeat (first | exact Drawn0.refl _ | apply Drawn0.step)⟩
      case round =>
       clear H'; (try clear c1); (try clear p2); (try clear c3); (try clear c5); (try clear c6); (try clear c7); (try clear c8); (try clear c9); (try clear c9b0); (try clear c9b1); (try clear c10); (try clear c10b0); (try clear c10b1); (try clear p2); obtain ⟨x1_2, x6_2, x7_2, rfl, rfl, rfl, HA, HK2, ⟨m2, rfl⟩⟩ := hrel
       cases gk with
       | zero => exact absurd HA.out (by simp [crit_Like.l0])
       | succ k2 =>
        have H := HA.out; clear HA
        simp only [crit_Like.l0] at H
        by_cases c11 : x7_2 = true
        ·subst c11
         have H1 : ((strings_Cut.f x6_2 (⟨#[42]⟩ : ByteArray)).bind fun bt105 => (if bt105.2.2 = true then (crit_Like.l1 k2 x1_2 bt105.1 bt105.2.1 bt105.2.2) else (if (x1_2.size : Int) ≥ (bt105.1.size : Int) then (if 0 ≤ (wrap64 ((x1_2.size : Int) - (bt105.1.size : Int))) then (if (wrap64 ((x1_2.size : Int) - (bt105.1.size : Int))) ≤ (x1_2.size : Int) then ((crit_fits.f k2 bt105.1 (x1_2.extract ((wrap64 ((x1_2.size : Int) - (bt105.1.size : Int))) : Int).toNat x1_2.size)).bind fun t108 => (some t108)) else (none)) else (none)) else (some false)))) = some r := by rw [if_pos rfl] at H; exact H
         clear H; have H := H1; clear H1; replace H := Option.bind_eq_some_iff.mp H; obtain ⟨⟨t105, t106, t107⟩, A120, H⟩ := H
         replace H : (if t107 = true then (crit_Like.l1 k2 x1_2 t105 t106 t107) else (if (x1_2.size : Int) ≥ (t105.size : Int) then (if 0 ≤ (wrap64 ((x1_2.size : Int) - (t105.size : Int))) then (if (wrap64 ((x1_2.size : Int) - (t105.size : Int))) ≤ (x1_2.size : Int) then ((crit_fits.f k2 t105 (x1_2.extract ((wrap64 ((x1_2.size : Int) - (t105.size : Int))) : Int).toNat x1_2.size)).bind fun t108 => (some t108)) else (none)) else (none)) else (some false))) = some r := H
         have A12 := Aside0.mk A120; clear A120
         by_cases c13 : t107 = true
         ·subst c13
          have H1 : (crit_Like.l1 k2 x1_2 t105 t106 true) = some r := by rw [if_pos rfl] at H; exact H
          clear H; have H := H1; clear H1
          have H' := Aside0.mk H
          clear H
          go_wp2_with (first | ((with_reducible refine gate_callee (f:=62) rfl ?_); refine gL_ (some 36) rfl rfl Try.func62 rfl #[.string x6_2, .string (⟨#[42]⟩ : ByteArray)] rfl ?_; (with_reducible refine (strings_Cut.calls x6_2 (⟨#[42]⟩ : ByteArray) t105 t106 true _ A12.out).mono ?_); rintro e w' ⟨rfl, ⟨nd, rfl⟩⟩; refine ⟨_, rfl, ?_⟩))
          go_loopg [1] k2 (fun kq v1 w' => ∃ (x1_3 : ByteArray), v1 = .string x1_3 ∧ Aside0 (crit_Like.l1 kq x1_3 t105 t106 true = some r) ∧ Aside0 (kq ≤ k2) ∧ Drawn0 w w')
          case atStart => exact ⟨(x1_2), (by first | rfl | (simp; done) | (simp [*]; done)), H', ⟨Nat.le_refl _⟩, by repeat (first | exact Drawn0.refl _ | apply Drawn0.step)⟩
          case round =>
           clear H'; (try clear c1); (try clear p2); (try clear c3); (try clear c5); (try clear c6); (try clear p6); (try clear c7); (try clear c8); (try clear c9); (try clear c9b0); (try clear c9b1); (try clear c10); (try clear c10b0); (try clear c10b1); (try clear c11); (try clear c13); (try clear p2); obtain ⟨x1_3, rfl, HA, HK3, ⟨m3, rfl⟩⟩ := hrel
           cases gk with
           | zero => exact absurd HA.out (by simp [crit_Like.l1])
           | succ k3 =>
            have H := HA.out; clear HA
            simp only [crit_Like.l1] at H
            replace H := Option.bind_eq_some_iff.mp H; obtain ⟨t109, A140, H⟩ := H
            replace H : (if t109 = true then (if 0 ≤ (t105.size : Int) then (if (t105.size : Int) ≤ (x1_3.size : Int) then (crit_Like.l0 k3 (x1_3.extract t105.size x1_3.size) t106 true) else (none)) else (none)) else (if x1_3.toList = ([] : List UInt8) then (some false) else (if 1 ≤ (x1_3.size : Int) then (crit_Like.l1 k3 (x1_3.extract 1 x1_3.size) t105 t106 true) else (none)))) = some r := H
            have A14 := Aside0.mk A140; clear A140
            by_cases c15 : t109 = true
            ·subst c15
             have H1 : (if 0 ≤ (t105.size : Int) then (if (t105.size : Int) ≤ (x1_3.size : Int) then (crit_Like.l0 k3 (x1_3.extract t105.size x1_3.size) t106 true) else (none)) else (none)) = some r := by rw [if_pos rfl] at H; exact H
             clear H; have H := H1; clear H1
             by_cases c16 : 0 ≤ (t105.size : Int)
             ·rw [if_pos c16] at H; have c16b0 := eq_true c16; have c16b1 : decide (0 ≤ (t105.size : Int)) = true := decide_eq_true c16; clear c16
              by_cases c17 : (t105.size : Int) ≤ (x1_3.size : Int)
              ·rw [if_pos c17] at H; have c17b0 := eq_true c17; have c17b1 : decide ((t105.size : Int) ≤ (x1_3.size : Int)) = true := decide_eq_true c17; clear c17
               have H' := Aside0.mk H
               clear H
               go_wp2_with (first | ((with_reducible refine gate_callee (f:=63) rfl ?_); refine gL_ (some 60) rfl rfl Try.func63 rfl #[.string t105, .string x1_3] rfl ?_; (with_reducible refine (crit_fits.calls k3 t105 x1_3 true _ A14.out).mono ?_); rintro e w' ⟨rfl, ⟨nd, rfl⟩⟩; refine ⟨_, rfl, ?_⟩))
               go_roundg k3
               case measure => have := HJ3.out; have := HK2.out; have := HK3.out; omega
               case rel => exact ⟨(x1_3.extract t105.size x1_3.size), (t106), (true), (by first | rfl | (simp; done) | (simp [*]; done) | (cases t105 <;> simp; done)), (by first | rfl | (simp; done) | (simp [*]; done) | (cases t106 <;> simp; done)), (by first | rfl | (simp; done) | (simp [*]; done)), H', ⟨by have := HJ3.out; have := HK2.out; have := HK3.out; omega⟩, by repeat (first | exact Drawn0.refl _ | apply Drawn0.step)⟩
              ·rw [if_neg c17] at H
               exact absurd H (by simp)
             ·rw [if_neg c16] at H
              exact absurd H (by simp)
            ·replace c15 := Bool.eq_false_iff.mpr c15; subst c15
             have H1 : (if x1_3.toList = ([] : List UInt8) then (some false) else (if 1 ≤ (x1_3.size : Int) then (crit_Like.l1 k3 (x1_3.extract 1 x1_3.size) t105 t106 true) else (none))) = some r := by rw [if_neg (show ¬ (false = true) by decide)] at H; exact H
             clear H; have H := H1; clear H1
             by_cases c18 : x1_3.toList = ([] : List UInt8)
             ·rw [if_pos c18] at H; have c18b0 : (x1_3.toList == ([] : List UInt8)) = true := beq_iff_eq.mpr c18; have c18b1 : (x1_3.toList != ([] : List UInt8)) = false := bne_eq_false_iff_eq.mpr c18; clear c18; obtain rfl := Option.some.inj H
              go_wp2_with (first | ((with_reducible refine gate_callee (f:=63) rfl ?_); refine gL_ (some 60) rfl rfl Try.func63 rfl #[.string t105, .string x1_3] rfl ?_; (with_reducible refine (crit_fits.calls k3 t105 x1_3 false _ A14.out).mono ?_); rintro e w' ⟨rfl, ⟨nd, rfl⟩⟩; refine ⟨_, rfl, ?_⟩))
              go_ret
              exact ⟨by first | rfl | (simp; done) | (simp [*]; done), by repeat (first | exact Drawn0.refl _ | apply Drawn0.step)⟩
             ·rw [if_neg c18] at H; have c18b0 : (x1_3.toList == ([] : List UInt8)) = false := beq_eq_false_iff_ne.mpr c18; have c18b1 : (x1_3.toList != ([] : List UInt8)) = true := bne_iff_ne.mpr c18
              by_cases c19 : 1 ≤ (x1_3.size : Int)
              ·rw [if_pos c19] at H; have c19b0 := eq_true c19; have c19b1 : decide (1 ≤ (x1_3.size : Int)) = true := decide_eq_true c19; clear c19
               have H' := Aside0.mk H
               clear H
               go_wp2_with (first | ((with_reducible refine gate_callee (f:=63) rfl ?_); refine gL_ (some 60) rfl rfl Try.func63 rfl #[.string t105, .string x1_3] rfl ?_; (with_reducible refine (crit_fits.calls k3 t105 x1_3 false _ A14.out).mono ?_); rintro e w' ⟨rfl, ⟨nd, rfl⟩⟩; refine ⟨_, rfl, ?_⟩))
               go_roundg k3
               case measure => have := HJ3.out; have := HK2.out; have := HK3.out; omega
               case rel => exact ⟨(x1_3.extract 1 x1_3.size), (by first | rfl | (simp; done) | (simp [*]; done)), H', ⟨by have := HJ3.out; have := HK2.out; have := HK3.out; omega⟩, by repeat (first | exact Drawn0.refl _ | apply Drawn0.step)⟩
              ·rw [if_neg c19] at H
               exact absurd H (by simp)
         ·replace c13 := Bool.eq_false_iff.mpr c13; subst c13
          have H1 : (if (x1_2.size : Int) ≥ (t105.size : Int) then (if 0 ≤ (wrap64 ((x1_2.size : Int) - (t105.size : Int))) then (if (wrap64 ((x1_2.size : Int) - (t105.size : Int))) ≤ (x1_2.size : Int) then ((crit_fits.f k2 t105 (x1_2.extract ((wrap64 ((x1_2.size : Int) - (t105.size : Int))) : Int).toNat x1_2.size)).bind fun t108 => (some t108)) else (none)) else (none)) else (some false)) = some r := by rw [if_neg (show ¬ (false = true) by decide)] at H; exact H
          clear H; have H := H1; clear H1
          by_cases c20 : (x1_2.size : Int) ≥ (t105.size : Int)
          ·rw [if_pos c20] at H; have c20b0 : decide ((t105.size : Int) ≤ (x1_2.size : Int)) = true := decide_eq_true c20; have c20b1 : decide (t105.size ≤ x1_2.size) = true := decide_eq_true (Int.ofNat_le.mp c20); clear c20; obtain ⟨ji21, hji21⟩ : ∃ j_ : Int, (wrap64 ((x1_2.size : Int) - (t105.size : Int))) = j_ := ⟨_, rfl⟩
           replace H : (if 0 ≤ (ji21) then (if (ji21) ≤ (x1_2.size : Int) then ((crit_fits.f k2 t105 (x1_2.extract ((ji21) : Int).toNat x1_2.size)).bind fun t108 => (some t108)) else (none)) else (none)) = some r := by first | (rw [hji21] at H; exact H) | (simp only [hji21] at H ⊢; exact H)
           (try rw [hji21] at A12)
           have hji21w : (IntKind.i64.wrap ((x1_2.size : Int) - (t105.size : Int))) = ji21 := (i64_w _).trans hji21
           by_cases c22 : 0 ≤ (ji21)
           ·rw [if_pos c22] at H; have c22b0 := eq_true c22; have c22b1 : decide (0 ≤ (ji21)) = true := decide_eq_true c22; clear c22
            by_cases c23 : (ji21) ≤ (x1_2.size : Int)
            ·rw [if_pos c23] at H; have c23b0 := eq_true c23; have c23b1 : decide ((ji21) ≤ (x1_2.size : Int)) = true := decide_eq_true c23; clear c23; replace H := Option.bind_eq_some_iff.mp H; obtain ⟨t108, A240, H⟩ := H
             replace H : (some t108) = some r := H
             have A24 := Aside0.mk A240; clear A240; obtain rfl := Option.some.inj H
             go_wp2_with (first | ((with_reducible refine gate_callee (f:=62) rfl ?_); refine gL_ (some 36) rfl rfl Try.func62 rfl #[.string x6_2, .string (⟨#[42]⟩ : ByteArray)] rfl ?_; (with_reducible refine (strings_Cut.calls x6_2 (⟨#[42]⟩ : ByteArray) t105 t106 false _ A12.out).mono ?_); rintro e w' ⟨rfl, ⟨nd, rfl⟩⟩; refine ⟨_, rfl, ?_⟩) | (go_at_call 63; (with_reducible refine (crit_fits.calls k2 t105 (x1_2.extract ((ji21) : Int).toNat x1_2.size) t108 _ A24.out).mono ?_); rintro e w' ⟨rfl, ⟨nd, rfl⟩⟩))
             go_ret
             exact ⟨by first | rfl | (simp; done) | (simp only [← hji21] <;> (first | rfl | simp)) | (simp [*]; done), by repeat (first | exact Drawn0.refl _ | apply Drawn0.step)⟩
            ·rw [if_neg c23] at H
             exact absurd H (by simp)
           ·rw [if_neg c22] at H
            exact absurd H (by simp)
          ·rw [if_neg c20] at H; have c20b0 : decide ((t105.size : Int) ≤ (x1_2.size : Int)) = false := decide_eq_false c20; have c20b1 : decide (t105.size ≤ x1_2.size) = false := decide_eq_false (fun h => c20 (Int.ofNat_le.mpr h)); clear c20; obtain rfl := Option.some.inj H
           go_wp2_with (first | ((with_reducible refine gate_callee (f:=62) rfl ?_); refine gL_ (some 36) rfl rfl Try.func62 rfl #[.string x6_2, .string (⟨#[42]⟩ : ByteArray)] rfl ?_; (with_reducible refine (strings_Cut.calls x6_2 (⟨#[42]⟩ : ByteArray) t105 t106 false _ A12.out).mono ?_); rintro e w' ⟨rfl, ⟨nd, rfl⟩⟩; refine ⟨_, rfl, ?_⟩))
           go_ret
           exact ⟨by first | rfl | (simp; done) | (simp [*]; done), by repeat (first | exact Drawn0.refl _ | apply Drawn0.step)⟩
        ·replace c11 := Bool.eq_false_iff.mpr c11; subst c11
         have H1 : (some true) = some r := by rw [if_neg (show ¬ (false = true) by decide)] at H; exact H
         clear H; have H := H1; clear H1; obtain rfl := Option.some.inj H
         go_wp2
         go_ret
         exact ⟨by first | rfl | (simp; done) | (simp [*]; done), by repeat (first | exact Drawn0.refl _ | apply Drawn0.step)⟩
     ·rw [if_neg c10] at H
      exact absurd H (by simp)
    ·rw [if_neg c9] at H
     exact absurd H (by simp)

mutual
def crit_Hits.j0 : Nat → Int → Int → Int → ByteArray → Int → Int → ByteArray → Option (Bool)
 | 0, _, _, _, _, _, _, _ => none
 | k + 1, x102000, x102001, x102002, x102003, x103000, x103001, x103002 => if x103000 = x102001 then (if x103000 = 2 then (if x102000 = 7 then (crit_Hits.j1 k true x102000 x102001 x102002 x102003 x103000 x103001 x103002) else (crit_Hits.j1 k (x102000 == 8) x102000 x102001 x102002 x102003 x103000 x103001 x103002)) else (crit_Hits.j1 k false x102000 x102001 x102002 x102003 x103000 x103001 x103002)) else (some (x102000 == 8))
def crit_Hits.j1 : Nat → Bool → Int → Int → Int → ByteArray → Int → Int → ByteArray → Option (Bool)
 | 0, _, _, _, _, _, _, _, _ => none
 | k + 1, x34, x102000, x102001, x102002, x102003, x103000, x103001, x103002 => if x34 = true then ((crit_Like.f k x102003 x103002).bind fun t106 => (some (t106 == (x102000 == 7)))) else ((value_Compare.f k x103000 x103001 x103002 x102001 x102002 x102003).bind fun t107 => (crit_Hits.j2 k t107 x102000 x102001 x102002 x102003))
def crit_Hits.j2 : Nat → Int → Int → Int → Int → ByteArray → Option (Bool)
 | 0, _, _, _, _, _ => none
 | k + 1, x5, x102000, x102001, x102002, x102003 => if x102000 = 7 then (some (x5 == 0)) else (if x102000 = 8 then (some (x5 != 0)) else (if x102000 = 9 then (some (decide (x5 < 0))) else (if x102000 = 10 then (some (decide (x5 ≤ 0))) else (if x102000 = 11 then (some (decide (x5 > 0))) else (some (decide (x5 ≥ 0)))))))
end
def crit_Hits.f (k : Nat) (a0_0 : Int) (a0_1 : Int) (a0_2 : Int) (a0_3 : ByteArray) (a1_0 : Int) (a1_1 : Int) (a1_2 : ByteArray) : Option (Bool) := if a1_0 = 4 then (some false) else (if a1_0 = 0 then ((value_Str.f (⟨#[]⟩ : ByteArray)).bind fun bt103 => (crit_Hits.j0 k a0_0 a0_1 a0_2 a0_3 bt103.1 bt103.2.1 bt103.2.2)) else (crit_Hits.j0 k a0_0 a0_1 a0_2 a0_3 a1_0 a1_1 a1_2))
theorem crit_Hits.mono_l : ∀ k, (∀ y0 y1 y2 y3 y4 y5 y6, LeO (crit_Hits.j0 k y0 y1 y2 y3 y4 y5 y6) (crit_Hits.j0 (k + 1) y0 y1 y2 y3 y4 y5 y6)) ∧ (∀ y0 y1 y2 y3 y4 y5 y6 y7, LeO (crit_Hits.j1 k y0 y1 y2 y3 y4 y5 y6 y7) (crit_Hits.j1 (k + 1) y0 y1 y2 y3 y4 y5 y6 y7)) ∧ (∀ y0 y1 y2 y3 y4, LeO (crit_Hits.j2 k y0 y1 y2 y3 y4) (crit_Hits.j2 (k + 1) y0 y1 y2 y3 y4))
 | 0 => ⟨fun _ _ _ _ _ _ _ r h => by simp [crit_Hits.j0] at h, fun _ _ _ _ _ _ _ _ r h => by simp [crit_Hits.j1] at h, fun _ _ _ _ _ r h => by simp [crit_Hits.j2] at h⟩
 | k + 1 => by
  obtain ⟨ih0, ih1, ih2⟩ := crit_Hits.mono_l k
  refine ⟨?_, ?_, ?_⟩
  ·intro y0 y1 y2 y3 y4 y5 y6
   unfold crit_Hits.j0
   repeat' first
   | (with_reducible exact ih0 _ _ _ _ _ _ _)
   | (with_reducible exact ih1 _ _ _ _ _ _ _ _)
   | (with_reducible exact ih2 _ _ _ _ _)
   | (with_reducible exact crit_Like.mono _ _ _)
   | (with_reducible exact value_Compare.mono _ _ _ _ _ _ _)
   | (with_reducible exact LeO.refl _)
   | (with_reducible exact LeO.none _)
   | (with_reducible refine LeO.ite ?_ ?_)
   | (with_reducible refine LeO.bind ?_ (fun _ => ?_))
  ·intro y0 y1 y2 y3 y4 y5 y6 y7
   unfold crit_Hits.j1
   repeat' first
   | (with_reducible exact ih0 _ _ _ _ _ _ _)
   | (with_reducible exact ih1 _ _ _ _ _ _ _ _)
   | (with_reducible exact ih2 _ _ _ _ _)
   | (with_reducible exact crit_Like.mono _ _ _)
   | (with_reducible exact value_Compare.mono _ _ _ _ _ _ _)
   | (with_reducible exact LeO.refl _)
   | (with_reducible exact LeO.none _)
   | (with_reducible refine LeO.ite ?_ ?_)
   | (with_reducible refine LeO.bind ?_ (fun _ => ?_))
  ·intro y0 y1 y2 y3 y4
   unfold crit_Hits.j2
   repeat' first
   | (with_reducible exact ih0 _ _ _ _ _ _ _)
   | (with_reducible exact ih1 _ _ _ _ _ _ _ _)
   | (with_reducible exact ih2 _ _ _ _ _)
   | (with_reducible exact crit_Like.mono _ _ _)
   | (with_reducible exact value_Compare.mono _ _ _ _ _ _ _)
   | (with_reducible exact LeO.refl _)
   | (with_reducible exact LeO.none _)
   | (with_reducible refine LeO.ite ?_ ?_)
   | (with_reducible refine LeO.bind ?_ (fun _ => ?_))
theorem crit_Hits.mono : ∀ a0 a1 a2 a3 a4 a5 a6 k, LeO (crit_Hits.f k a0 a1 a2 a3 a4 a5 a6) (crit_Hits.f (k + 1) a0 a1 a2 a3 a4 a5 a6) := by
 intro a0 a1 a2 a3 a4 a5 a6 k; obtain ⟨ih0, ih1, ih2⟩ := crit_Hits.mono_l k
 unfold crit_Hits.f
 repeat' first
   | (with_reducible exact ih0 _ _ _ _ _ _ _)
   | (with_reducible exact ih1 _ _ _ _ _ _ _ _)
   | (with_reducible exact ih2 _ _ _ _ _)
   | (with_reducible exact crit_Like.mono _ _ _)
   | (with_reducible exact value_Compare.mono _ _ _ _ _ _ _)
   | (with_reducible exact LeO.refl _)
   | (with_reducible exact LeO.none _)
   | (with_reducible refine LeO.ite ?_ ?_)
   | (with_reducible refine LeO.bind ?_ (fun _ => ?_))
set_option maxHeartbeats 8000000 in
set_option maxRecDepth 100000 in
theorem crit_Hits.calls (k : Nat) (a0_0 : Int) (a0_1 : Int) (a0_2 : Int) (a0_3 : ByteArray) (a1_0 : Int) (a1_1 : Int) (a1_2 : ByteArray) (r : Bool) (w : World) (h : crit_Hits.f k a0_0 a0_1 a0_2 a0_3 a1_0 a1_1 a1_2 = some r) :
  Calls Try.prog 44 #[.agg #[.int .i64 a0_0, .int .i64 a0_1, .int .i64 a0_2, .string a0_3], .agg #[.int .i64 a1_0, .int .i64 a1_1, .string a1_2]] w fun e w' => e = .returned (.bool r) ∧ Below w.heap.size w w' := by
 have hu63 := Try.underlying63; have hu26 := Try.underlying26; have HB := Aside0.mk (Below.refl w.heap.size w)
 have H : (if a1_0 = 4 then (some false) else (if a1_0 = 0 then ((value_Str.f (⟨#[]⟩ : ByteArray)).bind fun bt103 => (crit_Hits.j0 k a0_0 a0_1 a0_2 a0_3 bt103.1 bt103.2.1 bt103.2.2)) else (crit_Hits.j0 k a0_0 a0_1 a0_2 a0_3 a1_0 a1_1 a1_2))) = some r := h
 clear h
 by_cases c3 : a1_0 = 4
 ·rw [if_pos c3] at H; have c3b0 : (a1_0 == 4) = true := beq_iff_eq.mpr c3; have c3b1 : (a1_0 != 4) = false := bne_eq_false_iff_eq.mpr c3; clear c3; obtain rfl := Option.some.inj H
  go_enter Try.func44, Try.ntmps44
  go_wp2_with (first | ((with_reducible refine gate_dst (N:=2) rfl ?_); refine be_ (N:=2) (cs := #[.int .i64 a0_0, .int .i64 a0_1, .int .i64 a0_2, .string a0_3]) (t:=63) ?_; intro gb101 hg w4 hbox hb; have BK101 := Aside0.mk (hbox); have GW101 := hs_ HB hg; have GE101 := hs_ HB hg; replace HB := bs_ HB hb; clear hb hbox hg) | ((with_reducible refine gate_dst (N:=3) rfl ?_); refine be_ (N:=3) (cs := #[.int .i64 a1_0, .int .i64 a1_1, .string a1_2]) (t:=26) ?_; intro gb102 hg w5 hbox hb; have BK102 := Aside0.mk (hbox); have GW102 := hs_ HB hg; have GE102 := hs_ HB hg; have NB101_102 := hl_ BK101 hg; have NB102_101 := hr_ BK101 hg; replace BK101 := bb_ BK101 hb; replace HB := bs_ HB hb; clear hb hbox hg; have hnb6 := NB102_101.out; have hnc6 := NB101_102.out; have hcz7_0 : w5.cell? ⟨gb102, 0, none⟩ = some (.int .i64 a1_0) := bc_ BK102 0 rfl; have hcz7_1 : w5.cell? ⟨gb102, 1, none⟩ = some (.int .i64 a1_1) := bc_ BK102 1 rfl; have hcz7_2 : w5.cell? ⟨gb102, 2, none⟩ = some (.string a1_2) := bc_ BK102 2 rfl; have hfz7_0 := blk_frozen BK102.out 0; have hfz7_1 := blk_frozen BK102.out 1; have hfz7_2 := blk_frozen BK102.out 2))
  repeat (go_quiet (first | ((with_reducible refine gate_dst (N:=2) rfl ?_); refine be_ (N:=2) (cs := #[.int .i64 a0_0, .int .i64 a0_1, .int .i64 a0_2, .string a0_3]) (t:=63) ?_; intro gb101 hg w4 hbox hb; have BK101 := Aside0.mk (hbox); have GW101 := hs_ HB hg; have GE101 := hs_ HB hg; replace HB := bs_ HB hb; clear hb hbox hg) | ((with_reducible refine gate_dst (N:=3) rfl ?_); refine be_ (N:=3) (cs := #[.int .i64 a1_0, .int .i64 a1_1, .string a1_2]) (t:=26) ?_; intro gb102 hg w5 hbox hb; have BK102 := Aside0.mk (hbox); have GW102 := hs_ HB hg; have GE102 := hs_ HB hg; have NB101_102 := hl_ BK101 hg; have NB102_101 := hr_ BK101 hg; replace BK101 := bb_ BK101 hb; replace HB := bs_ HB hb; clear hb hbox hg; have hnb6 := NB102_101.out; have hnc6 := NB101_102.out; have hcz7_0 : w5.cell? ⟨gb102, 0, none⟩ = some (.int .i64 a1_0) := bc_ BK102 0 rfl; have hcz7_1 : w5.cell? ⟨gb102, 1, none⟩ = some (.int .i64 a1_1) := bc_ BK102 1 rfl; have hcz7_2 : w5.cell? ⟨gb102, 2, none⟩ = some (.string a1_2) := bc_ BK102 2 rfl; have hfz7_0 := blk_frozen BK102.out 0; have hfz7_1 := blk_frozen BK102.out 1; have hfz7_2 := blk_frozen BK102.out 2)); try go_wp2_with (first | ((with_reducible refine gate_dst (N:=2) rfl ?_); refine be_ (N:=2) (cs := #[.int .i64 a0_0, .int .i64 a0_1, .int .i64 a0_2, .string a0_3]) (t:=63) ?_; intro gb101 hg w4 hbox hb; have BK101 := Aside0.mk (hbox); have GW101 := hs_ HB hg; have GE101 := hs_ HB hg; replace HB := bs_ HB hb; clear hb hbox hg) | ((with_reducible refine gate_dst (N:=3) rfl ?_); refine be_ (N:=3) (cs := #[.int .i64 a1_0, .int .i64 a1_1, .string a1_2]) (t:=26) ?_; intro gb102 hg w5 hbox hb; have BK102 := Aside0.mk (hbox); have GW102 := hs_ HB hg; have GE102 := hs_ HB hg; have NB101_102 := hl_ BK101 hg; have NB102_101 := hr_ BK101 hg; replace BK101 := bb_ BK101 hb; replace HB := bs_ HB hb; clear hb hbox hg; have hnb6 := NB102_101.out; have hnc6 := NB101_102.out; have hcz7_0 : w5.cell? ⟨gb102, 0, none⟩ = some (.int .i64 a1_0) := bc_ BK102 0 rfl; have hcz7_1 : w5.cell? ⟨gb102, 1, none⟩ = some (.int .i64 a1_1) := bc_ BK102 1 rfl; have hcz7_2 : w5.cell? ⟨gb102, 2, none⟩ = some (.string a1_2) := bc_ BK102 2 rfl; have hfz7_0 := blk_frozen BK102.out 0; have hfz7_1 := blk_frozen BK102.out 1; have hfz7_2 := blk_frozen BK102.out 2)))
  go_ret
  exact ⟨by first | rfl | (simp [errW_none, errW_some] <;> rfl) | (simp [*, errW_none, errW_some] <;> rfl), pbx HB⟩
 ·rw [if_neg c3] at H; have c3b0 : (a1_0 == 4) = false := beq_eq_false_iff_ne.mpr c3; have c3b1 : (a1_0 != 4) = true := bne_iff_ne.mpr c3; have HC8 := Aside0.mk H; clear H
  go_enter Try.func44, Try.ntmps44
  go_upto_if 11 with (first | ((with_reducible refine gate_dst (N:=2) rfl ?_); refine be_ (N:=2) (cs := #[.int .i64 a0_0, .int .i64 a0_1, .int .i64 a0_2, .string a0_3]) (t:=63) ?_; intro gb101 hg w9 hbox hb; have BK101 := Aside0.mk (hbox); have GW101 := hs_ HB hg; have GE101 := hs_ HB hg; replace HB := bs_ HB hb; clear hb hbox hg) | ((with_reducible refine gate_dst (N:=3) rfl ?_); refine be_ (N:=3) (cs := #[.int .i64 a1_0, .int .i64 a1_1, .string a1_2]) (t:=26) ?_; intro gb102 hg w10 hbox hb; have BK102 := Aside0.mk (hbox); have GW102 := hs_ HB hg; have GE102 := hs_ HB hg; have NB101_102 := hl_ BK101 hg; have NB102_101 := hr_ BK101 hg; replace BK101 := bb_ BK101 hb; replace HB := bs_ HB hb; clear hb hbox hg; have hnb11 := NB102_101.out; have hnc11 := NB101_102.out; have hcz12_0 : w10.cell? ⟨gb102, 0, none⟩ = some (.int .i64 a1_0) := bc_ BK102 0 rfl; have hcz12_1 : w10.cell? ⟨gb102, 1, none⟩ = some (.int .i64 a1_1) := bc_ BK102 1 rfl; have hcz12_2 : w10.cell? ⟨gb102, 2, none⟩ = some (.string a1_2) := bc_ BK102 2 rfl; have hfz12_0 := blk_frozen BK102.out 0; have hfz12_1 := blk_frozen BK102.out 1; have hfz12_2 := blk_frozen BK102.out 2))
  repeat (go_quiet (first | ((with_reducible refine gate_dst (N:=2) rfl ?_); refine be_ (N:=2) (cs := #[.int .i64 a0_0, .int .i64 a0_1, .int .i64 a0_2, .string a0_3]) (t:=63) ?_; intro gb101 hg w9 hbox hb; have BK101 := Aside0.mk (hbox); have GW101 := hs_ HB hg; have GE101 := hs_ HB hg; replace HB := bs_ HB hb; clear hb hbox hg) | ((with_reducible refine gate_dst (N:=3) rfl ?_); refine be_ (N:=3) (cs := #[.int .i64 a1_0, .int .i64 a1_1, .string a1_2]) (t:=26) ?_; intro gb102 hg w10 hbox hb; have BK102 := Aside0.mk (hbox); have GW102 := hs_ HB hg; have GE102 := hs_ HB hg; have NB101_102 := hl_ BK101 hg; have NB102_101 := hr_ BK101 hg; replace BK101 := bb_ BK101 hb; replace HB := bs_ HB hb; clear hb hbox hg; have hnb11 := NB102_101.out; have hnc11 := NB101_102.out; have hcz12_0 : w10.cell? ⟨gb102, 0, none⟩ = some (.int .i64 a1_0) := bc_ BK102 0 rfl; have hcz12_1 : w10.cell? ⟨gb102, 1, none⟩ = some (.int .i64 a1_1) := bc_ BK102 1 rfl; have hcz12_2 : w10.cell? ⟨gb102, 2, none⟩ = some (.string a1_2) := bc_ BK102 2 rfl; have hfz12_0 := blk_frozen BK102.out 0; have hfz12_1 := blk_frozen BK102.out 1; have hfz12_2 := blk_frozen BK102.out 2)); go_upto_if 11 with (first | ((with_reducible refine gate_dst (N:=2) rfl ?_); refine be_ (N:=2) (cs := #[.int .i64 a0_0, .int .i64 a0_1, .int .i64 a0_2, .string a0_3]) (t:=63) ?_; intro gb101 hg w9 hbox hb; have BK101 := Aside0.mk (hbox); have GW101 := hs_ HB hg; have GE101 := hs_ HB hg; replace HB := bs_ HB hb; clear hb hbox hg) | ((with_reducible refine gate_dst (N:=3) rfl ?_); refine be_ (N:=3) (cs := #[.int .i64 a1_0, .int .i64 a1_1, .string a1_2]) (t:=26) ?_; intro gb102 hg w10 hbox hb; have BK102 := Aside0.mk (hbox); have GW102 := hs_ HB hg; have GE102 := hs_ HB hg; have NB101_102 := hl_ BK101 hg; have NB102_101 := hr_ BK101 hg; replace BK101 := bb_ BK101 hb; replace HB := bs_ HB hb; clear hb hbox hg; have hnb11 := NB102_101.out; have hnc11 := NB101_102.out; have hcz12_0 : w10.cell? ⟨gb102, 0, none⟩ = some (.int .i64 a1_0) := bc_ BK102 0 rfl; have hcz12_1 : w10.cell? ⟨gb102, 1, none⟩ = some (.int .i64 a1_1) := bc_ BK102 1 rfl; have hcz12_2 : w10.cell? ⟨gb102, 2, none⟩ = some (.string a1_2) := bc_ BK102 2 rfl; have hfz12_0 := blk_frozen BK102.out 0; have hfz12_1 := blk_frozen BK102.out 1; have hfz12_2 := blk_frozen BK102.out 2)))
  (try simp only [q_])
  go_cut [] (fun wc => ∃ (kq : Nat) (x103000_7 : Int) (x103001_7 : Int) (x103002_7 : ByteArray), Aside0 (crit_Hits.j0 kq a0_0 a0_1 a0_2 a0_3 x103000_7 x103001_7 x103002_7 = some r) ∧ Aside0 (kq ≤ k) ∧ Aside0 (wc.heap[gb101]? = some (.cells #[.int .i64 a0_0, .int .i64 a0_1, .int .i64 a0_2, .string a0_3] 63 (0, 0))) ∧ Aside0 (wc.heap[gb102]? = some (.cells #[.int .i64 x103000_7, .int .i64 x103001_7, .string x103002_7] 26 (0, 0))) ∧ Aside0 (Below w.heap.size w wc))
  case first =>
   have H := HC8.out; clear HC8
   by_cases c13 : a1_0 = 0
   ·rw [if_pos c13] at H; have c13b0 : (a1_0 == 0) = true := beq_iff_eq.mpr c13; have c13b1 : (a1_0 != 0) = false := bne_eq_false_iff_eq.mpr c13; clear c13; (first | rw [c13b0] | (simp only [i64_w, i32_w]; rw [c13b0]) | skip)
    replace H := Option.bind_eq_some_iff.mp H; obtain ⟨⟨t103, t104, t105⟩, A140, H⟩ := H
    replace H : (crit_Hits.j0 k a0_0 a0_1 a0_2 a0_3 t103 t104 t105) = some r := H
    have A14 := Aside0.mk A140; clear A140
    have H' := Aside0.mk H
    clear H
    go_wp2_with (first | (go_at_call 20; (with_reducible refine (value_Str.calls (⟨#[]⟩ : ByteArray) t103 t104 t105 _ A14.out).mono ?_); rintro e w15 ⟨rfl, hb⟩; replace BK101 := bb_ BK101 hb; replace BK102 := bb_ BK102 hb; replace HB := bs_ HB hb; (try clear hb); (try clear hb2); (try clear hk); (try clear hi); have hnb16 := NB102_101.out; have hnc16 := NB101_102.out; have hcz17_0 : w15.cell? ⟨gb102, 0, none⟩ = some (.int .i64 a1_0) := bc_ BK102 0 rfl; have hcz17_1 : w15.cell? ⟨gb102, 1, none⟩ = some (.int .i64 a1_1) := bc_ BK102 1 rfl; have hcz17_2 : w15.cell? ⟨gb102, 2, none⟩ = some (.string a1_2) := bc_ BK102 2 rfl; have hfz17_0 := blk_frozen BK102.out 0; have hfz17_1 := blk_frozen BK102.out 1; have hfz17_2 := blk_frozen BK102.out 2))
    repeat (go_quiet (first | (go_at_call 20; (with_reducible refine (value_Str.calls (⟨#[]⟩ : ByteArray) t103 t104 t105 _ A14.out).mono ?_); rintro e w15 ⟨rfl, hb⟩; replace BK101 := bb_ BK101 hb; replace BK102 := bb_ BK102 hb; replace HB := bs_ HB hb; (try clear hb); (try clear hb2); (try clear hk); (try clear hi); have hnb16 := NB102_101.out; have hnc16 := NB101_102.out; have hcz17_0 : w15.cell? ⟨gb102, 0, none⟩ = some (.int .i64 a1_0) := bc_ BK102 0 rfl; have hcz17_1 : w15.cell? ⟨gb102, 1, none⟩ = some (.int .i64 a1_1) := bc_ BK102 1 rfl; have hcz17_2 : w15.cell? ⟨gb102, 2, none⟩ = some (.string a1_2) := bc_ BK102 2 rfl; have hfz17_0 := blk_frozen BK102.out 0; have hfz17_1 := blk_frozen BK102.out 1; have hfz17_2 := blk_frozen BK102.out 2)); try go_wp2_with (first | (go_at_call 20; (with_reducible refine (value_Str.calls (⟨#[]⟩ : ByteArray) t103 t104 t105 _ A14.out).mono ?_); rintro e w15 ⟨rfl, hb⟩; replace BK101 := bb_ BK101 hb; replace BK102 := bb_ BK102 hb; replace HB := bs_ HB hb; (try clear hb); (try clear hb2); (try clear hk); (try clear hi); have hnb16 := NB102_101.out; have hnc16 := NB101_102.out; have hcz17_0 : w15.cell? ⟨gb102, 0, none⟩ = some (.int .i64 a1_0) := bc_ BK102 0 rfl; have hcz17_1 : w15.cell? ⟨gb102, 1, none⟩ = some (.int .i64 a1_1) := bc_ BK102 1 rfl; have hcz17_2 : w15.cell? ⟨gb102, 2, none⟩ = some (.string a1_2) := bc_ BK102 2 rfl; have hfz17_0 := blk_frozen BK102.out 0; have hfz17_1 := blk_frozen BK102.out 1; have hfz17_2 := blk_frozen BK102.out 2)))
    go_meet
    case rel => exact ⟨_, (t103), (t104), (t105), H', ⟨by first | omega | exact Nat.le_refl _⟩, ⟨by refine pf_ ?_ NB101_102.out; refine blk_far ?_ NB101_102.out _; refine blk_far ?_ NB101_102.out _; exact pkx BK101⟩, ⟨by refine pp_ (cs := #[.int .i64 t103, .int .i64 t104, .string a1_2]) 2 ?_ rfl; refine blk_put (cs := #[.int .i64 t103, .int .i64 a1_1, .string a1_2]) ?_ 1 _ rfl; refine blk_put (cs := #[.int .i64 a1_0, .int .i64 a1_1, .string a1_2]) ?_ 0 _ rfl; exact pkx BK102⟩, ⟨by repeat (first | (with_reducible first | exact HB.out | apply below_alloc | apply pw_below_drewN | apply below_drew1 | refine below_set ?_ GE101.out | refine below_set ?_ GE102.out) | exact HB.out)⟩⟩
   ·rw [if_neg c13] at H; have c13b0 : (a1_0 == 0) = false := beq_eq_false_iff_ne.mpr c13; have c13b1 : (a1_0 != 0) = true := bne_iff_ne.mpr c13; (first | rw [c13b0] | (simp only [i64_w, i32_w]; rw [c13b0]) | skip)
    have H' := Aside0.mk H
    clear H
    go_wp2
    repeat (go_quiet (fail); try go_wp2)
    go_meet
    case rel => exact ⟨_, (a1_0), (a1_1), (a1_2), H', ⟨by first | omega | exact Nat.le_refl _⟩, ⟨pkx BK101⟩, ⟨pkx BK102⟩, ⟨pbx HB⟩⟩
  case rest =>
   clear HC8; (try clear c1); (try clear p2); (try clear c3); (try clear c3b0); (try clear c3b1); (try clear c4); (try clear c6); (try clear c11); (try clear c13); (try clear c13b0); (try clear c13b1); (try clear c16); (try clear hcz12_0); (try clear hcz12_1); (try clear hcz12_2); (try clear hcz17_0); (try clear hcz17_1); (try clear hcz17_2); (try clear hcz7_0); (try clear hcz7_1); (try clear hcz7_2); (try clear hfz12_0); (try clear hfz12_1); (try clear hfz12_2); (try clear hfz17_0); (try clear hfz17_1); (try clear hfz17_2); (try clear hfz7_0); (try clear hfz7_1); (try clear hfz7_2); obtain ⟨kq, x103000_7, x103001_7, x103002_7, HA, HJ7, BK101, BK102, HB⟩ := hcut
   cases kq with
   | zero => exact absurd HA.out (by simp [crit_Hits.j0])
   | succ kj7 =>
    have H := HA.out; clear HA
    simp only [crit_Hits.j0] at H
    by_cases c18 : x103000_7 = a0_1
    ·rw [if_pos c18] at H; have c18b0 : (x103000_7 == a0_1) = true := beq_iff_eq.mpr c18; have c18b1 : (x103000_7 != a0_1) = false := bne_eq_false_iff_eq.mpr c18; clear c18; have HC19 := Aside0.mk H; clear H; have hnb20 := NB102_101.out; have hnc20 := NB101_102.out
     have hcz21_0 : wc.cell? ⟨gb102, 0, none⟩ = some (.int .i64 x103000_7) := bc_ BK102 0 rfl
     have hcz21_1 : wc.cell? ⟨gb102, 1, none⟩ = some (.int .i64 x103001_7) := bc_ BK102 1 rfl
     have hcz21_2 : wc.cell? ⟨gb102, 2, none⟩ = some (.string x103002_7) := bc_ BK102 2 rfl
     have hfz21_0 := blk_frozen BK102.out 0; have hfz21_1 := blk_frozen BK102.out 1; have hfz21_2 := blk_frozen BK102.out 2
     have hcz22_0 : wc.cell? ⟨gb101, 0, none⟩ = some (.int .i64 a0_0) := bc_ BK101 0 rfl
     have hcz22_1 : wc.cell? ⟨gb101, 1, none⟩ = some (.int .i64 a0_1) := bc_ BK101 1 rfl
     have hcz22_2 : wc.cell? ⟨gb101, 2, none⟩ = some (.int .i64 a0_2) := bc_ BK101 2 rfl
     have hcz22_3 : wc.cell? ⟨gb101, 3, none⟩ = some (.string a0_3) := bc_ BK101 3 rfl
     have hfz22_0 := blk_frozen BK101.out 0; have hfz22_1 := blk_frozen BK101.out 1; have hfz22_2 := blk_frozen BK101.out 2; have hfz22_3 := blk_frozen BK101.out 3
     go_upto_region 7 with (fail)
     repeat (go_quiet (fail); go_upto_region 7 with (fail))
     go_cut [34] (fun v34 wc => ∃ (kq : Nat) (x34_18 : Bool), v34 = .bool x34_18 ∧ Aside0 (crit_Hits.j1 kq x34_18 a0_0 a0_1 a0_2 a0_3 x103000_7 x103001_7 x103002_7 = some r) ∧ Aside0 (kq ≤ kj7) ∧ Aside0 (wc.heap[gb101]? = some (.cells #[.int .i64 a0_0, .int .i64 a0_1, .int .i64 a0_2, .string a0_3] 63 (0, 0))) ∧ Aside0 (wc.heap[gb102]? = some (.cells #[.int .i64 x103000_7, .int .i64 x103001_7, .string x103002_7] 26 (0, 0))) ∧ Aside0 (Below w.heap.size w wc))
     case first =>
      have H := HC19.out; clear HC19
      by_cases c23 : x103000_7 = 2
      ·rw [if_pos c23] at H; have c23b0 : (x103000_7 == 2) = true := beq_iff_eq.mpr c23; have c23b1 : (x103000_7 != 2) = false := bne_eq_false_iff_eq.mpr c23; clear c23; (first | rw [c23b0] | (simp only [i64_w, i32_w]; rw [c23b0]) | skip)
       by_cases c24 : a0_0 = 7
       ·rw [if_pos c24] at H; have c24b0 : (a0_0 == 7) = true := beq_iff_eq.mpr c24; have c24b1 : (a0_0 != 7) = false := bne_eq_false_iff_eq.mpr c24; clear c24
        have H' := Aside0.mk H
        clear H; have hnb25 := NB102_101.out; have hnc25 := NB101_102.out
        have hcz26_0 : wc.cell? ⟨gb102, 0, none⟩ = some (.int .i64 x103000_7) := bc_ BK102 0 rfl
        have hcz26_1 : wc.cell? ⟨gb102, 1, none⟩ = some (.int .i64 x103001_7) := bc_ BK102 1 rfl
        have hcz26_2 : wc.cell? ⟨gb102, 2, none⟩ = some (.string x103002_7) := bc_ BK102 2 rfl
        have hfz26_0 := blk_frozen BK102.out 0; have hfz26_1 := blk_frozen BK102.out 1; have hfz26_2 := blk_frozen BK102.out 2
        have hcz27_0 : wc.cell? ⟨gb101, 0, none⟩ = some (.int .i64 a0_0) := bc_ BK101 0 rfl
        have hcz27_1 : wc.cell? ⟨gb101, 1, none⟩ = some (.int .i64 a0_1) := bc_ BK101 1 rfl
        have hcz27_2 : wc.cell? ⟨gb101, 2, none⟩ = some (.int .i64 a0_2) := bc_ BK101 2 rfl
        have hcz27_3 : wc.cell? ⟨gb101, 3, none⟩ = some (.string a0_3) := bc_ BK101 3 rfl
        have hfz27_0 := blk_frozen BK101.out 0; have hfz27_1 := blk_frozen BK101.out 1; have hfz27_2 := blk_frozen BK101.out 2; have hfz27_3 := blk_frozen BK101.out 3
        go_wp2
        repeat (go_quiet (fail); try go_wp2)
        go_meet
        case rel => exact ⟨_, (true), (by first | rfl | (simp; done) | (simp [*]; done)), H', ⟨by have := HJ7.out; first | omega | exact Nat.le_refl _⟩, ⟨pkx BK101⟩, ⟨pkx BK102⟩, ⟨pbx HB⟩⟩
       ·rw [if_neg c24] at H; have c24b0 : (a0_0 == 7) = false := beq_eq_false_iff_ne.mpr c24; have c24b1 : (a0_0 != 7) = true := bne_iff_ne.mpr c24
        have H' := Aside0.mk H
        clear H; have hnb28 := NB102_101.out; have hnc28 := NB101_102.out
        have hcz29_0 : wc.cell? ⟨gb102, 0, none⟩ = some (.int .i64 x103000_7) := bc_ BK102 0 rfl
        have hcz29_1 : wc.cell? ⟨gb102, 1, none⟩ = some (.int .i64 x103001_7) := bc_ BK102 1 rfl
        have hcz29_2 : wc.cell? ⟨gb102, 2, none⟩ = some (.string x103002_7) := bc_ BK102 2 rfl
        have hfz29_0 := blk_frozen BK102.out 0; have hfz29_1 := blk_frozen BK102.out 1; have hfz29_2 := blk_frozen BK102.out 2
        have hcz30_0 : wc.cell? ⟨gb101, 0, none⟩ = some (.int .i64 a0_0) := bc_ BK101 0 rfl
        have hcz30_1 : wc.cell? ⟨gb101, 1, none⟩ = some (.int .i64 a0_1) := bc_ BK101 1 rfl
        have hcz30_2 : wc.cell? ⟨gb101, 2, none⟩ = some (.int .i64 a0_2) := bc_ BK101 2 rfl
        have hcz30_3 : wc.cell? ⟨gb101, 3, none⟩ = some (.string a0_3) := bc_ BK101 3 rfl
        have hfz30_0 := blk_frozen BK101.out 0; have hfz30_1 := blk_frozen BK101.out 1; have hfz30_2 := blk_frozen BK101.out 2; have hfz30_3 := blk_frozen BK101.out 3
        go_wp2
        repeat (go_quiet (fail); try go_wp2)
        go_meet
        case rel => exact ⟨_, ((a0_0 == 8)), (by first | rfl | (simp; done) | (simp [*]; done)), H', ⟨by have := HJ7.out; first | omega | exact Nat.le_refl _⟩, ⟨pkx BK101⟩, ⟨pkx BK102⟩, ⟨pbx HB⟩⟩
      ·rw [if_neg c23] at H; have c23b0 : (x103000_7 == 2) = false := beq_eq_false_iff_ne.mpr c23; have c23b1 : (x103000_7 != 2) = true := bne_iff_ne.mpr c23; (first | rw [c23b0] | (simp only [i64_w, i32_w]; rw [c23b0]) | skip)
       have H' := Aside0.mk H
       clear H; have hnb31 := NB102_101.out; have hnc31 := NB101_102.out
       have hcz32_0 : wc.cell? ⟨gb102, 0, none⟩ = some (.int .i64 x103000_7) := bc_ BK102 0 rfl
       have hcz32_1 : wc.cell? ⟨gb102, 1, none⟩ = some (.int .i64 x103001_7) := bc_ BK102 1 rfl
       have hcz32_2 : wc.cell? ⟨gb102, 2, none⟩ = some (.string x103002_7) := bc_ BK102 2 rfl
       have hfz32_0 := blk_frozen BK102.out 0; have hfz32_1 := blk_frozen BK102.out 1; have hfz32_2 := blk_frozen BK102.out 2
       go_wp2
       repeat (go_quiet (fail); try go_wp2)
       go_meet
       case rel => exact ⟨_, (false), (by first | rfl | (simp; done) | (simp [*]; done)), H', ⟨by have := HJ7.out; first | omega | exact Nat.le_refl _⟩, ⟨pkx BK101⟩, ⟨pkx BK102⟩, ⟨pbx HB⟩⟩
     case rest =>
      clear HC19; (try clear c1); (try clear c2); (try clear p2); (try clear c3); (try clear c3b0); (try clear c3b1); (try clear c4); (try clear c6); (try clear c11); (try clear c13); (try clear c13b0); (try clear c13b1); (try clear c16); (try clear c18); (try clear c18b0); (try clear c18b1); (try clear c20); (try clear c23); (try clear c23b0); (try clear c23b1); (try clear c24); (try clear c24b0); (try clear c24b1); (try clear c25); (try clear c28); (try clear c31); (try clear hcz12_0); (try clear hcz12_1); (try clear hcz12_2); (try clear hcz17_0); (try clear hcz17_1); (try clear hcz17_2); (try clear hcz21_0); (try clear hcz21_1); (try clear hcz21_2); (try clear hcz22_0); (try clear hcz22_1); (try clear hcz22_2); (try clear hcz22_3); (try clear hcz26_0); (try clear hcz26_1); (try clear hcz26_2); (try clear hcz27_0); (try clear hcz27_1); (try clear hcz27_2); (try clear hcz27_3); (try clear hcz29_0); (try clear hcz29_1); (try clear hcz29_2); (try clear hcz30_0); (try clear hcz30_1); (try clear hcz30_2); (try clear hcz30_3); (try clear hcz32_0); (try clear hcz32_1); (try clear hcz32_2); (try clear hcz7_0); (try clear hcz7_1); (try clear hcz7_2); (try clear hfz12_0); (try clear hfz12_1); (try clear hfz12_2); (try clear hfz17_0); (try clear hfz17_1); (try clear hfz17_2); (try clear hfz21_0); (try clear hfz21_1); (try clear hfz21_2); (try clear hfz22_0); (try clear hfz22_1); (try clear hfz22_2); (try clear hfz22_3); (try clear hfz26_0); (try clear hfz26_1); (try clear hfz26_2); (try clear hfz27_0); (try clear hfz27_1); (try clear hfz27_2); (try clear hfz27_3); (try clear hfz29_0); (try clear hfz29_1); (try clear hfz29_2); (try clear hfz30_0); (try clear hfz30_1); (try clear hfz30_2); (try clear hfz30_3); (try clear hfz32_0); (try clear hfz32_1); (try clear hfz32_2); (try clear hfz7_0)
      (try clear hfz7_1); (try clear hfz7_2); (try clear p2); obtain ⟨kq, x34_18, rfl, HA, HJ18, BK101, BK102, HB⟩ := hcut
      cases kq with
      | zero => exact absurd HA.out (by simp [crit_Hits.j1])
      | succ kj18 =>
       have H := HA.out; clear HA
       simp only [crit_Hits.j1] at H
       by_cases c33 : x34_18 = true
       ·subst c33
        have H1 : ((crit_Like.f kj18 a0_3 x103002_7).bind fun t106 => (some (t106 == (a0_0 == 7)))) = some r := by rw [if_pos rfl] at H; exact H
        clear H; have H := H1; clear H1; replace H := Option.bind_eq_some_iff.mp H; obtain ⟨t106, A340, H⟩ := H
        replace H : (some (t106 == (a0_0 == 7))) = some r := H
        have A34 := Aside0.mk A340; clear A340; obtain rfl := Option.some.inj H; have hnb35 := NB101_102.out; have hnc35 := NB102_101.out
        have hcz36_0 : wc.cell? ⟨gb101, 0, none⟩ = some (.int .i64 a0_0) := bc_ BK101 0 rfl
        have hcz36_1 : wc.cell? ⟨gb101, 1, none⟩ = some (.int .i64 a0_1) := bc_ BK101 1 rfl
        have hcz36_2 : wc.cell? ⟨gb101, 2, none⟩ = some (.int .i64 a0_2) := bc_ BK101 2 rfl
        have hcz36_3 : wc.cell? ⟨gb101, 3, none⟩ = some (.string a0_3) := bc_ BK101 3 rfl
        have hfz36_0 := blk_frozen BK101.out 0; have hfz36_1 := blk_frozen BK101.out 1; have hfz36_2 := blk_frozen BK101.out 2; have hfz36_3 := blk_frozen BK101.out 3
        have hcz37_0 : wc.cell? ⟨gb102, 0, none⟩ = some (.int .i64 x103000_7) := bc_ BK102 0 rfl
        have hcz37_1 : wc.cell? ⟨gb102, 1, none⟩ = some (.int .i64 x103001_7) := bc_ BK102 1 rfl
        have hcz37_2 : wc.cell? ⟨gb102, 2, none⟩ = some (.string x103002_7) := bc_ BK102 2 rfl
        have hfz37_0 := blk_frozen BK102.out 0; have hfz37_1 := blk_frozen BK102.out 1; have hfz37_2 := blk_frozen BK102.out 2
        go_wp2_with (first | (go_at_call 54; (with_reducible refine (crit_Like.calls kj18 a0_3 x103002_7 t106 _ A34.out).mono ?_); rintro e w' ⟨rfl, ⟨nd, rfl⟩⟩; (try first | exact ⟨rfl, _, World.drewN_drewN _ _ _⟩ | exact ⟨rfl, _, Eq.trans (World.drewN_drewN _ _ _) (congrArg (World.drewN _) (Nat.add_assoc _ _ _))⟩)))
        repeat (go_quiet (first | (go_at_call 54; (with_reducible refine (crit_Like.calls kj18 a0_3 x103002_7 t106 _ A34.out).mono ?_); rintro e w' ⟨rfl, ⟨nd, rfl⟩⟩; (try first | exact ⟨rfl, _, World.drewN_drewN _ _ _⟩ | exact ⟨rfl, _, Eq.trans (World.drewN_drewN _ _ _) (congrArg (World.drewN _) (Nat.add_assoc _ _ _))⟩))); try go_wp2_with (first | (go_at_call 54; (with_reducible refine (crit_Like.calls kj18 a0_3 x103002_7 t106 _ A34.out).mono ?_); rintro e w' ⟨rfl, ⟨nd, rfl⟩⟩; (try first | exact ⟨rfl, _, World.drewN_drewN _ _ _⟩ | exact ⟨rfl, _, Eq.trans (World.drewN_drewN _ _ _) (congrArg (World.drewN _) (Nat.add_assoc _ _ _))⟩))))
        go_ret
        exact ⟨by first | rfl | (simp [errW_none, errW_some] <;> rfl) | (simp [*, errW_none, errW_some] <;> rfl), pbx HB⟩
       ·replace c33 := Bool.eq_false_iff.mpr c33; subst c33
        have H1 : ((value_Compare.f kj18 x103000_7 x103001_7 x103002_7 a0_1 a0_2 a0_3).bind fun t107 => (crit_Hits.j2 kj18 t107 a0_0 a0_1 a0_2 a0_3)) = some r := by rw [if_neg (show ¬ (false = true) by decide)] at H; exact H
        clear H; have H := H1; clear H1; have HC38 := Aside0.mk H; clear H
        go_upto_region 9 with (fail)
        repeat (go_quiet (fail); go_upto_region 9 with (fail))
        go_cut [5] (fun v5 wc => ∃ (kq : Nat) (x5_37 : Int), v5 = .int .i64 x5_37 ∧ Aside0 (crit_Hits.j2 kq x5_37 a0_0 a0_1 a0_2 a0_3 = some r) ∧ Aside0 (kq ≤ kj18) ∧ Aside0 (wc.heap[gb101]? = some (.cells #[.int .i64 a0_0, .int .i64 a0_1, .int .i64 a0_2, .string a0_3] 63 (0, 0))) ∧ Aside0 (wc.heap[gb102]? = some (.cells #[.int .i64 x103000_7, .int .i64 x103001_7, .string x103002_7] 26 (0, 0))) ∧ Aside0 (Below w.heap.size w wc))
        case first =>
         have H := HC38.out; clear HC38; replace H := Option.bind_eq_some_iff.mp H; obtain ⟨t107, A390, H⟩ := H
         replace H : (crit_Hits.j2 kj18 t107 a0_0 a0_1 a0_2 a0_3) = some r := H
         have A39 := Aside0.mk A390; clear A390
         have H' := Aside0.mk H
         clear H; have hnb40 := NB102_101.out; have hnc40 := NB101_102.out
         have hcz41_0 : wc.cell? ⟨gb102, 0, none⟩ = some (.int .i64 x103000_7) := bc_ BK102 0 rfl
         have hcz41_1 : wc.cell? ⟨gb102, 1, none⟩ = some (.int .i64 x103001_7) := bc_ BK102 1 rfl
         have hcz41_2 : wc.cell? ⟨gb102, 2, none⟩ = some (.string x103002_7) := bc_ BK102 2 rfl
         have hfz41_0 := blk_frozen BK102.out 0; have hfz41_1 := blk_frozen BK102.out 1; have hfz41_2 := blk_frozen BK102.out 2
         have hcz42_0 : wc.cell? ⟨gb101, 0, none⟩ = some (.int .i64 a0_0) := bc_ BK101 0 rfl
         have hcz42_1 : wc.cell? ⟨gb101, 1, none⟩ = some (.int .i64 a0_1) := bc_ BK101 1 rfl
         have hcz42_2 : wc.cell? ⟨gb101, 2, none⟩ = some (.int .i64 a0_2) := bc_ BK101 2 rfl
         have hcz42_3 : wc.cell? ⟨gb101, 3, none⟩ = some (.string a0_3) := bc_ BK101 3 rfl
         have hfz42_0 := blk_frozen BK101.out 0; have hfz42_1 := blk_frozen BK101.out 1; have hfz42_2 := blk_frozen BK101.out 2; have hfz42_3 := blk_frozen BK101.out 3
         go_wp2_with (first | (go_at_call 40; (with_reducible refine (value_Compare.calls kj18 x103000_7 x103001_7 x103002_7 a0_1 a0_2 a0_3 t107 _ A39.out).mono ?_); rintro e w43 ⟨rfl, hb⟩; replace BK101 := bb_ BK101 hb; replace BK102 := bb_ BK102 hb; replace HB := bs_ HB hb; (try clear hb); (try clear hb2); (try clear hk); (try clear hi)))
         repeat (go_quiet (first | (go_at_call 40; (with_reducible refine (value_Compare.calls kj18 x103000_7 x103001_7 x103002_7 a0_1 a0_2 a0_3 t107 _ A39.out).mono ?_); rintro e w43 ⟨rfl, hb⟩; replace BK101 := bb_ BK101 hb; replace BK102 := bb_ BK102 hb; replace HB := bs_ HB hb; (try clear hb); (try clear hb2); (try clear hk); (try clear hi))); try go_wp2_with (first | (go_at_call 40; (with_reducible refine (value_Compare.calls kj18 x103000_7 x103001_7 x103002_7 a0_1 a0_2 a0_3 t107 _ A39.out).mono ?_); rintro e w43 ⟨rfl, hb⟩; replace BK101 := bb_ BK101 hb; replace BK102 := bb_ BK102 hb; replace HB := bs_ HB hb; (try clear hb); (try clear hb2); (try clear hk); (try clear hi))))
         go_meet
         case rel => exact ⟨_, (t107), (by first | rfl | (simp; done) | (simp [*]; done) | (cases t107 <;> simp; done)), H', ⟨by have := HJ7.out; have := HJ18.out; first | omega | exact Nat.le_refl _⟩, ⟨pkx BK101⟩, ⟨pkx BK102⟩, ⟨pbx HB⟩⟩
        case rest =>
         clear HC38; (try clear c1); (try clear c2); (try clear p2); (try clear c3); (try clear c3b0); (try clear c3b1); (try clear c4); (try clear c6); (try clear c11); (try clear c13); (try clear c13b0); (try clear c13b1); (try clear c16); (try clear c18); (try clear c18b0); (try clear c18b1); (try clear c20); (try clear c23); (try clear c23b0); (try clear c23b1); (try clear c24); (try clear c24b0); (try clear c24b1); (try clear c25); (try clear c28); (try clear c31); (try clear c33); (try clear c35); (try clear c40); (try clear hcz12_0); (try clear hcz12_1); (try clear hcz12_2); (try clear hcz17_0); (try clear hcz17_1); (try clear hcz17_2); (try clear hcz21_0); (try clear hcz21_1); (try clear hcz21_2); (try clear hcz22_0); (try clear hcz22_1); (try clear hcz22_2); (try clear hcz22_3); (try clear hcz26_0); (try clear hcz26_1); (try clear hcz26_2); (try clear hcz27_0); (try clear hcz27_1); (try clear hcz27_2); (try clear hcz27_3); (try clear hcz29_0); (try clear hcz29_1); (try clear hcz29_2); (try clear hcz30_0); (try clear hcz30_1); (try clear hcz30_2); (try clear hcz30_3); (try clear hcz32_0); (try clear hcz32_1); (try clear hcz32_2); (try clear hcz36_0); (try clear hcz36_1); (try clear hcz36_2); (try clear hcz36_3); (try clear hcz37_0); (try clear hcz37_1); (try clear hcz37_2); (try clear hcz41_0); (try clear hcz41_1); (try clear hcz41_2); (try clear hcz42_0); (try clear hcz42_1); (try clear hcz42_2); (try clear hcz42_3); (try clear hcz7_0); (try clear hcz7_1); (try clear hcz7_2); (try clear hfz12_0); (try clear hfz12_1); (try clear hfz12_2); (try clear hfz17_0); (try clear hfz17_1); (try clear hfz17_2); (try clear hfz21_0); (try clear hfz21_1); (try clear hfz21_2); (try clear hfz22_0); (try clear hfz22_1); (try clear hfz22_2); (try clear hfz22_3); (try clear hfz26_0)
         (try clear hfz26_1); (try clear hfz26_2); (try clear hfz27_0); (try clear hfz27_1); (try clear hfz27_2); (try clear hfz27_3); (try clear hfz29_0); (try clear hfz29_1); (try clear hfz29_2); (try clear hfz30_0); (try clear hfz30_1); (try clear hfz30_2); (try clear hfz30_3); (try clear hfz32_0); (try clear hfz32_1); (try clear hfz32_2); (try clear hfz36_0); (try clear hfz36_1); (try clear hfz36_2); (try clear hfz36_3); (try clear hfz37_0); (try clear hfz37_1); (try clear hfz37_2); (try clear hfz41_0); (try clear hfz41_1); (try clear hfz41_2); (try clear hfz42_0); (try clear hfz42_1); (try clear hfz42_2); (try clear hfz42_3); (try clear hfz7_0); (try clear hfz7_1); (try clear hfz7_2); (try clear p2); obtain ⟨kq, x5_37, rfl, HA, HJ37, BK101, BK102, HB⟩ := hcut
         cases kq with
         | zero => exact absurd HA.out (by simp [crit_Hits.j2])
         | succ kj37 =>
          have H := HA.out; clear HA
          simp only [crit_Hits.j2] at H
          by_cases c44 : a0_0 = 7
          ·rw [if_pos c44] at H; have c44b0 : (a0_0 == 7) = true := beq_iff_eq.mpr c44; have c44b1 : (a0_0 != 7) = false := bne_eq_false_iff_eq.mpr c44; clear c44; obtain rfl := Option.some.inj H; have hnb45 := NB101_102.out; have hnc45 := NB102_101.out
           have hcz46_0 : wc.cell? ⟨gb101, 0, none⟩ = some (.int .i64 a0_0) := bc_ BK101 0 rfl
           have hcz46_1 : wc.cell? ⟨gb101, 1, none⟩ = some (.int .i64 a0_1) := bc_ BK101 1 rfl
           have hcz46_2 : wc.cell? ⟨gb101, 2, none⟩ = some (.int .i64 a0_2) := bc_ BK101 2 rfl
           have hcz46_3 : wc.cell? ⟨gb101, 3, none⟩ = some (.string a0_3) := bc_ BK101 3 rfl
           have hfz46_0 := blk_frozen BK101.out 0; have hfz46_1 := blk_frozen BK101.out 1; have hfz46_2 := blk_frozen BK101.out 2; have hfz46_3 := blk_frozen BK101.out 3
           go_wp2
           repeat (go_quiet (fail); try go_wp2)
           go_ret
           exact ⟨by first | rfl | (simp [errW_none, errW_some] <;> rfl) | (simp [*, errW_none, errW_some] <;> rfl), pbx HB⟩
          ·rw [if_neg c44] at H; have c44b0 : (a0_0 == 7) = false := beq_eq_false_iff_ne.mpr c44; have c44b1 : (a0_0 != 7) = true := bne_iff_ne.mpr c44
           by_cases c47 : a0_0 = 8
           ·rw [if_pos c47] at H; have c47b0 : (a0_0 == 8) = true := beq_iff_eq.mpr c47; have c47b1 : (a0_0 != 8) = false := bne_eq_false_iff_eq.mpr c47; clear c47; obtain rfl := Option.some.inj H; have hnb48 := NB101_102.out; have hnc48 := NB102_101.out
            have hcz49_0 : wc.cell? ⟨gb101, 0, none⟩ = some (.int .i64 a0_0) := bc_ BK101 0 rfl
            have hcz49_1 : wc.cell? ⟨gb101, 1, none⟩ = some (.int .i64 a0_1) := bc_ BK101 1 rfl
            have hcz49_2 : wc.cell? ⟨gb101, 2, none⟩ = some (.int .i64 a0_2) := bc_ BK101 2 rfl
            have hcz49_3 : wc.cell? ⟨gb101, 3, none⟩ = some (.string a0_3) := bc_ BK101 3 rfl
            have hfz49_0 := blk_frozen BK101.out 0; have hfz49_1 := blk_frozen BK101.out 1; have hfz49_2 := blk_frozen BK101.out 2; have hfz49_3 := blk_frozen BK101.out 3
            go_wp2
            repeat (go_quiet (fail); try go_wp2)
            go_ret
            exact ⟨by first | rfl | (simp [errW_none, errW_some] <;> rfl) | (simp [*, errW_none, errW_some] <;> rfl), pbx HB⟩
           ·rw [if_neg c47] at H; have c47b0 : (a0_0 == 8) = false := beq_eq_false_iff_ne.mpr c47; have c47b1 : (a0_0 != 8) = true := bne_iff_ne.mpr c47
            by_cases c50 : a0_0 = 9
            ·rw [if_pos c50] at H; have c50b0 : (a0_0 == 9) = true := beq_iff_eq.mpr c50; have c50b1 : (a0_0 != 9) = false := bne_eq_false_iff_eq.mpr c50; clear c50; obtain rfl := Option.some.inj H; have hnb51 := NB101_102.out; have hnc51 := NB102_101.out
             have hcz52_0 : wc.cell? ⟨gb101, 0, none⟩ = some (.int .i64 a0_0) := bc_ BK101 0 rfl
             have hcz52_1 : wc.cell? ⟨gb101, 1, none⟩ = some (.int .i64 a0_1) := bc_ BK101 1 rfl
             have hcz52_2 : wc.cell? ⟨gb101, 2, none⟩ = some (.int .i64 a0_2) := bc_ BK101 2 rfl
             have hcz52_3 : wc.cell? ⟨gb101, 3, none⟩ = some (.string a0_3) := bc_ BK101 3 rfl
             have hfz52_0 := blk_frozen BK101.out 0; have hfz52_1 := blk_frozen BK101.out 1; have hfz52_2 := blk_frozen BK101.out 2; have hfz52_3 := blk_frozen BK101.out 3
             go_wp2
             repeat (go_quiet (fail); try go_wp2)
             go_ret
             exact ⟨by first | rfl | (simp [errW_none, errW_some] <;> rfl) | (simp [*, errW_none, errW_some] <;> rfl), pbx HB⟩
            ·rw [if_neg c50] at H; have c50b0 : (a0_0 == 9) = false := beq_eq_false_iff_ne.mpr c50; have c50b1 : (a0_0 != 9) = true := bne_iff_ne.mpr c50
             by_cases c53 : a0_0 = 10
             ·rw [if_pos c53] at H; have c53b0 : (a0_0 == 10) = true := beq_iff_eq.mpr c53; have c53b1 : (a0_0 != 10) = false := bne_eq_false_iff_eq.mpr c53; clear c53; obtain rfl := Option.some.inj H; have hnb54 := NB101_102.out; have hnc54 := NB102_101.out
              have hcz55_0 : wc.cell? ⟨gb101, 0, none⟩ = some (.int .i64 a0_0) := bc_ BK101 0 rfl
              have hcz55_1 : wc.cell? ⟨gb101, 1, none⟩ = some (.int .i64 a0_1) := bc_ BK101 1 rfl
              have hcz55_2 : wc.cell? ⟨gb101, 2, none⟩ = some (.int .i64 a0_2) := bc_ BK101 2 rfl
              have hcz55_3 : wc.cell? ⟨gb101, 3, none⟩ = some (.string a0_3) := bc_ BK101 3 rfl
              have hfz55_0 := blk_frozen BK101.out 0; have hfz55_1 := blk_frozen BK101.out 1; have hfz55_2 := blk_frozen BK101.out 2; have hfz55_3 := blk_frozen BK101.out 3
              go_wp2
              repeat (go_quiet (fail); try go_wp2)
              go_ret
              exact ⟨by first | rfl | (simp [errW_none, errW_some] <;> rfl) | (simp [*, errW_none, errW_some] <;> rfl), pbx HB⟩
             ·rw [if_neg c53] at H; have c53b0 : (a0_0 == 10) = false := beq_eq_false_iff_ne.mpr c53; have c53b1 : (a0_0 != 10) = true := bne_iff_ne.mpr c53
              by_cases c56 : a0_0 = 11
              ·rw [if_pos c56] at H; have c56b0 : (a0_0 == 11) = true := beq_iff_eq.mpr c56; have c56b1 : (a0_0 != 11) = false := bne_eq_false_iff_eq.mpr c56; clear c56; obtain rfl := Option.some.inj H; have hnb57 := NB101_102.out; have hnc57 := NB102_101.out
               have hcz58_0 : wc.cell? ⟨gb101, 0, none⟩ = some (.int .i64 a0_0) := bc_ BK101 0 rfl
               have hcz58_1 : wc.cell? ⟨gb101, 1, none⟩ = some (.int .i64 a0_1) := bc_ BK101 1 rfl
               have hcz58_2 : wc.cell? ⟨gb101, 2, none⟩ = some (.int .i64 a0_2) := bc_ BK101 2 rfl
               have hcz58_3 : wc.cell? ⟨gb101, 3, none⟩ = some (.string a0_3) := bc_ BK101 3 rfl
               have hfz58_0 := blk_frozen BK101.out 0; have hfz58_1 := blk_frozen BK101.out 1; have hfz58_2 := blk_frozen BK101.out 2; have hfz58_3 := blk_frozen BK101.out 3
               go_wp2
               repeat (go_quiet (fail); try go_wp2)
               go_ret
               exact ⟨by first | rfl | (simp [errW_none, errW_some] <;> rfl) | (simp [*, errW_none, errW_some] <;> rfl), pbx HB⟩
              ·rw [if_neg c56] at H; have c56b0 : (a0_0 == 11) = false := beq_eq_false_iff_ne.mpr c56; have c56b1 : (a0_0 != 11) = true := bne_iff_ne.mpr c56; obtain rfl := Option.some.inj H; have hnb59 := NB101_102.out; have hnc59 := NB102_101.out
               have hcz60_0 : wc.cell? ⟨gb101, 0, none⟩ = some (.int .i64 a0_0) := bc_ BK101 0 rfl
               have hcz60_1 : wc.cell? ⟨gb101, 1, none⟩ = some (.int .i64 a0_1) := bc_ BK101 1 rfl
               have hcz60_2 : wc.cell? ⟨gb101, 2, none⟩ = some (.int .i64 a0_2) := bc_ BK101 2 rfl
               have hcz60_3 : wc.cell? ⟨gb101, 3, none⟩ = some (.string a0_3) := bc_ BK101 3 rfl
               have hfz60_0 := blk_frozen BK101.out 0; have hfz60_1 := blk_frozen BK101.out 1; have hfz60_2 := blk_frozen BK101.out 2; have hfz60_3 := blk_frozen BK101.out 3
               go_wp2
               repeat (go_quiet (fail); try go_wp2)
               go_ret
               exact ⟨by first | rfl | (simp [errW_none, errW_some] <;> rfl) | (simp [*, errW_none, errW_some] <;> rfl), pbx HB⟩
    ·rw [if_neg c18] at H; have c18b0 : (x103000_7 == a0_1) = false := beq_eq_false_iff_ne.mpr c18; have c18b1 : (x103000_7 != a0_1) = true := bne_iff_ne.mpr c18; obtain rfl := Option.some.inj H; have hnb61 := NB102_101.out; have hnc61 := NB101_102.out
     have hcz62_0 : wc.cell? ⟨gb102, 0, none⟩ = some (.int .i64 x103000_7) := bc_ BK102 0 rfl
     have hcz62_1 : wc.cell? ⟨gb102, 1, none⟩ = some (.int .i64 x103001_7) := bc_ BK102 1 rfl
     have hcz62_2 : wc.cell? ⟨gb102, 2, none⟩ = some (.string x103002_7) := bc_ BK102 2 rfl
     have hfz62_0 := blk_frozen BK102.out 0; have hfz62_1 := blk_frozen BK102.out 1; have hfz62_2 := blk_frozen BK102.out 2
     have hcz63_0 : wc.cell? ⟨gb101, 0, none⟩ = some (.int .i64 a0_0) := bc_ BK101 0 rfl
     have hcz63_1 : wc.cell? ⟨gb101, 1, none⟩ = some (.int .i64 a0_1) := bc_ BK101 1 rfl
     have hcz63_2 : wc.cell? ⟨gb101, 2, none⟩ = some (.int .i64 a0_2) := bc_ BK101 2 rfl
     have hcz63_3 : wc.cell? ⟨gb101, 3, none⟩ = some (.string a0_3) := bc_ BK101 3 rfl
     have hfz63_0 := blk_frozen BK101.out 0; have hfz63_1 := blk_frozen BK101.out 1; have hfz63_2 := blk_frozen BK101.out 2; have hfz63_3 := blk_frozen BK101.out 3
     go_wp2
     repeat (go_quiet (fail); try go_wp2)
     go_ret
     exact ⟨by first | rfl | (simp [errW_none, errW_some] <;> rfl) | (simp [*, errW_none, errW_some] <;> rfl), pbx HB⟩

def look_hit.l0 : Nat → List (S26) → List (S26) → Int → Int → Int → Int → Int → ByteArray → Option ((List (S26)) × Int × Int × ByteArray)
 | 0, _, _, _, _, _, _, _, _ => none
 | k + 1, x8, x20, x21, x22, x110000, x110001, x110002, x110003 => if x22 < x21 then (if 0 ≤ x22 then (if x22 < (x20.length : Int) then ((crit_Hits.f k x110000 x110001 x110002 x110003 ((rd_T26 x20 x22).f0) ((rd_T26 x20 x22).f1) ((rd_T26 x20 x22).f2)).bind fun t112 => (if t112 = true then (if x8.length < 4398046511104 then (look_hit.l0 k (x8 ++ [(⟨(rd_T26 x20 x22).f0, (rd_T26 x20 x22).f1, (rd_T26 x20 x22).f2⟩ : S26)]) x20 x21 (wrap64 (x22 + 1)) x110000 x110001 x110002 x110003) else (none)) else (look_hit.l0 k x8 x20 x21 (wrap64 (x22 + 1)) x110000 x110001 x110002 x110003))) else (none)) else (none)) else (some (x8, 0, 0, (⟨#[]⟩ : ByteArray)))
def look_hit.f (k : Nat) (a0_0 : Int) (a0_1 : Int) (l0_2 : List (S26)) (a1_0 : Int) (a1_1 : Int) (a1_2 : ByteArray) : Option ((List (S26)) × Int × Int × ByteArray) := (crit_Of.f k a1_0 a1_1 a1_2).bind fun bt104 => (if bt104.2.2.2.2 = true then (look_hit.l0 k ([] : List (S26)) l0_2 (l0_2.length : Int) 0 bt104.1 bt104.2.1 bt104.2.2.1 bt104.2.2.2.1) else (some (([] : List (S26)), a1_0, a1_1, a1_2)))
theorem look_hit.mono_l : ∀ k, (∀ y0 y1 y2 y3 y4 y5 y6 y7, LeO (look_hit.l0 k y0 y1 y2 y3 y4 y5 y6 y7) (look_hit.l0 (k + 1) y0 y1 y2 y3 y4 y5 y6 y7))
 | 0 => fun _ _ _ _ _ _ _ _ r h => by simp [look_hit.l0] at h
 | k + 1 => by
  have ih0 := look_hit.mono_l k
  ·intro y0 y1 y2 y3 y4 y5 y6 y7
   unfold look_hit.l0
   repeat' first
   | (with_reducible exact ih0 _ _ _ _ _ _ _ _)
   | (with_reducible exact crit_Hits.mono _ _ _ _ _ _ _ _)
   | (with_reducible exact crit_Of.mono _ _ _ _)
   | (with_reducible exact LeO.refl _)
   | (with_reducible exact LeO.none _)
   | (with_reducible refine LeO.ite ?_ ?_)
   | (with_reducible refine LeO.bind ?_ (fun _ => ?_))
theorem look_hit.mono : ∀ a0 a1 a2 a3 a4 a5 k, LeO (look_hit.f k a0 a1 a2 a3 a4 a5) (look_hit.f (k + 1) a0 a1 a2 a3 a4 a5) := by
 intro a0 a1 a2 a3 a4 a5 k; have ih0 := look_hit.mono_l k
 unfold look_hit.f
 repeat' first
   | (with_reducible exact ih0 _ _ _ _ _ _ _ _)
   | (with_reducible exact crit_Hits.mono _ _ _ _ _ _ _ _)
   | (with_reducible exact crit_Of.mono _ _ _ _)
   | (with_reducible exact LeO.refl _)
   | (with_reducible exact LeO.none _)
   | (with_reducible refine LeO.ite ?_ ?_)
   | (with_reducible refine LeO.bind ?_ (fun _ => ?_))
set_option maxHeartbeats 8000000 in
set_option maxRecDepth 100000 in
theorem look_hit.calls (k : Nat) (a0_0 : Int) (a0_1 : Int) (A0_2 : Option Addr) (c0_2 : Nat) (l0_2 : List (S26)) (a1_0 : Int) (a1_1 : Int) (a1_2 : ByteArray) (r1 : List (S26)) (r2 : Int) (r3 : Int) (r4 : ByteArray) (w : World) (hr0_2 : Kd.C k26 w A0_2 l0_2.length l0_2) (hc0_2 : l0_2.length ≤ c0_2) (h : look_hit.f k a0_0 a0_1 l0_2 a1_0 a1_1 a1_2 = some (r1, r2, r3, r4)) :
  Calls Try.prog 33 #[.agg #[.int .i64 a0_0, .int .i64 a0_1, .slice A0_2 l0_2.length c0_2], .agg #[.int .i64 a1_0, .int .i64 a1_1, .string a1_2]] w fun e w' => ∃ v0_ : Value, e = .returned (.tuple #[v0_, .agg #[.int .i64 r2, .int .i64 r3, .string r4]]) ∧ Kd.R k26 26 w' w.heap.size (fun _ => True) v0_ r1 ∧ Below w.heap.size w w' := by
 have hu24 := Try.underlying24; have hu26 := Try.underlying26; have hu63 := Try.underlying63; have HR0_2 := Aside0.mk hr0_2; have HC0_2 := Aside0.mk hc0_2; clear hr0_2 hc0_2; have HB := Aside0.mk (Below.refl w.heap.size w)
 have H : ((crit_Of.f k a1_0 a1_1 a1_2).bind fun bt104 => (if bt104.2.2.2.2 = true then (look_hit.l0 k ([] : List (S26)) l0_2 (l0_2.length : Int) 0 bt104.1 bt104.2.1 bt104.2.2.1 bt104.2.2.2.1) else (some (([] : List (S26)), a1_0, a1_1, a1_2)))) = some (r1, r2, r3, r4) := h
 clear h; replace H := Option.bind_eq_some_iff.mp H; obtain ⟨⟨t104, t105, t106, t107, t108⟩, A30, H⟩ := H
 replace H : (if t108 = true then (look_hit.l0 k ([] : List (S26)) l0_2 (l0_2.length : Int) 0 t104 t105 t106 t107) else (some (([] : List (S26)), a1_0, a1_1, a1_2))) = some (r1, r2, r3, r4) := H
 have A3 := Aside0.mk A30; clear A30
 by_cases c4 : t108 = true
 ·subst c4
  have H1 : (look_hit.l0 k ([] : List (S26)) l0_2 (l0_2.length : Int) 0 t104 t105 t106 t107) = some (r1, r2, r3, r4) := by rw [if_pos rfl] at H; exact H
  clear H; have H := H1; clear H1
  have H' := Aside0.mk H
  clear H
  go_enter Try.func33, Try.ntmps33
  go_wp2_with (first | ((with_reducible refine gate_dst (N:=2) rfl ?_); refine be_ (N:=2) (cs := #[.int .i64 a0_0, .int .i64 a0_1, .slice A0_2 l0_2.length c0_2]) (t:=24) ?_; intro gb101 hg w5 hbox hb; have BK101 := Aside0.mk (hbox); have GW101 := hs_ HB hg; have GE101 := hs_ HB hg; replace HB := bs_ HB hb; clear hb hbox hg) | ((with_reducible refine gate_dst (N:=3) rfl ?_); refine be_ (N:=3) (cs := #[.int .i64 a1_0, .int .i64 a1_1, .string a1_2]) (t:=26) ?_; intro gb102 hg w6 hbox hb; have BK102 := Aside0.mk (hbox); have GW102 := hs_ HB hg; have GE102 := hs_ HB hg; have NB101_102 := hl_ BK101 hg; have NB102_101 := hr_ BK101 hg; replace BK101 := bb_ BK101 hb; replace HB := bs_ HB hb; clear hb hbox hg) | ((with_reducible refine gate_dst (N:=5) rfl ?_); refine be_ (N:=5) (cs := #[.int .i64 0, .int .i64 0, .string (⟨#[]⟩ : ByteArray)]) (t:=26) ?_; intro gb103 hg w7 hbox hb; have BK103 := Aside0.mk (hbox); have GW103 := hs_ HB hg; have GE103 := hs_ HB hg; have NB101_103 := hl_ BK101 hg; have NB103_101 := hr_ BK101 hg; have NB102_103 := hl_ BK102 hg; have NB103_102 := hr_ BK102 hg; replace BK101 := bb_ BK101 hb; replace BK102 := bb_ BK102 hb; replace HB := bs_ HB hb; clear hb hbox hg; have hnb8 := NB102_101.out; have hnc8 := NB101_102.out; have hnb9 := NB102_103.out; have hnc9 := NB103_102.out; have hcz10_0 : w7.cell? ⟨gb102, 0, none⟩ = some (.int .i64 a1_0) := bc_ BK102 0 rfl; have hcz10_1 : w7.cell? ⟨gb102, 1, none⟩ = some (.int .i64 a1_1) := bc_ BK102 1 rfl; have hcz10_2 : w7.cell? ⟨gb102, 2, none⟩ = some (.string a1_2) := bc_ BK102 2 rfl; have hfz10_0 := blk_frozen BK102.out 0; have hfz10_1 := blk_frozen BK102.out 1; have hfz10_2 := blk_frozen BK102.out 2) | ((with_reducible refine gate_callee (f:=43) rfl ?_); refine gL_ (some 13) rfl rfl Try.func43 rfl #[.agg #[.int .i64 a1_0, .int .i64 a1_1, .string a1_2]] rfl ?_; (with_reducible refine (crit_Of.calls k a1_0 a1_1 a1_2 t104 t105 t106 t107 true _ A3.out).mono ?_); rintro e w11 ⟨rfl, hb⟩; refine ⟨_, rfl, ?_⟩; replace BK101 := bb_ BK101 hb; replace BK102 := bb_ BK102 hb; replace BK103 := bb_ BK103 hb; replace HB := bs_ HB hb; (try clear hb); (try clear hb2); (try clear hk); (try clear hi)) | ((with_reducible refine gate_dst (N:=6) rfl ?_); refine be_ (N:=6) (cs := #[.int .i64 0, .int .i64 0, .int .i64 0, .string (⟨#[]⟩ : ByteArray)]) (t:=63) ?_; intro gb109 hg w12 hbox hb; have BK109 := Aside0.mk (hbox); have GW109 := hs_ HB hg; have GE109 := hs_ HB hg; have NB101_109 := hl_ BK101 hg; have NB109_101 := hr_ BK101 hg; have NB102_109 := hl_ BK102 hg; have NB109_102 := hr_ BK102 hg; have NB103_109 := hl_ BK103 hg; have NB109_103 := hr_ BK103 hg; replace BK101 := bb_ BK101 hb; replace BK102 := bb_ BK102 hb; replace BK103 := bb_ BK103 hb; replace HB := bs_ HB hb; clear hb hbox hg; have hnb13 := NB109_101.out; have hnc13 := NB101_109.out; have hnb14 := NB109_102.out; have hnc14 := NB102_109.out; have hnb15 := NB109_103.out; have hnc15 := NB103_109.out; have hcz16_0 : w12.cell? ⟨gb109, 0, none⟩ = some (.int .i64 0) := bc_ BK109 0 rfl; have hcz16_1 : w12.cell? ⟨gb109, 1, none⟩ = some (.int .i64 0) := bc_ BK109 1 rfl; have hcz16_2 : w12.cell? ⟨gb109, 2, none⟩ = some (.int .i64 0) := bc_ BK109 2 rfl; have hcz16_3 : w12.cell? ⟨gb109, 3, none⟩ = some (.string (⟨#[]⟩ : ByteArray)) := bc_ BK109 3 rfl; have hfz16_0 := blk_frozen BK109.out 0; have hfz16_1 := blk_frozen BK109.out 1; have hfz16_2 := blk_frozen BK109.out 2; have hfz16_3 := blk_frozen BK109.out 3; have hnb17 := NB101_103.out; have hnc17 := NB103_101.out; have hcz18_0 : w12.cell? ⟨gb101, 0, none⟩ = some (.int .i64 a0_0) := bc_ BK101 0 rfl; have hcz18_1 : w12.cell? ⟨gb101, 1, none⟩ = some (.int .i64 a0_1) := bc_ BK101 1 rfl; have hcz18_2 : w12.cell? ⟨gb101, 2, none⟩ = some (.slice A0_2 l0_2.length c0_2) := bc_ BK101 2 rfl; have hfz18_0 := blk_frozen BK101.out 0; have hfz18_1 := blk_frozen BK101.out 1; have hfz18_2 := blk_frozen BK101.out 2))
  go_loopg [8, 22] k (fun kq v8 v22 w' => ∃ (x8_1 : List (S26)) (x22_1 : Int), v22 = .int .i64 x22_1 ∧ Aside0 (look_hit.l0 kq x8_1 l0_2 (l0_2.length : Int) x22_1 t104 t105 t106 t107 = some (r1, r2, r3, r4)) ∧ Aside0 (kq ≤ k) ∧ Aside0 (Kd.R k26 26 w' w.heap.size (fun k_ => k_ ≠ gb102 ∧ k_ ≠ gb103) v8 x8_1) ∧ Aside0 (w'.heap[gb101]? = some (.cells #[.int .i64 a0_0, .int .i64 a0_1, (.slice A0_2 l0_2.length c0_2)] 24 (0, 0))) ∧ Aside0 (w'.heap[gb102]? = some (.cells #[.int .i64 a1_0, .int .i64 a1_1, .string a1_2] 26 (0, 0))) ∧ Aside0 (w'.heap[gb103]? = some (.cells #[.int .i64 0, .int .i64 0, .string (⟨#[]⟩ : ByteArray)] 26 (0, 0))) ∧ Aside0 (w'.heap[gb109]? = some (.cells #[.int .i64 t104, .int .i64 t105, .int .i64 t106, .string t107] 63 (0, 0))) ∧ Aside0 (Below w.heap.size w w'))
  case atStart => exact ⟨(([] : List (S26))), (0), (by first | rfl | (simp; done) | (simp [*]; done)), H', ⟨Nat.le_refl _⟩, ⟨by first | exact Kd.R_nil _ _ _ _ _ | exact Kd.N_nil _ _ _ _ _ | exact Kd.V_nil _ _ _ _ _ | exact Kd.Q_nil _ _ _ _ _ | exact Kd.S_nil _ _ _ _ _⟩, ⟨by refine pf_ ?_ NB101_109.out; refine blk_far ?_ NB101_109.out _; refine blk_far ?_ NB101_109.out _; refine blk_far ?_ NB101_109.out _; exact pkx BK101⟩, ⟨by refine pf_ ?_ NB102_109.out; refine blk_far ?_ NB102_109.out _; refine blk_far ?_ NB102_109.out _; refine blk_far ?_ NB102_109.out _; exact pkx BK102⟩, ⟨by refine pf_ ?_ NB103_109.out; refine blk_far ?_ NB103_109.out _; refine blk_far ?_ NB103_109.out _; refine blk_far ?_ NB103_109.out _; exact pkx BK103⟩, ⟨by refine pp_ (cs := #[.int .i64 t104, .int .i64 t105, .int .i64 t106, .string (⟨#[]⟩ : ByteArray)]) 3 ?_ rfl; refine pp_ (cs := #[.int .i64 t104, .int .i64 t105, .int .i64 0, .string (⟨#[]⟩ : ByteArray)]) 2 ?_ rfl; refine pp_ (cs := #[.int .i64 t104, .int .i64 0, .int .i64 0, .string (⟨#[]⟩ : ByteArray)]) 1 ?_ rfl; refine pp_ (cs := #[.int .i64 0, .int .i64 0, .int .i64 0, .string (⟨#[]⟩ : ByteArray)]) 0 ?_ rfl; exact pkx BK109⟩, ⟨by repeat (first | (with_reducible first | exact HB.out | apply below_alloc | apply pw_below_drewN | apply below_drew1 | refine below_set ?_ GE101.out | refine below_set ?_ GE102.out | refine below_set ?_ GE103.out | refine below_set ?_ GE109.out) | exact HB.out)⟩⟩
  case round =>
   clear H'; (try clear c1); (try clear p2); (try clear c3); (try clear c4); (try clear c8); (try clear c9); (try clear c13); (try clear c14); (try clear c15); (try clear c17); (try clear hcz10_0); (try clear hcz10_1); (try clear hcz10_2); (try clear hcz16_0); (try clear hcz16_1); (try clear hcz16_2); (try clear hcz16_3); (try clear hcz18_0); (try clear hcz18_1); (try clear hcz18_2); (try clear hfz10_0); (try clear hfz10_1); (try clear hfz10_2); (try clear hfz16_0); (try clear hfz16_1); (try clear hfz16_2); (try clear hfz16_3); (try clear hfz18_0); (try clear hfz18_1); (try clear hfz18_2); obtain ⟨x8_1, x22_1, rfl, HA, HK1, HO_8, BK101, BK102, BK103, BK109, HB⟩ := hrel
   cases gk with
   | zero => exact absurd HA.out (by simp [look_hit.l0])
   | succ k1 =>
    have H := HA.out; clear HA
    simp only [look_hit.l0] at H
    by_cases c19 : x22_1 < (l0_2.length : Int)
    ·rw [if_pos c19] at H; have c19b0 : decide (x22_1 < (l0_2.length : Int)) = true := decide_eq_true c19; clear c19
     by_cases c20 : 0 ≤ x22_1
     ·rw [if_pos c20] at H; have c20b0 : decide (0 ≤ x22_1) = true := decide_eq_true c20; clear c20
      by_cases c21 : x22_1 < (l0_2.length : Int)
      ·rw [if_pos c21] at H; have c21b0 : decide (x22_1 < (l0_2.length : Int)) = true := decide_eq_true c21; clear c21; replace H := Option.bind_eq_some_iff.mp H; obtain ⟨t112, A220, H⟩ := H
       replace H : (if t112 = true then (if x8_1.length < 4398046511104 then (look_hit.l0 k1 (x8_1 ++ [(⟨(rd_T26 l0_2 x22_1).f0, (rd_T26 l0_2 x22_1).f1, (rd_T26 l0_2 x22_1).f2⟩ : S26)]) l0_2 (l0_2.length : Int) (wrap64 (x22_1 + 1)) t104 t105 t106 t107) else (none)) else (look_hit.l0 k1 x8_1 l0_2 (l0_2.length : Int) (wrap64 (x22_1 + 1)) t104 t105 t106 t107)) = some (r1, r2, r3, r4) := H
       have A22 := Aside0.mk A220; clear A220
       by_cases c23 : t112 = true
       ·subst c23
        have H1 : (if x8_1.length < 4398046511104 then (look_hit.l0 k1 (x8_1 ++ [(⟨(rd_T26 l0_2 x22_1).f0, (rd_T26 l0_2 x22_1).f1, (rd_T26 l0_2 x22_1).f2⟩ : S26)]) l0_2 (l0_2.length : Int) (wrap64 (x22_1 + 1)) t104 t105 t106 t107) else (none)) = some (r1, r2, r3, r4) := by rw [if_pos rfl] at H; exact H
        clear H; have H := H1; clear H1
        by_cases c24 : x8_1.length < 4398046511104
        ·rw [if_pos c24] at H; have LMc24 := Aside0.mk c24; clear c24; obtain ⟨y113, hy113⟩ : ∃ y_ : List (S26), y_ = (x8_1 ++ [(⟨(rd_T26 l0_2 x22_1).f0, (rd_T26 l0_2 x22_1).f1, (rd_T26 l0_2 x22_1).f2⟩ : S26)]) := ⟨_, rfl⟩
         replace H : (look_hit.l0 k1 y113 l0_2 (l0_2.length : Int) (wrap64 (x22_1 + 1)) t104 t105 t106 t107) = some (r1, r2, r3, r4) := by first | (rw [hy113]; with_reducible exact H) | (have H2_ := (Option.bind_some _ _).symm.trans H; rw [hy113]; with_reducible exact H2_) | (have H2_ := (Option.bind_some _ _).symm.trans H; with_reducible exact H2_) | with_reducible exact H | (rw [hy113]; exact H) | exact H
         have Ny113 := Aside0.mk hy113; clear hy113
         have H' := Aside0.mk H
         clear H
         have p110 : 0 ≤ (x22_1 : Int) := of_decide_eq_true (by first | (with_reducible assumption) | assumption)
         have q110 : x22_1 < (l0_2.length : Int) := of_decide_eq_true (by first | (with_reducible assumption) | assumption)
         obtain ⟨ad110, e110, hx110_0, hx110_1, hx110_2⟩ := at_T26 HR0_2.out x22_1 p110 q110
         cases e110
         replace hx110_0 := (HB.out.cell (World.block_lt_of_cell? w _ hx110_0)).trans hx110_0; replace hx110_1 := (HB.out.cell (World.block_lt_of_cell? w _ hx110_1)).trans hx110_1; replace hx110_2 := (HB.out.cell (World.block_lt_of_cell? w _ hx110_2)).trans hx110_2; replace p110 := eq_true p110; replace q110 := eq_true q110
         go_wp2_with (first | ((with_reducible refine gate_dst (N:=10) rfl ?_); refine be_ (N:=10) (cs := #[.int .i64 0, .int .i64 0, .string (⟨#[]⟩ : ByteArray)]) (t:=26) ?_; intro gb111 hg w25 hbox hb; have BK111 := Aside0.mk (hbox); have GW111 := hs_ HB hg; have GE111 := hs_ HB hg; have NB101_111 := hl_ BK101 hg; have NB111_101 := hr_ BK101 hg; have NB102_111 := hl_ BK102 hg; have NB111_102 := hr_ BK102 hg; have NB103_111 := hl_ BK103 hg; have NB111_103 := hr_ BK103 hg; have NB109_111 := hl_ BK109 hg; have NB111_109 := hr_ BK109 hg; replace HO_8 := Aside0.mk (Kd.R_below (Kd.R_elderB (by (with_reducible repeat (first | apply Kd.R_alloc | apply Kd.R_drewN | apply Kd.R_drew)); exact HO_8.out) gb111 (Nat.le_of_eq hg.symm)) hb); replace BK101 := bb_ BK101 hb; replace BK102 := bb_ BK102 hb; replace BK103 := bb_ BK103 hb; replace BK109 := bb_ BK109 hb; replace HB := bs_ HB hb; clear hb hbox hg; have hnb26 := NB111_101.out; have hnc26 := NB101_111.out; have hnb27 := NB111_102.out; have hnc27 := NB102_111.out; have hnb28 := NB111_103.out; have hnc28 := NB103_111.out; have hnb29 := NB111_109.out; have hnc29 := NB109_111.out; have hcz30_0 : w25.cell? ⟨gb111, 0, none⟩ = some (.int .i64 0) := bc_ BK111 0 rfl; have hcz30_1 : w25.cell? ⟨gb111, 1, none⟩ = some (.int .i64 0) := bc_ BK111 1 rfl; have hcz30_2 : w25.cell? ⟨gb111, 2, none⟩ = some (.string (⟨#[]⟩ : ByteArray)) := bc_ BK111 2 rfl; have hfz30_0 := blk_frozen BK111.out 0; have hfz30_1 := blk_frozen BK111.out 1; have hfz30_2 := blk_frozen BK111.out 2; have hnb31 := NB109_101.out; have hnc31 := NB101_109.out; have hnb32 := NB109_102.out; have hnc32 := NB102_109.out; have hnb33 := NB109_103.out; have hnc33 := NB103_109.out; have hcz34_0 : w25.cell? ⟨gb109, 0, none⟩ = some (.int .i64 t104) := bc_ BK109 0 rfl; have hcz34_1 : w25.cell? ⟨gb109, 1, none⟩ = some (.int .i64 t105) := bc_ BK109 1 rfl; have hcz34_2 : w25.cell? ⟨gb109, 2, none⟩ = some (.int .i64 t106) := bc_ BK109 2 rfl; have hcz34_3 : w25.cell? ⟨gb109, 3, none⟩ = some (.string t107) := bc_ BK109 3 rfl; have hfz34_0 := blk_frozen BK109.out 0; have hfz34_1 := blk_frozen BK109.out 1; have hfz34_2 := blk_frozen BK109.out 2; have hfz34_3 := blk_frozen BK109.out 3) | ((with_reducible refine gate_callee (f:=44) rfl ?_); refine gL_ (some 28) rfl rfl Try.func44 rfl #[.agg #[.int .i64 t104, .int .i64 t105, .int .i64 t106, .string t107], .agg #[.int .i64 ((rd_T26 l0_2 x22_1).f0), .int .i64 ((rd_T26 l0_2 x22_1).f1), .string ((rd_T26 l0_2 x22_1).f2)]] rfl ?_; (with_reducible refine (crit_Hits.calls k1 t104 t105 t106 t107 ((rd_T26 l0_2 x22_1).f0) ((rd_T26 l0_2 x22_1).f1) ((rd_T26 l0_2 x22_1).f2) true _ A22.out).mono ?_); rintro e w35 ⟨rfl, hb⟩; refine ⟨_, rfl, ?_⟩; replace HO_8 := Aside0.mk (Kd.R_below (by (with_reducible repeat (first | apply Kd.R_alloc | apply Kd.R_drewN | apply Kd.R_drew)); exact (Kd.R_mono (Kd.R_far (p := ⟨gb111, 2, none⟩) (Kd.R_far (p := ⟨gb111, 1, none⟩) (Kd.R_far (p := ⟨gb111, 0, none⟩) (Kd.R_mono HO_8.out (fun k_ hk => (⟨hk, hk.2⟩ : _ ∧ k_ ≠ gb111))) (fun _ hk => hk.2) (.int .i64 ((rd_T26 l0_2 x22_1).f0))) (fun _ hk => hk.2) (.int .i64 ((rd_T26 l0_2 x22_1).f1))) (fun _ hk => hk.2) (.string ((rd_T26 l0_2 x22_1).f2))) (fun _ h_ => h_.1))) hb); replace BK101 := Aside0.mk (blk_below (g:=gb101) (o := .cells #[.int .i64 a0_0, .int .i64 a0_1, .slice (some ad110) l0_2.length c0_2] 24 (0, 0)) (by refine pf_ ?_ NB101_111.out; refine blk_far ?_ NB101_111.out _; refine blk_far ?_ NB101_111.out _; exact pkx BK101) hb); replace BK102 := Aside0.mk (blk_below (g:=gb102) (o := .cells #[.int .i64 a1_0, .int .i64 a1_1, .string a1_2] 26 (0, 0)) (by refine pf_ ?_ NB102_111.out; refine blk_far ?_ NB102_111.out _; refine blk_far ?_ NB102_111.out _; exact pkx BK102) hb); replace BK103 := Aside0.mk (blk_below (g:=gb103) (o := .cells #[.int .i64 0, .int .i64 0, .string (⟨#[]⟩ : ByteArray)] 26 (0, 0)) (by refine pf_ ?_ NB103_111.out; refine blk_far ?_ NB103_111.out _; refine blk_far ?_ NB103_111.out _; exact pkx BK103) hb); replace BK109 := Aside0.mk (blk_below (g:=gb109) (o := .cells #[.int .i64 t104, .int .i64 t105, .int .i64 t106, .string t107] 63 (0, 0)) (by refine pf_ ?_ NB109_111.out; refine blk_far ?_ NB109_111.out _; refine blk_far ?_ NB109_111.out _; exact pkx BK109) hb); replace BK111 := Aside0.mk (blk_below (g:=gb111) (o := .cells #[.int .i64 ((rd_T26 l0_2 x22_1).f0), .int .i64 ((rd_T26 l0_2 x22_1).f1), .string ((rd_T26 l0_2 x22_1).f2)] 26 (0, 0)) (by refine pp_ (cs := #[.int .i64 ((rd_T26 l0_2 x22_1).f0), .int .i64 ((rd_T26 l0_2 x22_1).f1), .string (⟨#[]⟩ : ByteArray)]) 2 ?_ rfl; refine pp_ (cs := #[.int .i64 ((rd_T26 l0_2 x22_1).f0), .int .i64 0, .string (⟨#[]⟩ : ByteArray)]) 1 ?_ rfl; refine pp_ (cs := #[.int .i64 0, .int .i64 0, .string (⟨#[]⟩ : ByteArray)]) 0 ?_ rfl; exact pkx BK111) hb); replace HB := Aside0.mk (below_step (by repeat (first | (with_reducible first | exact HB.out | apply below_alloc | apply pw_below_drewN | apply below_drew1 | refine below_set ?_ GE101.out | refine below_set ?_ GE102.out | refine below_set ?_ GE103.out | refine below_set ?_ GE109.out | refine below_set ?_ GE111.out) | exact HB.out)) hb); (try clear hb); (try clear hb2); (try clear hk); (try clear hi); have hcz36_0 : w35.cell? ⟨gb111, 0, none⟩ = some (.int .i64 ((rd_T26 l0_2 x22_1).f0)) := bc_ BK111 0 rfl; have hcz36_1 : w35.cell? ⟨gb111, 1, none⟩ = some (.int .i64 ((rd_T26 l0_2 x22_1).f1)) := bc_ BK111 1 rfl; have hcz36_2 : w35.cell? ⟨gb111, 2, none⟩ = some (.string ((rd_T26 l0_2 x22_1).f2)) := bc_ BK111 2 rfl; have hfz36_0 := blk_frozen BK111.out 0; have hfz36_1 := blk_frozen BK111.out 1; have hfz36_2 := blk_frozen BK111.out 2) | ((with_reducible refine gate_builtin (b := .append) (xs := #[.tmp 29, .tmp 31]) rfl ?_); at_builtin; refine Kd.R_append k26 (w0 := w) w.heap.size rfl (.tmp 29) (.tmp 31) 22 26 (.agg #[(.int .i64 0), (.int .i64 0), (.string ⟨#[]⟩)]) 32 rfl Try.underlying22 info26 rfl (by decide) (by omega) u8 x8_1 (⟨(rd_T26 l0_2 x22_1).f0, (rd_T26 l0_2 x22_1).f1, (rd_T26 l0_2 x22_1).f2⟩ : S26) [.int .i64 ((rd_T26 l0_2 x22_1).f0), .int .i64 ((rd_T26 l0_2 x22_1).f1), .string ((rd_T26 l0_2 x22_1).f2)] (fun k_ => k_ ≠ gb102 ∧ k_ ≠ gb103 ∧ k_ ≠ gb111) (fun _ => False) rfl rfl ?aP (fun _ hk => hk.elim) ?aF ?aO ?aB ?aS ?aL ?_; (case aP => exact k26_mkM _ _ _ (⟨(rd_T26 l0_2 x22_1).f0, (rd_T26 l0_2 x22_1).f1, (rd_T26 l0_2 x22_1).f2⟩ : S26)); (case aB => exact (pbx HB)); (case aF => exact (fun k_ hk => ⟨Kd.freshB (pkx BK102) k_ hk, Kd.freshB (pkx BK103) k_ hk, Kd.freshB (pkx BK111) k_ hk⟩)); (case aO => exact (by (with_reducible repeat (first | apply Kd.R_alloc | apply Kd.R_drewN | apply Kd.R_drew)); exact Kd.R_mono HO_8.out (fun _ hk => ⟨hk.1.1, ⟨hk.1.2, hk.2⟩⟩))); (case aS => exact (below_size (pbx HB))); (case aL => have := LMc24.out; omega); intro v114 w37 ho hb hg hat; rw [← Ny113.out] at ho; have HO115 := Aside0.mk (ho); replace BK101 := Aside0.mk (blk_grown (pkx BK101) hg (Kd.R_ne HO_8.out BK101.out (by decide))); replace BK102 := Aside0.mk (blk_grown (pkx BK102) hg (Kd.R_away HO_8.out (fun _ hk => hk.1.1))); replace BK103 := Aside0.mk (blk_grown (pkx BK103) hg (Kd.R_away HO_8.out (fun _ hk => hk.1.2))); replace BK109 := Aside0.mk (blk_grown (pkx BK109) hg (Kd.R_ne HO_8.out BK109.out (by decide))); replace BK111 := Aside0.mk (blk_grown (pkx BK111) hg (Kd.R_away HO_8.out (fun _ hk => hk.2))); replace HB := Aside0.mk (hb); clear HO_8; clear ho hb hg hat))
         go_roundg k1
         case measure => have := HK1.out; omega
         case rel => exact ⟨(y113), (wrap64 (x22_1 + 1)), (by first | rfl | (simp; done) | (simp [*]; done)), H', ⟨by have := HK1.out; omega⟩, ⟨by (with_reducible repeat (first | apply Kd.R_alloc | apply Kd.R_drewN | apply Kd.R_drew)); exact Kd.R_mono HO115.out (fun _ hk => ⟨hk.1, hk.2.1⟩)⟩, ⟨pkx BK101⟩, ⟨pkx BK102⟩, ⟨pkx BK103⟩, ⟨pkx BK109⟩, ⟨pbx HB⟩⟩
        ·rw [if_neg c24] at H
         exact absurd H (by simp)
       ·replace c23 := Bool.eq_false_iff.mpr c23; subst c23
        have H1 : (look_hit.l0 k1 x8_1 l0_2 (l0_2.length : Int) (wrap64 (x22_1 + 1)) t104 t105 t106 t107) = some (r1, r2, r3, r4) := by rw [if_neg (show ¬ (false = true) by decide)] at H; exact H
        clear H; have H := H1; clear H1
        have H' := Aside0.mk H
        clear H
        have p110 : 0 ≤ (x22_1 : Int) := of_decide_eq_true (by first | (with_reducible assumption) | assumption)
        have q110 : x22_1 < (l0_2.length : Int) := of_decide_eq_true (by first | (with_reducible assumption) | assumption)
        obtain ⟨ad110, e110, hx110_0, hx110_1, hx110_2⟩ := at_T26 HR0_2.out x22_1 p110 q110
        cases e110
        replace hx110_0 := (HB.out.cell (World.block_lt_of_cell? w _ hx110_0)).trans hx110_0; replace hx110_1 := (HB.out.cell (World.block_lt_of_cell? w _ hx110_1)).trans hx110_1; replace hx110_2 := (HB.out.cell (World.block_lt_of_cell? w _ hx110_2)).trans hx110_2; replace p110 := eq_true p110; replace q110 := eq_true q110
        go_wp2_with (first | ((with_reducible refine gate_dst (N:=10) rfl ?_); refine be_ (N:=10) (cs := #[.int .i64 0, .int .i64 0, .string (⟨#[]⟩ : ByteArray)]) (t:=26) ?_; intro gb111 hg w38 hbox hb; have BK111 := Aside0.mk (hbox); have GW111 := hs_ HB hg; have GE111 := hs_ HB hg; have NB101_111 := hl_ BK101 hg; have NB111_101 := hr_ BK101 hg; have NB102_111 := hl_ BK102 hg; have NB111_102 := hr_ BK102 hg; have NB103_111 := hl_ BK103 hg; have NB111_103 := hr_ BK103 hg; have NB109_111 := hl_ BK109 hg; have NB111_109 := hr_ BK109 hg; replace HO_8 := Aside0.mk (Kd.R_below (Kd.R_elderB (by (with_reducible repeat (first | apply Kd.R_alloc | apply Kd.R_drewN | apply Kd.R_drew)); exact HO_8.out) gb111 (Nat.le_of_eq hg.symm)) hb); replace BK101 := bb_ BK101 hb; replace BK102 := bb_ BK102 hb; replace BK103 := bb_ BK103 hb; replace BK109 := bb_ BK109 hb; replace HB := bs_ HB hb; clear hb hbox hg; have hnb39 := NB111_101.out; have hnc39 := NB101_111.out; have hnb40 := NB111_102.out; have hnc40 := NB102_111.out; have hnb41 := NB111_103.out; have hnc41 := NB103_111.out; have hnb42 := NB111_109.out; have hnc42 := NB109_111.out; have hcz43_0 : w38.cell? ⟨gb111, 0, none⟩ = some (.int .i64 0) := bc_ BK111 0 rfl; have hcz43_1 : w38.cell? ⟨gb111, 1, none⟩ = some (.int .i64 0) := bc_ BK111 1 rfl; have hcz43_2 : w38.cell? ⟨gb111, 2, none⟩ = some (.string (⟨#[]⟩ : ByteArray)) := bc_ BK111 2 rfl; have hfz43_0 := blk_frozen BK111.out 0; have hfz43_1 := blk_frozen BK111.out 1; have hfz43_2 := blk_frozen BK111.out 2; have hnb44 := NB109_101.out; have hnc44 := NB101_109.out; have hnb45 := NB109_102.out; have hnc45 := NB102_109.out; have hnb46 := NB109_103.out; have hnc46 := NB103_109.out; have hcz47_0 : w38.cell? ⟨gb109, 0, none⟩ = some (.int .i64 t104) := bc_ BK109 0 rfl; have hcz47_1 : w38.cell? ⟨gb109, 1, none⟩ = some (.int .i64 t105) := bc_ BK109 1 rfl; have hcz47_2 : w38.cell? ⟨gb109, 2, none⟩ = some (.int .i64 t106) := bc_ BK109 2 rfl; have hcz47_3 : w38.cell? ⟨gb109, 3, none⟩ = some (.string t107) := bc_ BK109 3 rfl; have hfz47_0 := blk_frozen BK109.out 0; have hfz47_1 := blk_frozen BK109.out 1; have hfz47_2 := blk_frozen BK109.out 2; have hfz47_3 := blk_frozen BK109.out 3) | ((with_reducible refine gate_callee (f:=44) rfl ?_); refine gL_ (some 28) rfl rfl Try.func44 rfl #[.agg #[.int .i64 t104, .int .i64 t105, .int .i64 t106, .string t107], .agg #[.int .i64 ((rd_T26 l0_2 x22_1).f0), .int .i64 ((rd_T26 l0_2 x22_1).f1), .string ((rd_T26 l0_2 x22_1).f2)]] rfl ?_; (with_reducible refine (crit_Hits.calls k1 t104 t105 t106 t107 ((rd_T26 l0_2 x22_1).f0) ((rd_T26 l0_2 x22_1).f1) ((rd_T26 l0_2 x22_1).f2) false _ A22.out).mono ?_); rintro e w48 ⟨rfl, hb⟩; refine ⟨_, rfl, ?_⟩; replace HO_8 := Aside0.mk (Kd.R_below (by (with_reducible repeat (first | apply Kd.R_alloc | apply Kd.R_drewN | apply Kd.R_drew)); exact (Kd.R_mono (Kd.R_far (p := ⟨gb111, 2, none⟩) (Kd.R_far (p := ⟨gb111, 1, none⟩) (Kd.R_far (p := ⟨gb111, 0, none⟩) (Kd.R_mono HO_8.out (fun k_ hk => (⟨hk, hk.2⟩ : _ ∧ k_ ≠ gb111))) (fun _ hk => hk.2) (.int .i64 ((rd_T26 l0_2 x22_1).f0))) (fun _ hk => hk.2) (.int .i64 ((rd_T26 l0_2 x22_1).f1))) (fun _ hk => hk.2) (.string ((rd_T26 l0_2 x22_1).f2))) (fun _ h_ => h_.1))) hb); replace BK101 := Aside0.mk (blk_below (g:=gb101) (o := .cells #[.int .i64 a0_0, .int .i64 a0_1, .slice (some ad110) l0_2.length c0_2] 24 (0, 0)) (by refine pf_ ?_ NB101_111.out; refine blk_far ?_ NB101_111.out _; refine blk_far ?_ NB101_111.out _; exact pkx BK101) hb); replace BK102 := Aside0.mk (blk_below (g:=gb102) (o := .cells #[.int .i64 a1_0, .int .i64 a1_1, .string a1_2] 26 (0, 0)) (by refine pf_ ?_ NB102_111.out; refine blk_far ?_ NB102_111.out _; refine blk_far ?_ NB102_111.out _; exact pkx BK102) hb); replace BK103 := Aside0.mk (blk_below (g:=gb103) (o := .cells #[.int .i64 0, .int .i64 0, .string (⟨#[]⟩ : ByteArray)] 26 (0, 0)) (by refine pf_ ?_ NB103_111.out; refine blk_far ?_ NB103_111.out _; refine blk_far ?_ NB103_111.out _; exact pkx BK103) hb); replace BK109 := Aside0.mk (blk_below (g:=gb109) (o := .cells #[.int .i64 t104, .int .i64 t105, .int .i64 t106, .string t107] 63 (0, 0)) (by refine pf_ ?_ NB109_111.out; refine blk_far ?_ NB109_111.out _; refine blk_far ?_ NB109_111.out _; exact pkx BK109) hb); replace BK111 := Aside0.mk (blk_below (g:=gb111) (o := .cells #[.int .i64 ((rd_T26 l0_2 x22_1).f0), .int .i64 ((rd_T26 l0_2 x22_1).f1), .string ((rd_T26 l0_2 x22_1).f2)] 26 (0, 0)) (by refine pp_ (cs := #[.int .i64 ((rd_T26 l0_2 x22_1).f0), .int .i64 ((rd_T26 l0_2 x22_1).f1), .string (⟨#[]⟩ : ByteArray)]) 2 ?_ rfl; refine pp_ (cs := #[.int .i64 ((rd_T26 l0_2 x22_1).f0), .int .i64 0, .string (⟨#[]⟩ : ByteArray)]) 1 ?_ rfl; refine pp_ (cs := #[.int .i64 0, .int .i64 0, .string (⟨#[]⟩ : ByteArray)]) 0 ?_ rfl; exact pkx BK111) hb); replace HB := Aside0.mk (below_step (by repeat (first | (with_reducible first | exact HB.out | apply below_alloc | apply pw_below_drewN | apply below_drew1 | refine below_set ?_ GE101.out | refine below_set ?_ GE102.out | refine below_set ?_ GE103.out | refine below_set ?_ GE109.out | refine below_set ?_ GE111.out) | exact HB.out)) hb); (try clear hb); (try clear hb2); (try clear hk); (try clear hi)))
        go_roundg k1
        case measure => have := HK1.out; omega
        case rel => exact ⟨(x8_1), (wrap64 (x22_1 + 1)), (by first | rfl | (simp; done) | (simp [*]; done)), H', ⟨by have := HK1.out; omega⟩, ⟨by (with_reducible repeat (first | apply Kd.R_alloc | apply Kd.R_drewN | apply Kd.R_drew)); exact Kd.R_mono HO_8.out (fun _ hk => ⟨hk.1.1, hk.1.2⟩)⟩, ⟨pkx BK101⟩, ⟨pkx BK102⟩, ⟨pkx BK103⟩, ⟨pkx BK109⟩, ⟨pbx HB⟩⟩
      ·rw [if_neg c21] at H
       exact absurd H (by simp)
     ·rw [if_neg c20] at H
      exact absurd H (by simp)
    ·rw [if_neg c19] at H; have c19b0 : decide (x22_1 < (l0_2.length : Int)) = false := decide_eq_false c19; clear c19
     simp only [Option.some.injEq, Prod.mk.injEq] at H
     obtain ⟨rfl, rfl, rfl, rfl⟩ := H; have hnb49 := NB103_101.out; have hnc49 := NB101_103.out; have hnb50 := NB103_102.out; have hnc50 := NB102_103.out; have hnb51 := NB103_109.out; have hnc51 := NB109_103.out
     have hcz52_0 : wr.cell? ⟨gb103, 0, none⟩ = some (.int .i64 0) := bc_ BK103 0 rfl
     have hcz52_1 : wr.cell? ⟨gb103, 1, none⟩ = some (.int .i64 0) := bc_ BK103 1 rfl
     have hcz52_2 : wr.cell? ⟨gb103, 2, none⟩ = some (.string (⟨#[]⟩ : ByteArray)) := bc_ BK103 2 rfl
     have hfz52_0 := blk_frozen BK103.out 0; have hfz52_1 := blk_frozen BK103.out 1; have hfz52_2 := blk_frozen BK103.out 2
     go_wp2
     refine bodyPost_ret (results_tc rfl _ _ gb103 26 #[.int .i64 0, .int .i64 0, .string (⟨#[]⟩ : ByteArray)] (0, 0) _ rfl (by refine pp_ (cs := #[.int .i64 0, .int .i64 0, .string (⟨#[]⟩ : ByteArray)]) 2 ?_ rfl; refine pp_ (cs := #[.int .i64 0, .int .i64 0, .string (⟨#[]⟩ : ByteArray)]) 1 ?_ rfl; refine pp_ (cs := #[.int .i64 0, .int .i64 0, .string (⟨#[]⟩ : ByteArray)]) 0 ?_ rfl; exact pkx BK103) Try.underlying26 rfl (by kernel_rfl)) rfl ?_
     exact ⟨_, by first | rfl | (simp [errW_none, errW_some] <;> rfl) | (simp [*, errW_none, errW_some] <;> rfl), by (with_reducible repeat (first | apply Kd.R_alloc | apply Kd.R_drewN | apply Kd.R_drew)); exact Kd.R_mono (Kd.R_far (p := ⟨gb103, 2, none⟩) (Kd.R_far (p := ⟨gb103, 1, none⟩) (Kd.R_far (p := ⟨gb103, 0, none⟩) (Kd.R_mono HO_8.out (fun k_ hk => (⟨hk, hk.2⟩ : _ ∧ k_ ≠ gb103))) (fun _ hk => hk.2) (.int .i64 0)) (fun _ hk => hk.2) (.int .i64 0)) (fun _ hk => hk.2) (.string (⟨#[]⟩ : ByteArray))) (fun _ hk => trivial), by repeat (first | (with_reducible first | exact HB.out | apply below_alloc | apply pw_below_drewN | apply below_drew1 | refine below_set ?_ GE101.out | refine below_set ?_ GE102.out | refine below_set ?_ GE103.out | refine below_set ?_ GE109.out) | exact HB.out)⟩
 ·replace c4 := Bool.eq_false_iff.mpr c4; subst c4
  have H1 : (some (([] : List (S26)), a1_0, a1_1, a1_2)) = some (r1, r2, r3, r4) := by rw [if_neg (show ¬ (false = true) by decide)] at H; exact H
  clear H; have H := H1; clear H1
  simp only [Option.some.injEq, Prod.mk.injEq] at H
  obtain ⟨rfl, rfl, rfl, rfl⟩ := H
  go_enter Try.func33, Try.ntmps33
  try go_wp2_with (first | ((with_reducible refine gate_dst (N:=2) rfl ?_); refine be_ (N:=2) (cs := #[.int .i64 a0_0, .int .i64 a0_1, .slice A0_2 l0_2.length c0_2]) (t:=24) ?_; intro gb101 hg w53 hbox hb; have BK101 := Aside0.mk (hbox); have GW101 := hs_ HB hg; have GE101 := hs_ HB hg; replace HB := bs_ HB hb; clear hb hbox hg) | ((with_reducible refine gate_dst (N:=3) rfl ?_); refine be_ (N:=3) (cs := #[.int .i64 a1_0, .int .i64 a1_1, .string a1_2]) (t:=26) ?_; intro gb102 hg w54 hbox hb; have BK102 := Aside0.mk (hbox); have GW102 := hs_ HB hg; have GE102 := hs_ HB hg; have NB101_102 := hl_ BK101 hg; have NB102_101 := hr_ BK101 hg; replace BK101 := bb_ BK101 hb; replace HB := bs_ HB hb; clear hb hbox hg) | ((with_reducible refine gate_dst (N:=5) rfl ?_); refine be_ (N:=5) (cs := #[.int .i64 0, .int .i64 0, .string (⟨#[]⟩ : ByteArray)]) (t:=26) ?_; intro gb103 hg w55 hbox hb; have BK103 := Aside0.mk (hbox); have GW103 := hs_ HB hg; have GE103 := hs_ HB hg; have NB101_103 := hl_ BK101 hg; have NB103_101 := hr_ BK101 hg; have NB102_103 := hl_ BK102 hg; have NB103_102 := hr_ BK102 hg; replace BK101 := bb_ BK101 hb; replace BK102 := bb_ BK102 hb; replace HB := bs_ HB hb; clear hb hbox hg; have hnb56 := NB102_101.out; have hnc56 := NB101_102.out; have hnb57 := NB102_103.out; have hnc57 := NB103_102.out; have hcz58_0 : w55.cell? ⟨gb102, 0, none⟩ = some (.int .i64 a1_0) := bc_ BK102 0 rfl; have hcz58_1 : w55.cell? ⟨gb102, 1, none⟩ = some (.int .i64 a1_1) := bc_ BK102 1 rfl; have hcz58_2 : w55.cell? ⟨gb102, 2, none⟩ = some (.string a1_2) := bc_ BK102 2 rfl; have hfz58_0 := blk_frozen BK102.out 0; have hfz58_1 := blk_frozen BK102.out 1; have hfz58_2 := blk_frozen BK102.out 2) | ((with_reducible refine gate_callee (f:=43) rfl ?_); refine gL_ (some 13) rfl rfl Try.func43 rfl #[.agg #[.int .i64 a1_0, .int .i64 a1_1, .string a1_2]] rfl ?_; (with_reducible refine (crit_Of.calls k a1_0 a1_1 a1_2 t104 t105 t106 t107 false _ A3.out).mono ?_); rintro e w59 ⟨rfl, hb⟩; refine ⟨_, rfl, ?_⟩; replace BK101 := bb_ BK101 hb; replace BK102 := bb_ BK102 hb; replace BK103 := bb_ BK103 hb; replace HB := bs_ HB hb; (try clear hb); (try clear hb2); (try clear hk); (try clear hi)) | ((with_reducible refine gate_dst (N:=6) rfl ?_); refine be_ (N:=6) (cs := #[.int .i64 0, .int .i64 0, .int .i64 0, .string (⟨#[]⟩ : ByteArray)]) (t:=63) ?_; intro gb109 hg w60 hbox hb; have BK109 := Aside0.mk (hbox); have GW109 := hs_ HB hg; have GE109 := hs_ HB hg; have NB101_109 := hl_ BK101 hg; have NB109_101 := hr_ BK101 hg; have NB102_109 := hl_ BK102 hg; have NB109_102 := hr_ BK102 hg; have NB103_109 := hl_ BK103 hg; have NB109_103 := hr_ BK103 hg; replace BK101 := bb_ BK101 hb; replace BK102 := bb_ BK102 hb; replace BK103 := bb_ BK103 hb; replace HB := bs_ HB hb; clear hb hbox hg; have hnb61 := NB109_101.out; have hnc61 := NB101_109.out; have hnb62 := NB109_102.out; have hnc62 := NB102_109.out; have hnb63 := NB109_103.out; have hnc63 := NB103_109.out; have hcz64_0 : w60.cell? ⟨gb109, 0, none⟩ = some (.int .i64 0) := bc_ BK109 0 rfl; have hcz64_1 : w60.cell? ⟨gb109, 1, none⟩ = some (.int .i64 0) := bc_ BK109 1 rfl; have hcz64_2 : w60.cell? ⟨gb109, 2, none⟩ = some (.int .i64 0) := bc_ BK109 2 rfl; have hcz64_3 : w60.cell? ⟨gb109, 3, none⟩ = some (.string (⟨#[]⟩ : ByteArray)) := bc_ BK109 3 rfl; have hfz64_0 := blk_frozen BK109.out 0; have hfz64_1 := blk_frozen BK109.out 1; have hfz64_2 := blk_frozen BK109.out 2; have hfz64_3 := blk_frozen BK109.out 3))
  have n0_ : Aside0 (((((w60.setCell ⟨gb109, 0, none⟩ (.int .i64 t104)).setCell ⟨gb109, 1, none⟩ (.int .i64 t105)).setCell ⟨gb109, 2, none⟩ (.int .i64 t106)).setCell ⟨gb109, 3, none⟩ (.string t107)).heap[gb101]? = some (.cells #[.int .i64 a0_0, .int .i64 a0_1, .slice A0_2 l0_2.length c0_2] 24 (0, 0))) := ⟨by refine pf_ ?_ NB101_109.out; refine blk_far ?_ NB101_109.out _; refine blk_far ?_ NB101_109.out _; refine blk_far ?_ NB101_109.out _; exact pkx BK101⟩; have n1_ : Aside0 (((((w60.setCell ⟨gb109, 0, none⟩ (.int .i64 t104)).setCell ⟨gb109, 1, none⟩ (.int .i64 t105)).setCell ⟨gb109, 2, none⟩ (.int .i64 t106)).setCell ⟨gb109, 3, none⟩ (.string t107)).heap[gb102]? = some (.cells #[.int .i64 a1_0, .int .i64 a1_1, .string a1_2] 26 (0, 0))) := ⟨by refine pf_ ?_ NB102_109.out; refine blk_far ?_ NB102_109.out _; refine blk_far ?_ NB102_109.out _; refine blk_far ?_ NB102_109.out _; exact pkx BK102⟩
  have n2_ : Aside0 (((((w60.setCell ⟨gb109, 0, none⟩ (.int .i64 t104)).setCell ⟨gb109, 1, none⟩ (.int .i64 t105)).setCell ⟨gb109, 2, none⟩ (.int .i64 t106)).setCell ⟨gb109, 3, none⟩ (.string t107)).heap[gb103]? = some (.cells #[.int .i64 0, .int .i64 0, .string (⟨#[]⟩ : ByteArray)] 26 (0, 0))) := ⟨by refine pf_ ?_ NB103_109.out; refine blk_far ?_ NB103_109.out _; refine blk_far ?_ NB103_109.out _; refine blk_far ?_ NB103_109.out _; exact pkx BK103⟩; have n3_ : Aside0 (((((w60.setCell ⟨gb109, 0, none⟩ (.int .i64 t104)).setCell ⟨gb109, 1, none⟩ (.int .i64 t105)).setCell ⟨gb109, 2, none⟩ (.int .i64 t106)).setCell ⟨gb109, 3, none⟩ (.string t107)).heap[gb109]? = some (.cells #[.int .i64 t104, .int .i64 t105, .int .i64 t106, .string t107] 63 (0, 0))) := ⟨by refine pp_ (cs := #[.int .i64 t104, .int .i64 t105, .int .i64 t106, .string (⟨#[]⟩ : ByteArray)]) 3 ?_ rfl; refine pp_ (cs := #[.int .i64 t104, .int .i64 t105, .int .i64 0, .string (⟨#[]⟩ : ByteArray)]) 2 ?_ rfl; refine pp_ (cs := #[.int .i64 t104, .int .i64 0, .int .i64 0, .string (⟨#[]⟩ : ByteArray)]) 1 ?_ rfl; refine pp_ (cs := #[.int .i64 0, .int .i64 0, .int .i64 0, .string (⟨#[]⟩ : ByteArray)]) 0 ?_ rfl; exact pkx BK109⟩
  have n4_ : Aside0 (Below w.heap.size w ((((w60.setCell ⟨gb109, 0, none⟩ (.int .i64 t104)).setCell ⟨gb109, 1, none⟩ (.int .i64 t105)).setCell ⟨gb109, 2, none⟩ (.int .i64 t106)).setCell ⟨gb109, 3, none⟩ (.string t107))) := ⟨by repeat (first | (with_reducible first | exact HB.out | apply below_alloc | apply pw_below_drewN | apply below_drew1 | refine below_set ?_ GE101.out | refine below_set ?_ GE102.out | refine below_set ?_ GE103.out | refine below_set ?_ GE109.out) | exact HB.out)⟩; (try clear BK101); (try clear BK102); (try clear BK103); (try clear BK109); (try clear HB)
  generalize ((((w60.setCell ⟨gb109, 0, none⟩ (.int .i64 t104)).setCell ⟨gb109, 1, none⟩ (.int .i64 t105)).setCell ⟨gb109, 2, none⟩ (.int .i64 t106)).setCell ⟨gb109, 3, none⟩ (.string t107)) = w65 at n0_ n1_ n2_ n3_ n4_ ⊢; have BK101 := n0_; have BK102 := n1_; have BK103 := n2_; have BK109 := n3_; have HB := n4_; clear n0_ n1_ n2_ n3_ n4_; (try (rw [drewN_self w65]; generalize hq_ : World.drewN w65 _ = w65; have n0_ : Aside0 (w65.heap[gb101]? = some (.cells #[.int .i64 a0_0, .int .i64 a0_1, .slice A0_2 l0_2.length c0_2] 24 (0, 0))) := ⟨by rw [← hq_]; exact (pkx BK101)⟩; have n1_ : Aside0 (w65.heap[gb102]? = some (.cells #[.int .i64 a1_0, .int .i64 a1_1, .string a1_2] 26 (0, 0))) := ⟨by rw [← hq_]; exact (pkx BK102)⟩; have n2_ : Aside0 (w65.heap[gb103]? = some (.cells #[.int .i64 0, .int .i64 0, .string (⟨#[]⟩ : ByteArray)] 26 (0, 0))) := ⟨by rw [← hq_]; exact (pkx BK103)⟩; have n3_ : Aside0 (w65.heap[gb109]? = some (.cells #[.int .i64 t104, .int .i64 t105, .int .i64 t106, .string t107] 63 (0, 0))) := ⟨by rw [← hq_]; exact (pkx BK109)⟩; have n4_ : Aside0 (Below w.heap.size w w65) := ⟨by rw [← hq_]; exact (pbx HB)⟩; clear BK101 BK102 BK103 BK109 HB hq_; have BK101 := n0_; have BK102 := n1_; have BK103 := n2_; have BK109 := n3_; have HB := n4_; clear n0_ n1_ n2_ n3_ n4_))
  replace BK101 := Aside0.mk (blk_drew BK101.out); replace BK102 := Aside0.mk (blk_drew BK102.out); replace BK103 := Aside0.mk (blk_drew BK103.out); replace BK109 := Aside0.mk (blk_drew BK109.out); replace HB := Aside0.mk (below_drew1 HB.out)
  refine start_ (n:=3) (S := fun w' => w'.cell? ⟨gb102, 0, none⟩ = some (.int .i64 a1_0) ∧ w'.cell? ⟨gb102, 1, none⟩ = some (.int .i64 a1_1) ∧ w'.cell? ⟨gb102, 2, none⟩ = some (.string a1_2)) (ds := []) #[F,F,F] (by kernel_rfl) rfl rfl ⟨bc_ BK102 0 rfl, bc_ BK102 1 rfl, bc_ BK102 2 rfl⟩ (fun hHeld => ?_)
  generalize w65.drew = w66 at BK101 BK102 BK103 BK109 HB hHeld ⊢; refine pure_ (i:=1) (N:=some 4) (v:=?_) (a':=?_) #[F,T,F] rfl rfl (by kernel_rfl) (fun _ _ _ h=>h) (Or.inl ⟨rfl, ?_⟩) ?_ ?_; rotate_left
  ·intro w'; go_simp; with_reducible rfl
  rotate_left
  ·simp only [q_, i64_w, i32_w]; rfl
  refine take_ (i:=0) (N:=some 18) (v:=?_) (a':=?_) #[T,T,F] rfl rfl (by kernel_rfl) (fun _ _ _ h=>h) (Or.inl ⟨rfl, ?_⟩) hHeld ?_ ?_; rotate_left
  ·rintro w' ⟨s0, s1, s2⟩; go_simp; with_reducible rfl
  rotate_left
  ·simp only [q_, i64_w, i32_w]; rfl
  refine one_ (i:=2) (N:=none) #[T,T,T] rfl rfl (by kernel_rfl) (by decide) (fun K hK => ?_)
  have hs67 : w66.cell? ⟨gb103, 0, none⟩ = some (.int .i64 0) := bc_ BK103 0 rfl
  have hfs67 := blk_frozen BK103.out 0; have hns67_0 := NB101_103.out; have hns67_1 := NB102_103.out; have hns67_3 := NB109_103.out; have hms67_0 := NB103_101.out; have hms67_1 := NB103_102.out; have hms67_3 := NB103_109.out
  have hs68 : w66.cell? ⟨gb103, 1, none⟩ = some (.int .i64 0) := bc_ BK103 1 rfl
  have hfs68 := blk_frozen BK103.out 1; have hns68_0 := NB101_103.out; have hns68_1 := NB102_103.out; have hns68_3 := NB109_103.out; have hms68_0 := NB103_101.out; have hms68_1 := NB103_102.out; have hms68_3 := NB103_109.out
  have hs69 : w66.cell? ⟨gb103, 2, none⟩ = some (.string (⟨#[]⟩ : ByteArray)) := bc_ BK103 2 rfl
  have hfs69 := blk_frozen BK103.out 2; have hns69_0 := NB101_103.out; have hns69_1 := NB102_103.out; have hns69_3 := NB109_103.out; have hms69_0 := NB103_101.out; have hms69_1 := NB103_102.out; have hms69_3 := NB103_109.out
  refine skip_ (w1 := ?_) (by rfl) rfl ?_ ?_
  rotate_left
  ·go_simp; rfl
  refine hK.out _ _ ⟨((cell_far (p := ⟨gb103, _, none⟩) NB102_103.out _).trans (((cell_far (p := ⟨gb103, _, none⟩) NB102_103.out _).trans (((cell_far (p := ⟨gb103, _, none⟩) NB102_103.out _).trans (hHeld.1)))))), ((cell_far (p := ⟨gb103, _, none⟩) NB102_103.out _).trans (((cell_far (p := ⟨gb103, _, none⟩) NB102_103.out _).trans (((cell_far (p := ⟨gb103, _, none⟩) NB102_103.out _).trans (hHeld.2.1)))))), ((cell_far (p := ⟨gb103, _, none⟩) NB102_103.out _).trans (((cell_far (p := ⟨gb103, _, none⟩) NB102_103.out _).trans (((cell_far (p := ⟨gb103, _, none⟩) NB102_103.out _).trans (hHeld.2.2))))))⟩ (fun hHeld => ?_); clear hK K
  refine done_ (by kernel_rfl) ?_
  try go_wp2
  refine bodyPost_ret (results_tc rfl _ _ gb103 26 #[.int .i64 a1_0, .int .i64 a1_1, .string a1_2] (0, 0) _ rfl (by refine pp_ (cs := #[.int .i64 a1_0, .int .i64 a1_1, .string (⟨#[]⟩ : ByteArray)]) 2 ?_ rfl; refine pp_ (cs := #[.int .i64 a1_0, .int .i64 0, .string (⟨#[]⟩ : ByteArray)]) 1 ?_ rfl; refine pp_ (cs := #[.int .i64 0, .int .i64 0, .string (⟨#[]⟩ : ByteArray)]) 0 ?_ rfl; exact pkx BK103) Try.underlying26 rfl (by kernel_rfl)) rfl ?_
  exact ⟨_, by first | rfl | (simp [errW_none, errW_some] <;> rfl) | (simp [*, errW_none, errW_some] <;> rfl), by first | exact Kd.R_nil _ _ _ _ _ | exact Kd.N_nil _ _ _ _ _ | exact Kd.V_nil _ _ _ _ _ | exact Kd.Q_nil _ _ _ _ _ | exact Kd.S_nil _ _ _ _ _, by repeat (first | (with_reducible first | exact HB.out | apply below_alloc | apply pw_below_drewN | apply below_drew1 | refine below_set ?_ GE101.out | refine below_set ?_ GE102.out | refine below_set ?_ GE103.out | refine below_set ?_ GE109.out) | exact HB.out)⟩

def value_Got.f (a0 : Int) (a1 : Bool) : Option (Int × Int × ByteArray) := if a1 = true then ((value_Num.f a0).bind fun bt102 => (some (bt102.1, bt102.2.1, bt102.2.2))) else ((value_Bad.f 4).bind fun bt105 => (some (bt105.1, bt105.2.1, bt105.2.2)))
set_option maxHeartbeats 8000000 in
set_option maxRecDepth 100000 in
theorem value_Got.calls (a0 : Int) (a1 : Bool) (r1 : Int) (r2 : Int) (r3 : ByteArray) (w : World) (h : value_Got.f a0 a1 = some (r1, r2, r3)) :
  Calls Try.prog 34 #[.int .i64 a0, .bool a1] w fun e w' => e = .returned (.agg #[.int .i64 r1, .int .i64 r2, .string r3]) ∧ Below w.heap.size w w' := by
 have hu26 := Try.underlying26; have HB := Aside0.mk (Below.refl w.heap.size w)
 have H : (if a1 = true then ((value_Num.f a0).bind fun bt102 => (some (bt102.1, bt102.2.1, bt102.2.2))) else ((value_Bad.f 4).bind fun bt105 => (some (bt105.1, bt105.2.1, bt105.2.2)))) = some (r1, r2, r3) := h
 clear h
 by_cases c3 : a1 = true
 ·subst c3
  have H1 : ((value_Num.f a0).bind fun bt102 => (some (bt102.1, bt102.2.1, bt102.2.2))) = some (r1, r2, r3) := by rw [if_pos rfl] at H; exact H
  clear H; have H := H1; clear H1; replace H := Option.bind_eq_some_iff.mp H; obtain ⟨⟨t102, t103, t104⟩, A40, H⟩ := H
  replace H : (some (t102, t103, t104)) = some (r1, r2, r3) := H
  have A4 := Aside0.mk A40; clear A40
  simp only [Option.some.injEq, Prod.mk.injEq] at H
  obtain ⟨rfl, rfl, rfl⟩ := H
  go_enter Try.func34, Try.ntmps34
  go_wp2_with (first | ((with_reducible refine gate_dst (N:=4) rfl ?_); refine be_ (N:=4) (cs := #[.int .i64 0, .int .i64 0, .string (⟨#[]⟩ : ByteArray)]) (t:=26) ?_; intro gb101 hg w5 hbox hb; have BK101 := Aside0.mk (hbox); have GW101 := hs_ HB hg; have GE101 := hs_ HB hg; replace HB := bs_ HB hb; clear hb hbox hg) | ((with_reducible refine gate_callee (f:=21) rfl ?_); refine gL_ (some 9) rfl rfl Try.func21 rfl #[.int .i64 a0] rfl ?_; (with_reducible refine (value_Num.calls a0 t102 t103 t104 _ A4.out).mono ?_); rintro e w6 ⟨rfl, hb⟩; refine ⟨_, rfl, ?_⟩; replace BK101 := bb_ BK101 hb; replace HB := bs_ HB hb; (try clear hb); (try clear hb2); (try clear hk); (try clear hi); have hcz7_0 : w6.cell? ⟨gb101, 0, none⟩ = some (.int .i64 0) := bc_ BK101 0 rfl; have hcz7_1 : w6.cell? ⟨gb101, 1, none⟩ = some (.int .i64 0) := bc_ BK101 1 rfl; have hcz7_2 : w6.cell? ⟨gb101, 2, none⟩ = some (.string (⟨#[]⟩ : ByteArray)) := bc_ BK101 2 rfl; have hfz7_0 := blk_frozen BK101.out 0; have hfz7_1 := blk_frozen BK101.out 1; have hfz7_2 := blk_frozen BK101.out 2))
  refine bodyPost_ret (results_cell_row rfl _ _ gb101 26 #[.int .i64 t102, .int .i64 t103, .string t104] (0, 0) _ rfl (by refine pp_ (cs := #[.int .i64 t102, .int .i64 t103, .string (⟨#[]⟩ : ByteArray)]) 2 ?_ rfl; refine pp_ (cs := #[.int .i64 t102, .int .i64 0, .string (⟨#[]⟩ : ByteArray)]) 1 ?_ rfl; refine pp_ (cs := #[.int .i64 0, .int .i64 0, .string (⟨#[]⟩ : ByteArray)]) 0 ?_ rfl; exact pkx BK101) Try.underlying26 rfl (by kernel_rfl)) rfl ?_
  exact ⟨by first | rfl | (simp [errW_none, errW_some] <;> rfl) | (simp [*, errW_none, errW_some] <;> rfl), by repeat (first | (with_reducible first | exact HB.out | apply below_alloc | apply pw_below_drewN | apply below_drew1 | refine below_set ?_ GE101.out) | exact HB.out)⟩
 ·replace c3 := Bool.eq_false_iff.mpr c3; subst c3
  have H1 : ((value_Bad.f 4).bind fun bt105 => (some (bt105.1, bt105.2.1, bt105.2.2))) = some (r1, r2, r3) := by rw [if_neg (show ¬ (false = true) by decide)] at H; exact H
  clear H; have H := H1; clear H1; replace H := Option.bind_eq_some_iff.mp H; obtain ⟨⟨t105, t106, t107⟩, A80, H⟩ := H
  replace H : (some (t105, t106, t107)) = some (r1, r2, r3) := H
  have A8 := Aside0.mk A80; clear A80
  simp only [Option.some.injEq, Prod.mk.injEq] at H
  obtain ⟨rfl, rfl, rfl⟩ := H
  go_enter Try.func34, Try.ntmps34
  go_wp2_with (first | ((with_reducible refine gate_dst (N:=4) rfl ?_); refine be_ (N:=4) (cs := #[.int .i64 0, .int .i64 0, .string (⟨#[]⟩ : ByteArray)]) (t:=26) ?_; intro gb101 hg w9 hbox hb; have BK101 := Aside0.mk (hbox); have GW101 := hs_ HB hg; have GE101 := hs_ HB hg; replace HB := bs_ HB hb; clear hb hbox hg) | ((with_reducible refine gate_callee (f:=26) rfl ?_); refine gL_ (some 7) rfl rfl Try.func26 rfl #[.int .i64 4] rfl ?_; (with_reducible refine (value_Bad.calls 4 t105 t106 t107 _ A8.out).mono ?_); rintro e w10 ⟨rfl, hb⟩; refine ⟨_, rfl, ?_⟩; replace BK101 := bb_ BK101 hb; replace HB := bs_ HB hb; (try clear hb); (try clear hb2); (try clear hk); (try clear hi); have hcz11_0 : w10.cell? ⟨gb101, 0, none⟩ = some (.int .i64 0) := bc_ BK101 0 rfl; have hcz11_1 : w10.cell? ⟨gb101, 1, none⟩ = some (.int .i64 0) := bc_ BK101 1 rfl; have hcz11_2 : w10.cell? ⟨gb101, 2, none⟩ = some (.string (⟨#[]⟩ : ByteArray)) := bc_ BK101 2 rfl; have hfz11_0 := blk_frozen BK101.out 0; have hfz11_1 := blk_frozen BK101.out 1; have hfz11_2 := blk_frozen BK101.out 2))
  refine bodyPost_ret (results_cell_row rfl _ _ gb101 26 #[.int .i64 t105, .int .i64 t106, .string t107] (0, 0) _ rfl (by refine pp_ (cs := #[.int .i64 t105, .int .i64 t106, .string (⟨#[]⟩ : ByteArray)]) 2 ?_ rfl; refine pp_ (cs := #[.int .i64 t105, .int .i64 0, .string (⟨#[]⟩ : ByteArray)]) 1 ?_ rfl; refine pp_ (cs := #[.int .i64 0, .int .i64 0, .string (⟨#[]⟩ : ByteArray)]) 0 ?_ rfl; exact pkx BK101) Try.underlying26 rfl (by kernel_rfl)) rfl ?_
  exact ⟨by first | rfl | (simp [errW_none, errW_some] <;> rfl) | (simp [*, errW_none, errW_some] <;> rfl), by repeat (first | (with_reducible first | exact HB.out | apply below_alloc | apply pw_below_drewN | apply below_drew1 | refine below_set ?_ GE101.out) | exact HB.out)⟩

def look_CountIf.f (k : Nat) (a0_0 : Int) (a0_1 : Int) (l0_2 : List (S26)) (a1_0 : Int) (a1_1 : Int) (a1_2 : ByteArray) : Option (Int × Int × ByteArray) := (look_hit.f k a0_0 a0_1 l0_2 a1_0 a1_1 a1_2).bind fun bt104 => (if bt104.2.1 = 4 then (some (bt104.2.1, bt104.2.2.1, bt104.2.2.2)) else ((dec_Of.f k (bt104.1.length : Int)).bind fun bt111 => ((value_Got.f bt111.1 bt111.2).bind fun bt113 => (some (bt113.1, bt113.2.1, bt113.2.2)))))
theorem look_CountIf.mono : ∀ a0 a1 a2 a3 a4 a5 k, LeO (look_CountIf.f k a0 a1 a2 a3 a4 a5) (look_CountIf.f (k + 1) a0 a1 a2 a3 a4 a5) := by
 intro a0 a1 a2 a3 a4 a5 k
 unfold look_CountIf.f
 repeat' first
   | (with_reducible exact dec_Of.mono _ _)
   | (with_reducible exact look_hit.mono _ _ _ _ _ _ _)
   | (with_reducible exact LeO.refl _)
   | (with_reducible exact LeO.none _)
   | (with_reducible refine LeO.ite ?_ ?_)
   | (with_reducible refine LeO.bind ?_ (fun _ => ?_))
set_option maxHeartbeats 8000000 in
set_option maxRecDepth 100000 in
theorem look_CountIf.calls (k : Nat) (a0_0 : Int) (a0_1 : Int) (A0_2 : Option Addr) (c0_2 : Nat) (l0_2 : List (S26)) (a1_0 : Int) (a1_1 : Int) (a1_2 : ByteArray) (r1 : Int) (r2 : Int) (r3 : ByteArray) (w : World) (hr0_2 : Kd.C k26 w A0_2 l0_2.length l0_2) (hc0_2 : l0_2.length ≤ c0_2) (h : look_CountIf.f k a0_0 a0_1 l0_2 a1_0 a1_1 a1_2 = some (r1, r2, r3)) :
  Calls Try.prog 22 #[.agg #[.int .i64 a0_0, .int .i64 a0_1, .slice A0_2 l0_2.length c0_2], .agg #[.int .i64 a1_0, .int .i64 a1_1, .string a1_2]] w fun e w' => e = .returned (.agg #[.int .i64 r1, .int .i64 r2, .string r3]) ∧ Below w.heap.size w w' := by
 have hu24 := Try.underlying24; have hu26 := Try.underlying26; have HR0_2 := Aside0.mk hr0_2; have HC0_2 := Aside0.mk hc0_2; clear hr0_2 hc0_2; have HB := Aside0.mk (Below.refl w.heap.size w)
 have H : ((look_hit.f k a0_0 a0_1 l0_2 a1_0 a1_1 a1_2).bind fun bt104 => (if bt104.2.1 = 4 then (some (bt104.2.1, bt104.2.2.1, bt104.2.2.2)) else ((dec_Of.f k (bt104.1.length : Int)).bind fun bt111 => ((value_Got.f bt111.1 bt111.2).bind fun bt113 => (some (bt113.1, bt113.2.1, bt113.2.2)))))) = some (r1, r2, r3) := h
 clear h; replace H := Option.bind_eq_some_iff.mp H; obtain ⟨⟨t104, t107, t108, t109⟩, A30, H⟩ := H
 replace H : (if t107 = 4 then (some (t107, t108, t109)) else ((dec_Of.f k (t104.length : Int)).bind fun bt111 => ((value_Got.f bt111.1 bt111.2).bind fun bt113 => (some (bt113.1, bt113.2.1, bt113.2.2))))) = some (r1, r2, r3) := H
 have A3 := Aside0.mk A30; clear A30
 by_cases c4 : t107 = 4
 ·rw [if_pos c4] at H; have c4b0 : (t107 == 4) = true := beq_iff_eq.mpr c4; have c4b1 : (t107 != 4) = false := bne_eq_false_iff_eq.mpr c4; clear c4
  simp only [Option.some.injEq, Prod.mk.injEq] at H
  obtain ⟨rfl, rfl, rfl⟩ := H
  go_enter Try.func22, Try.ntmps22
  go_wp2_with (first | ((with_reducible refine gate_dst (N:=2) rfl ?_); refine be_ (N:=2) (cs := #[.int .i64 a0_0, .int .i64 a0_1, .slice A0_2 l0_2.length c0_2]) (t:=24) ?_; intro gb101 hg w5 hbox hb; have BK101 := Aside0.mk (hbox); have GW101 := hs_ HB hg; have GE101 := hs_ HB hg; replace HB := bs_ HB hb; clear hb hbox hg) | ((with_reducible refine gate_dst (N:=3) rfl ?_); refine be_ (N:=3) (cs := #[.int .i64 a1_0, .int .i64 a1_1, .string a1_2]) (t:=26) ?_; intro gb102 hg w6 hbox hb; have BK102 := Aside0.mk (hbox); have GW102 := hs_ HB hg; have GE102 := hs_ HB hg; have NB101_102 := hl_ BK101 hg; have NB102_101 := hr_ BK101 hg; replace BK101 := bb_ BK101 hb; replace HB := bs_ HB hb; clear hb hbox hg) | ((with_reducible refine gate_dst (N:=4) rfl ?_); refine be_ (N:=4) (cs := #[.int .i64 0, .int .i64 0, .string (⟨#[]⟩ : ByteArray)]) (t:=26) ?_; intro gb103 hg w7 hbox hb; have BK103 := Aside0.mk (hbox); have GW103 := hs_ HB hg; have GE103 := hs_ HB hg; have NB101_103 := hl_ BK101 hg; have NB103_101 := hr_ BK101 hg; have NB102_103 := hl_ BK102 hg; have NB103_102 := hr_ BK102 hg; replace BK101 := bb_ BK101 hb; replace BK102 := bb_ BK102 hb; replace HB := bs_ HB hb; clear hb hbox hg; have hnb8 := NB101_102.out; have hnc8 := NB102_101.out; have hnb9 := NB101_103.out; have hnc9 := NB103_101.out; have hcz10_0 : w7.cell? ⟨gb101, 0, none⟩ = some (.int .i64 a0_0) := bc_ BK101 0 rfl; have hcz10_1 : w7.cell? ⟨gb101, 1, none⟩ = some (.int .i64 a0_1) := bc_ BK101 1 rfl; have hcz10_2 : w7.cell? ⟨gb101, 2, none⟩ = some (.slice A0_2 l0_2.length c0_2) := bc_ BK101 2 rfl; have hfz10_0 := blk_frozen BK101.out 0; have hfz10_1 := blk_frozen BK101.out 1; have hfz10_2 := blk_frozen BK101.out 2; have hnb11 := NB102_103.out; have hnc11 := NB103_102.out; have hcz12_0 : w7.cell? ⟨gb102, 0, none⟩ = some (.int .i64 a1_0) := bc_ BK102 0 rfl; have hcz12_1 : w7.cell? ⟨gb102, 1, none⟩ = some (.int .i64 a1_1) := bc_ BK102 1 rfl; have hcz12_2 : w7.cell? ⟨gb102, 2, none⟩ = some (.string a1_2) := bc_ BK102 2 rfl; have hfz12_0 := blk_frozen BK102.out 0; have hfz12_1 := blk_frozen BK102.out 1; have hfz12_2 := blk_frozen BK102.out 2) | ((with_reducible refine gate_callee (f:=33) rfl ?_); refine gL_ (some 10) rfl rfl Try.func33 rfl #[.agg #[.int .i64 a0_0, .int .i64 a0_1, .slice A0_2 l0_2.length c0_2], .agg #[.int .i64 a1_0, .int .i64 a1_1, .string a1_2]] rfl ?_; (with_reducible refine (look_hit.calls k a0_0 a0_1 _ _ l0_2 a1_0 a1_1 a1_2 t104 t107 t108 t109 _ ?side1 ?side2 A3.out).mono ?_); (case side1 => repeat (first | exact (Kd.C_below HR0_2.out HB.out) | (with_reducible refine Kd.C_alloc ?_ _) | (with_reducible refine Kd.C_drewN ?_ _) | (with_reducible refine Kd.C_drew ?_))); (case side2 => exact HC0_2.out); rintro e w13 ⟨v105, rfl, ho0, hb⟩; refine ⟨_, rfl, ?_⟩; have HO106 := Aside0.mk (Kd.R_lower (Kd.R_newB (Kd.R_newB ho0 (pkx BK102)) (pkx BK103)) (below_size (pbx HB))); replace BK101 := bb_ BK101 hb; replace BK102 := bb_ BK102 hb; replace BK103 := bb_ BK103 hb; replace HB := bs_ HB hb; (try clear hb); (try clear hb2); (try clear hk); (try clear hi); (try clear ho0)) | ((with_reducible refine gate_dst (N:=6) rfl ?_); refine be_ (N:=6) (cs := #[.int .i64 0, .int .i64 0, .string (⟨#[]⟩ : ByteArray)]) (t:=26) ?_; intro gb110 hg w14 hbox hb; have BK110 := Aside0.mk (hbox); have GW110 := hs_ HB hg; have GE110 := hs_ HB hg; have NB101_110 := hl_ BK101 hg; have NB110_101 := hr_ BK101 hg; have NB102_110 := hl_ BK102 hg; have NB110_102 := hr_ BK102 hg; have NB103_110 := hl_ BK103 hg; have NB110_103 := hr_ BK103 hg; replace HO106 := Aside0.mk (Kd.R_below (Kd.R_elderB (by (with_reducible repeat (first | apply Kd.R_alloc | apply Kd.R_drewN | apply Kd.R_drew)); exact HO106.out) gb110 (Nat.le_of_eq hg.symm)) hb); replace BK101 := bb_ BK101 hb; replace BK102 := bb_ BK102 hb; replace BK103 := bb_ BK103 hb; replace HB := bs_ HB hb; clear hb hbox hg; have hnb15 := NB110_101.out; have hnc15 := NB101_110.out; have hnb16 := NB110_102.out; have hnc16 := NB102_110.out; have hnb17 := NB110_103.out; have hnc17 := NB103_110.out; have hcz18_0 : w14.cell? ⟨gb110, 0, none⟩ = some (.int .i64 0) := bc_ BK110 0 rfl; have hcz18_1 : w14.cell? ⟨gb110, 1, none⟩ = some (.int .i64 0) := bc_ BK110 1 rfl; have hcz18_2 : w14.cell? ⟨gb110, 2, none⟩ = some (.string (⟨#[]⟩ : ByteArray)) := bc_ BK110 2 rfl; have hfz18_0 := blk_frozen BK110.out 0; have hfz18_1 := blk_frozen BK110.out 1; have hfz18_2 := blk_frozen BK110.out 2; have hcz19_0 : w14.cell? ⟨gb103, 0, none⟩ = some (.int .i64 0) := bc_ BK103 0 rfl; have hcz19_1 : w14.cell? ⟨gb103, 1, none⟩ = some (.int .i64 0) := bc_ BK103 1 rfl; have hcz19_2 : w14.cell? ⟨gb103, 2, none⟩ = some (.string (⟨#[]⟩ : ByteArray)) := bc_ BK103 2 rfl; have hfz19_0 := blk_frozen BK103.out 0; have hfz19_1 := blk_frozen BK103.out 1; have hfz19_2 := blk_frozen BK103.out 2))
  refine bodyPost_ret (results_cell_row rfl _ _ gb103 26 #[.int .i64 t107, .int .i64 t108, .string t109] (0, 0) _ rfl (by refine pp_ (cs := #[.int .i64 t107, .int .i64 t108, .string (⟨#[]⟩ : ByteArray)]) 2 ?_ rfl; refine pp_ (cs := #[.int .i64 t107, .int .i64 0, .string (⟨#[]⟩ : ByteArray)]) 1 ?_ rfl; refine pp_ (cs := #[.int .i64 0, .int .i64 0, .string (⟨#[]⟩ : ByteArray)]) 0 ?_ rfl; refine pf_ ?_ NB103_110.out; refine blk_far ?_ NB103_110.out _; refine blk_far ?_ NB103_110.out _; exact pkx BK103) Try.underlying26 rfl (by kernel_rfl)) rfl ?_
  exact ⟨by first | rfl | (simp [errW_none, errW_some] <;> rfl) | (simp [*, errW_none, errW_some] <;> rfl), by repeat (first | (with_reducible first | exact HB.out | apply below_alloc | apply pw_below_drewN | apply below_drew1 | refine below_set ?_ GE101.out | refine below_set ?_ GE102.out | refine below_set ?_ GE103.out | refine below_set ?_ GE110.out) | exact HB.out)⟩
 ·rw [if_neg c4] at H; have c4b0 : (t107 == 4) = false := beq_eq_false_iff_ne.mpr c4; have c4b1 : (t107 != 4) = true := bne_iff_ne.mpr c4; replace H := Option.bind_eq_some_iff.mp H; obtain ⟨⟨t111, t112⟩, A200, H⟩ := H
  replace H : ((value_Got.f t111 t112).bind fun bt113 => (some (bt113.1, bt113.2.1, bt113.2.2))) = some (r1, r2, r3) := H
  have A20 := Aside0.mk A200; clear A200; replace H := Option.bind_eq_some_iff.mp H; obtain ⟨⟨t113, t114, t115⟩, A210, H⟩ := H
  replace H : (some (t113, t114, t115)) = some (r1, r2, r3) := H
  have A21 := Aside0.mk A210; clear A210
  simp only [Option.some.injEq, Prod.mk.injEq] at H
  obtain ⟨rfl, rfl, rfl⟩ := H
  go_enter Try.func22, Try.ntmps22
  go_wp2_with (first | ((with_reducible refine gate_dst (N:=2) rfl ?_); refine be_ (N:=2) (cs := #[.int .i64 a0_0, .int .i64 a0_1, .slice A0_2 l0_2.length c0_2]) (t:=24) ?_; intro gb101 hg w22 hbox hb; have BK101 := Aside0.mk (hbox); have GW101 := hs_ HB hg; have GE101 := hs_ HB hg; replace HB := bs_ HB hb; clear hb hbox hg) | ((with_reducible refine gate_dst (N:=3) rfl ?_); refine be_ (N:=3) (cs := #[.int .i64 a1_0, .int .i64 a1_1, .string a1_2]) (t:=26) ?_; intro gb102 hg w23 hbox hb; have BK102 := Aside0.mk (hbox); have GW102 := hs_ HB hg; have GE102 := hs_ HB hg; have NB101_102 := hl_ BK101 hg; have NB102_101 := hr_ BK101 hg; replace BK101 := bb_ BK101 hb; replace HB := bs_ HB hb; clear hb hbox hg) | ((with_reducible refine gate_dst (N:=4) rfl ?_); refine be_ (N:=4) (cs := #[.int .i64 0, .int .i64 0, .string (⟨#[]⟩ : ByteArray)]) (t:=26) ?_; intro gb103 hg w24 hbox hb; have BK103 := Aside0.mk (hbox); have GW103 := hs_ HB hg; have GE103 := hs_ HB hg; have NB101_103 := hl_ BK101 hg; have NB103_101 := hr_ BK101 hg; have NB102_103 := hl_ BK102 hg; have NB103_102 := hr_ BK102 hg; replace BK101 := bb_ BK101 hb; replace BK102 := bb_ BK102 hb; replace HB := bs_ HB hb; clear hb hbox hg; have hnb25 := NB101_102.out; have hnc25 := NB102_101.out; have hnb26 := NB101_103.out; have hnc26 := NB103_101.out; have hcz27_0 : w24.cell? ⟨gb101, 0, none⟩ = some (.int .i64 a0_0) := bc_ BK101 0 rfl; have hcz27_1 : w24.cell? ⟨gb101, 1, none⟩ = some (.int .i64 a0_1) := bc_ BK101 1 rfl; have hcz27_2 : w24.cell? ⟨gb101, 2, none⟩ = some (.slice A0_2 l0_2.length c0_2) := bc_ BK101 2 rfl; have hfz27_0 := blk_frozen BK101.out 0; have hfz27_1 := blk_frozen BK101.out 1; have hfz27_2 := blk_frozen BK101.out 2; have hnb28 := NB102_103.out; have hnc28 := NB103_102.out; have hcz29_0 : w24.cell? ⟨gb102, 0, none⟩ = some (.int .i64 a1_0) := bc_ BK102 0 rfl; have hcz29_1 : w24.cell? ⟨gb102, 1, none⟩ = some (.int .i64 a1_1) := bc_ BK102 1 rfl; have hcz29_2 : w24.cell? ⟨gb102, 2, none⟩ = some (.string a1_2) := bc_ BK102 2 rfl; have hfz29_0 := blk_frozen BK102.out 0; have hfz29_1 := blk_frozen BK102.out 1; have hfz29_2 := blk_frozen BK102.out 2) | ((with_reducible refine gate_callee (f:=33) rfl ?_); refine gL_ (some 10) rfl rfl Try.func33 rfl #[.agg #[.int .i64 a0_0, .int .i64 a0_1, .slice A0_2 l0_2.length c0_2], .agg #[.int .i64 a1_0, .int .i64 a1_1, .string a1_2]] rfl ?_; (with_reducible refine (look_hit.calls k a0_0 a0_1 _ _ l0_2 a1_0 a1_1 a1_2 t104 t107 t108 t109 _ ?side1 ?side2 A3.out).mono ?_); (case side1 => repeat (first | exact (Kd.C_below HR0_2.out HB.out) | (with_reducible refine Kd.C_alloc ?_ _) | (with_reducible refine Kd.C_drewN ?_ _) | (with_reducible refine Kd.C_drew ?_))); (case side2 => exact HC0_2.out); rintro e w30 ⟨v105, rfl, ho0, hb⟩; refine ⟨_, rfl, ?_⟩; have HO106 := Aside0.mk (Kd.R_lower (Kd.R_newB (Kd.R_newB ho0 (pkx BK102)) (pkx BK103)) (below_size (pbx HB))); replace BK101 := bb_ BK101 hb; replace BK102 := bb_ BK102 hb; replace BK103 := bb_ BK103 hb; replace HB := bs_ HB hb; (try clear hb); (try clear hb2); (try clear hk); (try clear hi); (try clear ho0)) | ((with_reducible refine gate_dst (N:=6) rfl ?_); refine be_ (N:=6) (cs := #[.int .i64 0, .int .i64 0, .string (⟨#[]⟩ : ByteArray)]) (t:=26) ?_; intro gb110 hg w31 hbox hb; have BK110 := Aside0.mk (hbox); have GW110 := hs_ HB hg; have GE110 := hs_ HB hg; have NB101_110 := hl_ BK101 hg; have NB110_101 := hr_ BK101 hg; have NB102_110 := hl_ BK102 hg; have NB110_102 := hr_ BK102 hg; have NB103_110 := hl_ BK103 hg; have NB110_103 := hr_ BK103 hg; replace HO106 := Aside0.mk (Kd.R_below (Kd.R_elderB (by (with_reducible repeat (first | apply Kd.R_alloc | apply Kd.R_drewN | apply Kd.R_drew)); exact HO106.out) gb110 (Nat.le_of_eq hg.symm)) hb); replace BK101 := bb_ BK101 hb; replace BK102 := bb_ BK102 hb; replace BK103 := bb_ BK103 hb; replace HB := bs_ HB hb; clear hb hbox hg; have hnb32 := NB110_101.out; have hnc32 := NB101_110.out; have hnb33 := NB110_102.out; have hnc33 := NB102_110.out; have hnb34 := NB110_103.out; have hnc34 := NB103_110.out; have hcz35_0 : w31.cell? ⟨gb110, 0, none⟩ = some (.int .i64 0) := bc_ BK110 0 rfl; have hcz35_1 : w31.cell? ⟨gb110, 1, none⟩ = some (.int .i64 0) := bc_ BK110 1 rfl; have hcz35_2 : w31.cell? ⟨gb110, 2, none⟩ = some (.string (⟨#[]⟩ : ByteArray)) := bc_ BK110 2 rfl; have hfz35_0 := blk_frozen BK110.out 0; have hfz35_1 := blk_frozen BK110.out 1; have hfz35_2 := blk_frozen BK110.out 2; obtain ⟨Ao36, co36, eo36⟩ := Kd.R_slice HO106.out; subst eo36) | ((with_reducible refine gate_callee (f:=35) rfl ?_); refine gL_ (some 19) rfl rfl Try.func35 rfl #[.int .i64 (t104.length : Int)] rfl ?_; (with_reducible refine (dec_Of.calls k (t104.length : Int) t111 t112 _ A20.out).mono ?_); rintro e w' ⟨rfl, ⟨nd, rfl⟩⟩; refine ⟨_, rfl, ?_⟩) | ((with_reducible refine gate_callee (f:=34) rfl ?_); refine gL_ (some 22) rfl rfl Try.func34 rfl #[.int .i64 t111, .bool t112] rfl ?_; (with_reducible refine (value_Got.calls t111 t112 t113 t114 t115 _ A21.out).mono ?_); rintro e w37 ⟨rfl, hb⟩; refine ⟨_, rfl, ?_⟩; replace HO106 := Aside0.mk (Kd.R_below (by (with_reducible repeat (first | apply Kd.R_alloc | apply Kd.R_drewN | apply Kd.R_drew)); exact (Kd.R_mono (Kd.R_far (p := ⟨gb110, 2, none⟩) (Kd.R_far (p := ⟨gb110, 1, none⟩) (Kd.R_far (p := ⟨gb110, 0, none⟩) (Kd.R_mono HO106.out (fun k_ hk => (⟨hk, hk.2⟩ : _ ∧ k_ ≠ gb110))) (fun _ hk => hk.2) (.int .i64 t107)) (fun _ hk => hk.2) (.int .i64 t108)) (fun _ hk => hk.2) (.string t109)) (fun _ h_ => h_.1))) hb); replace BK101 := Aside0.mk (blk_below (g:=gb101) (o := .cells #[.int .i64 a0_0, .int .i64 a0_1, .slice A0_2 l0_2.length c0_2] 24 (0, 0)) (by refine pf_ ?_ NB101_110.out; refine blk_far ?_ NB101_110.out _; refine blk_far ?_ NB101_110.out _; exact pkx BK101) hb); replace BK102 := Aside0.mk (blk_below (g:=gb102) (o := .cells #[.int .i64 a1_0, .int .i64 a1_1, .string a1_2] 26 (0, 0)) (by refine pf_ ?_ NB102_110.out; refine blk_far ?_ NB102_110.out _; refine blk_far ?_ NB102_110.out _; exact pkx BK102) hb); replace BK103 := Aside0.mk (blk_below (g:=gb103) (o := .cells #[.int .i64 0, .int .i64 0, .string (⟨#[]⟩ : ByteArray)] 26 (0, 0)) (by refine pf_ ?_ NB103_110.out; refine blk_far ?_ NB103_110.out _; refine blk_far ?_ NB103_110.out _; exact pkx BK103) hb); replace BK110 := Aside0.mk (blk_below (g:=gb110) (o := .cells #[.int .i64 t107, .int .i64 t108, .string t109] 26 (0, 0)) (by refine pp_ (cs := #[.int .i64 t107, .int .i64 t108, .string (⟨#[]⟩ : ByteArray)]) 2 ?_ rfl; refine pp_ (cs := #[.int .i64 t107, .int .i64 0, .string (⟨#[]⟩ : ByteArray)]) 1 ?_ rfl; refine pp_ (cs := #[.int .i64 0, .int .i64 0, .string (⟨#[]⟩ : ByteArray)]) 0 ?_ rfl; exact pkx BK110) hb); replace HB := Aside0.mk (below_step (by repeat (first | (with_reducible first | exact HB.out | apply below_alloc | apply pw_below_drewN | apply below_drew1 | refine below_set ?_ GE101.out | refine below_set ?_ GE102.out | refine below_set ?_ GE103.out | refine below_set ?_ GE110.out) | exact HB.out)) hb); (try clear hb); (try clear hb2); (try clear hk); (try clear hi); have hcz38_0 : w37.cell? ⟨gb103, 0, none⟩ = some (.int .i64 0) := bc_ BK103 0 rfl; have hcz38_1 : w37.cell? ⟨gb103, 1, none⟩ = some (.int .i64 0) := bc_ BK103 1 rfl; have hcz38_2 : w37.cell? ⟨gb103, 2, none⟩ = some (.string (⟨#[]⟩ : ByteArray)) := bc_ BK103 2 rfl; have hfz38_0 := blk_frozen BK103.out 0; have hfz38_1 := blk_frozen BK103.out 1; have hfz38_2 := blk_frozen BK103.out 2))
  refine bodyPost_ret (results_cell_row rfl _ _ gb103 26 #[.int .i64 t113, .int .i64 t114, .string t115] (0, 0) _ rfl (by refine pp_ (cs := #[.int .i64 t113, .int .i64 t114, .string (⟨#[]⟩ : ByteArray)]) 2 ?_ rfl; refine pp_ (cs := #[.int .i64 t113, .int .i64 0, .string (⟨#[]⟩ : ByteArray)]) 1 ?_ rfl; refine pp_ (cs := #[.int .i64 0, .int .i64 0, .string (⟨#[]⟩ : ByteArray)]) 0 ?_ rfl; exact pkx BK103) Try.underlying26 rfl (by kernel_rfl)) rfl ?_
  exact ⟨by first | rfl | (simp [errW_none, errW_some] <;> rfl) | (simp [*, errW_none, errW_some] <;> rfl), by repeat (first | (with_reducible first | exact HB.out | apply below_alloc | apply pw_below_drewN | apply below_drew1 | refine below_set ?_ GE101.out | refine below_set ?_ GE102.out | refine below_set ?_ GE103.out | refine below_set ?_ GE110.out) | exact HB.out)⟩

def fold_fault.l0 : Nat → List (S26) → Int → Int → Option (Int × Int × ByteArray)
 | 0, _, _, _ => none
 | k + 1, x5, x6, x7 => if x7 < x6 then (if 0 ≤ x7 then (if x7 < (x5.length : Int) then (if ((rd_T26 x5 x7).f0) = 4 then (some ((rd_T26 x5 x7).f0, (rd_T26 x5 x7).f1, (rd_T26 x5 x7).f2)) else (fold_fault.l0 k x5 x6 (wrap64 (x7 + 1)))) else (none)) else (none)) else (some (0, 0, (⟨#[]⟩ : ByteArray)))
def fold_fault.f (k : Nat) (l0 : List (S26)) : Option (Int × Int × ByteArray) := fold_fault.l0 k l0 (l0.length : Int) 0
theorem fold_fault.mono_l : ∀ k, (∀ y0 y1 y2, LeO (fold_fault.l0 k y0 y1 y2) (fold_fault.l0 (k + 1) y0 y1 y2))
 | 0 => fun _ _ _ r h => by simp [fold_fault.l0] at h
 | k + 1 => by
  have ih0 := fold_fault.mono_l k
  ·intro y0 y1 y2
   unfold fold_fault.l0
   repeat' first
   | (with_reducible exact ih0 _ _ _)
   | (with_reducible exact LeO.refl _)
   | (with_reducible exact LeO.none _)
   | (with_reducible refine LeO.ite ?_ ?_)
   | (with_reducible refine LeO.bind ?_ (fun _ => ?_))
theorem fold_fault.mono : ∀ a0 k, LeO (fold_fault.f k a0) (fold_fault.f (k + 1) a0) := by
 intro a0 k; have ih0 := fold_fault.mono_l k
 unfold fold_fault.f
 repeat' first
   | (with_reducible exact ih0 _ _ _)
   | (with_reducible exact LeO.refl _)
   | (with_reducible exact LeO.none _)
   | (with_reducible refine LeO.ite ?_ ?_)
   | (with_reducible refine LeO.bind ?_ (fun _ => ?_))
set_option maxHeartbeats 8000000 in
set_option maxRecDepth 100000 in
theorem fold_fault.calls (k : Nat) (A0 : Option Addr) (c0 : Nat) (l0 : List (S26)) (r1 : Int) (r2 : Int) (r3 : ByteArray) (w : World) (hr0 : Kd.C k26 w A0 l0.length l0) (hc0 : l0.length ≤ c0) (h : fold_fault.f k l0 = some (r1, r2, r3)) :
  Calls Try.prog 47 #[.slice A0 l0.length c0] w fun e w' => e = .returned (.agg #[.int .i64 r1, .int .i64 r2, .string r3]) ∧ Below w.heap.size w w' := by
 have hu26 := Try.underlying26; have HR0 := Aside0.mk hr0; have HC0 := Aside0.mk hc0; clear hr0 hc0; have HB := Aside0.mk (Below.refl w.heap.size w)
 have H : (fold_fault.l0 k l0 (l0.length : Int) 0) = some (r1, r2, r3) := h
 clear h
 have H' := Aside0.mk H
 clear H
 go_enter Try.func47, Try.ntmps47
 go_wp2_with (first | ((with_reducible refine gate_dst (N:=2) rfl ?_); refine be_ (N:=2) (cs := #[.int .i64 0, .int .i64 0, .string (⟨#[]⟩ : ByteArray)]) (t:=26) ?_; intro gb101 hg w2 hbox hb; have BK101 := Aside0.mk (hbox); have GW101 := hs_ HB hg; have GE101 := hs_ HB hg; replace HB := bs_ HB hb; clear hb hbox hg))
 go_loopg [7] k (fun kq v7 w' => ∃ (x7_1 : Int) (x102000_1 : Int) (x102001_1 : Int) (x102002_1 : ByteArray), v7 = .int .i64 x7_1 ∧ Aside0 (fold_fault.l0 kq l0 (l0.length : Int) x7_1 = some (r1, r2, r3)) ∧ Aside0 (kq ≤ k) ∧ Aside0 (w'.heap[gb101]? = some (.cells #[.int .i64 x102000_1, .int .i64 x102001_1, .string x102002_1] 26 (0, 0))) ∧ Aside0 (Below w.heap.size w w'))
 case atStart => exact ⟨(0), (0), (0), ((⟨#[]⟩ : ByteArray)), (by first | rfl | (simp; done) | (simp [*]; done)), H', ⟨Nat.le_refl _⟩, ⟨pkx BK101⟩, ⟨pbx HB⟩⟩
 case round =>
  clear H'; (try clear p2); obtain ⟨x7_1, x102000_1, x102001_1, x102002_1, rfl, HA, HK1, BK101, HB⟩ := hrel
  cases gk with
  | zero => exact absurd HA.out (by simp [fold_fault.l0])
  | succ k1 =>
   have H := HA.out; clear HA
   simp only [fold_fault.l0] at H
   by_cases c3 : x7_1 < (l0.length : Int)
   ·rw [if_pos c3] at H; have c3b0 : decide (x7_1 < (l0.length : Int)) = true := decide_eq_true c3; clear c3
    by_cases c4 : 0 ≤ x7_1
    ·rw [if_pos c4] at H; have c4b0 : decide (0 ≤ x7_1) = true := decide_eq_true c4; clear c4
     by_cases c5 : x7_1 < (l0.length : Int)
     ·rw [if_pos c5] at H; have c5b0 : decide (x7_1 < (l0.length : Int)) = true := decide_eq_true c5; clear c5
      by_cases c6 : ((rd_T26 l0 x7_1).f0) = 4
      ·rw [if_pos c6] at H; have c6b0 : (((rd_T26 l0 x7_1).f0) == 4) = true := beq_iff_eq.mpr c6; have c6b1 : (((rd_T26 l0 x7_1).f0) != 4) = false := bne_eq_false_iff_eq.mpr c6; clear c6
       simp only [Option.some.injEq, Prod.mk.injEq] at H
       obtain ⟨rfl, rfl, rfl⟩ := H
       have p102 : 0 ≤ (x7_1 : Int) := of_decide_eq_true (by first | (with_reducible assumption) | assumption)
       have q102 : x7_1 < (l0.length : Int) := of_decide_eq_true (by first | (with_reducible assumption) | assumption)
       obtain ⟨ad102, e102, hx102_0, hx102_1, hx102_2⟩ := at_T26 HR0.out x7_1 p102 q102
       cases e102
       replace hx102_0 := (HB.out.cell (World.block_lt_of_cell? w _ hx102_0)).trans hx102_0; replace hx102_1 := (HB.out.cell (World.block_lt_of_cell? w _ hx102_1)).trans hx102_1; replace hx102_2 := (HB.out.cell (World.block_lt_of_cell? w _ hx102_2)).trans hx102_2; replace p102 := eq_true p102; replace q102 := eq_true q102
       go_wp2_with (first | ((with_reducible refine gate_dst (N:=4) rfl ?_); refine be_ (N:=4) (cs := #[.int .i64 0, .int .i64 0, .string (⟨#[]⟩ : ByteArray)]) (t:=26) ?_; intro gb103 hg w7 hbox hb; have BK103 := Aside0.mk (hbox); have GW103 := hs_ HB hg; have GE103 := hs_ HB hg; have NB101_103 := hl_ BK101 hg; have NB103_101 := hr_ BK101 hg; replace BK101 := bb_ BK101 hb; replace HB := bs_ HB hb; clear hb hbox hg; have hnb8 := NB103_101.out; have hnc8 := NB101_103.out; have hcz9_0 : w7.cell? ⟨gb103, 0, none⟩ = some (.int .i64 0) := bc_ BK103 0 rfl; have hcz9_1 : w7.cell? ⟨gb103, 1, none⟩ = some (.int .i64 0) := bc_ BK103 1 rfl; have hcz9_2 : w7.cell? ⟨gb103, 2, none⟩ = some (.string (⟨#[]⟩ : ByteArray)) := bc_ BK103 2 rfl; have hfz9_0 := blk_frozen BK103.out 0; have hfz9_1 := blk_frozen BK103.out 1; have hfz9_2 := blk_frozen BK103.out 2; have hcz10_0 : w7.cell? ⟨gb101, 0, none⟩ = some (.int .i64 x102000_1) := bc_ BK101 0 rfl; have hcz10_1 : w7.cell? ⟨gb101, 1, none⟩ = some (.int .i64 x102001_1) := bc_ BK101 1 rfl; have hcz10_2 : w7.cell? ⟨gb101, 2, none⟩ = some (.string x102002_1) := bc_ BK101 2 rfl; have hfz10_0 := blk_frozen BK101.out 0; have hfz10_1 := blk_frozen BK101.out 1; have hfz10_2 := blk_frozen BK101.out 2))
       refine bodyPost_ret (results_cell_row rfl _ _ gb101 26 #[.int .i64 ((rd_T26 l0 x7_1).f0), .int .i64 ((rd_T26 l0 x7_1).f1), .string ((rd_T26 l0 x7_1).f2)] (0, 0) _ rfl (by refine pp_ (cs := #[.int .i64 ((rd_T26 l0 x7_1).f0), .int .i64 ((rd_T26 l0 x7_1).f1), .string x102002_1]) 2 ?_ rfl; refine blk_put (cs := #[.int .i64 ((rd_T26 l0 x7_1).f0), .int .i64 x102001_1, .string x102002_1]) ?_ 1 _ rfl; refine blk_put (cs := #[.int .i64 x102000_1, .int .i64 x102001_1, .string x102002_1]) ?_ 0 _ rfl; refine pf_ ?_ NB101_103.out; refine blk_far ?_ NB101_103.out _; refine blk_far ?_ NB101_103.out _; exact pkx BK101) Try.underlying26 rfl (by kernel_rfl)) rfl ?_
       exact ⟨by first | rfl | (simp [errW_none, errW_some] <;> rfl) | (simp [*, errW_none, errW_some] <;> rfl), by repeat (first | (with_reducible first | exact HB.out | apply below_alloc | apply pw_below_drewN | apply below_drew1 | refine below_set ?_ GE101.out | refine below_set ?_ GE103.out) | exact HB.out)⟩
      ·rw [if_neg c6] at H; have c6b0 : (((rd_T26 l0 x7_1).f0) == 4) = false := beq_eq_false_iff_ne.mpr c6; have c6b1 : (((rd_T26 l0 x7_1).f0) != 4) = true := bne_iff_ne.mpr c6
       have H' := Aside0.mk H
       clear H
       have p102 : 0 ≤ (x7_1 : Int) := of_decide_eq_true (by first | (with_reducible assumption) | assumption)
       have q102 : x7_1 < (l0.length : Int) := of_decide_eq_true (by first | (with_reducible assumption) | assumption)
       obtain ⟨ad102, e102, hx102_0, hx102_1, hx102_2⟩ := at_T26 HR0.out x7_1 p102 q102
       cases e102
       replace hx102_0 := (HB.out.cell (World.block_lt_of_cell? w _ hx102_0)).trans hx102_0; replace hx102_1 := (HB.out.cell (World.block_lt_of_cell? w _ hx102_1)).trans hx102_1; replace hx102_2 := (HB.out.cell (World.block_lt_of_cell? w _ hx102_2)).trans hx102_2; replace p102 := eq_true p102; replace q102 := eq_true q102
       go_wp2_with (first | ((with_reducible refine gate_dst (N:=4) rfl ?_); refine be_ (N:=4) (cs := #[.int .i64 0, .int .i64 0, .string (⟨#[]⟩ : ByteArray)]) (t:=26) ?_; intro gb103 hg w11 hbox hb; have BK103 := Aside0.mk (hbox); have GW103 := hs_ HB hg; have GE103 := hs_ HB hg; have NB101_103 := hl_ BK101 hg; have NB103_101 := hr_ BK101 hg; replace BK101 := bb_ BK101 hb; replace HB := bs_ HB hb; clear hb hbox hg; have hnb12 := NB103_101.out; have hnc12 := NB101_103.out; have hcz13_0 : w11.cell? ⟨gb103, 0, none⟩ = some (.int .i64 0) := bc_ BK103 0 rfl; have hcz13_1 : w11.cell? ⟨gb103, 1, none⟩ = some (.int .i64 0) := bc_ BK103 1 rfl; have hcz13_2 : w11.cell? ⟨gb103, 2, none⟩ = some (.string (⟨#[]⟩ : ByteArray)) := bc_ BK103 2 rfl; have hfz13_0 := blk_frozen BK103.out 0; have hfz13_1 := blk_frozen BK103.out 1; have hfz13_2 := blk_frozen BK103.out 2))
       go_roundg k1
       case measure => have := HK1.out; omega
       case rel => exact ⟨(wrap64 (x7_1 + 1)), (x102000_1), (x102001_1), (x102002_1), (by first | rfl | (simp; done) | (simp [*]; done)), H', ⟨by have := HK1.out; omega⟩, ⟨by refine pf_ ?_ NB101_103.out; refine blk_far ?_ NB101_103.out _; refine blk_far ?_ NB101_103.out _; exact pkx BK101⟩, ⟨by repeat (first | (with_reducible first | exact HB.out | apply below_alloc | apply pw_below_drewN | apply below_drew1 | refine below_set ?_ GE101.out | refine below_set ?_ GE103.out) | exact HB.out)⟩⟩
     ·rw [if_neg c5] at H
      exact absurd H (by simp)
    ·rw [if_neg c4] at H
     exact absurd H (by simp)
   ·rw [if_neg c3] at H; have c3b0 : decide (x7_1 < (l0.length : Int)) = false := decide_eq_false c3; clear c3
    simp only [Option.some.injEq, Prod.mk.injEq] at H
    obtain ⟨rfl, rfl, rfl⟩ := H
    have hcz14_0 : wr.cell? ⟨gb101, 0, none⟩ = some (.int .i64 x102000_1) := bc_ BK101 0 rfl
    have hcz14_1 : wr.cell? ⟨gb101, 1, none⟩ = some (.int .i64 x102001_1) := bc_ BK101 1 rfl
    have hcz14_2 : wr.cell? ⟨gb101, 2, none⟩ = some (.string x102002_1) := bc_ BK101 2 rfl
    have hfz14_0 := blk_frozen BK101.out 0; have hfz14_1 := blk_frozen BK101.out 1; have hfz14_2 := blk_frozen BK101.out 2
    go_wp2
    refine bodyPost_ret (results_cell_row rfl _ _ gb101 26 #[.int .i64 0, .int .i64 0, .string (⟨#[]⟩ : ByteArray)] (0, 0) _ rfl (by refine pp_ (cs := #[.int .i64 0, .int .i64 0, .string x102002_1]) 2 ?_ rfl; refine blk_put (cs := #[.int .i64 0, .int .i64 x102001_1, .string x102002_1]) ?_ 1 _ rfl; refine blk_put (cs := #[.int .i64 x102000_1, .int .i64 x102001_1, .string x102002_1]) ?_ 0 _ rfl; exact pkx BK101) Try.underlying26 rfl (by kernel_rfl)) rfl ?_
    exact ⟨by first | rfl | (simp [errW_none, errW_some] <;> rfl) | (simp [*, errW_none, errW_some] <;> rfl), by repeat (first | (with_reducible first | exact HB.out | apply below_alloc | apply pw_below_drewN | apply below_drew1 | refine below_set ?_ GE101.out) | exact HB.out)⟩

def fold_Numbers.l0 : Nat → List Int → List (S26) → Int → Int → Option (List Int × Int × Int × ByteArray)
 | 0, _, _, _, _ => none
 | k + 1, x5, x14, x15, x16 => if x16 < x15 then (if 0 ≤ x16 then (if x16 < (x14.length : Int) then (if ((rd_T26 x14 x16).f0) = 1 then (if x5.length < 17592186044416 then (fold_Numbers.l0 k (x5 ++ [(rd_T26 x14 x16).f1]) x14 x15 (wrap64 (x16 + 1))) else (none)) else (fold_Numbers.l0 k x5 x14 x15 (wrap64 (x16 + 1)))) else (none)) else (none)) else (some (x5, 0, 0, (⟨#[]⟩ : ByteArray)))
def fold_Numbers.f (k : Nat) (l0 : List (S26)) : Option (List Int × Int × Int × ByteArray) := (fold_fault.f k l0).bind fun bt102 => (if bt102.1 = 4 then (some (([] : List Int), bt102.1, bt102.2.1, bt102.2.2)) else (fold_Numbers.l0 k ([] : List Int) l0 (l0.length : Int) 0))
theorem fold_Numbers.mono_l : ∀ k, (∀ y0 y1 y2 y3, LeO (fold_Numbers.l0 k y0 y1 y2 y3) (fold_Numbers.l0 (k + 1) y0 y1 y2 y3))
 | 0 => fun _ _ _ _ r h => by simp [fold_Numbers.l0] at h
 | k + 1 => by
  have ih0 := fold_Numbers.mono_l k
  ·intro y0 y1 y2 y3
   unfold fold_Numbers.l0
   repeat' first
   | (with_reducible exact ih0 _ _ _ _)
   | (with_reducible exact fold_fault.mono _ _)
   | (with_reducible exact LeO.refl _)
   | (with_reducible exact LeO.none _)
   | (with_reducible refine LeO.ite ?_ ?_)
   | (with_reducible refine LeO.bind ?_ (fun _ => ?_))
theorem fold_Numbers.mono : ∀ a0 k, LeO (fold_Numbers.f k a0) (fold_Numbers.f (k + 1) a0) := by
 intro a0 k; have ih0 := fold_Numbers.mono_l k
 unfold fold_Numbers.f
 repeat' first
   | (with_reducible exact ih0 _ _ _ _)
   | (with_reducible exact fold_fault.mono _ _)
   | (with_reducible exact LeO.refl _)
   | (with_reducible exact LeO.none _)
   | (with_reducible refine LeO.ite ?_ ?_)
   | (with_reducible refine LeO.bind ?_ (fun _ => ?_))
set_option maxHeartbeats 8000000 in
set_option maxRecDepth 100000 in
theorem fold_Numbers.calls (k : Nat) (A0 : Option Addr) (c0 : Nat) (l0 : List (S26)) (r1 : List Int) (r2 : Int) (r3 : Int) (r4 : ByteArray) (w : World) (hr0 : Kd.C k26 w A0 l0.length l0) (hc0 : l0.length ≤ c0) (h : fold_Numbers.f k l0 = some (r1, r2, r3, r4)) :
  Calls Try.prog 37 #[.slice A0 l0.length c0] w fun e w' => ∃ v0_ : Value, e = .returned (.tuple #[v0_, .agg #[.int .i64 r2, .int .i64 r3, .string r4]]) ∧ Kd.R (Kd.int .i64) 2 w' w.heap.size (fun _ => True) v0_ r1 ∧ Below w.heap.size w w' := by
 have hu26 := Try.underlying26; have HR0 := Aside0.mk hr0; have HC0 := Aside0.mk hc0; clear hr0 hc0; have HB := Aside0.mk (Below.refl w.heap.size w)
 have H : ((fold_fault.f k l0).bind fun bt102 => (if bt102.1 = 4 then (some (([] : List Int), bt102.1, bt102.2.1, bt102.2.2)) else (fold_Numbers.l0 k ([] : List Int) l0 (l0.length : Int) 0))) = some (r1, r2, r3, r4) := h
 clear h; replace H := Option.bind_eq_some_iff.mp H; obtain ⟨⟨t102, t103, t104⟩, A20, H⟩ := H
 replace H : (if t102 = 4 then (some (([] : List Int), t102, t103, t104)) else (fold_Numbers.l0 k ([] : List Int) l0 (l0.length : Int) 0)) = some (r1, r2, r3, r4) := H
 have A2 := Aside0.mk A20; clear A20
 by_cases c3 : t102 = 4
 ·rw [if_pos c3] at H; have c3b0 : (t102 == 4) = true := beq_iff_eq.mpr c3; have c3b1 : (t102 != 4) = false := bne_eq_false_iff_eq.mpr c3; clear c3
  simp only [Option.some.injEq, Prod.mk.injEq] at H
  obtain ⟨rfl, rfl, rfl, rfl⟩ := H
  go_enter Try.func37, Try.ntmps37
  try go_wp2_with (first | ((with_reducible refine gate_dst (N:=3) rfl ?_); refine be_ (N:=3) (cs := #[.int .i64 0, .int .i64 0, .string (⟨#[]⟩ : ByteArray)]) (t:=26) ?_; intro gb101 hg w4 hbox hb; have BK101 := Aside0.mk (hbox); have GW101 := hs_ HB hg; have GE101 := hs_ HB hg; replace HB := bs_ HB hb; clear hb hbox hg) | ((with_reducible refine gate_callee (f:=47) rfl ?_); refine gL_ (some 9) rfl rfl Try.func47 rfl #[.slice A0 l0.length c0] rfl ?_; (with_reducible refine (fold_fault.calls k _ _ l0 t102 t103 t104 _ ?side1 ?side2 A2.out).mono ?_); (case side1 => repeat (first | exact (Kd.C_below HR0.out HB.out) | (with_reducible refine Kd.C_alloc ?_ _) | (with_reducible refine Kd.C_drewN ?_ _) | (with_reducible refine Kd.C_drew ?_))); (case side2 => exact HC0.out); rintro e w5 ⟨rfl, hb⟩; refine ⟨_, rfl, ?_⟩; replace BK101 := bb_ BK101 hb; replace HB := bs_ HB hb; (try clear hb); (try clear hb2); (try clear hk); (try clear hi)) | ((with_reducible refine gate_dst (N:=4) rfl ?_); refine be_ (N:=4) (cs := #[.int .i64 0, .int .i64 0, .string (⟨#[]⟩ : ByteArray)]) (t:=26) ?_; intro gb105 hg w6 hbox hb; have BK105 := Aside0.mk (hbox); have GW105 := hs_ HB hg; have GE105 := hs_ HB hg; have NB101_105 := hl_ BK101 hg; have NB105_101 := hr_ BK101 hg; replace BK101 := bb_ BK101 hb; replace HB := bs_ HB hb; clear hb hbox hg; have hnb7 := NB105_101.out; have hnc7 := NB101_105.out; have hcz8_0 : w6.cell? ⟨gb105, 0, none⟩ = some (.int .i64 0) := bc_ BK105 0 rfl; have hcz8_1 : w6.cell? ⟨gb105, 1, none⟩ = some (.int .i64 0) := bc_ BK105 1 rfl; have hcz8_2 : w6.cell? ⟨gb105, 2, none⟩ = some (.string (⟨#[]⟩ : ByteArray)) := bc_ BK105 2 rfl; have hfz8_0 := blk_frozen BK105.out 0; have hfz8_1 := blk_frozen BK105.out 1; have hfz8_2 := blk_frozen BK105.out 2))
  have n0_ : Aside0 ((((w6.setCell ⟨gb105, 0, none⟩ (.int .i64 t102)).setCell ⟨gb105, 1, none⟩ (.int .i64 t103)).setCell ⟨gb105, 2, none⟩ (.string t104)).heap[gb101]? = some (.cells #[.int .i64 0, .int .i64 0, .string (⟨#[]⟩ : ByteArray)] 26 (0, 0))) := ⟨by refine pf_ ?_ NB101_105.out; refine blk_far ?_ NB101_105.out _; refine blk_far ?_ NB101_105.out _; exact pkx BK101⟩; have n1_ : Aside0 ((((w6.setCell ⟨gb105, 0, none⟩ (.int .i64 t102)).setCell ⟨gb105, 1, none⟩ (.int .i64 t103)).setCell ⟨gb105, 2, none⟩ (.string t104)).heap[gb105]? = some (.cells #[.int .i64 t102, .int .i64 t103, .string t104] 26 (0, 0))) := ⟨by refine pp_ (cs := #[.int .i64 t102, .int .i64 t103, .string (⟨#[]⟩ : ByteArray)]) 2 ?_ rfl; refine pp_ (cs := #[.int .i64 t102, .int .i64 0, .string (⟨#[]⟩ : ByteArray)]) 1 ?_ rfl; refine pp_ (cs := #[.int .i64 0, .int .i64 0, .string (⟨#[]⟩ : ByteArray)]) 0 ?_ rfl; exact pkx BK105⟩
  have n2_ : Aside0 (Below w.heap.size w (((w6.setCell ⟨gb105, 0, none⟩ (.int .i64 t102)).setCell ⟨gb105, 1, none⟩ (.int .i64 t103)).setCell ⟨gb105, 2, none⟩ (.string t104))) := ⟨by repeat (first | (with_reducible first | exact HB.out | apply below_alloc | apply pw_below_drewN | apply below_drew1 | refine below_set ?_ GE101.out | refine below_set ?_ GE105.out) | exact HB.out)⟩; (try clear BK101); (try clear BK105); (try clear HB)
  generalize (((w6.setCell ⟨gb105, 0, none⟩ (.int .i64 t102)).setCell ⟨gb105, 1, none⟩ (.int .i64 t103)).setCell ⟨gb105, 2, none⟩ (.string t104)) = w9 at n0_ n1_ n2_ ⊢; have BK101 := n0_; have BK105 := n1_; have HB := n2_; clear n0_ n1_ n2_; (try (rw [drewN_self w9]; generalize hq_ : World.drewN w9 _ = w9; have n0_ : Aside0 (w9.heap[gb101]? = some (.cells #[.int .i64 0, .int .i64 0, .string (⟨#[]⟩ : ByteArray)] 26 (0, 0))) := ⟨by rw [← hq_]; exact (pkx BK101)⟩; have n1_ : Aside0 (w9.heap[gb105]? = some (.cells #[.int .i64 t102, .int .i64 t103, .string t104] 26 (0, 0))) := ⟨by rw [← hq_]; exact (pkx BK105)⟩; have n2_ : Aside0 (Below w.heap.size w w9) := ⟨by rw [← hq_]; exact (pbx HB)⟩; clear BK101 BK105 HB hq_; have BK101 := n0_; have BK105 := n1_; have HB := n2_; clear n0_ n1_ n2_))
  replace BK101 := Aside0.mk (blk_drew BK101.out); replace BK105 := Aside0.mk (blk_drew BK105.out); replace HB := Aside0.mk (below_drew1 HB.out)
  refine start_ (n:=3) (S := fun w' => w'.cell? ⟨gb105, 0, none⟩ = some (.int .i64 t102) ∧ w'.cell? ⟨gb105, 1, none⟩ = some (.int .i64 t103) ∧ w'.cell? ⟨gb105, 2, none⟩ = some (.string t104)) (ds := []) #[F,F,F] (by kernel_rfl) rfl rfl ⟨bc_ BK105 0 rfl, bc_ BK105 1 rfl, bc_ BK105 2 rfl⟩ (fun hHeld => ?_)
  generalize w9.drew = w10 at BK101 BK105 HB hHeld ⊢; refine pure_ (i:=1) (N:=some 2) (v:=?_) (a':=?_) #[F,T,F] rfl rfl (by kernel_rfl) (fun _ _ _ h=>h) (Or.inl ⟨rfl, ?_⟩) ?_ ?_; rotate_left
  ·intro w'; go_simp; with_reducible rfl
  rotate_left
  ·simp only [q_, i64_w, i32_w]; rfl
  refine take_ (i:=0) (N:=some 13) (v:=?_) (a':=?_) #[T,T,F] rfl rfl (by kernel_rfl) (fun _ _ _ h=>h) (Or.inl ⟨rfl, ?_⟩) hHeld ?_ ?_; rotate_left
  ·rintro w' ⟨s0, s1, s2⟩; go_simp; with_reducible rfl
  rotate_left
  ·simp only [q_, i64_w, i32_w]; rfl
  refine one_ (i:=2) (N:=none) #[T,T,T] rfl rfl (by kernel_rfl) (by decide) (fun K hK => ?_)
  have hs11 : w10.cell? ⟨gb101, 0, none⟩ = some (.int .i64 0) := bc_ BK101 0 rfl
  have hfs11 := blk_frozen BK101.out 0; have hns11_1 := NB105_101.out; have hms11_1 := NB101_105.out
  have hs12 : w10.cell? ⟨gb101, 1, none⟩ = some (.int .i64 0) := bc_ BK101 1 rfl
  have hfs12 := blk_frozen BK101.out 1; have hns12_1 := NB105_101.out; have hms12_1 := NB101_105.out
  have hs13 : w10.cell? ⟨gb101, 2, none⟩ = some (.string (⟨#[]⟩ : ByteArray)) := bc_ BK101 2 rfl
  have hfs13 := blk_frozen BK101.out 2; have hns13_1 := NB105_101.out; have hms13_1 := NB101_105.out
  refine skip_ (w1 := ?_) (by rfl) rfl ?_ ?_
  rotate_left
  ·go_simp; rfl
  refine hK.out _ _ ⟨((cell_far (p := ⟨gb101, _, none⟩) NB105_101.out _).trans (((cell_far (p := ⟨gb101, _, none⟩) NB105_101.out _).trans (((cell_far (p := ⟨gb101, _, none⟩) NB105_101.out _).trans (hHeld.1)))))), ((cell_far (p := ⟨gb101, _, none⟩) NB105_101.out _).trans (((cell_far (p := ⟨gb101, _, none⟩) NB105_101.out _).trans (((cell_far (p := ⟨gb101, _, none⟩) NB105_101.out _).trans (hHeld.2.1)))))), ((cell_far (p := ⟨gb101, _, none⟩) NB105_101.out _).trans (((cell_far (p := ⟨gb101, _, none⟩) NB105_101.out _).trans (((cell_far (p := ⟨gb101, _, none⟩) NB105_101.out _).trans (hHeld.2.2))))))⟩ (fun hHeld => ?_); clear hK K
  refine done_ (by kernel_rfl) ?_
  try go_wp2
  refine bodyPost_ret (results_tc rfl _ _ gb101 26 #[.int .i64 t102, .int .i64 t103, .string t104] (0, 0) _ rfl (by refine pp_ (cs := #[.int .i64 t102, .int .i64 t103, .string (⟨#[]⟩ : ByteArray)]) 2 ?_ rfl; refine pp_ (cs := #[.int .i64 t102, .int .i64 0, .string (⟨#[]⟩ : ByteArray)]) 1 ?_ rfl; refine pp_ (cs := #[.int .i64 0, .int .i64 0, .string (⟨#[]⟩ : ByteArray)]) 0 ?_ rfl; exact pkx BK101) Try.underlying26 rfl (by kernel_rfl)) rfl ?_
  exact ⟨_, by first | rfl | (simp [errW_none, errW_some] <;> rfl) | (simp [*, errW_none, errW_some] <;> rfl), by first | exact Kd.R_nil _ _ _ _ _ | exact Kd.N_nil _ _ _ _ _ | exact Kd.V_nil _ _ _ _ _ | exact Kd.Q_nil _ _ _ _ _ | exact Kd.S_nil _ _ _ _ _, by repeat (first | (with_reducible first | exact HB.out | apply below_alloc | apply pw_below_drewN | apply below_drew1 | refine below_set ?_ GE101.out | refine below_set ?_ GE105.out) | exact HB.out)⟩
 ·rw [if_neg c3] at H; have c3b0 : (t102 == 4) = false := beq_eq_false_iff_ne.mpr c3; have c3b1 : (t102 != 4) = true := bne_iff_ne.mpr c3
  have H' := Aside0.mk H
  clear H
  go_enter Try.func37, Try.ntmps37
  go_wp2_with (first | ((with_reducible refine gate_dst (N:=3) rfl ?_); refine be_ (N:=3) (cs := #[.int .i64 0, .int .i64 0, .string (⟨#[]⟩ : ByteArray)]) (t:=26) ?_; intro gb101 hg w14 hbox hb; have BK101 := Aside0.mk (hbox); have GW101 := hs_ HB hg; have GE101 := hs_ HB hg; replace HB := bs_ HB hb; clear hb hbox hg) | ((with_reducible refine gate_callee (f:=47) rfl ?_); refine gL_ (some 9) rfl rfl Try.func47 rfl #[.slice A0 l0.length c0] rfl ?_; (with_reducible refine (fold_fault.calls k _ _ l0 t102 t103 t104 _ ?side1 ?side2 A2.out).mono ?_); (case side1 => repeat (first | exact (Kd.C_below HR0.out HB.out) | (with_reducible refine Kd.C_alloc ?_ _) | (with_reducible refine Kd.C_drewN ?_ _) | (with_reducible refine Kd.C_drew ?_))); (case side2 => exact HC0.out); rintro e w15 ⟨rfl, hb⟩; refine ⟨_, rfl, ?_⟩; replace BK101 := bb_ BK101 hb; replace HB := bs_ HB hb; (try clear hb); (try clear hb2); (try clear hk); (try clear hi)) | ((with_reducible refine gate_dst (N:=4) rfl ?_); refine be_ (N:=4) (cs := #[.int .i64 0, .int .i64 0, .string (⟨#[]⟩ : ByteArray)]) (t:=26) ?_; intro gb105 hg w16 hbox hb; have BK105 := Aside0.mk (hbox); have GW105 := hs_ HB hg; have GE105 := hs_ HB hg; have NB101_105 := hl_ BK101 hg; have NB105_101 := hr_ BK101 hg; replace BK101 := bb_ BK101 hb; replace HB := bs_ HB hb; clear hb hbox hg; have hnb17 := NB105_101.out; have hnc17 := NB101_105.out; have hcz18_0 : w16.cell? ⟨gb105, 0, none⟩ = some (.int .i64 0) := bc_ BK105 0 rfl; have hcz18_1 : w16.cell? ⟨gb105, 1, none⟩ = some (.int .i64 0) := bc_ BK105 1 rfl; have hcz18_2 : w16.cell? ⟨gb105, 2, none⟩ = some (.string (⟨#[]⟩ : ByteArray)) := bc_ BK105 2 rfl; have hfz18_0 := blk_frozen BK105.out 0; have hfz18_1 := blk_frozen BK105.out 1; have hfz18_2 := blk_frozen BK105.out 2))
  go_loopg [5, 16] k (fun kq v5 v16 w' => ∃ (x5_1 : List Int) (x16_1 : Int), v16 = .int .i64 x16_1 ∧ Aside0 (fold_Numbers.l0 kq x5_1 l0 (l0.length : Int) x16_1 = some (r1, r2, r3, r4)) ∧ Aside0 (kq ≤ k) ∧ Aside0 (Kd.R (Kd.int .i64) 2 w' w.heap.size (fun _ => True) v5 x5_1) ∧ Aside0 (w'.heap[gb101]? = some (.cells #[.int .i64 0, .int .i64 0, .string (⟨#[]⟩ : ByteArray)] 26 (0, 0))) ∧ Aside0 (w'.heap[gb105]? = some (.cells #[.int .i64 t102, .int .i64 t103, .string t104] 26 (0, 0))) ∧ Aside0 (Below w.heap.size w w'))
  case atStart => exact ⟨(([] : List Int)), (0), (by first | rfl | (simp; done) | (simp [*]; done)), H', ⟨Nat.le_refl _⟩, ⟨by first | exact Kd.R_nil _ _ _ _ _ | exact Kd.N_nil _ _ _ _ _ | exact Kd.V_nil _ _ _ _ _ | exact Kd.Q_nil _ _ _ _ _ | exact Kd.S_nil _ _ _ _ _⟩, ⟨by refine pf_ ?_ NB101_105.out; refine blk_far ?_ NB101_105.out _; refine blk_far ?_ NB101_105.out _; exact pkx BK101⟩, ⟨by refine pp_ (cs := #[.int .i64 t102, .int .i64 t103, .string (⟨#[]⟩ : ByteArray)]) 2 ?_ rfl; refine pp_ (cs := #[.int .i64 t102, .int .i64 0, .string (⟨#[]⟩ : ByteArray)]) 1 ?_ rfl; refine pp_ (cs := #[.int .i64 0, .int .i64 0, .string (⟨#[]⟩ : ByteArray)]) 0 ?_ rfl; exact pkx BK105⟩, ⟨by repeat (first | (with_reducible first | exact HB.out | apply below_alloc | apply pw_below_drewN | apply below_drew1 | refine below_set ?_ GE101.out | refine below_set ?_ GE105.out) | exact HB.out)⟩⟩
  case round =>
   clear H'; (try clear c1); (try clear p2); (try clear c3); (try clear c3b0); (try clear c3b1); (try clear c4); (try clear c7); (try clear c17); (try clear hcz18_0); (try clear hcz18_1); (try clear hcz18_2); (try clear hcz8_0); (try clear hcz8_1); (try clear hcz8_2); (try clear hfz18_0); (try clear hfz18_1); (try clear hfz18_2); (try clear hfz8_0); (try clear hfz8_1); (try clear hfz8_2); obtain ⟨x5_1, x16_1, rfl, HA, HK1, HO_5, BK101, BK105, HB⟩ := hrel
   cases gk with
   | zero => exact absurd HA.out (by simp [fold_Numbers.l0])
   | succ k1 =>
    have H := HA.out; clear HA
    simp only [fold_Numbers.l0] at H
    by_cases c19 : x16_1 < (l0.length : Int)
    ·rw [if_pos c19] at H; have c19b0 : decide (x16_1 < (l0.length : Int)) = true := decide_eq_true c19; clear c19
     by_cases c20 : 0 ≤ x16_1
     ·rw [if_pos c20] at H; have c20b0 : decide (0 ≤ x16_1) = true := decide_eq_true c20; clear c20
      by_cases c21 : x16_1 < (l0.length : Int)
      ·rw [if_pos c21] at H; have c21b0 : decide (x16_1 < (l0.length : Int)) = true := decide_eq_true c21; clear c21
       by_cases c22 : ((rd_T26 l0 x16_1).f0) = 1
       ·rw [if_pos c22] at H; have c22b0 : (((rd_T26 l0 x16_1).f0) == 1) = true := beq_iff_eq.mpr c22; have c22b1 : (((rd_T26 l0 x16_1).f0) != 1) = false := bne_eq_false_iff_eq.mpr c22; clear c22
        by_cases c23 : x5_1.length < 17592186044416
        ·rw [if_pos c23] at H; have LMc23 := Aside0.mk c23; clear c23; obtain ⟨y108, hy108⟩ : ∃ y_ : List Int, y_ = (x5_1 ++ [(rd_T26 l0 x16_1).f1]) := ⟨_, rfl⟩
         replace H : (fold_Numbers.l0 k1 y108 l0 (l0.length : Int) (wrap64 (x16_1 + 1))) = some (r1, r2, r3, r4) := by first | (rw [hy108]; with_reducible exact H) | (have H2_ := (Option.bind_some _ _).symm.trans H; rw [hy108]; with_reducible exact H2_) | (have H2_ := (Option.bind_some _ _).symm.trans H; with_reducible exact H2_) | with_reducible exact H | (rw [hy108]; exact H) | exact H
         have Ny108 := Aside0.mk hy108; clear hy108
         have H' := Aside0.mk H
         clear H
         have p106 : 0 ≤ (x16_1 : Int) := of_decide_eq_true (by first | (with_reducible assumption) | assumption)
         have q106 : x16_1 < (l0.length : Int) := of_decide_eq_true (by first | (with_reducible assumption) | assumption)
         obtain ⟨ad106, e106, hx106_0, hx106_1, hx106_2⟩ := at_T26 HR0.out x16_1 p106 q106
         cases e106
         replace hx106_0 := (HB.out.cell (World.block_lt_of_cell? w _ hx106_0)).trans hx106_0; replace hx106_1 := (HB.out.cell (World.block_lt_of_cell? w _ hx106_1)).trans hx106_1; replace hx106_2 := (HB.out.cell (World.block_lt_of_cell? w _ hx106_2)).trans hx106_2; replace p106 := eq_true p106; replace q106 := eq_true q106
         go_wp2_with (first | ((with_reducible refine gate_dst (N:=7) rfl ?_); refine be_ (N:=7) (cs := #[.int .i64 0, .int .i64 0, .string (⟨#[]⟩ : ByteArray)]) (t:=26) ?_; intro gb107 hg w24 hbox hb; have BK107 := Aside0.mk (hbox); have GW107 := hs_ HB hg; have GE107 := hs_ HB hg; have NB101_107 := hl_ BK101 hg; have NB107_101 := hr_ BK101 hg; have NB105_107 := hl_ BK105 hg; have NB107_105 := hr_ BK105 hg; replace HO_5 := Aside0.mk (Kd.R_below (by (with_reducible repeat (first | apply Kd.R_alloc | apply Kd.R_drewN | apply Kd.R_drew)); exact HO_5.out) hb); replace BK101 := bb_ BK101 hb; replace BK105 := bb_ BK105 hb; replace HB := bs_ HB hb; clear hb hbox hg; have hnb25 := NB107_101.out; have hnc25 := NB101_107.out; have hnb26 := NB107_105.out; have hnc26 := NB105_107.out; have hcz27_0 : w24.cell? ⟨gb107, 0, none⟩ = some (.int .i64 0) := bc_ BK107 0 rfl; have hcz27_1 : w24.cell? ⟨gb107, 1, none⟩ = some (.int .i64 0) := bc_ BK107 1 rfl; have hcz27_2 : w24.cell? ⟨gb107, 2, none⟩ = some (.string (⟨#[]⟩ : ByteArray)) := bc_ BK107 2 rfl; have hfz27_0 := blk_frozen BK107.out 0; have hfz27_1 := blk_frozen BK107.out 1; have hfz27_2 := blk_frozen BK107.out 2) | ((with_reducible refine gate_builtin (b := .append) (xs := #[.tmp 23, .tmp 26]) rfl ?_); at_builtin; refine Kd.R_append (Kd.int .i64) (w0 := w) w.heap.size rfl (.tmp 23) (.tmp 26) 57 2 (.int .i64 0) 8 rfl Try.underlying57 info2 rfl (by decide) (by omega) u5 x5_1 ((rd_T26 l0 x16_1).f1) [.int .i64 ((rd_T26 l0 x16_1).f1)] (fun _ => True) (fun _ => False) rfl (by first | (go_simp; done) | (go_simp; rfl)) ?aP (fun _ hk => hk.elim) ?aF ?aO ?aB ?aS ?aL ?_; (case aP => exact rfl); (case aB => exact (by repeat (first | (with_reducible first | exact HB.out | apply below_alloc | apply pw_below_drewN | apply below_drew1 | refine below_set ?_ GE101.out | refine below_set ?_ GE105.out | refine below_set ?_ GE107.out) | exact HB.out))); (case aF => exact (fun _ _ => trivial)); (case aO => exact (by (with_reducible repeat (first | apply Kd.R_alloc | apply Kd.R_drewN | apply Kd.R_drew)); exact Kd.R_mono (Kd.R_far (p := ⟨gb107, 2, none⟩) (Kd.R_far (p := ⟨gb107, 1, none⟩) (Kd.R_far (p := ⟨gb107, 0, none⟩) (Kd.R_types HO_5.out BK107.out (by decide)) (fun _ hk => hk.2) (.int .i64 ((rd_T26 l0 x16_1).f0))) (fun _ hk => hk.2) (.int .i64 ((rd_T26 l0 x16_1).f1))) (fun _ hk => hk.2) (.string ((rd_T26 l0 x16_1).f2))) (fun _ hk => trivial))); (case aS => exact (below_size (by repeat (first | (with_reducible first | exact HB.out | apply below_alloc | apply pw_below_drewN | apply below_drew1 | refine below_set ?_ GE101.out | refine below_set ?_ GE105.out | refine below_set ?_ GE107.out) | exact HB.out)))); (case aL => have := LMc23.out; omega); intro v109 w28 ho hb hg hat; rw [← Ny108.out] at ho; have HO110 := Aside0.mk (ho); replace BK101 := Aside0.mk (blk_grown (g:=gb101) (o := .cells #[.int .i64 0, .int .i64 0, .string (⟨#[]⟩ : ByteArray)] 26 (0, 0)) (by refine pf_ ?_ NB101_107.out; refine blk_far ?_ NB101_107.out _; refine blk_far ?_ NB101_107.out _; exact pkx BK101) hg (Kd.R_ne HO_5.out BK101.out (by decide))); replace BK105 := Aside0.mk (blk_grown (g:=gb105) (o := .cells #[.int .i64 t102, .int .i64 t103, .string t104] 26 (0, 0)) (by refine pf_ ?_ NB105_107.out; refine blk_far ?_ NB105_107.out _; refine blk_far ?_ NB105_107.out _; exact pkx BK105) hg (Kd.R_ne HO_5.out BK105.out (by decide))); replace BK107 := Aside0.mk (blk_grown (g:=gb107) (o := .cells #[.int .i64 ((rd_T26 l0 x16_1).f0), .int .i64 ((rd_T26 l0 x16_1).f1), .string ((rd_T26 l0 x16_1).f2)] 26 (0, 0)) (by refine pp_ (cs := #[.int .i64 ((rd_T26 l0 x16_1).f0), .int .i64 ((rd_T26 l0 x16_1).f1), .string (⟨#[]⟩ : ByteArray)]) 2 ?_ rfl; refine pp_ (cs := #[.int .i64 ((rd_T26 l0 x16_1).f0), .int .i64 0, .string (⟨#[]⟩ : ByteArray)]) 1 ?_ rfl; refine pp_ (cs := #[.int .i64 0, .int .i64 0, .string (⟨#[]⟩ : ByteArray)]) 0 ?_ rfl; exact pkx BK107) hg (Kd.R_ne HO_5.out BK107.out (by decide))); replace HB := Aside0.mk (hb); clear HO_5; clear ho hb hg hat))
         go_roundg k1
         case measure => have := HK1.out; omega
         case rel => exact ⟨(y108), (wrap64 (x16_1 + 1)), (by first | rfl | (simp; done) | (simp [*]; done)), H', ⟨by have := HK1.out; omega⟩, ⟨by (with_reducible repeat (first | apply Kd.R_alloc | apply Kd.R_drewN | apply Kd.R_drew)); exact HO110.out⟩, ⟨pkx BK101⟩, ⟨pkx BK105⟩, ⟨pbx HB⟩⟩
        ·rw [if_neg c23] at H
         exact absurd H (by simp)
       ·rw [if_neg c22] at H; have c22b0 : (((rd_T26 l0 x16_1).f0) == 1) = false := beq_eq_false_iff_ne.mpr c22; have c22b1 : (((rd_T26 l0 x16_1).f0) != 1) = true := bne_iff_ne.mpr c22
        have H' := Aside0.mk H
        clear H
        have p106 : 0 ≤ (x16_1 : Int) := of_decide_eq_true (by first | (with_reducible assumption) | assumption)
        have q106 : x16_1 < (l0.length : Int) := of_decide_eq_true (by first | (with_reducible assumption) | assumption)
        obtain ⟨ad106, e106, hx106_0, hx106_1, hx106_2⟩ := at_T26 HR0.out x16_1 p106 q106
        cases e106
        replace hx106_0 := (HB.out.cell (World.block_lt_of_cell? w _ hx106_0)).trans hx106_0; replace hx106_1 := (HB.out.cell (World.block_lt_of_cell? w _ hx106_1)).trans hx106_1; replace hx106_2 := (HB.out.cell (World.block_lt_of_cell? w _ hx106_2)).trans hx106_2; replace p106 := eq_true p106; replace q106 := eq_true q106
        go_wp2_with (first | ((with_reducible refine gate_dst (N:=7) rfl ?_); refine be_ (N:=7) (cs := #[.int .i64 0, .int .i64 0, .string (⟨#[]⟩ : ByteArray)]) (t:=26) ?_; intro gb107 hg w29 hbox hb; have BK107 := Aside0.mk (hbox); have GW107 := hs_ HB hg; have GE107 := hs_ HB hg; have NB101_107 := hl_ BK101 hg; have NB107_101 := hr_ BK101 hg; have NB105_107 := hl_ BK105 hg; have NB107_105 := hr_ BK105 hg; replace HO_5 := Aside0.mk (Kd.R_below (by (with_reducible repeat (first | apply Kd.R_alloc | apply Kd.R_drewN | apply Kd.R_drew)); exact HO_5.out) hb); replace BK101 := bb_ BK101 hb; replace BK105 := bb_ BK105 hb; replace HB := bs_ HB hb; clear hb hbox hg; have hnb30 := NB107_101.out; have hnc30 := NB101_107.out; have hnb31 := NB107_105.out; have hnc31 := NB105_107.out; have hcz32_0 : w29.cell? ⟨gb107, 0, none⟩ = some (.int .i64 0) := bc_ BK107 0 rfl; have hcz32_1 : w29.cell? ⟨gb107, 1, none⟩ = some (.int .i64 0) := bc_ BK107 1 rfl; have hcz32_2 : w29.cell? ⟨gb107, 2, none⟩ = some (.string (⟨#[]⟩ : ByteArray)) := bc_ BK107 2 rfl; have hfz32_0 := blk_frozen BK107.out 0; have hfz32_1 := blk_frozen BK107.out 1; have hfz32_2 := blk_frozen BK107.out 2))
        go_roundg k1
        case measure => have := HK1.out; omega
        case rel => exact ⟨(x5_1), (wrap64 (x16_1 + 1)), (by first | rfl | (simp; done) | (simp [*]; done)), H', ⟨by have := HK1.out; omega⟩, ⟨by (with_reducible repeat (first | apply Kd.R_alloc | apply Kd.R_drewN | apply Kd.R_drew)); exact Kd.R_mono (Kd.R_far (p := ⟨gb107, 2, none⟩) (Kd.R_far (p := ⟨gb107, 1, none⟩) (Kd.R_far (p := ⟨gb107, 0, none⟩) (Kd.R_types HO_5.out BK107.out (by decide)) (fun _ hk => hk.2) (.int .i64 ((rd_T26 l0 x16_1).f0))) (fun _ hk => hk.2) (.int .i64 ((rd_T26 l0 x16_1).f1))) (fun _ hk => hk.2) (.string ((rd_T26 l0 x16_1).f2))) (fun _ hk => trivial)⟩, ⟨by refine pf_ ?_ NB101_107.out; refine blk_far ?_ NB101_107.out _; refine blk_far ?_ NB101_107.out _; exact pkx BK101⟩, ⟨by refine pf_ ?_ NB105_107.out; refine blk_far ?_ NB105_107.out _; refine blk_far ?_ NB105_107.out _; exact pkx BK105⟩, ⟨by repeat (first | (with_reducible first | exact HB.out | apply below_alloc | apply pw_below_drewN | apply below_drew1 | refine below_set ?_ GE101.out | refine below_set ?_ GE105.out | refine below_set ?_ GE107.out) | exact HB.out)⟩⟩
      ·rw [if_neg c21] at H
       exact absurd H (by simp)
     ·rw [if_neg c20] at H
      exact absurd H (by simp)
    ·rw [if_neg c19] at H; have c19b0 : decide (x16_1 < (l0.length : Int)) = false := decide_eq_false c19; clear c19
     simp only [Option.some.injEq, Prod.mk.injEq] at H
     obtain ⟨rfl, rfl, rfl, rfl⟩ := H; have hnb33 := NB101_105.out; have hnc33 := NB105_101.out
     have hcz34_0 : wr.cell? ⟨gb101, 0, none⟩ = some (.int .i64 0) := bc_ BK101 0 rfl
     have hcz34_1 : wr.cell? ⟨gb101, 1, none⟩ = some (.int .i64 0) := bc_ BK101 1 rfl
     have hcz34_2 : wr.cell? ⟨gb101, 2, none⟩ = some (.string (⟨#[]⟩ : ByteArray)) := bc_ BK101 2 rfl
     have hfz34_0 := blk_frozen BK101.out 0; have hfz34_1 := blk_frozen BK101.out 1; have hfz34_2 := blk_frozen BK101.out 2
     go_wp2
     refine bodyPost_ret (results_tc rfl _ _ gb101 26 #[.int .i64 0, .int .i64 0, .string (⟨#[]⟩ : ByteArray)] (0, 0) _ rfl (by refine pp_ (cs := #[.int .i64 0, .int .i64 0, .string (⟨#[]⟩ : ByteArray)]) 2 ?_ rfl; refine pp_ (cs := #[.int .i64 0, .int .i64 0, .string (⟨#[]⟩ : ByteArray)]) 1 ?_ rfl; refine pp_ (cs := #[.int .i64 0, .int .i64 0, .string (⟨#[]⟩ : ByteArray)]) 0 ?_ rfl; exact pkx BK101) Try.underlying26 rfl (by kernel_rfl)) rfl ?_
     exact ⟨_, by first | rfl | (simp [errW_none, errW_some] <;> rfl) | (simp [*, errW_none, errW_some] <;> rfl), by (with_reducible repeat (first | apply Kd.R_alloc | apply Kd.R_drewN | apply Kd.R_drew)); exact Kd.R_mono (Kd.R_far (p := ⟨gb101, 2, none⟩) (Kd.R_far (p := ⟨gb101, 1, none⟩) (Kd.R_far (p := ⟨gb101, 0, none⟩) (Kd.R_types HO_5.out BK101.out (by decide)) (fun _ hk => hk.2) (.int .i64 0)) (fun _ hk => hk.2) (.int .i64 0)) (fun _ hk => hk.2) (.string (⟨#[]⟩ : ByteArray))) (fun _ hk => trivial), by repeat (first | (with_reducible first | exact HB.out | apply below_alloc | apply pw_below_drewN | apply below_drew1 | refine below_set ?_ GE101.out | refine below_set ?_ GE105.out) | exact HB.out)⟩

def fold_all.l0 : Nat → Int → List Int → Int → Int → Option (Int × Int × ByteArray)
 | 0, _, _, _, _ => none
 | k + 1, x1, x22, x23, x24 => if x24 < x23 then (if 0 ≤ x24 then (if x24 < (x22.length : Int) then ((dec_Add.f k x1 (rd x22 x24)).bind fun bt113 => (if bt113.2 = true then (fold_all.l0 k bt113.1 x22 x23 (wrap64 (x24 + 1))) else ((value_Bad.f 4).bind fun bt115 => (some (bt115.1, bt115.2.1, bt115.2.2))))) else (none)) else (none)) else ((value_Num.f x1).bind fun bt109 => (some (bt109.1, bt109.2.1, bt109.2.2)))
def fold_all.f (k : Nat) (l0 : List (S26)) (a1 : Int) (a2 : Int) : Option (Int × Int × ByteArray) := (fold_Numbers.f k l0).bind fun bt102 => (if bt102.2.1 = 4 then (some (bt102.2.1, bt102.2.2.1, bt102.2.2.2)) else (fold_all.l0 k a1 bt102.1 (bt102.1.length : Int) 0))
theorem fold_all.mono_l : ∀ k, (∀ y0 y1 y2 y3, LeO (fold_all.l0 k y0 y1 y2 y3) (fold_all.l0 (k + 1) y0 y1 y2 y3))
 | 0 => fun _ _ _ _ r h => by simp [fold_all.l0] at h
 | k + 1 => by
  have ih0 := fold_all.mono_l k
  ·intro y0 y1 y2 y3
   unfold fold_all.l0
   repeat' first
   | (with_reducible exact ih0 _ _ _ _)
   | (with_reducible exact dec_Add.mono _ _ _)
   | (with_reducible exact fold_Numbers.mono _ _)
   | (with_reducible exact LeO.refl _)
   | (with_reducible exact LeO.none _)
   | (with_reducible refine LeO.ite ?_ ?_)
   | (with_reducible refine LeO.bind ?_ (fun _ => ?_))
theorem fold_all.mono : ∀ a0 a1 a2 k, LeO (fold_all.f k a0 a1 a2) (fold_all.f (k + 1) a0 a1 a2) := by
 intro a0 a1 a2 k; have ih0 := fold_all.mono_l k
 unfold fold_all.f
 repeat' first
   | (with_reducible exact ih0 _ _ _ _)
   | (with_reducible exact dec_Add.mono _ _ _)
   | (with_reducible exact fold_Numbers.mono _ _)
   | (with_reducible exact LeO.refl _)
   | (with_reducible exact LeO.none _)
   | (with_reducible refine LeO.ite ?_ ?_)
   | (with_reducible refine LeO.bind ?_ (fun _ => ?_))
set_option maxHeartbeats 8000000 in
set_option maxRecDepth 100000 in
theorem fold_all.calls (k : Nat) (A0 : Option Addr) (c0 : Nat) (l0 : List (S26)) (a1 : Int) (a2 : Int) (r1 : Int) (r2 : Int) (r3 : ByteArray) (w : World) (hr0 : Kd.C k26 w A0 l0.length l0) (hc0 : l0.length ≤ c0) (h : fold_all.f k l0 a1 a2 = some (r1, r2, r3)) :
  Calls Try.prog 46 #[.slice A0 l0.length c0, .int .i64 a1, (.func (.func 39) #[] #[])] w fun e w' => e = .returned (.agg #[.int .i64 r1, .int .i64 r2, .string r3]) ∧ Below w.heap.size w w' := by
 have hu26 := Try.underlying26; have HR0 := Aside0.mk hr0; have HC0 := Aside0.mk hc0; clear hr0 hc0; have HB := Aside0.mk (Below.refl w.heap.size w)
 have H : ((fold_Numbers.f k l0).bind fun bt102 => (if bt102.2.1 = 4 then (some (bt102.2.1, bt102.2.2.1, bt102.2.2.2)) else (fold_all.l0 k a1 bt102.1 (bt102.1.length : Int) 0))) = some (r1, r2, r3) := h
 clear h; replace H := Option.bind_eq_some_iff.mp H; obtain ⟨⟨t102, t105, t106, t107⟩, A40, H⟩ := H
 replace H : (if t105 = 4 then (some (t105, t106, t107)) else (fold_all.l0 k a1 t102 (t102.length : Int) 0)) = some (r1, r2, r3) := H
 have A4 := Aside0.mk A40; clear A40
 by_cases c5 : t105 = 4
 ·rw [if_pos c5] at H; have c5b0 : (t105 == 4) = true := beq_iff_eq.mpr c5; have c5b1 : (t105 != 4) = false := bne_eq_false_iff_eq.mpr c5; clear c5
  simp only [Option.some.injEq, Prod.mk.injEq] at H
  obtain ⟨rfl, rfl, rfl⟩ := H
  go_enter Try.func46, Try.ntmps46
  go_wp2_with (first | ((with_reducible refine gate_dst (N:=6) rfl ?_); refine be_ (N:=6) (cs := #[.int .i64 0, .int .i64 0, .string (⟨#[]⟩ : ByteArray)]) (t:=26) ?_; intro gb101 hg w6 hbox hb; have BK101 := Aside0.mk (hbox); have GW101 := hs_ HB hg; have GE101 := hs_ HB hg; replace HB := bs_ HB hb; clear hb hbox hg) | ((with_reducible refine gate_callee (f:=37) rfl ?_); refine gL_ (some 15) rfl rfl Try.func37 rfl #[.slice A0 l0.length c0] rfl ?_; (with_reducible refine (fold_Numbers.calls k _ _ l0 t102 t105 t106 t107 _ ?side1 ?side2 A4.out).mono ?_); (case side1 => repeat (first | exact (Kd.C_below HR0.out HB.out) | (with_reducible refine Kd.C_alloc ?_ _) | (with_reducible refine Kd.C_drewN ?_ _) | (with_reducible refine Kd.C_drew ?_))); (case side2 => exact HC0.out); rintro e w7 ⟨v103, rfl, ho0, hb⟩; refine ⟨_, rfl, ?_⟩; have HO104 := Aside0.mk (Kd.R_lower ho0 (below_size (pbx HB))); replace BK101 := bb_ BK101 hb; replace HB := bs_ HB hb; (try clear hb); (try clear hb2); (try clear hk); (try clear hi); (try clear ho0)) | ((with_reducible refine gate_dst (N:=8) rfl ?_); refine be_ (N:=8) (cs := #[.int .i64 0, .int .i64 0, .string (⟨#[]⟩ : ByteArray)]) (t:=26) ?_; intro gb108 hg w8 hbox hb; have BK108 := Aside0.mk (hbox); have GW108 := hs_ HB hg; have GE108 := hs_ HB hg; have NB101_108 := hl_ BK101 hg; have NB108_101 := hr_ BK101 hg; replace HO104 := Aside0.mk (Kd.R_below (by (with_reducible repeat (first | apply Kd.R_alloc | apply Kd.R_drewN | apply Kd.R_drew)); exact HO104.out) hb); replace BK101 := bb_ BK101 hb; replace HB := bs_ HB hb; clear hb hbox hg; have hnb9 := NB108_101.out; have hnc9 := NB101_108.out; have hcz10_0 : w8.cell? ⟨gb108, 0, none⟩ = some (.int .i64 0) := bc_ BK108 0 rfl; have hcz10_1 : w8.cell? ⟨gb108, 1, none⟩ = some (.int .i64 0) := bc_ BK108 1 rfl; have hcz10_2 : w8.cell? ⟨gb108, 2, none⟩ = some (.string (⟨#[]⟩ : ByteArray)) := bc_ BK108 2 rfl; have hfz10_0 := blk_frozen BK108.out 0; have hfz10_1 := blk_frozen BK108.out 1; have hfz10_2 := blk_frozen BK108.out 2; have hcz11_0 : w8.cell? ⟨gb101, 0, none⟩ = some (.int .i64 0) := bc_ BK101 0 rfl; have hcz11_1 : w8.cell? ⟨gb101, 1, none⟩ = some (.int .i64 0) := bc_ BK101 1 rfl; have hcz11_2 : w8.cell? ⟨gb101, 2, none⟩ = some (.string (⟨#[]⟩ : ByteArray)) := bc_ BK101 2 rfl; have hfz11_0 := blk_frozen BK101.out 0; have hfz11_1 := blk_frozen BK101.out 1; have hfz11_2 := blk_frozen BK101.out 2))
  refine bodyPost_ret (results_cell_row rfl _ _ gb101 26 #[.int .i64 t105, .int .i64 t106, .string t107] (0, 0) _ rfl (by refine pp_ (cs := #[.int .i64 t105, .int .i64 t106, .string (⟨#[]⟩ : ByteArray)]) 2 ?_ rfl; refine pp_ (cs := #[.int .i64 t105, .int .i64 0, .string (⟨#[]⟩ : ByteArray)]) 1 ?_ rfl; refine pp_ (cs := #[.int .i64 0, .int .i64 0, .string (⟨#[]⟩ : ByteArray)]) 0 ?_ rfl; refine pf_ ?_ NB101_108.out; refine blk_far ?_ NB101_108.out _; refine blk_far ?_ NB101_108.out _; exact pkx BK101) Try.underlying26 rfl (by kernel_rfl)) rfl ?_
  exact ⟨by first | rfl | (simp [errW_none, errW_some] <;> rfl) | (simp [*, errW_none, errW_some] <;> rfl), by repeat (first | (with_reducible first | exact HB.out | apply below_alloc | apply pw_below_drewN | apply below_drew1 | refine below_set ?_ GE101.out | refine below_set ?_ GE108.out) | exact HB.out)⟩
 ·rw [if_neg c5] at H; have c5b0 : (t105 == 4) = false := beq_eq_false_iff_ne.mpr c5; have c5b1 : (t105 != 4) = true := bne_iff_ne.mpr c5
  have H' := Aside0.mk H
  clear H
  go_enter Try.func46, Try.ntmps46
  go_wp2_with (first | ((with_reducible refine gate_dst (N:=6) rfl ?_); refine be_ (N:=6) (cs := #[.int .i64 0, .int .i64 0, .string (⟨#[]⟩ : ByteArray)]) (t:=26) ?_; intro gb101 hg w12 hbox hb; have BK101 := Aside0.mk (hbox); have GW101 := hs_ HB hg; have GE101 := hs_ HB hg; replace HB := bs_ HB hb; clear hb hbox hg) | ((with_reducible refine gate_callee (f:=37) rfl ?_); refine gL_ (some 15) rfl rfl Try.func37 rfl #[.slice A0 l0.length c0] rfl ?_; (with_reducible refine (fold_Numbers.calls k _ _ l0 t102 t105 t106 t107 _ ?side1 ?side2 A4.out).mono ?_); (case side1 => repeat (first | exact (Kd.C_below HR0.out HB.out) | (with_reducible refine Kd.C_alloc ?_ _) | (with_reducible refine Kd.C_drewN ?_ _) | (with_reducible refine Kd.C_drew ?_))); (case side2 => exact HC0.out); rintro e w13 ⟨v103, rfl, ho0, hb⟩; refine ⟨_, rfl, ?_⟩; have HO104 := Aside0.mk (Kd.R_lower ho0 (below_size (pbx HB))); replace BK101 := bb_ BK101 hb; replace HB := bs_ HB hb; (try clear hb); (try clear hb2); (try clear hk); (try clear hi); (try clear ho0)) | ((with_reducible refine gate_dst (N:=8) rfl ?_); refine be_ (N:=8) (cs := #[.int .i64 0, .int .i64 0, .string (⟨#[]⟩ : ByteArray)]) (t:=26) ?_; intro gb108 hg w14 hbox hb; have BK108 := Aside0.mk (hbox); have GW108 := hs_ HB hg; have GE108 := hs_ HB hg; have NB101_108 := hl_ BK101 hg; have NB108_101 := hr_ BK101 hg; replace HO104 := Aside0.mk (Kd.R_below (by (with_reducible repeat (first | apply Kd.R_alloc | apply Kd.R_drewN | apply Kd.R_drew)); exact HO104.out) hb); replace BK101 := bb_ BK101 hb; replace HB := bs_ HB hb; clear hb hbox hg; have hnb15 := NB108_101.out; have hnc15 := NB101_108.out; have hcz16_0 : w14.cell? ⟨gb108, 0, none⟩ = some (.int .i64 0) := bc_ BK108 0 rfl; have hcz16_1 : w14.cell? ⟨gb108, 1, none⟩ = some (.int .i64 0) := bc_ BK108 1 rfl; have hcz16_2 : w14.cell? ⟨gb108, 2, none⟩ = some (.string (⟨#[]⟩ : ByteArray)) := bc_ BK108 2 rfl; have hfz16_0 := blk_frozen BK108.out 0; have hfz16_1 := blk_frozen BK108.out 1; have hfz16_2 := blk_frozen BK108.out 2; obtain ⟨Ao17, co17, eo17⟩ := Kd.R_slice HO104.out; subst eo17))
  go_loopg [1, 24] k (fun kq v1 v24 w' => ∃ (x1_1 : Int) (x24_1 : Int) (x102000_1 : Int) (x102001_1 : Int) (x102002_1 : ByteArray), v1 = .int .i64 x1_1 ∧ v24 = .int .i64 x24_1 ∧ Aside0 (fold_all.l0 kq x1_1 t102 (t102.length : Int) x24_1 = some (r1, r2, r3)) ∧ Aside0 (kq ≤ k) ∧ Aside0 (Kd.R (Kd.int .i64) 2 w' w.heap.size (fun _ => True) (.slice Ao17 t102.length co17) t102) ∧ Aside0 (w'.heap[gb101]? = some (.cells #[.int .i64 x102000_1, .int .i64 x102001_1, .string x102002_1] 26 (0, 0))) ∧ Aside0 (w'.heap[gb108]? = some (.cells #[.int .i64 t105, .int .i64 t106, .string t107] 26 (0, 0))) ∧ Aside0 (Below w.heap.size w w'))
  case atStart => exact ⟨(a1), (0), (0), (0), ((⟨#[]⟩ : ByteArray)), (by first | rfl | (simp; done) | (simp [*]; done)), (by first | rfl | (simp; done) | (simp [*]; done)), H', ⟨Nat.le_refl _⟩, ⟨by (with_reducible repeat (first | apply Kd.R_alloc | apply Kd.R_drewN | apply Kd.R_drew)); exact Kd.R_mono (Kd.R_far (p := ⟨gb108, 2, none⟩) (Kd.R_far (p := ⟨gb108, 1, none⟩) (Kd.R_far (p := ⟨gb108, 0, none⟩) (Kd.R_types HO104.out BK108.out (by decide)) (fun _ hk => hk.2) (.int .i64 t105)) (fun _ hk => hk.2) (.int .i64 t106)) (fun _ hk => hk.2) (.string t107)) (fun _ hk => trivial)⟩, ⟨by refine pf_ ?_ NB101_108.out; refine blk_far ?_ NB101_108.out _; refine blk_far ?_ NB101_108.out _; exact pkx BK101⟩, ⟨by refine pp_ (cs := #[.int .i64 t105, .int .i64 t106, .string (⟨#[]⟩ : ByteArray)]) 2 ?_ rfl; refine pp_ (cs := #[.int .i64 t105, .int .i64 0, .string (⟨#[]⟩ : ByteArray)]) 1 ?_ rfl; refine pp_ (cs := #[.int .i64 0, .int .i64 0, .string (⟨#[]⟩ : ByteArray)]) 0 ?_ rfl; exact pkx BK108⟩, ⟨by repeat (first | (with_reducible first | exact HB.out | apply below_alloc | apply pw_below_drewN | apply below_drew1 | refine below_set ?_ GE101.out | refine below_set ?_ GE108.out) | exact HB.out)⟩⟩
  case round =>
   clear H'; (try clear c1); (try clear p2); (try clear c3); (try clear c4); (try clear c5); (try clear c5b0); (try clear c5b1); (try clear c9); (try clear c15); (try clear hcz10_0); (try clear hcz10_1); (try clear hcz10_2); (try clear hcz11_0); (try clear hcz11_1); (try clear hcz11_2); (try clear hcz16_0); (try clear hcz16_1); (try clear hcz16_2); (try clear hfz10_0); (try clear hfz10_1); (try clear hfz10_2); (try clear hfz11_0); (try clear hfz11_1); (try clear hfz11_2); (try clear hfz16_0); (try clear hfz16_1); (try clear hfz16_2); obtain ⟨x1_1, x24_1, x102000_1, x102001_1, x102002_1, rfl, rfl, HA, HK1, HO_22, BK101, BK108, HB⟩ := hrel
   cases gk with
   | zero => exact absurd HA.out (by simp [fold_all.l0])
   | succ k1 =>
    have H := HA.out; clear HA
    simp only [fold_all.l0] at H
    by_cases c18 : x24_1 < (t102.length : Int)
    ·rw [if_pos c18] at H; have c18b0 : decide (x24_1 < (t102.length : Int)) = true := decide_eq_true c18; clear c18
     by_cases c19 : 0 ≤ x24_1
     ·rw [if_pos c19] at H; have c19b0 : decide (0 ≤ x24_1) = true := decide_eq_true c19; clear c19
      by_cases c20 : x24_1 < (t102.length : Int)
      ·rw [if_pos c20] at H; have c20b0 : decide (x24_1 < (t102.length : Int)) = true := decide_eq_true c20; clear c20; replace H := Option.bind_eq_some_iff.mp H; obtain ⟨⟨t113, t114⟩, A210, H⟩ := H
       replace H : (if t114 = true then (fold_all.l0 k1 t113 t102 (t102.length : Int) (wrap64 (x24_1 + 1))) else ((value_Bad.f 4).bind fun bt115 => (some (bt115.1, bt115.2.1, bt115.2.2)))) = some (r1, r2, r3) := H
       have A21 := Aside0.mk A210; clear A210
       by_cases c22 : t114 = true
       ·subst c22
        have H1 : (fold_all.l0 k1 t113 t102 (t102.length : Int) (wrap64 (x24_1 + 1))) = some (r1, r2, r3) := by rw [if_pos rfl] at H; exact H
        clear H; have H := H1; clear H1
        have H' := Aside0.mk H
        clear H
        have p112 : 0 ≤ (x24_1 : Int) := of_decide_eq_true (by first | (with_reducible assumption) | assumption)
        have q112 : x24_1 < (t102.length : Int) := of_decide_eq_true (by first | (with_reducible assumption) | assumption)
        obtain ⟨ad112, e112, hx112_0⟩ := Kd.at_int (Kd.R_reads' HO_22.out).2.2 x24_1 p112 q112
        cases e112
        replace p112 := eq_true p112; replace q112 := eq_true q112
        go_wp2_with (first | ((with_reducible refine gate_callee_t rfl ?_); refine goesLT_ (some 32) rfl rfl Try.func39 (by kernel_rfl) rfl #[.int .i64 x1_1, .int .i64 (rd t102 x24_1)] rfl rfl (by (try simp only [List.map_toArray, List.map_cons, List.map_nil]); first | done | rfl | (simp only [List.length_drop, List.length_take]; rfl)) ?_; (with_reducible refine (dec_Add.calls k1 x1_1 (rd t102 x24_1) t113 true _ A21.out).mono ?_); rintro e w' ⟨rfl, ⟨nd, rfl⟩⟩; refine ⟨_, rfl, ?_⟩))
        go_roundg k1
        case measure => have := HK1.out; omega
        case rel => exact ⟨(t113), (wrap64 (x24_1 + 1)), (x102000_1), (x102001_1), (x102002_1), (by first | rfl | (simp; done) | (simp [*]; done) | (cases t113 <;> simp; done)), (by first | rfl | (simp; done) | (simp [*]; done)), H', ⟨by have := HK1.out; omega⟩, ⟨by (with_reducible repeat (first | apply Kd.R_alloc | apply Kd.R_drewN | apply Kd.R_drew)); exact HO_22.out⟩, ⟨pkx BK101⟩, ⟨pkx BK108⟩, ⟨pbx HB⟩⟩
       ·replace c22 := Bool.eq_false_iff.mpr c22; subst c22
        have H1 : ((value_Bad.f 4).bind fun bt115 => (some (bt115.1, bt115.2.1, bt115.2.2))) = some (r1, r2, r3) := by rw [if_neg (show ¬ (false = true) by decide)] at H; exact H
        clear H; have H := H1; clear H1; replace H := Option.bind_eq_some_iff.mp H; obtain ⟨⟨t115, t116, t117⟩, A230, H⟩ := H
        replace H : (some (t115, t116, t117)) = some (r1, r2, r3) := H
        have A23 := Aside0.mk A230; clear A230
        simp only [Option.some.injEq, Prod.mk.injEq] at H
        obtain ⟨rfl, rfl, rfl⟩ := H
        have p112 : 0 ≤ (x24_1 : Int) := of_decide_eq_true (by first | (with_reducible assumption) | assumption)
        have q112 : x24_1 < (t102.length : Int) := of_decide_eq_true (by first | (with_reducible assumption) | assumption)
        obtain ⟨ad112, e112, hx112_0⟩ := Kd.at_int (Kd.R_reads' HO_22.out).2.2 x24_1 p112 q112
        cases e112
        replace p112 := eq_true p112; replace q112 := eq_true q112
        go_wp2_with (first | ((with_reducible refine gate_callee_t rfl ?_); refine goesLT_ (some 32) rfl rfl Try.func39 (by kernel_rfl) rfl #[.int .i64 x1_1, .int .i64 (rd t102 x24_1)] rfl rfl (by (try simp only [List.map_toArray, List.map_cons, List.map_nil]); first | done | rfl | (simp only [List.length_drop, List.length_take]; rfl)) ?_; (with_reducible refine (dec_Add.calls k1 x1_1 (rd t102 x24_1) t113 false _ A21.out).mono ?_); rintro e w' ⟨rfl, ⟨nd, rfl⟩⟩; refine ⟨_, rfl, ?_⟩; (try (rw [drewN_self wr]; generalize hq_ : World.drewN wr _ = wr; have n0_ : Aside0 (Kd.R (Kd.int .i64) 2 wr w.heap.size (fun _ => True) (.slice (some ad112) t102.length co17) t102) := ⟨by rw [← hq_]; exact (by (with_reducible repeat (first | apply Kd.R_alloc | apply Kd.R_drewN | apply Kd.R_drew)); exact HO_22.out)⟩; have n1_ : Aside0 (wr.heap[gb101]? = some (.cells #[.int .i64 x102000_1, .int .i64 x102001_1, .string x102002_1] 26 (0, 0))) := ⟨by rw [← hq_]; exact (pkx BK101)⟩; have n2_ : Aside0 (wr.heap[gb108]? = some (.cells #[.int .i64 t105, .int .i64 t106, .string t107] 26 (0, 0))) := ⟨by rw [← hq_]; exact (pkx BK108)⟩; have n3_ : Aside0 (Below w.heap.size w wr) := ⟨by rw [← hq_]; exact (pbx HB)⟩; clear HO_22 BK101 BK108 HB hq_; have HO_22 := n0_; have BK101 := n1_; have BK108 := n2_; have HB := n3_; clear n0_ n1_ n2_ n3_))) | ((with_reducible refine gate_callee (f:=26) rfl ?_); refine gL_ (some 37) rfl rfl Try.func26 rfl #[.int .i64 4] rfl ?_; (with_reducible refine (value_Bad.calls 4 t115 t116 t117 _ A23.out).mono ?_); rintro e w24 ⟨rfl, hb⟩; refine ⟨_, rfl, ?_⟩; replace HO_22 := Aside0.mk (Kd.R_below (by (with_reducible repeat (first | apply Kd.R_alloc | apply Kd.R_drewN | apply Kd.R_drew)); exact HO_22.out) hb); replace BK101 := bb_ BK101 hb; replace BK108 := bb_ BK108 hb; replace HB := bs_ HB hb; (try clear hb); (try clear hb2); (try clear hk); (try clear hi); have hnb25 := NB101_108.out; have hnc25 := NB108_101.out; have hcz26_0 : w24.cell? ⟨gb101, 0, none⟩ = some (.int .i64 x102000_1) := bc_ BK101 0 rfl; have hcz26_1 : w24.cell? ⟨gb101, 1, none⟩ = some (.int .i64 x102001_1) := bc_ BK101 1 rfl; have hcz26_2 : w24.cell? ⟨gb101, 2, none⟩ = some (.string x102002_1) := bc_ BK101 2 rfl; have hfz26_0 := blk_frozen BK101.out 0; have hfz26_1 := blk_frozen BK101.out 1; have hfz26_2 := blk_frozen BK101.out 2))
        refine bodyPost_ret (results_cell_row rfl _ _ gb101 26 #[.int .i64 t115, .int .i64 t116, .string t117] (0, 0) _ rfl (by refine pp_ (cs := #[.int .i64 t115, .int .i64 t116, .string x102002_1]) 2 ?_ rfl; refine blk_put (cs := #[.int .i64 t115, .int .i64 x102001_1, .string x102002_1]) ?_ 1 _ rfl; refine blk_put (cs := #[.int .i64 x102000_1, .int .i64 x102001_1, .string x102002_1]) ?_ 0 _ rfl; exact pkx BK101) Try.underlying26 rfl (by kernel_rfl)) rfl ?_
        exact ⟨by first | rfl | (simp [errW_none, errW_some] <;> rfl) | (simp [*, errW_none, errW_some] <;> rfl), by repeat (first | (with_reducible first | exact HB.out | apply below_alloc | apply pw_below_drewN | apply below_drew1 | refine below_set ?_ GE101.out | refine below_set ?_ GE108.out) | exact HB.out)⟩
      ·rw [if_neg c20] at H
       exact absurd H (by simp)
     ·rw [if_neg c19] at H
      exact absurd H (by simp)
    ·rw [if_neg c18] at H; have c18b0 : decide (x24_1 < (t102.length : Int)) = false := decide_eq_false c18; clear c18; replace H := Option.bind_eq_some_iff.mp H; obtain ⟨⟨t109, t110, t111⟩, A270, H⟩ := H
     replace H : (some (t109, t110, t111)) = some (r1, r2, r3) := H
     have A27 := Aside0.mk A270; clear A270
     simp only [Option.some.injEq, Prod.mk.injEq] at H
     obtain ⟨rfl, rfl, rfl⟩ := H
     go_wp2_with (first | ((with_reducible refine gate_callee (f:=21) rfl ?_); refine gL_ (some 41) rfl rfl Try.func21 rfl #[.int .i64 x1_1] rfl ?_; (with_reducible refine (value_Num.calls x1_1 t109 t110 t111 _ A27.out).mono ?_); rintro e w28 ⟨rfl, hb⟩; refine ⟨_, rfl, ?_⟩; replace HO_22 := Aside0.mk (Kd.R_below (by (with_reducible repeat (first | apply Kd.R_alloc | apply Kd.R_drewN | apply Kd.R_drew)); exact HO_22.out) hb); replace BK101 := bb_ BK101 hb; replace BK108 := bb_ BK108 hb; replace HB := bs_ HB hb; (try clear hb); (try clear hb2); (try clear hk); (try clear hi); have hnb29 := NB101_108.out; have hnc29 := NB108_101.out; have hcz30_0 : w28.cell? ⟨gb101, 0, none⟩ = some (.int .i64 x102000_1) := bc_ BK101 0 rfl; have hcz30_1 : w28.cell? ⟨gb101, 1, none⟩ = some (.int .i64 x102001_1) := bc_ BK101 1 rfl; have hcz30_2 : w28.cell? ⟨gb101, 2, none⟩ = some (.string x102002_1) := bc_ BK101 2 rfl; have hfz30_0 := blk_frozen BK101.out 0; have hfz30_1 := blk_frozen BK101.out 1; have hfz30_2 := blk_frozen BK101.out 2))
     refine bodyPost_ret (results_cell_row rfl _ _ gb101 26 #[.int .i64 t109, .int .i64 t110, .string t111] (0, 0) _ rfl (by refine pp_ (cs := #[.int .i64 t109, .int .i64 t110, .string x102002_1]) 2 ?_ rfl; refine blk_put (cs := #[.int .i64 t109, .int .i64 x102001_1, .string x102002_1]) ?_ 1 _ rfl; refine blk_put (cs := #[.int .i64 x102000_1, .int .i64 x102001_1, .string x102002_1]) ?_ 0 _ rfl; exact pkx BK101) Try.underlying26 rfl (by kernel_rfl)) rfl ?_
     exact ⟨by first | rfl | (simp [errW_none, errW_some] <;> rfl) | (simp [*, errW_none, errW_some] <;> rfl), by repeat (first | (with_reducible first | exact HB.out | apply below_alloc | apply pw_below_drewN | apply below_drew1 | refine below_set ?_ GE101.out | refine below_set ?_ GE108.out) | exact HB.out)⟩

end Go.Proofs.Ytejkoenlfcghbaa.X
