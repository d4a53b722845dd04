/- Contracts of the functions that the law LookAcross reaches, and what they answer (a session's own texts, joined; part 3). -/
import Derived.Test.YtejkoenlfcghbaaBLookAcross2
namespace Go.Proofs.Ytejkoenlfcghbaa.X
open Go.RowKit Go.Proofs.YtejkoenlfcghbaaW.PrintWords Go.Proofs.YtejkoenlfcghbaaW.PrintLast Go.Proofs.YtejkoenlfcghbaaW.PrintMore
attribute [local go_sem] max2_int min2_int max_two min_two max_three min_three max_four min_four
set_option linter.unusedVariables false
set_option linter.unusedSimpArgs false
mutual
def dec_Scaled.j0 : Nat → Int → Int → Int → Bool → Option (Int × Bool)
 | 0, _, _, _, _ => none
 | k + 1, x0, x1, x2, x29 => if x29 = true then (some (0, false)) else ((dec_size.f x2).bind fun t104 => ((dec_size.f x0).bind fun t105 => ((dec_size.f x1).bind fun t106 => ((bits_Mul64.f t105 t106).bind fun bt107 => (if bt107.1 ≥ t104 then (some (0, false)) else ((bits_Div64.f k bt107.1 bt107.2 t104).bind fun bt109 => (if bt109.2 ≥ (IntKind.u64.wrap (t104 - bt109.2)) then (dec_Scaled.j1 k x0 x1 x2 (IntKind.u64.wrap (bt109.1 + 1))) else (dec_Scaled.j1 k x0 x1 x2 bt109.1))))))))
def dec_Scaled.j1 : Nat → Int → Int → Int → Int → Option (Int × Bool)
 | 0, _, _, _, _ => none
 | k + 1, x0, x1, x2, x11 => if x11 > 9223372036854775807 then (some (0, false)) else ((dec_Sign.f x0).bind fun t111 => ((dec_Sign.f x1).bind fun t112 => ((dec_Sign.f x2).bind fun t113 => (if (wrap64 ((wrap64 (t111 * t112)) * t113)) < 0 then (some (wrap64 (-(wrap64 (x11))), true)) else (some (wrap64 (x11), true))))))
end
def dec_Scaled.f (k : Nat) (a0 : Int) (a1 : Int) (a2 : Int) : Option (Int × Bool) := (dec_May.f a0).bind fun t101 => (if t101 = true then ((dec_May.f a1).bind fun t102 => (if t102 = true then ((dec_May.f a2).bind fun t103 => (if t103 = true then (dec_Scaled.j0 k a0 a1 a2 (a2 == 0)) else (dec_Scaled.j0 k a0 a1 a2 true))) else (dec_Scaled.j0 k a0 a1 a2 true))) else (dec_Scaled.j0 k a0 a1 a2 true))
theorem dec_Scaled.mono_l : ∀ k, (∀ y0 y1 y2 y3, LeO (dec_Scaled.j0 k y0 y1 y2 y3) (dec_Scaled.j0 (k + 1) y0 y1 y2 y3)) ∧ (∀ y0 y1 y2 y3, LeO (dec_Scaled.j1 k y0 y1 y2 y3) (dec_Scaled.j1 (k + 1) y0 y1 y2 y3))
 | 0 => ⟨fun _ _ _ _ r h => by simp [dec_Scaled.j0] at h, fun _ _ _ _ r h => by simp [dec_Scaled.j1] at h⟩
 | k + 1 => by
  obtain ⟨ih0, ih1⟩ := dec_Scaled.mono_l k
  refine ⟨?_, ?_⟩
  ·intro y0 y1 y2 y3
   unfold dec_Scaled.j0
   repeat' first
   | (with_reducible exact ih0 _ _ _ _)
   | (with_reducible exact ih1 _ _ _ _)
   | (with_reducible exact bits_Div64.mono _ _ _ _)
   | (with_reducible exact LeO.refl _)
   | (with_reducible exact LeO.none _)
   | (with_reducible refine LeO.ite ?_ ?_)
   | (with_reducible refine LeO.bind ?_ (fun _ => ?_))
  ·intro y0 y1 y2 y3
   unfold dec_Scaled.j1
   repeat' first
   | (with_reducible exact ih0 _ _ _ _)
   | (with_reducible exact ih1 _ _ _ _)
   | (with_reducible exact bits_Div64.mono _ _ _ _)
   | (with_reducible exact LeO.refl _)
   | (with_reducible exact LeO.none _)
   | (with_reducible refine LeO.ite ?_ ?_)
   | (with_reducible refine LeO.bind ?_ (fun _ => ?_))
theorem dec_Scaled.mono : ∀ a0 a1 a2 k, LeO (dec_Scaled.f k a0 a1 a2) (dec_Scaled.f (k + 1) a0 a1 a2) := by
 intro a0 a1 a2 k; obtain ⟨ih0, ih1⟩ := dec_Scaled.mono_l k
 unfold dec_Scaled.f
 repeat' first
   | (with_reducible exact ih0 _ _ _ _)
   | (with_reducible exact ih1 _ _ _ _)
   | (with_reducible exact bits_Div64.mono _ _ _ _)
   | (with_reducible exact LeO.refl _)
   | (with_reducible exact LeO.none _)
   | (with_reducible refine LeO.ite ?_ ?_)
   | (with_reducible refine LeO.bind ?_ (fun _ => ?_))
set_option maxHeartbeats 8000000 in
set_option maxRecDepth 100000 in
theorem dec_Scaled.calls (k : Nat) (a0 : Int) (a1 : Int) (a2 : Int) (r1 : Int) (r2 : Bool) (w : World) (h : dec_Scaled.f k a0 a1 a2 = some (r1, r2)) :
  Calls Try.prog 45 #[.int .i64 a0, .int .i64 a1, .int .i64 a2] w fun e w' => e = .returned (.tuple #[.int .i64 r1, .bool r2]) ∧ Drawn0 w w' := by
 have H : ((dec_May.f a0).bind fun t101 => (if t101 = true then ((dec_May.f a1).bind fun t102 => (if t102 = true then ((dec_May.f a2).bind fun t103 => (if t103 = true then (dec_Scaled.j0 k a0 a1 a2 (a2 == 0)) else (dec_Scaled.j0 k a0 a1 a2 true))) else (dec_Scaled.j0 k a0 a1 a2 true))) else (dec_Scaled.j0 k a0 a1 a2 true))) = some (r1, r2) := h
 clear h; have HC4 := Aside0.mk H; clear H
 go_enter Try.func45, Try.ntmps45
 go_upto_region 1 with (fail)
 go_cut [29] (fun v29 wc => ∃ (kq : Nat) (x29_3 : Bool), v29 = .bool x29_3 ∧ Aside0 (dec_Scaled.j0 kq a0 a1 a2 x29_3 = some (r1, r2)) ∧ Aside0 (kq ≤ k) ∧ Drawn0 w wc)
 case first =>
  have H := HC4.out; clear HC4; replace H := Option.bind_eq_some_iff.mp H; obtain ⟨t101, A50, H⟩ := H
  replace H : (if t101 = true then ((dec_May.f a1).bind fun t102 => (if t102 = true then ((dec_May.f a2).bind fun t103 => (if t103 = true then (dec_Scaled.j0 k a0 a1 a2 (a2 == 0)) else (dec_Scaled.j0 k a0 a1 a2 true))) else (dec_Scaled.j0 k a0 a1 a2 true))) else (dec_Scaled.j0 k a0 a1 a2 true)) = some (r1, r2) := H
  have A5 := Aside0.mk A50; clear A50
  by_cases c6 : t101 = true
  ·subst c6
   have H1 : ((dec_May.f a1).bind fun t102 => (if t102 = true then ((dec_May.f a2).bind fun t103 => (if t103 = true then (dec_Scaled.j0 k a0 a1 a2 (a2 == 0)) else (dec_Scaled.j0 k a0 a1 a2 true))) else (dec_Scaled.j0 k a0 a1 a2 true))) = some (r1, r2) := by rw [if_pos rfl] at H; exact H
   clear H; have H := H1; clear H1; replace H := Option.bind_eq_some_iff.mp H; obtain ⟨t102, A70, H⟩ := H
   replace H : (if t102 = true then ((dec_May.f a2).bind fun t103 => (if t103 = true then (dec_Scaled.j0 k a0 a1 a2 (a2 == 0)) else (dec_Scaled.j0 k a0 a1 a2 true))) else (dec_Scaled.j0 k a0 a1 a2 true)) = some (r1, r2) := H
   have A7 := Aside0.mk A70; clear A70
   by_cases c8 : t102 = true
   ·subst c8
    have H1 : ((dec_May.f a2).bind fun t103 => (if t103 = true then (dec_Scaled.j0 k a0 a1 a2 (a2 == 0)) else (dec_Scaled.j0 k a0 a1 a2 true))) = some (r1, r2) := by rw [if_pos rfl] at H; exact H
    clear H; have H := H1; clear H1; replace H := Option.bind_eq_some_iff.mp H; obtain ⟨t103, A90, H⟩ := H
    replace H : (if t103 = true then (dec_Scaled.j0 k a0 a1 a2 (a2 == 0)) else (dec_Scaled.j0 k a0 a1 a2 true)) = some (r1, r2) := H
    have A9 := Aside0.mk A90; clear A90
    by_cases c10 : t103 = true
    ·subst c10
     have H1 : (dec_Scaled.j0 k a0 a1 a2 (a2 == 0)) = some (r1, r2) := by rw [if_pos rfl] at H; exact H
     clear H; have H := H1; clear H1
     have H' := Aside0.mk H
     clear H
     go_wp2_with (first | ((with_reducible refine gate_callee (f:=42) rfl ?_); refine gL_ (some 14) rfl rfl Try.func42 rfl #[.int .i64 a0] rfl ?_; (with_reducible refine (dec_May.calls a0 true _ A5.out).mono ?_); rintro e w' ⟨rfl, ⟨nd, rfl⟩⟩; refine ⟨_, rfl, ?_⟩) | (go_at_call 42; (with_reducible refine (dec_May.calls a1 true _ A7.out).mono ?_); rintro e w' ⟨rfl, ⟨nd, rfl⟩⟩) | (go_at_call 42; (with_reducible refine (dec_May.calls a2 true _ A9.out).mono ?_); rintro e w' ⟨rfl, ⟨nd, rfl⟩⟩))
     go_meet
     case rel => exact ⟨_, ((a2 == 0)), (by first | rfl | (simp; done) | (simp [*]; done)), H', ⟨by first | omega | exact Nat.le_refl _⟩, by repeat (first | exact Drawn0.refl _ | apply Drawn0.step)⟩
    ·replace c10 := Bool.eq_false_iff.mpr c10; subst c10
     have H1 : (dec_Scaled.j0 k a0 a1 a2 true) = some (r1, r2) := by rw [if_neg (show ¬ (false = true) by decide)] at H; exact H
     clear H; have H := H1; clear H1
     have H' := Aside0.mk H
     clear H
     go_wp2_with (first | ((with_reducible refine gate_callee (f:=42) rfl ?_); refine gL_ (some 14) rfl rfl Try.func42 rfl #[.int .i64 a0] rfl ?_; (with_reducible refine (dec_May.calls a0 true _ A5.out).mono ?_); rintro e w' ⟨rfl, ⟨nd, rfl⟩⟩; refine ⟨_, rfl, ?_⟩) | (go_at_call 42; (with_reducible refine (dec_May.calls a1 true _ A7.out).mono ?_); rintro e w' ⟨rfl, ⟨nd, rfl⟩⟩) | (go_at_call 42; (with_reducible refine (dec_May.calls a2 false _ A9.out).mono ?_); rintro e w' ⟨rfl, ⟨nd, rfl⟩⟩))
     go_meet
     case rel => exact ⟨_, (true), (by first | rfl | (simp; done) | (simp [*]; done)), H', ⟨by first | omega | exact Nat.le_refl _⟩, by repeat (first | exact Drawn0.refl _ | apply Drawn0.step)⟩
   ·replace c8 := Bool.eq_false_iff.mpr c8; subst c8
    have H1 : (dec_Scaled.j0 k a0 a1 a2 true) = some (r1, r2) := by rw [if_neg (show ¬ (false = true) by decide)] at H; exact H
    clear H; have H := H1; clear H1
    have H' := Aside0.mk H
    clear H
    go_wp2_with (first | ((with_reducible refine gate_callee (f:=42) rfl ?_); refine gL_ (some 14) rfl rfl Try.func42 rfl #[.int .i64 a0] rfl ?_; (with_reducible refine (dec_May.calls a0 true _ A5.out).mono ?_); rintro e w' ⟨rfl, ⟨nd, rfl⟩⟩; refine ⟨_, rfl, ?_⟩) | (go_at_call 42; (with_reducible refine (dec_May.calls a1 false _ A7.out).mono ?_); rintro e w' ⟨rfl, ⟨nd, rfl⟩⟩))
    go_meet
    case rel => exact ⟨_, (true), (by first | rfl | (simp; done) | (simp [*]; done)), H', ⟨by first | omega | exact Nat.le_refl _⟩, by repeat (first | exact Drawn0.refl _ | apply Drawn0.step)⟩
  ·replace c6 := Bool.eq_false_iff.mpr c6; subst c6
   have H1 : (dec_Scaled.j0 k a0 a1 a2 true) = some (r1, r2) := by rw [if_neg (show ¬ (false = true) by decide)] at H; exact H
   clear H; have H := H1; clear H1
   have H' := Aside0.mk H
   clear H
   go_wp2_with (first | ((with_reducible refine gate_callee (f:=42) rfl ?_); refine gL_ (some 14) rfl rfl Try.func42 rfl #[.int .i64 a0] rfl ?_; (with_reducible refine (dec_May.calls a0 false _ A5.out).mono ?_); rintro e w' ⟨rfl, ⟨nd, rfl⟩⟩; refine ⟨_, rfl, ?_⟩))
   go_meet
   case rel => exact ⟨_, (true), (by first | rfl | (simp; done) | (simp [*]; done)), H', ⟨by first | omega | exact Nat.le_refl _⟩, by repeat (first | exact Drawn0.refl _ | apply Drawn0.step)⟩
 case rest =>
  clear HC4; (try clear c1); (try clear p2); (try clear c4); (try clear c6); (try clear c8); (try clear c10); obtain ⟨kq, x29_3, rfl, HA, HJ3, ⟨mc3, rfl⟩⟩ := hcut
  cases kq with
  | zero => exact absurd HA.out (by simp [dec_Scaled.j0])
  | succ kj3 =>
   have H := HA.out; clear HA
   simp only [dec_Scaled.j0] at H
   by_cases c11 : x29_3 = true
   ·subst c11
    have H1 : (some (0, false)) = some (r1, r2) := by rw [if_pos rfl] at H; exact H
    clear H; have H := H1; clear H1
    simp only [Option.some.injEq, Prod.mk.injEq] at H
    obtain ⟨rfl, rfl⟩ := H
    go_wp2
    go_ret2
    exact ⟨by first | rfl | (simp; done) | (simp [*]; done), by repeat (first | exact Drawn0.refl _ | apply Drawn0.step)⟩
   ·replace c11 := Bool.eq_false_iff.mpr c11; subst c11
    have H1 : ((dec_size.f a2).bind fun t104 => ((dec_size.f a0).bind fun t105 => ((dec_size.f a1).bind fun t106 => ((bits_Mul64.f t105 t106).bind fun bt107 => (if bt107.1 ≥ t104 then (some (0, false)) else ((bits_Div64.f kj3 bt107.1 bt107.2 t104).bind fun bt109 => (if bt109.2 ≥ (IntKind.u64.wrap (t104 - bt109.2)) then (dec_Scaled.j1 kj3 a0 a1 a2 (IntKind.u64.wrap (bt109.1 + 1))) else (dec_Scaled.j1 kj3 a0 a1 a2 bt109.1)))))))) = some (r1, r2) := by rw [if_neg (show ¬ (false = true) by decide)] at H; exact H
    clear H; have H := H1; clear H1; replace H := Option.bind_eq_some_iff.mp H; obtain ⟨t104, A120, H⟩ := H
    replace H : ((dec_size.f a0).bind fun t105 => ((dec_size.f a1).bind fun t106 => ((bits_Mul64.f t105 t106).bind fun bt107 => (if bt107.1 ≥ t104 then (some (0, false)) else ((bits_Div64.f kj3 bt107.1 bt107.2 t104).bind fun bt109 => (if bt109.2 ≥ (IntKind.u64.wrap (t104 - bt109.2)) then (dec_Scaled.j1 kj3 a0 a1 a2 (IntKind.u64.wrap (bt109.1 + 1))) else (dec_Scaled.j1 kj3 a0 a1 a2 bt109.1))))))) = some (r1, r2) := H
    have A12 := Aside0.mk A120; clear A120; replace H := Option.bind_eq_some_iff.mp H; obtain ⟨t105, A130, H⟩ := H
    replace H : ((dec_size.f a1).bind fun t106 => ((bits_Mul64.f t105 t106).bind fun bt107 => (if bt107.1 ≥ t104 then (some (0, false)) else ((bits_Div64.f kj3 bt107.1 bt107.2 t104).bind fun bt109 => (if bt109.2 ≥ (IntKind.u64.wrap (t104 - bt109.2)) then (dec_Scaled.j1 kj3 a0 a1 a2 (IntKind.u64.wrap (bt109.1 + 1))) else (dec_Scaled.j1 kj3 a0 a1 a2 bt109.1)))))) = some (r1, r2) := H
    have A13 := Aside0.mk A130; clear A130; replace H := Option.bind_eq_some_iff.mp H; obtain ⟨t106, A140, H⟩ := H
    replace H : ((bits_Mul64.f t105 t106).bind fun bt107 => (if bt107.1 ≥ t104 then (some (0, false)) else ((bits_Div64.f kj3 bt107.1 bt107.2 t104).bind fun bt109 => (if bt109.2 ≥ (IntKind.u64.wrap (t104 - bt109.2)) then (dec_Scaled.j1 kj3 a0 a1 a2 (IntKind.u64.wrap (bt109.1 + 1))) else (dec_Scaled.j1 kj3 a0 a1 a2 bt109.1))))) = some (r1, r2) := H
    have A14 := Aside0.mk A140; clear A140; replace H := Option.bind_eq_some_iff.mp H; obtain ⟨⟨t107, t108⟩, A150, H⟩ := H
    replace H : (if t107 ≥ t104 then (some (0, false)) else ((bits_Div64.f kj3 t107 t108 t104).bind fun bt109 => (if bt109.2 ≥ (IntKind.u64.wrap (t104 - bt109.2)) then (dec_Scaled.j1 kj3 a0 a1 a2 (IntKind.u64.wrap (bt109.1 + 1))) else (dec_Scaled.j1 kj3 a0 a1 a2 bt109.1)))) = some (r1, r2) := H
    have A15 := Aside0.mk A150; clear A150
    by_cases c16 : t107 ≥ t104
    ·rw [if_pos c16] at H; have c16b0 : decide (t104 ≤ t107) = true := decide_eq_true c16; clear c16
     simp only [Option.some.injEq, Prod.mk.injEq] at H
     obtain ⟨rfl, rfl⟩ := H
     go_wp2_with (first | ((with_reducible refine gate_callee (f:=55) rfl ?_); refine gL_ (some 31) rfl rfl Try.func55 rfl #[.int .i64 a2] rfl ?_; (with_reducible refine (dec_size.calls a2 t104 _ A12.out).mono ?_); rintro e w' ⟨rfl, ⟨nd, rfl⟩⟩; refine ⟨_, rfl, ?_⟩) | ((with_reducible refine gate_callee (f:=55) rfl ?_); refine gL_ (some 34) rfl rfl Try.func55 rfl #[.int .i64 a0] rfl ?_; (with_reducible refine (dec_size.calls a0 t105 _ A13.out).mono ?_); rintro e w' ⟨rfl, ⟨nd, rfl⟩⟩; refine ⟨_, rfl, ?_⟩) | ((with_reducible refine gate_callee (f:=55) rfl ?_); refine gL_ (some 36) rfl rfl Try.func55 rfl #[.int .i64 a1] rfl ?_; (with_reducible refine (dec_size.calls a1 t106 _ A14.out).mono ?_); rintro e w' ⟨rfl, ⟨nd, rfl⟩⟩; refine ⟨_, rfl, ?_⟩) | ((with_reducible refine gate_callee (f:=56) rfl ?_); refine gL_ (some 37) rfl rfl Try.func56 rfl #[.int .u64 t105, .int .u64 t106] rfl ?_; (with_reducible refine (bits_Mul64.calls t105 t106 t107 t108 _ A15.out).mono ?_); rintro e w' ⟨rfl, ⟨nd, rfl⟩⟩; refine ⟨_, rfl, ?_⟩))
     go_ret2
     exact ⟨by first | rfl | (simp; done) | (simp [*]; done), by repeat (first | exact Drawn0.refl _ | apply Drawn0.step)⟩
    ·rw [if_neg c16] at H; have c16b0 : decide (t104 ≤ t107) = false := decide_eq_false c16; clear c16; replace H := Option.bind_eq_some_iff.mp H; obtain ⟨⟨t109, t110⟩, A170, H⟩ := H
     replace H : (if t110 ≥ (IntKind.u64.wrap (t104 - t110)) then (dec_Scaled.j1 kj3 a0 a1 a2 (IntKind.u64.wrap (t109 + 1))) else (dec_Scaled.j1 kj3 a0 a1 a2 t109)) = some (r1, r2) := H
     have A17 := Aside0.mk A170; clear A170; have HC18 := Aside0.mk H; clear H
     go_upto_if 54 with (first | ((with_reducible refine gate_callee (f:=55) rfl ?_); refine gL_ (some 31) rfl rfl Try.func55 rfl #[.int .i64 a2] rfl ?_; (with_reducible refine (dec_size.calls a2 t104 _ A12.out).mono ?_); rintro e w' ⟨rfl, ⟨nd, rfl⟩⟩; refine ⟨_, rfl, ?_⟩) | ((with_reducible refine gate_callee (f:=55) rfl ?_); refine gL_ (some 34) rfl rfl Try.func55 rfl #[.int .i64 a0] rfl ?_; (with_reducible refine (dec_size.calls a0 t105 _ A13.out).mono ?_); rintro e w' ⟨rfl, ⟨nd, rfl⟩⟩; refine ⟨_, rfl, ?_⟩) | ((with_reducible refine gate_callee (f:=55) rfl ?_); refine gL_ (some 36) rfl rfl Try.func55 rfl #[.int .i64 a1] rfl ?_; (with_reducible refine (dec_size.calls a1 t106 _ A14.out).mono ?_); rintro e w' ⟨rfl, ⟨nd, rfl⟩⟩; refine ⟨_, rfl, ?_⟩) | ((with_reducible refine gate_callee (f:=56) rfl ?_); refine gL_ (some 37) rfl rfl Try.func56 rfl #[.int .u64 t105, .int .u64 t106] rfl ?_; (with_reducible refine (bits_Mul64.calls t105 t106 t107 t108 _ A15.out).mono ?_); rintro e w' ⟨rfl, ⟨nd, rfl⟩⟩; refine ⟨_, rfl, ?_⟩) | ((with_reducible refine gate_callee (f:=57) rfl ?_); refine gL_ (some 47) rfl rfl Try.func57 rfl #[.int .u64 t107, .int .u64 t108, .int .u64 t104] rfl ?_; (with_reducible refine (bits_Div64.calls kj3 t107 t108 t104 t109 t110 _ A17.out).mono ?_); rintro e w' ⟨rfl, ⟨nd, rfl⟩⟩; refine ⟨_, rfl, ?_⟩))
     (try simp only [q_])
     go_cut [11] (fun v11 wc => ∃ (kq : Nat) (x11_17 : Int), v11 = .int .u64 x11_17 ∧ Aside0 (dec_Scaled.j1 kq a0 a1 a2 x11_17 = some (r1, r2)) ∧ Aside0 (kq ≤ kj3) ∧ Drawn0 w wc)
     case first =>
      have H := HC18.out; clear HC18
      by_cases c19 : t110 ≥ (IntKind.u64.wrap (t104 - t110))
      ·rw [if_pos c19] at H; have c19b0 : decide ((IntKind.u64.wrap (t104 - t110)) ≤ t110) = true := decide_eq_true c19; clear c19; (first | rw [c19b0] | (simp only [i64_w, i32_w]; rw [c19b0]) | skip)
       have H' := Aside0.mk H
       clear H
       go_wp2
       go_meet
       case rel => exact ⟨_, (IntKind.u64.wrap (t109 + 1)), (by first | rfl | (simp; done) | (simp [*]; done) | (cases t109 <;> simp; done)), H', ⟨by have := HJ3.out; first | omega | exact Nat.le_refl _⟩, by repeat (first | exact Drawn0.refl _ | apply Drawn0.step)⟩
      ·rw [if_neg c19] at H; have c19b0 : decide ((IntKind.u64.wrap (t104 - t110)) ≤ t110) = false := decide_eq_false c19; clear c19; (first | rw [c19b0] | (simp only [i64_w, i32_w]; rw [c19b0]) | skip)
       have H' := Aside0.mk H
       clear H
       go_wp2
       go_meet
       case rel => exact ⟨_, (t109), (by first | rfl | (simp; done) | (simp [*]; done) | (cases t109 <;> simp; done)), H', ⟨by have := HJ3.out; first | omega | exact Nat.le_refl _⟩, by repeat (first | exact Drawn0.refl _ | apply Drawn0.step)⟩
     case rest =>
      clear HC18; (try clear c1); (try clear p2); (try clear c3); (try clear c4); (try clear c5); (try clear c6); (try clear c8); (try clear c10); (try clear c11); (try clear c16); (try clear c16b0); (try clear c19); (try clear c19b0); (try clear p2); obtain ⟨kq, x11_17, rfl, HA, HJ17, ⟨mc17, rfl⟩⟩ := hcut
      cases kq with
      | zero => exact absurd HA.out (by simp [dec_Scaled.j1])
      | succ kj17 =>
       have H := HA.out; clear HA
       simp only [dec_Scaled.j1] at H
       by_cases c20 : x11_17 > 9223372036854775807
       ·rw [if_pos c20] at H; have c20b0 : decide (9223372036854775807 < x11_17) = true := decide_eq_true c20; clear c20
        simp only [Option.some.injEq, Prod.mk.injEq] at H
        obtain ⟨rfl, rfl⟩ := H
        go_wp2
        go_ret2
        exact ⟨by first | rfl | (simp; done) | (simp [*]; done), by repeat (first | exact Drawn0.refl _ | apply Drawn0.step)⟩
       ·rw [if_neg c20] at H; have c20b0 : decide (9223372036854775807 < x11_17) = false := decide_eq_false c20; clear c20; replace H := Option.bind_eq_some_iff.mp H; obtain ⟨t111, A210, H⟩ := H
        replace H : ((dec_Sign.f a1).bind fun t112 => ((dec_Sign.f a2).bind fun t113 => (if (wrap64 ((wrap64 (t111 * t112)) * t113)) < 0 then (some (wrap64 (-(wrap64 (x11_17))), true)) else (some (wrap64 (x11_17), true))))) = some (r1, r2) := H
        have A21 := Aside0.mk A210; clear A210; replace H := Option.bind_eq_some_iff.mp H; obtain ⟨t112, A220, H⟩ := H
        replace H : ((dec_Sign.f a2).bind fun t113 => (if (wrap64 ((wrap64 (t111 * t112)) * t113)) < 0 then (some (wrap64 (-(wrap64 (x11_17))), true)) else (some (wrap64 (x11_17), true)))) = some (r1, r2) := H
        have A22 := Aside0.mk A220; clear A220; replace H := Option.bind_eq_some_iff.mp H; obtain ⟨t113, A230, H⟩ := H
        replace H : (if (wrap64 ((wrap64 (t111 * t112)) * t113)) < 0 then (some (wrap64 (-(wrap64 (x11_17))), true)) else (some (wrap64 (x11_17), true))) = some (r1, r2) := H
        have A23 := Aside0.mk A230; clear A230
        by_cases c24 : (wrap64 ((wrap64 (t111 * t112)) * t113)) < 0
        ·rw [if_pos c24] at H; have c24b0 : decide ((wrap64 ((wrap64 (t111 * t112)) * t113)) < 0) = true := decide_eq_true c24; clear c24
         simp only [Option.some.injEq, Prod.mk.injEq] at H
         obtain ⟨rfl, rfl⟩ := H
         go_wp2_with (first | ((with_reducible refine gate_callee (f:=49) rfl ?_); refine gL_ (some 60) rfl rfl Try.func49 rfl #[.int .i64 a0] rfl ?_; (with_reducible refine (dec_Sign.calls a0 t111 _ A21.out).mono ?_); rintro e w' ⟨rfl, ⟨nd, rfl⟩⟩; refine ⟨_, rfl, ?_⟩) | ((with_reducible refine gate_callee (f:=49) rfl ?_); refine gL_ (some 62) rfl rfl Try.func49 rfl #[.int .i64 a1] rfl ?_; (with_reducible refine (dec_Sign.calls a1 t112 _ A22.out).mono ?_); rintro e w' ⟨rfl, ⟨nd, rfl⟩⟩; refine ⟨_, rfl, ?_⟩) | ((with_reducible refine gate_callee (f:=49) rfl ?_); refine gL_ (some 65) rfl rfl Try.func49 rfl #[.int .i64 a2] rfl ?_; (with_reducible refine (dec_Sign.calls a2 t113 _ A23.out).mono ?_); rintro e w' ⟨rfl, ⟨nd, rfl⟩⟩; refine ⟨_, rfl, ?_⟩))
         go_ret2
         exact ⟨by first | rfl | (simp; done) | (simp [*]; done), by repeat (first | exact Drawn0.refl _ | apply Drawn0.step)⟩
        ·rw [if_neg c24] at H; have c24b0 : decide ((wrap64 ((wrap64 (t111 * t112)) * t113)) < 0) = false := decide_eq_false c24; clear c24
         simp only [Option.some.injEq, Prod.mk.injEq] at H
         obtain ⟨rfl, rfl⟩ := H
         go_wp2_with (first | ((with_reducible refine gate_callee (f:=49) rfl ?_); refine gL_ (some 60) rfl rfl Try.func49 rfl #[.int .i64 a0] rfl ?_; (with_reducible refine (dec_Sign.calls a0 t111 _ A21.out).mono ?_); rintro e w' ⟨rfl, ⟨nd, rfl⟩⟩; refine ⟨_, rfl, ?_⟩) | ((with_reducible refine gate_callee (f:=49) rfl ?_); refine gL_ (some 62) rfl rfl Try.func49 rfl #[.int .i64 a1] rfl ?_; (with_reducible refine (dec_Sign.calls a1 t112 _ A22.out).mono ?_); rintro e w' ⟨rfl, ⟨nd, rfl⟩⟩; refine ⟨_, rfl, ?_⟩) | ((with_reducible refine gate_callee (f:=49) rfl ?_); refine gL_ (some 65) rfl rfl Try.func49 rfl #[.int .i64 a2] rfl ?_; (with_reducible refine (dec_Sign.calls a2 t113 _ A23.out).mono ?_); rintro e w' ⟨rfl, ⟨nd, rfl⟩⟩; refine ⟨_, rfl, ?_⟩))
         go_ret2
         exact ⟨by first | rfl | (simp; done) | (simp [*]; done), by repeat (first | exact Drawn0.refl _ | apply Drawn0.step)⟩

def dec_Of.f (k : Nat) (a0 : Int) : Option (Int × Bool) := (dec_Scaled.f k a0 10000 1).bind fun bt101 => (some (bt101.1, bt101.2))
theorem dec_Of.mono : ∀ a0 k, LeO (dec_Of.f k a0) (dec_Of.f (k + 1) a0) := by
 intro a0 k
 unfold dec_Of.f
 repeat' first
   | (with_reducible exact dec_Scaled.mono _ _ _ _)
   | (with_reducible exact LeO.refl _)
   | (with_reducible exact LeO.none _)
   | (with_reducible refine LeO.ite ?_ ?_)
   | (with_reducible refine LeO.bind ?_ (fun _ => ?_))
set_option maxHeartbeats 8000000 in
set_option maxRecDepth 100000 in
theorem dec_Of.calls (k : Nat) (a0 : Int) (r1 : Int) (r2 : Bool) (w : World) (h : dec_Of.f k a0 = some (r1, r2)) :
  Calls Try.prog 35 #[.int .i64 a0] w fun e w' => e = .returned (.tuple #[.int .i64 r1, .bool r2]) ∧ Drawn0 w w' := by
 have H : ((dec_Scaled.f k a0 10000 1).bind fun bt101 => (some (bt101.1, bt101.2))) = some (r1, r2) := h
 clear h; replace H := Option.bind_eq_some_iff.mp H; obtain ⟨⟨t101, t102⟩, A20, H⟩ := H
 replace H : (some (t101, t102)) = some (r1, r2) := H
 have A2 := Aside0.mk A20; clear A20
 simp only [Option.some.injEq, Prod.mk.injEq] at H
 obtain ⟨rfl, rfl⟩ := H
 go_enter Try.func35, Try.ntmps35
 go_wp2_with (first | ((with_reducible refine gate_callee (f:=45) rfl ?_); refine gL_ (some 5) rfl rfl Try.func45 rfl #[.int .i64 a0, .int .i64 10000, .int .i64 1] rfl ?_; (with_reducible refine (dec_Scaled.calls k a0 10000 1 t101 t102 _ A2.out).mono ?_); rintro e w' ⟨rfl, ⟨nd, rfl⟩⟩; refine ⟨_, rfl, ?_⟩))
 go_ret2
 exact ⟨by first | rfl | (simp; done) | (simp [*]; done), by repeat (first | exact Drawn0.refl _ | apply Drawn0.step)⟩

def crit_sign.f (a0 : ByteArray) : Option (Int × Int) := if 0 ≤ (mn 2 (a0.size : Int)) then (if (mn 2 (a0.size : Int)) ≤ (a0.size : Int) then (if (a0.extract 0 ((mn 2 (a0.size : Int)) : Int).toNat).toList = ([60, 62] : List UInt8) then (some (8, 2)) else (if (a0.extract 0 ((mn 2 (a0.size : Int)) : Int).toNat).toList = ([60, 61] : List UInt8) then (some (10, 2)) else (if (a0.extract 0 ((mn 2 (a0.size : Int)) : Int).toNat).toList = ([62, 61] : List UInt8) then (some (12, 2)) else (if 0 ≤ (mn 1 (a0.size : Int)) then (if (mn 1 (a0.size : Int)) ≤ (a0.size : Int) then (if (a0.extract 0 ((mn 1 (a0.size : Int)) : Int).toNat).toList = ([60] : List UInt8) then (some (9, 1)) else (if (a0.extract 0 ((mn 1 (a0.size : Int)) : Int).toNat).toList = ([62] : List UInt8) then (some (11, 1)) else (if (a0.extract 0 ((mn 1 (a0.size : Int)) : Int).toNat).toList = ([61] : List UInt8) then (some (7, 1)) else (some (7, 0))))) else (none)) else (none))))) else (none)) else (none)
set_option maxHeartbeats 8000000 in
set_option maxRecDepth 100000 in
theorem crit_sign.calls (a0 : ByteArray) (r1 : Int) (r2 : Int) (w : World) (h : crit_sign.f a0 = some (r1, r2)) :
  Calls Try.prog 52 #[.string a0] w fun e w' => e = .returned (.tuple #[.int .i64 r1, .int .i64 r2]) ∧ Below w.heap.size w w' := by
 have HB := Aside0.mk (Below.refl w.heap.size w)
 have H : (if 0 ≤ (mn 2 (a0.size : Int)) then (if (mn 2 (a0.size : Int)) ≤ (a0.size : Int) then (if (a0.extract 0 ((mn 2 (a0.size : Int)) : Int).toNat).toList = ([60, 62] : List UInt8) then (some (8, 2)) else (if (a0.extract 0 ((mn 2 (a0.size : Int)) : Int).toNat).toList = ([60, 61] : List UInt8) then (some (10, 2)) else (if (a0.extract 0 ((mn 2 (a0.size : Int)) : Int).toNat).toList = ([62, 61] : List UInt8) then (some (12, 2)) else (if 0 ≤ (mn 1 (a0.size : Int)) then (if (mn 1 (a0.size : Int)) ≤ (a0.size : Int) then (if (a0.extract 0 ((mn 1 (a0.size : Int)) : Int).toNat).toList = ([60] : List UInt8) then (some (9, 1)) else (if (a0.extract 0 ((mn 1 (a0.size : Int)) : Int).toNat).toList = ([62] : List UInt8) then (some (11, 1)) else (if (a0.extract 0 ((mn 1 (a0.size : Int)) : Int).toNat).toList = ([61] : List UInt8) then (some (7, 1)) else (some (7, 0))))) else (none)) else (none))))) else (none)) else (none)) = some (r1, r2) := h
 clear h; obtain ⟨ji2, hji2⟩ : ∃ j_ : Int, (mn 2 (a0.size : Int)) = j_ := ⟨_, rfl⟩
 replace H : (if 0 ≤ (ji2) then (if (ji2) ≤ (a0.size : Int) then (if (a0.extract 0 ((ji2) : Int).toNat).toList = ([60, 62] : List UInt8) then (some (8, 2)) else (if (a0.extract 0 ((ji2) : Int).toNat).toList = ([60, 61] : List UInt8) then (some (10, 2)) else (if (a0.extract 0 ((ji2) : Int).toNat).toList = ([62, 61] : List UInt8) then (some (12, 2)) else (if 0 ≤ (mn 1 (a0.size : Int)) then (if (mn 1 (a0.size : Int)) ≤ (a0.size : Int) then (if (a0.extract 0 ((mn 1 (a0.size : Int)) : Int).toNat).toList = ([60] : List UInt8) then (some (9, 1)) else (if (a0.extract 0 ((mn 1 (a0.size : Int)) : Int).toNat).toList = ([62] : List UInt8) then (some (11, 1)) else (if (a0.extract 0 ((mn 1 (a0.size : Int)) : Int).toNat).toList = ([61] : List UInt8) then (some (7, 1)) else (some (7, 0))))) else (none)) else (none))))) else (none)) else (none)) = some (r1, r2) := by first | (rw [hji2] at H; exact H) | (simp only [hji2] at H ⊢; exact H)
 (try (have hji2h : ji2 ≤ 2 := by (rw [← hji2]; unfold mn; (repeat' split) <;> omega))); (try (have hji2g : ji2 ≤ 64 := by omega)); (try (have hji2l : 0 ≤ ji2 := by (rw [← hji2]; unfold mn; (repeat' split) <;> omega))); (try (have hji2m : 0 ≤ ji2 := by omega))
 have hji2_ : (if (a0.size : Int) < 2 then (a0.size : Int) else 2) = ji2 := hji2
 by_cases c3 : 0 ≤ (ji2)
 ·rw [if_pos c3] at H; have c3b0 := eq_true c3; have c3b1 : decide (0 ≤ (ji2)) = true := decide_eq_true c3; clear c3
  by_cases c4 : (ji2) ≤ (a0.size : Int)
  ·rw [if_pos c4] at H; have c4b0 := eq_true c4; have c4b1 : decide ((ji2) ≤ (a0.size : Int)) = true := decide_eq_true c4; clear c4
   by_cases c5 : (a0.extract 0 ((ji2) : Int).toNat).toList = ([60, 62] : List UInt8)
   ·rw [if_pos c5] at H; have c5b0 : ((a0.extract 0 ((ji2) : Int).toNat).toList == ([60, 62] : List UInt8)) = true := beq_iff_eq.mpr c5; have c5b1 : ((a0.extract 0 ((ji2) : Int).toNat).toList != ([60, 62] : List UInt8)) = false := bne_eq_false_iff_eq.mpr c5; clear c5
    simp only [Option.some.injEq, Prod.mk.injEq] at H
    obtain ⟨rfl, rfl⟩ := H
    go_enter Try.func52, Try.ntmps52
    go_wp2
    go_ret2
    exact ⟨by first | rfl | (simp [errW_none, errW_some] <;> rfl) | (simp only [← hji2]; first | rfl | (simp [errW_none, errW_some] <;> rfl)) | (simp [*, errW_none, errW_some] <;> rfl), pbx HB⟩
   ·rw [if_neg c5] at H; have c5b0 : ((a0.extract 0 ((ji2) : Int).toNat).toList == ([60, 62] : List UInt8)) = false := beq_eq_false_iff_ne.mpr c5; have c5b1 : ((a0.extract 0 ((ji2) : Int).toNat).toList != ([60, 62] : List UInt8)) = true := bne_iff_ne.mpr c5
    by_cases c6 : (a0.extract 0 ((ji2) : Int).toNat).toList = ([60, 61] : List UInt8)
    ·rw [if_pos c6] at H; have c6b0 : ((a0.extract 0 ((ji2) : Int).toNat).toList == ([60, 61] : List UInt8)) = true := beq_iff_eq.mpr c6; have c6b1 : ((a0.extract 0 ((ji2) : Int).toNat).toList != ([60, 61] : List UInt8)) = false := bne_eq_false_iff_eq.mpr c6; clear c6
     simp only [Option.some.injEq, Prod.mk.injEq] at H
     obtain ⟨rfl, rfl⟩ := H
     go_enter Try.func52, Try.ntmps52
     go_wp2
     go_ret2
     exact ⟨by first | rfl | (simp [errW_none, errW_some] <;> rfl) | (simp only [← hji2]; first | rfl | (simp [errW_none, errW_some] <;> rfl)) | (simp [*, errW_none, errW_some] <;> rfl), pbx HB⟩
    ·rw [if_neg c6] at H; have c6b0 : ((a0.extract 0 ((ji2) : Int).toNat).toList == ([60, 61] : List UInt8)) = false := beq_eq_false_iff_ne.mpr c6; have c6b1 : ((a0.extract 0 ((ji2) : Int).toNat).toList != ([60, 61] : List UInt8)) = true := bne_iff_ne.mpr c6
     by_cases c7 : (a0.extract 0 ((ji2) : Int).toNat).toList = ([62, 61] : List UInt8)
     ·rw [if_pos c7] at H; have c7b0 : ((a0.extract 0 ((ji2) : Int).toNat).toList == ([62, 61] : List UInt8)) = true := beq_iff_eq.mpr c7; have c7b1 : ((a0.extract 0 ((ji2) : Int).toNat).toList != ([62, 61] : List UInt8)) = false := bne_eq_false_iff_eq.mpr c7; clear c7
      simp only [Option.some.injEq, Prod.mk.injEq] at H
      obtain ⟨rfl, rfl⟩ := H
      go_enter Try.func52, Try.ntmps52
      go_wp2
      go_ret2
      exact ⟨by first | rfl | (simp [errW_none, errW_some] <;> rfl) | (simp only [← hji2]; first | rfl | (simp [errW_none, errW_some] <;> rfl)) | (simp [*, errW_none, errW_some] <;> rfl), pbx HB⟩
     ·rw [if_neg c7] at H; have c7b0 : ((a0.extract 0 ((ji2) : Int).toNat).toList == ([62, 61] : List UInt8)) = false := beq_eq_false_iff_ne.mpr c7; have c7b1 : ((a0.extract 0 ((ji2) : Int).toNat).toList != ([62, 61] : List UInt8)) = true := bne_iff_ne.mpr c7; obtain ⟨ji8, hji8⟩ : ∃ j_ : Int, (mn 1 (a0.size : Int)) = j_ := ⟨_, rfl⟩
      replace H : (if 0 ≤ (ji8) then (if (ji8) ≤ (a0.size : Int) then (if (a0.extract 0 ((ji8) : Int).toNat).toList = ([60] : List UInt8) then (some (9, 1)) else (if (a0.extract 0 ((ji8) : Int).toNat).toList = ([62] : List UInt8) then (some (11, 1)) else (if (a0.extract 0 ((ji8) : Int).toNat).toList = ([61] : List UInt8) then (some (7, 1)) else (some (7, 0))))) else (none)) else (none)) = some (r1, r2) := by first | (rw [hji8] at H; exact H) | (simp only [hji8] at H ⊢; exact H)
      (try (have hji8h : ji8 ≤ 1 := by (rw [← hji8]; unfold mn; (repeat' split) <;> omega))); (try (have hji8g : ji8 ≤ 64 := by omega)); (try (have hji8l : 0 ≤ ji8 := by (rw [← hji8]; unfold mn; (repeat' split) <;> omega))); (try (have hji8m : 0 ≤ ji8 := by omega))
      have hji8_ : (if (a0.size : Int) < 1 then (a0.size : Int) else 1) = ji8 := hji8
      by_cases c9 : 0 ≤ (ji8)
      ·rw [if_pos c9] at H; have c9b0 := eq_true c9; have c9b1 : decide (0 ≤ (ji8)) = true := decide_eq_true c9; clear c9
       by_cases c10 : (ji8) ≤ (a0.size : Int)
       ·rw [if_pos c10] at H; have c10b0 := eq_true c10; have c10b1 : decide ((ji8) ≤ (a0.size : Int)) = true := decide_eq_true c10; clear c10
        by_cases c11 : (a0.extract 0 ((ji8) : Int).toNat).toList = ([60] : List UInt8)
        ·rw [if_pos c11] at H; have c11b0 : ((a0.extract 0 ((ji8) : Int).toNat).toList == ([60] : List UInt8)) = true := beq_iff_eq.mpr c11; have c11b1 : ((a0.extract 0 ((ji8) : Int).toNat).toList != ([60] : List UInt8)) = false := bne_eq_false_iff_eq.mpr c11; clear c11
         simp only [Option.some.injEq, Prod.mk.injEq] at H
         obtain ⟨rfl, rfl⟩ := H
         go_enter Try.func52, Try.ntmps52
         go_wp2
         go_ret2
         exact ⟨by first | rfl | (simp [errW_none, errW_some] <;> rfl) | (simp only [← hji2, ← hji8]; first | rfl | (simp [errW_none, errW_some] <;> rfl)) | (simp [*, errW_none, errW_some] <;> rfl), pbx HB⟩
        ·rw [if_neg c11] at H; have c11b0 : ((a0.extract 0 ((ji8) : Int).toNat).toList == ([60] : List UInt8)) = false := beq_eq_false_iff_ne.mpr c11; have c11b1 : ((a0.extract 0 ((ji8) : Int).toNat).toList != ([60] : List UInt8)) = true := bne_iff_ne.mpr c11
         by_cases c12 : (a0.extract 0 ((ji8) : Int).toNat).toList = ([62] : List UInt8)
         ·rw [if_pos c12] at H; have c12b0 : ((a0.extract 0 ((ji8) : Int).toNat).toList == ([62] : List UInt8)) = true := beq_iff_eq.mpr c12; have c12b1 : ((a0.extract 0 ((ji8) : Int).toNat).toList != ([62] : List UInt8)) = false := bne_eq_false_iff_eq.mpr c12; clear c12
          simp only [Option.some.injEq, Prod.mk.injEq] at H
          obtain ⟨rfl, rfl⟩ := H
          go_enter Try.func52, Try.ntmps52
          go_wp2
          go_ret2
          exact ⟨by first | rfl | (simp [errW_none, errW_some] <;> rfl) | (simp only [← hji2, ← hji8]; first | rfl | (simp [errW_none, errW_some] <;> rfl)) | (simp [*, errW_none, errW_some] <;> rfl), pbx HB⟩
         ·rw [if_neg c12] at H; have c12b0 : ((a0.extract 0 ((ji8) : Int).toNat).toList == ([62] : List UInt8)) = false := beq_eq_false_iff_ne.mpr c12; have c12b1 : ((a0.extract 0 ((ji8) : Int).toNat).toList != ([62] : List UInt8)) = true := bne_iff_ne.mpr c12
          by_cases c13 : (a0.extract 0 ((ji8) : Int).toNat).toList = ([61] : List UInt8)
          ·rw [if_pos c13] at H; have c13b0 : ((a0.extract 0 ((ji8) : Int).toNat).toList == ([61] : List UInt8)) = true := beq_iff_eq.mpr c13; have c13b1 : ((a0.extract 0 ((ji8) : Int).toNat).toList != ([61] : List UInt8)) = false := bne_eq_false_iff_eq.mpr c13; clear c13
           simp only [Option.some.injEq, Prod.mk.injEq] at H
           obtain ⟨rfl, rfl⟩ := H
           go_enter Try.func52, Try.ntmps52
           go_wp2
           go_ret2
           exact ⟨by first | rfl | (simp [errW_none, errW_some] <;> rfl) | (simp only [← hji2, ← hji8]; first | rfl | (simp [errW_none, errW_some] <;> rfl)) | (simp [*, errW_none, errW_some] <;> rfl), pbx HB⟩
          ·rw [if_neg c13] at H; have c13b0 : ((a0.extract 0 ((ji8) : Int).toNat).toList == ([61] : List UInt8)) = false := beq_eq_false_iff_ne.mpr c13; have c13b1 : ((a0.extract 0 ((ji8) : Int).toNat).toList != ([61] : List UInt8)) = true := bne_iff_ne.mpr c13
           simp only [Option.some.injEq, Prod.mk.injEq] at H
           obtain ⟨rfl, rfl⟩ := H
           go_enter Try.func52, Try.ntmps52
           go_wp2
           go_ret2
           exact ⟨by first | rfl | (simp [errW_none, errW_some] <;> rfl) | (simp only [← hji2, ← hji8]; first | rfl | (simp [errW_none, errW_some] <;> rfl)) | (simp [*, errW_none, errW_some] <;> rfl), pbx HB⟩
       ·rw [if_neg c10] at H
        exact absurd H (by simp)
      ·rw [if_neg c9] at H
       exact absurd H (by simp)
  ·rw [if_neg c4] at H
   exact absurd H (by simp)
 ·rw [if_neg c3] at H
  exact absurd H (by simp)

end Go.Proofs.Ytejkoenlfcghbaa.X
/- The contract, by hand, of internal/stringslite.Index at a needle of one byte: out of the shelf's. -/
set_option linter.unusedVariables false
namespace Go.Proofs.Ytejkoenlfcghbaa.X
open Go.RowKit Go.Proofs.YtejkoenlfcghbaaW.PrintWords Go.Proofs.YtejkoenlfcghbaaW.PrintLast Go.Proofs.YtejkoenlfcghbaaW.PrintMore
def stringslite_Index.f (a0 : ByteArray) (a1 : ByteArray) : Option Int := if h : a1.size = 1 then some (Lib.indexByte a0.data.toList (a1[0]'(by omega))) else none
theorem stringslite_Index.calls (a0 : ByteArray) (a1 : ByteArray) (r : Int) (w : World) (h : stringslite_Index.f a0 a1 = some r) :
    Calls Try.prog 74 #[.string a0, .string a1] w fun e w' => e = .returned (.int .i64 r) ∧ Drawn0 w w' := by
  unfold stringslite_Index.f at h
  by_cases hs : a1.size = 1
  · rw [dif_pos hs] at h
    obtain rfl := Option.some.inj h
    obtain ⟨⟨l⟩⟩ := a1
    obtain ⟨c, rfl⟩ : ∃ c, l = [c] := by
      match l, hs with
      | [c], _ => exact ⟨c, rfl⟩
    refine (Try.stringslite_Index_one a0 c w).mono ?_
    rintro e w' ⟨rfl, rfl⟩
    exact ⟨rfl, Drawn0.refl _⟩
  · rw [dif_neg hs] at h
    cases h
end Go.Proofs.Ytejkoenlfcghbaa.X
namespace Go.Proofs.Ytejkoenlfcghbaa.X
open Go.RowKit Go.Proofs.YtejkoenlfcghbaaW.PrintWords Go.Proofs.YtejkoenlfcghbaaW.PrintLast Go.Proofs.YtejkoenlfcghbaaW.PrintMore
attribute [local go_sem] max2_int min2_int max_two min_two max_three min_three max_four min_four
set_option linter.unusedVariables false
set_option linter.unusedSimpArgs false
def stringslite_Cut.f (a0 : ByteArray) (a1 : ByteArray) : Option (ByteArray × ByteArray × Bool) := (stringslite_Index.f a0 a1).bind fun t101 => (if t101 ≥ 0 then (if 0 ≤ t101 then (if t101 ≤ (a0.size : Int) then (if 0 ≤ (wrap64 (t101 + (a1.size : Int))) then (if (wrap64 (t101 + (a1.size : Int))) ≤ (a0.size : Int) then (some (a0.extract 0 (t101 : Int).toNat, a0.extract ((wrap64 (t101 + (a1.size : Int))) : Int).toNat a0.size, true)) else (none)) else (none)) else (none)) else (none)) else (some (a0, (⟨#[]⟩ : ByteArray), false)))
set_option maxHeartbeats 8000000 in
set_option maxRecDepth 100000 in
theorem stringslite_Cut.calls (a0 : ByteArray) (a1 : ByteArray) (r1 : ByteArray) (r2 : ByteArray) (r3 : Bool) (w : World) (h : stringslite_Cut.f a0 a1 = some (r1, r2, r3)) :
  Calls Try.prog 70 #[.string a0, .string a1] w fun e w' => e = .returned (.tuple #[.string r1, .string r2, .bool r3]) ∧ Drawn0 w w' := by
 have H : ((stringslite_Index.f a0 a1).bind fun t101 => (if t101 ≥ 0 then (if 0 ≤ t101 then (if t101 ≤ (a0.size : Int) then (if 0 ≤ (wrap64 (t101 + (a1.size : Int))) then (if (wrap64 (t101 + (a1.size : Int))) ≤ (a0.size : Int) then (some (a0.extract 0 (t101 : Int).toNat, a0.extract ((wrap64 (t101 + (a1.size : Int))) : Int).toNat a0.size, true)) else (none)) else (none)) else (none)) else (none)) else (some (a0, (⟨#[]⟩ : ByteArray), false)))) = some (r1, r2, r3) := h
 clear h; replace H := Option.bind_eq_some_iff.mp H; obtain ⟨t101, A30, H⟩ := H
 replace H : (if t101 ≥ 0 then (if 0 ≤ t101 then (if t101 ≤ (a0.size : Int) then (if 0 ≤ (wrap64 (t101 + (a1.size : Int))) then (if (wrap64 (t101 + (a1.size : Int))) ≤ (a0.size : Int) then (some (a0.extract 0 (t101 : Int).toNat, a0.extract ((wrap64 (t101 + (a1.size : Int))) : Int).toNat a0.size, true)) else (none)) else (none)) else (none)) else (none)) else (some (a0, (⟨#[]⟩ : ByteArray), false))) = some (r1, r2, r3) := H
 have A3 := Aside0.mk A30; clear A30
 by_cases c4 : t101 ≥ 0
 ·rw [if_pos c4] at H; have c4b0 : decide (0 ≤ t101) = true := decide_eq_true c4; clear c4
  by_cases c5 : 0 ≤ t101
  ·rw [if_pos c5] at H; have c5b0 := eq_true c5; have c5b1 : decide (0 ≤ t101) = true := decide_eq_true c5; clear c5
   by_cases c6 : t101 ≤ (a0.size : Int)
   ·rw [if_pos c6] at H; have c6b0 := eq_true c6; have c6b1 : decide (t101 ≤ (a0.size : Int)) = true := decide_eq_true c6; clear c6; obtain ⟨ji7, hji7⟩ : ∃ j_ : Int, (wrap64 (t101 + (a1.size : Int))) = j_ := ⟨_, rfl⟩
    replace H : (if 0 ≤ (ji7) then (if (ji7) ≤ (a0.size : Int) then (some (a0.extract 0 (t101 : Int).toNat, a0.extract ((ji7) : Int).toNat a0.size, true)) else (none)) else (none)) = some (r1, r2, r3) := by first | (rw [hji7] at H; exact H) | (simp only [hji7] at H ⊢; exact H)
    (try rw [hji7] at A3)
    have hji7w : (IntKind.i64.wrap (t101 + (a1.size : Int))) = ji7 := (i64_w _).trans hji7
    by_cases c8 : 0 ≤ (ji7)
    ·rw [if_pos c8] at H; have c8b0 := eq_true c8; have c8b1 : decide (0 ≤ (ji7)) = true := decide_eq_true c8; clear c8
     by_cases c9 : (ji7) ≤ (a0.size : Int)
     ·rw [if_pos c9] at H; have c9b0 := eq_true c9; have c9b1 : decide ((ji7) ≤ (a0.size : Int)) = true := decide_eq_true c9; clear c9
      simp only [Option.some.injEq, Prod.mk.injEq] at H
      obtain ⟨rfl, rfl, rfl⟩ := H
      go_enter Try.func70, Try.ntmps70
      go_wp2_with (first | (go_at_call 74; (with_reducible refine (stringslite_Index.calls a0 a1 t101 _ A3.out).mono ?_); rintro e w' ⟨rfl, ⟨nd, rfl⟩⟩; (try first | exact ⟨rfl, _, World.drewN_drewN _ _ _⟩ | exact ⟨rfl, _, Eq.trans (World.drewN_drewN _ _ _) (congrArg (World.drewN _) (Nat.add_assoc _ _ _))⟩)))
      repeat (go_quiet (first | (go_at_call 74; (with_reducible refine (stringslite_Index.calls a0 a1 t101 _ A3.out).mono ?_); rintro e w' ⟨rfl, ⟨nd, rfl⟩⟩; (try first | exact ⟨rfl, _, World.drewN_drewN _ _ _⟩ | exact ⟨rfl, _, Eq.trans (World.drewN_drewN _ _ _) (congrArg (World.drewN _) (Nat.add_assoc _ _ _))⟩))); try go_wp2_with (first | (go_at_call 74; (with_reducible refine (stringslite_Index.calls a0 a1 t101 _ A3.out).mono ?_); rintro e w' ⟨rfl, ⟨nd, rfl⟩⟩; (try first | exact ⟨rfl, _, World.drewN_drewN _ _ _⟩ | exact ⟨rfl, _, Eq.trans (World.drewN_drewN _ _ _) (congrArg (World.drewN _) (Nat.add_assoc _ _ _))⟩))))
      go_ret3
      exact ⟨by first | rfl | (simp; done) | (simp only [← hji7] <;> (first | rfl | simp)) | (simp [*]; done), by repeat (first | exact Drawn0.refl _ | apply Drawn0.step)⟩
     ·rw [if_neg c9] at H
      exact absurd H (by simp)
    ·rw [if_neg c8] at H
     exact absurd H (by simp)
   ·rw [if_neg c6] at H
    exact absurd H (by simp)
  ·rw [if_neg c5] at H
   exact absurd H (by simp)
 ·rw [if_neg c4] at H; have c4b0 : decide (0 ≤ t101) = false := decide_eq_false c4; clear c4
  simp only [Option.some.injEq, Prod.mk.injEq] at H
  obtain ⟨rfl, rfl, rfl⟩ := H
  go_enter Try.func70, Try.ntmps70
  go_wp2_with (first | (go_at_call 74; (with_reducible refine (stringslite_Index.calls a0 a1 t101 _ A3.out).mono ?_); rintro e w' ⟨rfl, ⟨nd, rfl⟩⟩; (try first | exact ⟨rfl, _, World.drewN_drewN _ _ _⟩ | exact ⟨rfl, _, Eq.trans (World.drewN_drewN _ _ _) (congrArg (World.drewN _) (Nat.add_assoc _ _ _))⟩)))
  repeat (go_quiet (first | (go_at_call 74; (with_reducible refine (stringslite_Index.calls a0 a1 t101 _ A3.out).mono ?_); rintro e w' ⟨rfl, ⟨nd, rfl⟩⟩; (try first | exact ⟨rfl, _, World.drewN_drewN _ _ _⟩ | exact ⟨rfl, _, Eq.trans (World.drewN_drewN _ _ _) (congrArg (World.drewN _) (Nat.add_assoc _ _ _))⟩))); try go_wp2_with (first | (go_at_call 74; (with_reducible refine (stringslite_Index.calls a0 a1 t101 _ A3.out).mono ?_); rintro e w' ⟨rfl, ⟨nd, rfl⟩⟩; (try first | exact ⟨rfl, _, World.drewN_drewN _ _ _⟩ | exact ⟨rfl, _, Eq.trans (World.drewN_drewN _ _ _) (congrArg (World.drewN _) (Nat.add_assoc _ _ _))⟩))))
  go_ret3
  exact ⟨by first | rfl | (simp; done) | (simp [*]; done), by repeat (first | exact Drawn0.refl _ | apply Drawn0.step)⟩

def strings_Cut.f (a0 : ByteArray) (a1 : ByteArray) : Option (ByteArray × ByteArray × Bool) := (stringslite_Cut.f a0 a1).bind fun bt101 => (some (bt101.1, bt101.2.1, bt101.2.2))
set_option maxHeartbeats 8000000 in
set_option maxRecDepth 100000 in
theorem strings_Cut.calls (a0 : ByteArray) (a1 : ByteArray) (r1 : ByteArray) (r2 : ByteArray) (r3 : Bool) (w : World) (h : strings_Cut.f a0 a1 = some (r1, r2, r3)) :
  Calls Try.prog 62 #[.string a0, .string a1] w fun e w' => e = .returned (.tuple #[.string r1, .string r2, .bool r3]) ∧ Drawn0 w w' := by
 have H : ((stringslite_Cut.f a0 a1).bind fun bt101 => (some (bt101.1, bt101.2.1, bt101.2.2))) = some (r1, r2, r3) := h
 clear h; replace H := Option.bind_eq_some_iff.mp H; obtain ⟨⟨t101, t102, t103⟩, A30, H⟩ := H
 replace H : (some (t101, t102, t103)) = some (r1, r2, r3) := H
 have A3 := Aside0.mk A30; clear A30
 simp only [Option.some.injEq, Prod.mk.injEq] at H
 obtain ⟨rfl, rfl, rfl⟩ := H
 go_enter Try.func62, Try.ntmps62
 go_wp2_with (first | ((with_reducible refine gate_callee (f:=70) rfl ?_); refine gL_ (some 9) rfl rfl Try.func70 rfl #[.string a0, .string a1] rfl ?_; (with_reducible refine (stringslite_Cut.calls a0 a1 t101 t102 t103 _ A3.out).mono ?_); rintro e w' ⟨rfl, ⟨nd, rfl⟩⟩; refine ⟨_, rfl, ?_⟩))
 go_ret3
 exact ⟨by first | rfl | (simp; done) | (simp [*]; done), by repeat (first | exact Drawn0.refl _ | apply Drawn0.step)⟩

def stringslite_HasPrefix.f (a0 : ByteArray) (a1 : ByteArray) : Option (Bool) := if (a0.size : Int) ≥ (a1.size : Int) then (if 0 ≤ (a1.size : Int) then (if (a1.size : Int) ≤ (a0.size : Int) then (some ((a0.extract 0 a1.size).toList == a1.toList)) else (none)) else (none)) else (some false)
set_option maxHeartbeats 8000000 in
set_option maxRecDepth 100000 in
theorem stringslite_HasPrefix.calls (a0 : ByteArray) (a1 : ByteArray) (r : Bool) (w : World) (h : stringslite_HasPrefix.f a0 a1 = some r) :
  Calls Try.prog 75 #[.string a0, .string a1] w fun e w' => e = .returned (.bool r) ∧ Drawn0 w w' := by
 have H : (if (a0.size : Int) ≥ (a1.size : Int) then (if 0 ≤ (a1.size : Int) then (if (a1.size : Int) ≤ (a0.size : Int) then (some ((a0.extract 0 a1.size).toList == a1.toList)) else (none)) else (none)) else (some false)) = some r := h
 clear h
 by_cases c3 : (a0.size : Int) ≥ (a1.size : Int)
 ·rw [if_pos c3] at H; have c3b0 : decide ((a1.size : Int) ≤ (a0.size : Int)) = true := decide_eq_true c3; have c3b1 : decide (a1.size ≤ a0.size) = true := decide_eq_true (Int.ofNat_le.mp c3); clear c3
  by_cases c4 : 0 ≤ (a1.size : Int)
  ·rw [if_pos c4] at H; have c4b0 := eq_true c4; have c4b1 : decide (0 ≤ (a1.size : Int)) = true := decide_eq_true c4; clear c4
   by_cases c5 : (a1.size : Int) ≤ (a0.size : Int)
   ·rw [if_pos c5] at H; have c5b0 := eq_true c5; have c5b1 : decide ((a1.size : Int) ≤ (a0.size : Int)) = true := decide_eq_true c5; clear c5; obtain rfl := Option.some.inj H
    go_enter Try.func75, Try.ntmps75
    go_wp2
    go_ret
    exact ⟨by first | rfl | (simp; done) | (simp [*]; done), by repeat (first | exact Drawn0.refl _ | apply Drawn0.step)⟩
   ·rw [if_neg c5] at H
    exact absurd H (by simp)
  ·rw [if_neg c4] at H
   exact absurd H (by simp)
 ·rw [if_neg c3] at H; have c3b0 : decide ((a1.size : Int) ≤ (a0.size : Int)) = false := decide_eq_false c3; have c3b1 : decide (a1.size ≤ a0.size) = false := decide_eq_false (fun h => c3 (Int.ofNat_le.mpr h)); clear c3; obtain rfl := Option.some.inj H
  go_enter Try.func75, Try.ntmps75
  go_wp2
  go_ret
  exact ⟨by first | rfl | (simp; done) | (simp [*]; done), by repeat (first | exact Drawn0.refl _ | apply Drawn0.step)⟩

def stringslite_CutPrefix.f (a0 : ByteArray) (a1 : ByteArray) : Option (ByteArray × Bool) := (stringslite_HasPrefix.f a0 a1).bind fun t101 => (if t101 = true then (if 0 ≤ (a1.size : Int) then (if (a1.size : Int) ≤ (a0.size : Int) then (some (a0.extract a1.size a0.size, true)) else (none)) else (none)) else (some (a0, false)))
set_option maxHeartbeats 8000000 in
set_option maxRecDepth 100000 in
theorem stringslite_CutPrefix.calls (a0 : ByteArray) (a1 : ByteArray) (r1 : ByteArray) (r2 : Bool) (w : World) (h : stringslite_CutPrefix.f a0 a1 = some (r1, r2)) :
  Calls Try.prog 72 #[.string a0, .string a1] w fun e w' => e = .returned (.tuple #[.string r1, .bool r2]) ∧ Drawn0 w w' := by
 have H : ((stringslite_HasPrefix.f a0 a1).bind fun t101 => (if t101 = true then (if 0 ≤ (a1.size : Int) then (if (a1.size : Int) ≤ (a0.size : Int) then (some (a0.extract a1.size a0.size, true)) else (none)) else (none)) else (some (a0, false)))) = some (r1, r2) := h
 clear h; replace H := Option.bind_eq_some_iff.mp H; obtain ⟨t101, A30, H⟩ := H
 replace H : (if t101 = true then (if 0 ≤ (a1.size : Int) then (if (a1.size : Int) ≤ (a0.size : Int) then (some (a0.extract a1.size a0.size, true)) else (none)) else (none)) else (some (a0, false))) = some (r1, r2) := H
 have A3 := Aside0.mk A30; clear A30
 by_cases c4 : t101 = true
 ·subst c4
  have H1 : (if 0 ≤ (a1.size : Int) then (if (a1.size : Int) ≤ (a0.size : Int) then (some (a0.extract a1.size a0.size, true)) else (none)) else (none)) = some (r1, r2) := by rw [if_pos rfl] at H; exact H
  clear H; have H := H1; clear H1
  by_cases c5 : 0 ≤ (a1.size : Int)
  ·rw [if_pos c5] at H; have c5b0 := eq_true c5; have c5b1 : decide (0 ≤ (a1.size : Int)) = true := decide_eq_true c5; clear c5
   by_cases c6 : (a1.size : Int) ≤ (a0.size : Int)
   ·rw [if_pos c6] at H; have c6b0 := eq_true c6; have c6b1 : decide ((a1.size : Int) ≤ (a0.size : Int)) = true := decide_eq_true c6; clear c6
    simp only [Option.some.injEq, Prod.mk.injEq] at H
    obtain ⟨rfl, rfl⟩ := H
    go_enter Try.func72, Try.ntmps72
    go_wp2_with (first | ((with_reducible refine gate_callee (f:=75) rfl ?_); refine gL_ (some 8) rfl rfl Try.func75 rfl #[.string a0, .string a1] rfl ?_; (with_reducible refine (stringslite_HasPrefix.calls a0 a1 true _ A3.out).mono ?_); rintro e w' ⟨rfl, ⟨nd, rfl⟩⟩; refine ⟨_, rfl, ?_⟩))
    go_ret2
    exact ⟨by first | rfl | (simp; done) | (simp [*]; done), by repeat (first | exact Drawn0.refl _ | apply Drawn0.step)⟩
   ·rw [if_neg c6] at H
    exact absurd H (by simp)
  ·rw [if_neg c5] at H
   exact absurd H (by simp)
 ·replace c4 := Bool.eq_false_iff.mpr c4; subst c4
  have H1 : (some (a0, false)) = some (r1, r2) := by rw [if_neg (show ¬ (false = true) by decide)] at H; exact H
  clear H; have H := H1; clear H1
  simp only [Option.some.injEq, Prod.mk.injEq] at H
  obtain ⟨rfl, rfl⟩ := H
  go_enter Try.func72, Try.ntmps72
  go_wp2_with (first | ((with_reducible refine gate_callee (f:=75) rfl ?_); refine gL_ (some 8) rfl rfl Try.func75 rfl #[.string a0, .string a1] rfl ?_; (with_reducible refine (stringslite_HasPrefix.calls a0 a1 false _ A3.out).mono ?_); rintro e w' ⟨rfl, ⟨nd, rfl⟩⟩; refine ⟨_, rfl, ?_⟩))
  go_ret2
  exact ⟨by first | rfl | (simp; done) | (simp [*]; done), by repeat (first | exact Drawn0.refl _ | apply Drawn0.step)⟩

def strings_CutPrefix.f (a0 : ByteArray) (a1 : ByteArray) : Option (ByteArray × Bool) := (stringslite_CutPrefix.f a0 a1).bind fun bt101 => (some (bt101.1, bt101.2))
set_option maxHeartbeats 8000000 in
set_option maxRecDepth 100000 in
theorem strings_CutPrefix.calls (a0 : ByteArray) (a1 : ByteArray) (r1 : ByteArray) (r2 : Bool) (w : World) (h : strings_CutPrefix.f a0 a1 = some (r1, r2)) :
  Calls Try.prog 66 #[.string a0, .string a1] w fun e w' => e = .returned (.tuple #[.string r1, .bool r2]) ∧ Drawn0 w w' := by
 have H : ((stringslite_CutPrefix.f a0 a1).bind fun bt101 => (some (bt101.1, bt101.2))) = some (r1, r2) := h
 clear h; replace H := Option.bind_eq_some_iff.mp H; obtain ⟨⟨t101, t102⟩, A30, H⟩ := H
 replace H : (some (t101, t102)) = some (r1, r2) := H
 have A3 := Aside0.mk A30; clear A30
 simp only [Option.some.injEq, Prod.mk.injEq] at H
 obtain ⟨rfl, rfl⟩ := H
 go_enter Try.func66, Try.ntmps66
 go_wp2_with (first | ((with_reducible refine gate_callee (f:=72) rfl ?_); refine gL_ (some 8) rfl rfl Try.func72 rfl #[.string a0, .string a1] rfl ?_; (with_reducible refine (stringslite_CutPrefix.calls a0 a1 t101 t102 _ A3.out).mono ?_); rintro e w' ⟨rfl, ⟨nd, rfl⟩⟩; refine ⟨_, rfl, ?_⟩))
 go_ret2
 exact ⟨by first | rfl | (simp; done) | (simp [*]; done), by repeat (first | exact Drawn0.refl _ | apply Drawn0.step)⟩

def dec_Add.j0 : Nat → Int → Bool → Option (Int × Bool)
 | 0, _, _ => none
 | k + 1, x6, x46 => if x46 = true then (some (0, false)) else (some (x6, true))
def dec_Add.f (k : Nat) (a0 : Int) (a1 : Int) : Option (Int × Bool) := (dec_May.f a0).bind fun t101 => (if t101 = true then ((dec_May.f a1).bind fun t102 => (if t102 = true then ((dec_May.f (wrap64 (a0 + a1))).bind fun t103 => (if t103 = true then (if a0 > 0 then (if a1 > 0 then (if (wrap64 (a0 + a1)) < 0 then (dec_Add.j0 k (wrap64 (a0 + a1)) true) else (if a0 < 0 then (if a1 < 0 then (dec_Add.j0 k (wrap64 (a0 + a1)) (decide ((wrap64 (a0 + a1)) ≥ 0))) else (dec_Add.j0 k (wrap64 (a0 + a1)) false)) else (dec_Add.j0 k (wrap64 (a0 + a1)) false))) else (if a0 < 0 then (if a1 < 0 then (dec_Add.j0 k (wrap64 (a0 + a1)) (decide ((wrap64 (a0 + a1)) ≥ 0))) else (dec_Add.j0 k (wrap64 (a0 + a1)) false)) else (dec_Add.j0 k (wrap64 (a0 + a1)) false))) else (if a0 < 0 then (if a1 < 0 then (dec_Add.j0 k (wrap64 (a0 + a1)) (decide ((wrap64 (a0 + a1)) ≥ 0))) else (dec_Add.j0 k (wrap64 (a0 + a1)) false)) else (dec_Add.j0 k (wrap64 (a0 + a1)) false))) else (dec_Add.j0 k (wrap64 (a0 + a1)) true))) else (dec_Add.j0 k (wrap64 (a0 + a1)) true))) else (dec_Add.j0 k (wrap64 (a0 + a1)) true))
theorem dec_Add.mono_l : ∀ k, (∀ y0 y1, LeO (dec_Add.j0 k y0 y1) (dec_Add.j0 (k + 1) y0 y1))
 | 0 => fun _ _ r h => by simp [dec_Add.j0] at h
 | k + 1 => by
  have ih0 := dec_Add.mono_l k
  ·intro y0 y1
   unfold dec_Add.j0
   repeat' first
   | (with_reducible exact ih0 _ _)
   | (with_reducible exact LeO.refl _)
   | (with_reducible exact LeO.none _)
   | (with_reducible refine LeO.ite ?_ ?_)
   | (with_reducible refine LeO.bind ?_ (fun _ => ?_))
theorem dec_Add.mono : ∀ a0 a1 k, LeO (dec_Add.f k a0 a1) (dec_Add.f (k + 1) a0 a1) := by
 intro a0 a1 k; have ih0 := dec_Add.mono_l k
 unfold dec_Add.f
 repeat' first
   | (with_reducible exact ih0 _ _)
   | (with_reducible exact LeO.refl _)
   | (with_reducible exact LeO.none _)
   | (with_reducible refine LeO.ite ?_ ?_)
   | (with_reducible refine LeO.bind ?_ (fun _ => ?_))
set_option maxHeartbeats 8000000 in
set_option maxRecDepth 100000 in
theorem dec_Add.calls (k : Nat) (a0 : Int) (a1 : Int) (r1 : Int) (r2 : Bool) (w : World) (h : dec_Add.f k a0 a1 = some (r1, r2)) :
  Calls Try.prog 39 #[.int .i64 a0, .int .i64 a1] w fun e w' => e = .returned (.tuple #[.int .i64 r1, .bool r2]) ∧ Drawn0 w w' := by
 have H : ((dec_May.f a0).bind fun t101 => (if t101 = true then ((dec_May.f a1).bind fun t102 => (if t102 = true then ((dec_May.f (wrap64 (a0 + a1))).bind fun t103 => (if t103 = true then (if a0 > 0 then (if a1 > 0 then (if (wrap64 (a0 + a1)) < 0 then (dec_Add.j0 k (wrap64 (a0 + a1)) true) else (if a0 < 0 then (if a1 < 0 then (dec_Add.j0 k (wrap64 (a0 + a1)) (decide ((wrap64 (a0 + a1)) ≥ 0))) else (dec_Add.j0 k (wrap64 (a0 + a1)) false)) else (dec_Add.j0 k (wrap64 (a0 + a1)) false))) else (if a0 < 0 then (if a1 < 0 then (dec_Add.j0 k (wrap64 (a0 + a1)) (decide ((wrap64 (a0 + a1)) ≥ 0))) else (dec_Add.j0 k (wrap64 (a0 + a1)) false)) else (dec_Add.j0 k (wrap64 (a0 + a1)) false))) else (if a0 < 0 then (if a1 < 0 then (dec_Add.j0 k (wrap64 (a0 + a1)) (decide ((wrap64 (a0 + a1)) ≥ 0))) else (dec_Add.j0 k (wrap64 (a0 + a1)) false)) else (dec_Add.j0 k (wrap64 (a0 + a1)) false))) else (dec_Add.j0 k (wrap64 (a0 + a1)) true))) else (dec_Add.j0 k (wrap64 (a0 + a1)) true))) else (dec_Add.j0 k (wrap64 (a0 + a1)) true))) = some (r1, r2) := h
 clear h; have HC3 := Aside0.mk H; clear H
 go_enter Try.func39, Try.ntmps39
 go_upto_region 2 with (fail)
 go_cut [46] (fun v46 wc => ∃ (kq : Nat) (x46_2 : Bool), v46 = .bool x46_2 ∧ Aside0 (dec_Add.j0 kq (wrap64 (a0 + a1)) x46_2 = some (r1, r2)) ∧ Aside0 (kq ≤ k) ∧ Drawn0 w wc)
 case first =>
  have H := HC3.out; clear HC3; replace H := Option.bind_eq_some_iff.mp H; obtain ⟨t101, A40, H⟩ := H
  replace H : (if t101 = true then ((dec_May.f a1).bind fun t102 => (if t102 = true then ((dec_May.f (wrap64 (a0 + a1))).bind fun t103 => (if t103 = true then (if a0 > 0 then (if a1 > 0 then (if (wrap64 (a0 + a1)) < 0 then (dec_Add.j0 k (wrap64 (a0 + a1)) true) else (if a0 < 0 then (if a1 < 0 then (dec_Add.j0 k (wrap64 (a0 + a1)) (decide ((wrap64 (a0 + a1)) ≥ 0))) else (dec_Add.j0 k (wrap64 (a0 + a1)) false)) else (dec_Add.j0 k (wrap64 (a0 + a1)) false))) else (if a0 < 0 then (if a1 < 0 then (dec_Add.j0 k (wrap64 (a0 + a1)) (decide ((wrap64 (a0 + a1)) ≥ 0))) else (dec_Add.j0 k (wrap64 (a0 + a1)) false)) else (dec_Add.j0 k (wrap64 (a0 + a1)) false))) else (if a0 < 0 then (if a1 < 0 then (dec_Add.j0 k (wrap64 (a0 + a1)) (decide ((wrap64 (a0 + a1)) ≥ 0))) else (dec_Add.j0 k (wrap64 (a0 + a1)) false)) else (dec_Add.j0 k (wrap64 (a0 + a1)) false))) else (dec_Add.j0 k (wrap64 (a0 + a1)) true))) else (dec_Add.j0 k (wrap64 (a0 + a1)) true))) else (dec_Add.j0 k (wrap64 (a0 + a1)) true)) = some (r1, r2) := H
  have A4 := Aside0.mk A40; clear A40
  by_cases c5 : t101 = true
  ·subst c5
   have H1 : ((dec_May.f a1).bind fun t102 => (if t102 = true then ((dec_May.f (wrap64 (a0 + a1))).bind fun t103 => (if t103 = true then (if a0 > 0 then (if a1 > 0 then (if (wrap64 (a0 + a1)) < 0 then (dec_Add.j0 k (wrap64 (a0 + a1)) true) else (if a0 < 0 then (if a1 < 0 then (dec_Add.j0 k (wrap64 (a0 + a1)) (decide ((wrap64 (a0 + a1)) ≥ 0))) else (dec_Add.j0 k (wrap64 (a0 + a1)) false)) else (dec_Add.j0 k (wrap64 (a0 + a1)) false))) else (if a0 < 0 then (if a1 < 0 then (dec_Add.j0 k (wrap64 (a0 + a1)) (decide ((wrap64 (a0 + a1)) ≥ 0))) else (dec_Add.j0 k (wrap64 (a0 + a1)) false)) else (dec_Add.j0 k (wrap64 (a0 + a1)) false))) else (if a0 < 0 then (if a1 < 0 then (dec_Add.j0 k (wrap64 (a0 + a1)) (decide ((wrap64 (a0 + a1)) ≥ 0))) else (dec_Add.j0 k (wrap64 (a0 + a1)) false)) else (dec_Add.j0 k (wrap64 (a0 + a1)) false))) else (dec_Add.j0 k (wrap64 (a0 + a1)) true))) else (dec_Add.j0 k (wrap64 (a0 + a1)) true))) = some (r1, r2) := by rw [if_pos rfl] at H; exact H
   clear H; have H := H1; clear H1; replace H := Option.bind_eq_some_iff.mp H; obtain ⟨t102, A60, H⟩ := H
   replace H : (if t102 = true then ((dec_May.f (wrap64 (a0 + a1))).bind fun t103 => (if t103 = true then (if a0 > 0 then (if a1 > 0 then (if (wrap64 (a0 + a1)) < 0 then (dec_Add.j0 k (wrap64 (a0 + a1)) true) else (if a0 < 0 then (if a1 < 0 then (dec_Add.j0 k (wrap64 (a0 + a1)) (decide ((wrap64 (a0 + a1)) ≥ 0))) else (dec_Add.j0 k (wrap64 (a0 + a1)) false)) else (dec_Add.j0 k (wrap64 (a0 + a1)) false))) else (if a0 < 0 then (if a1 < 0 then (dec_Add.j0 k (wrap64 (a0 + a1)) (decide ((wrap64 (a0 + a1)) ≥ 0))) else (dec_Add.j0 k (wrap64 (a0 + a1)) false)) else (dec_Add.j0 k (wrap64 (a0 + a1)) false))) else (if a0 < 0 then (if a1 < 0 then (dec_Add.j0 k (wrap64 (a0 + a1)) (decide ((wrap64 (a0 + a1)) ≥ 0))) else (dec_Add.j0 k (wrap64 (a0 + a1)) false)) else (dec_Add.j0 k (wrap64 (a0 + a1)) false))) else (dec_Add.j0 k (wrap64 (a0 + a1)) true))) else (dec_Add.j0 k (wrap64 (a0 + a1)) true)) = some (r1, r2) := H
   have A6 := Aside0.mk A60; clear A60
   by_cases c7 : t102 = true
   ·subst c7
    have H1 : ((dec_May.f (wrap64 (a0 + a1))).bind fun t103 => (if t103 = true then (if a0 > 0 then (if a1 > 0 then (if (wrap64 (a0 + a1)) < 0 then (dec_Add.j0 k (wrap64 (a0 + a1)) true) else (if a0 < 0 then (if a1 < 0 then (dec_Add.j0 k (wrap64 (a0 + a1)) (decide ((wrap64 (a0 + a1)) ≥ 0))) else (dec_Add.j0 k (wrap64 (a0 + a1)) false)) else (dec_Add.j0 k (wrap64 (a0 + a1)) false))) else (if a0 < 0 then (if a1 < 0 then (dec_Add.j0 k (wrap64 (a0 + a1)) (decide ((wrap64 (a0 + a1)) ≥ 0))) else (dec_Add.j0 k (wrap64 (a0 + a1)) false)) else (dec_Add.j0 k (wrap64 (a0 + a1)) false))) else (if a0 < 0 then (if a1 < 0 then (dec_Add.j0 k (wrap64 (a0 + a1)) (decide ((wrap64 (a0 + a1)) ≥ 0))) else (dec_Add.j0 k (wrap64 (a0 + a1)) false)) else (dec_Add.j0 k (wrap64 (a0 + a1)) false))) else (dec_Add.j0 k (wrap64 (a0 + a1)) true))) = some (r1, r2) := by rw [if_pos rfl] at H; exact H
    clear H; have H := H1; clear H1; replace H := Option.bind_eq_some_iff.mp H; obtain ⟨t103, A80, H⟩ := H
    replace H : (if t103 = true then (if a0 > 0 then (if a1 > 0 then (if (wrap64 (a0 + a1)) < 0 then (dec_Add.j0 k (wrap64 (a0 + a1)) true) else (if a0 < 0 then (if a1 < 0 then (dec_Add.j0 k (wrap64 (a0 + a1)) (decide ((wrap64 (a0 + a1)) ≥ 0))) else (dec_Add.j0 k (wrap64 (a0 + a1)) false)) else (dec_Add.j0 k (wrap64 (a0 + a1)) false))) else (if a0 < 0 then (if a1 < 0 then (dec_Add.j0 k (wrap64 (a0 + a1)) (decide ((wrap64 (a0 + a1)) ≥ 0))) else (dec_Add.j0 k (wrap64 (a0 + a1)) false)) else (dec_Add.j0 k (wrap64 (a0 + a1)) false))) else (if a0 < 0 then (if a1 < 0 then (dec_Add.j0 k (wrap64 (a0 + a1)) (decide ((wrap64 (a0 + a1)) ≥ 0))) else (dec_Add.j0 k (wrap64 (a0 + a1)) false)) else (dec_Add.j0 k (wrap64 (a0 + a1)) false))) else (dec_Add.j0 k (wrap64 (a0 + a1)) true)) = some (r1, r2) := H
    have A8 := Aside0.mk A80; clear A80
    by_cases c9 : t103 = true
    ·subst c9
     have H1 : (if a0 > 0 then (if a1 > 0 then (if (wrap64 (a0 + a1)) < 0 then (dec_Add.j0 k (wrap64 (a0 + a1)) true) else (if a0 < 0 then (if a1 < 0 then (dec_Add.j0 k (wrap64 (a0 + a1)) (decide ((wrap64 (a0 + a1)) ≥ 0))) else (dec_Add.j0 k (wrap64 (a0 + a1)) false)) else (dec_Add.j0 k (wrap64 (a0 + a1)) false))) else (if a0 < 0 then (if a1 < 0 then (dec_Add.j0 k (wrap64 (a0 + a1)) (decide ((wrap64 (a0 + a1)) ≥ 0))) else (dec_Add.j0 k (wrap64 (a0 + a1)) false)) else (dec_Add.j0 k (wrap64 (a0 + a1)) false))) else (if a0 < 0 then (if a1 < 0 then (dec_Add.j0 k (wrap64 (a0 + a1)) (decide ((wrap64 (a0 + a1)) ≥ 0))) else (dec_Add.j0 k (wrap64 (a0 + a1)) false)) else (dec_Add.j0 k (wrap64 (a0 + a1)) false))) = some (r1, r2) := by rw [if_pos rfl] at H; exact H
     clear H; have H := H1; clear H1
     by_cases c10 : a0 > 0
     ·rw [if_pos c10] at H; have c10b0 : decide (0 < a0) = true := decide_eq_true c10; clear c10; (first | rw [c10b0] | (simp only [i64_w, i32_w]; rw [c10b0]) | skip)
      by_cases c11 : a1 > 0
      ·rw [if_pos c11] at H; have c11b0 : decide (0 < a1) = true := decide_eq_true c11; clear c11
       by_cases c12 : (wrap64 (a0 + a1)) < 0
       ·rw [if_pos c12] at H; have c12b0 : decide ((wrap64 (a0 + a1)) < 0) = true := decide_eq_true c12; clear c12
        have H' := Aside0.mk H
        clear H
        go_wp2_with (first | ((with_reducible refine gate_callee (f:=42) rfl ?_); refine gL_ (some 11) rfl rfl Try.func42 rfl #[.int .i64 a0] rfl ?_; (with_reducible refine (dec_May.calls a0 true _ A4.out).mono ?_); rintro e w' ⟨rfl, ⟨nd, rfl⟩⟩; refine ⟨_, rfl, ?_⟩) | (go_at_call 42; (with_reducible refine (dec_May.calls a1 true _ A6.out).mono ?_); rintro e w' ⟨rfl, ⟨nd, rfl⟩⟩) | (go_at_call 42; (with_reducible refine (dec_May.calls (wrap64 (a0 + a1)) true _ A8.out).mono ?_); rintro e w' ⟨rfl, ⟨nd, rfl⟩⟩))
        go_meet
        case rel => exact ⟨_, (true), (by first | rfl | (simp; done) | (simp [*]; done)), H', ⟨by first | omega | exact Nat.le_refl _⟩, by repeat (first | exact Drawn0.refl _ | apply Drawn0.step)⟩
       ·rw [if_neg c12] at H; have c12b0 : decide ((wrap64 (a0 + a1)) < 0) = false := decide_eq_false c12; clear c12
        by_cases c13 : a0 < 0
        ·rw [if_pos c13] at H; have c13b0 : decide (a0 < 0) = true := decide_eq_true c13; clear c13
         by_cases c14 : a1 < 0
         ·rw [if_pos c14] at H; have c14b0 : decide (a1 < 0) = true := decide_eq_true c14; clear c14
          have H' := Aside0.mk H
          clear H
          go_wp2_with (first | ((with_reducible refine gate_callee (f:=42) rfl ?_); refine gL_ (some 11) rfl rfl Try.func42 rfl #[.int .i64 a0] rfl ?_; (with_reducible refine (dec_May.calls a0 true _ A4.out).mono ?_); rintro e w' ⟨rfl, ⟨nd, rfl⟩⟩; refine ⟨_, rfl, ?_⟩) | (go_at_call 42; (with_reducible refine (dec_May.calls a1 true _ A6.out).mono ?_); rintro e w' ⟨rfl, ⟨nd, rfl⟩⟩) | (go_at_call 42; (with_reducible refine (dec_May.calls (wrap64 (a0 + a1)) true _ A8.out).mono ?_); rintro e w' ⟨rfl, ⟨nd, rfl⟩⟩))
          go_meet
          case rel => exact ⟨_, (decide ((wrap64 (a0 + a1)) ≥ 0)), (by first | rfl | (simp; done) | (simp [*]; done)), H', ⟨by first | omega | exact Nat.le_refl _⟩, by repeat (first | exact Drawn0.refl _ | apply Drawn0.step)⟩
         ·rw [if_neg c14] at H; have c14b0 : decide (a1 < 0) = false := decide_eq_false c14; clear c14
          have H' := Aside0.mk H
          clear H
          go_wp2_with (first | ((with_reducible refine gate_callee (f:=42) rfl ?_); refine gL_ (some 11) rfl rfl Try.func42 rfl #[.int .i64 a0] rfl ?_; (with_reducible refine (dec_May.calls a0 true _ A4.out).mono ?_); rintro e w' ⟨rfl, ⟨nd, rfl⟩⟩; refine ⟨_, rfl, ?_⟩) | (go_at_call 42; (with_reducible refine (dec_May.calls a1 true _ A6.out).mono ?_); rintro e w' ⟨rfl, ⟨nd, rfl⟩⟩) | (go_at_call 42; (with_reducible refine (dec_May.calls (wrap64 (a0 + a1)) true _ A8.out).mono ?_); rintro e w' ⟨rfl, ⟨nd, rfl⟩⟩))
          go_meet
          case rel => exact ⟨_, (false), (by first | rfl | (simp; done) | (simp [*]; done)), H', ⟨by first | omega | exact Nat.le_refl _⟩, by repeat (first | exact Drawn0.refl _ | apply Drawn0.step)⟩
        ·rw [if_neg c13] at H; have c13b0 : decide (a0 < 0) = false := decide_eq_false c13; clear c13
         have H' := Aside0.mk H
         clear H
         go_wp2_with (first | ((with_reducible refine gate_callee (f:=42) rfl ?_); refine gL_ (some 11) rfl rfl Try.func42 rfl #[.int .i64 a0] rfl ?_; (with_reducible refine (dec_May.calls a0 true _ A4.out).mono ?_); rintro e w' ⟨rfl, ⟨nd, rfl⟩⟩; refine ⟨_, rfl, ?_⟩) | (go_at_call 42; (with_reducible refine (dec_May.calls a1 true _ A6.out).mono ?_); rintro e w' ⟨rfl, ⟨nd, rfl⟩⟩) | (go_at_call 42; (with_reducible refine (dec_May.calls (wrap64 (a0 + a1)) true _ A8.out).mono ?_); rintro e w' ⟨rfl, ⟨nd, rfl⟩⟩))
         go_meet
         case rel => exact ⟨_, (false), (by first | rfl | (simp; done) | (simp [*]; done)), H', ⟨by first | omega | exact Nat.le_refl _⟩, by repeat (first | exact Drawn0.refl _ | apply Drawn0.step)⟩
      ·rw [if_neg c11] at H; have c11b0 : decide (0 < a1) = false := decide_eq_false c11; clear c11
       by_cases c15 : a0 < 0
       ·rw [if_pos c15] at H; have c15b0 : decide (a0 < 0) = true := decide_eq_true c15; clear c15
        by_cases c16 : a1 < 0
        ·rw [if_pos c16] at H; have c16b0 : decide (a1 < 0) = true := decide_eq_true c16; clear c16
         have H' := Aside0.mk H
         clear H
         go_wp2_with (first | ((with_reducible refine gate_callee (f:=42) rfl ?_); refine gL_ (some 11) rfl rfl Try.func42 rfl #[.int .i64 a0] rfl ?_; (with_reducible refine (dec_May.calls a0 true _ A4.out).mono ?_); rintro e w' ⟨rfl, ⟨nd, rfl⟩⟩; refine ⟨_, rfl, ?_⟩) | (go_at_call 42; (with_reducible refine (dec_May.calls a1 true _ A6.out).mono ?_); rintro e w' ⟨rfl, ⟨nd, rfl⟩⟩) | (go_at_call 42; (with_reducible refine (dec_May.calls (wrap64 (a0 + a1)) true _ A8.out).mono ?_); rintro e w' ⟨rfl, ⟨nd, rfl⟩⟩))
         go_meet
         case rel => exact ⟨_, (decide ((wrap64 (a0 + a1)) ≥ 0)), (by first | rfl | (simp; done) | (simp [*]; done)), H', ⟨by first | omega | exact Nat.le_refl _⟩, by repeat (first | exact Drawn0.refl _ | apply Drawn0.step)⟩
        ·rw [if_neg c16] at H; have c16b0 : decide (a1 < 0) = false := decide_eq_false c16; clear c16
         have H' := Aside0.mk H
         clear H
         go_wp2_with (first | ((with_reducible refine gate_callee (f:=42) rfl ?_); refine gL_ (some 11) rfl rfl Try.func42 rfl #[.int .i64 a0] rfl ?_; (with_reducible refine (dec_May.calls a0 true _ A4.out).mono ?_); rintro e w' ⟨rfl, ⟨nd, rfl⟩⟩; refine ⟨_, rfl, ?_⟩) | (go_at_call 42; (with_reducible refine (dec_May.calls a1 true _ A6.out).mono ?_); rintro e w' ⟨rfl, ⟨nd, rfl⟩⟩) | (go_at_call 42; (with_reducible refine (dec_May.calls (wrap64 (a0 + a1)) true _ A8.out).mono ?_); rintro e w' ⟨rfl, ⟨nd, rfl⟩⟩))
         go_meet
         case rel => exact ⟨_, (false), (by first | rfl | (simp; done) | (simp [*]; done)), H', ⟨by first | omega | exact Nat.le_refl _⟩, by repeat (first | exact Drawn0.refl _ | apply Drawn0.step)⟩
       ·rw [if_neg c15] at H; have c15b0 : decide (a0 < 0) = false := decide_eq_false c15; clear c15
        have H' := Aside0.mk H
        clear H
        go_wp2_with (first | ((with_reducible refine gate_callee (f:=42) rfl ?_); refine gL_ (some 11) rfl rfl Try.func42 rfl #[.int .i64 a0] rfl ?_; (with_reducible refine (dec_May.calls a0 true _ A4.out).mono ?_); rintro e w' ⟨rfl, ⟨nd, rfl⟩⟩; refine ⟨_, rfl, ?_⟩) | (go_at_call 42; (with_reducible refine (dec_May.calls a1 true _ A6.out).mono ?_); rintro e w' ⟨rfl, ⟨nd, rfl⟩⟩) | (go_at_call 42; (with_reducible refine (dec_May.calls (wrap64 (a0 + a1)) true _ A8.out).mono ?_); rintro e w' ⟨rfl, ⟨nd, rfl⟩⟩))
        go_meet
        case rel => exact ⟨_, (false), (by first | rfl | (simp; done) | (simp [*]; done)), H', ⟨by first | omega | exact Nat.le_refl _⟩, by repeat (first | exact Drawn0.refl _ | apply Drawn0.step)⟩
     ·rw [if_neg c10] at H; have c10b0 : decide (0 < a0) = false := decide_eq_false c10; clear c10; (first | rw [c10b0] | (simp only [i64_w, i32_w]; rw [c10b0]) | skip)
      by_cases c17 : a0 < 0
      ·rw [if_pos c17] at H; have c17b0 : decide (a0 < 0) = true := decide_eq_true c17; clear c17
       by_cases c18 : a1 < 0
       ·rw [if_pos c18] at H; have c18b0 : decide (a1 < 0) = true := decide_eq_true c18; clear c18
        have H' := Aside0.mk H
        clear H
        go_wp2_with (first | ((with_reducible refine gate_callee (f:=42) rfl ?_); refine gL_ (some 11) rfl rfl Try.func42 rfl #[.int .i64 a0] rfl ?_; (with_reducible refine (dec_May.calls a0 true _ A4.out).mono ?_); rintro e w' ⟨rfl, ⟨nd, rfl⟩⟩; refine ⟨_, rfl, ?_⟩) | (go_at_call 42; (with_reducible refine (dec_May.calls a1 true _ A6.out).mono ?_); rintro e w' ⟨rfl, ⟨nd, rfl⟩⟩) | (go_at_call 42; (with_reducible refine (dec_May.calls (wrap64 (a0 + a1)) true _ A8.out).mono ?_); rintro e w' ⟨rfl, ⟨nd, rfl⟩⟩))
        go_meet
        case rel => exact ⟨_, (decide ((wrap64 (a0 + a1)) ≥ 0)), (by first | rfl | (simp; done) | (simp [*]; done)), H', ⟨by first | omega | exact Nat.le_refl _⟩, by repeat (first | exact Drawn0.refl _ | apply Drawn0.step)⟩
       ·rw [if_neg c18] at H; have c18b0 : decide (a1 < 0) = false := decide_eq_false c18; clear c18
        have H' := Aside0.mk H
        clear H
        go_wp2_with (first | ((with_reducible refine gate_callee (f:=42) rfl ?_); refine gL_ (some 11) rfl rfl Try.func42 rfl #[.int .i64 a0] rfl ?_; (with_reducible refine (dec_May.calls a0 true _ A4.out).mono ?_); rintro e w' ⟨rfl, ⟨nd, rfl⟩⟩; refine ⟨_, rfl, ?_⟩) | (go_at_call 42; (with_reducible refine (dec_May.calls a1 true _ A6.out).mono ?_); rintro e w' ⟨rfl, ⟨nd, rfl⟩⟩) | (go_at_call 42; (with_reducible refine (dec_May.calls (wrap64 (a0 + a1)) true _ A8.out).mono ?_); rintro e w' ⟨rfl, ⟨nd, rfl⟩⟩))
        go_meet
        case rel => exact ⟨_, (false), (by first | rfl | (simp; done) | (simp [*]; done)), H', ⟨by first | omega | exact Nat.le_refl _⟩, by repeat (first | exact Drawn0.refl _ | apply Drawn0.step)⟩
      ·rw [if_neg c17] at H; have c17b0 : decide (a0 < 0) = false := decide_eq_false c17; clear c17
       have H' := Aside0.mk H
       clear H
       go_wp2_with (first | ((with_reducible refine gate_callee (f:=42) rfl ?_); refine gL_ (some 11) rfl rfl Try.func42 rfl #[.int .i64 a0] rfl ?_; (with_reducible refine (dec_May.calls a0 true _ A4.out).mono ?_); rintro e w' ⟨rfl, ⟨nd, rfl⟩⟩; refine ⟨_, rfl, ?_⟩) | (go_at_call 42; (with_reducible refine (dec_May.calls a1 true _ A6.out).mono ?_); rintro e w' ⟨rfl, ⟨nd, rfl⟩⟩) | (go_at_call 42; (with_reducible refine (dec_May.calls (wrap64 (a0 + a1)) true _ A8.out).mono ?_); rintro e w' ⟨rfl, ⟨nd, rfl⟩⟩))
       go_meet
       case rel => exact ⟨_, (false), (by first | rfl | (simp; done) | (simp [*]; done)), H', ⟨by first | omega | exact Nat.le_refl _⟩, by repeat (first | exact Drawn0.refl _ | apply Drawn0.step)⟩
    ·replace c9 := Bool.eq_false_iff.mpr c9; subst c9
     have H1 : (dec_Add.j0 k (wrap64 (a0 + a1)) true) = some (r1, r2) := by rw [if_neg (show ¬ (false = true) by decide)] at H; exact H
     clear H; have H := H1; clear H1
     have H' := Aside0.mk H
     clear H
     go_wp2_with (first | ((with_reducible refine gate_callee (f:=42) rfl ?_); refine gL_ (some 11) rfl rfl Try.func42 rfl #[.int .i64 a0] rfl ?_; (with_reducible refine (dec_May.calls a0 true _ A4.out).mono ?_); rintro e w' ⟨rfl, ⟨nd, rfl⟩⟩; refine ⟨_, rfl, ?_⟩) | (go_at_call 42; (with_reducible refine (dec_May.calls a1 true _ A6.out).mono ?_); rintro e w' ⟨rfl, ⟨nd, rfl⟩⟩) | (go_at_call 42; (with_reducible refine (dec_May.calls (wrap64 (a0 + a1)) false _ A8.out).mono ?_); rintro e w' ⟨rfl, ⟨nd, rfl⟩⟩))
     go_meet
     case rel => exact ⟨_, (true), (by first | rfl | (simp; done) | (simp [*]; done)), H', ⟨by first | omega | exact Nat.le_refl _⟩, by repeat (first | exact Drawn0.refl _ | apply Drawn0.step)⟩
   ·replace c7 := Bool.eq_false_iff.mpr c7; subst c7
    have H1 : (dec_Add.j0 k (wrap64 (a0 + a1)) true) = some (r1, r2) := by rw [if_neg (show ¬ (false = true) by decide)] at H; exact H
    clear H; have H := H1; clear H1
    have H' := Aside0.mk H
    clear H
    go_wp2_with (first | ((with_reducible refine gate_callee (f:=42) rfl ?_); refine gL_ (some 11) rfl rfl Try.func42 rfl #[.int .i64 a0] rfl ?_; (with_reducible refine (dec_May.calls a0 true _ A4.out).mono ?_); rintro e w' ⟨rfl, ⟨nd, rfl⟩⟩; refine ⟨_, rfl, ?_⟩) | (go_at_call 42; (with_reducible refine (dec_May.calls a1 false _ A6.out).mono ?_); rintro e w' ⟨rfl, ⟨nd, rfl⟩⟩))
    go_meet
    case rel => exact ⟨_, (true), (by first | rfl | (simp; done) | (simp [*]; done)), H', ⟨by first | omega | exact Nat.le_refl _⟩, by repeat (first | exact Drawn0.refl _ | apply Drawn0.step)⟩
  ·replace c5 := Bool.eq_false_iff.mpr c5; subst c5
   have H1 : (dec_Add.j0 k (wrap64 (a0 + a1)) true) = some (r1, r2) := by rw [if_neg (show ¬ (false = true) by decide)] at H; exact H
   clear H; have H := H1; clear H1
   have H' := Aside0.mk H
   clear H
   go_wp2_with (first | ((with_reducible refine gate_callee (f:=42) rfl ?_); refine gL_ (some 11) rfl rfl Try.func42 rfl #[.int .i64 a0] rfl ?_; (with_reducible refine (dec_May.calls a0 false _ A4.out).mono ?_); rintro e w' ⟨rfl, ⟨nd, rfl⟩⟩; refine ⟨_, rfl, ?_⟩))
   go_meet
   case rel => exact ⟨_, (true), (by first | rfl | (simp; done) | (simp [*]; done)), H', ⟨by first | omega | exact Nat.le_refl _⟩, by repeat (first | exact Drawn0.refl _ | apply Drawn0.step)⟩
 case rest =>
  clear HC3; (try clear c1); (try clear p2); (try clear c3); (try clear c4); (try clear c5); (try clear p6); (try clear c7); (try clear c9); (try clear c10); (try clear c10b0); (try clear c11); (try clear c11b0); (try clear c12); (try clear c12b0); (try clear c13); (try clear c13b0); (try clear c14); (try clear c14b0); (try clear c15); (try clear c15b0); (try clear c16); (try clear c16b0); (try clear c17); (try clear c17b0); (try clear c18); (try clear c18b0); obtain ⟨kq, x46_2, rfl, HA, HJ2, ⟨mc2, rfl⟩⟩ := hcut
  cases kq with
  | zero => exact absurd HA.out (by simp [dec_Add.j0])
  | succ kj2 =>
   have H := HA.out; clear HA
   simp only [dec_Add.j0] at H
   by_cases c19 : x46_2 = true
   ·subst c19
    have H1 : (some (0, false)) = some (r1, r2) := by rw [if_pos rfl] at H; exact H
    clear H; have H := H1; clear H1
    simp only [Option.some.injEq, Prod.mk.injEq] at H
    obtain ⟨rfl, rfl⟩ := H
    go_wp2
    go_ret2
    exact ⟨by first | rfl | (simp; done) | (simp [*]; done), by repeat (first | exact Drawn0.refl _ | apply Drawn0.step)⟩
   ·replace c19 := Bool.eq_false_iff.mpr c19; subst c19
    have H1 : (some ((wrap64 (a0 + a1)), true)) = some (r1, r2) := by rw [if_neg (show ¬ (false = true) by decide)] at H; exact H
    clear H; have H := H1; clear H1
    simp only [Option.some.injEq, Prod.mk.injEq] at H
    obtain ⟨rfl, rfl⟩ := H
    go_wp2
    go_ret2
    exact ⟨by first | rfl | (simp; done) | (simp [*]; done), by repeat (first | exact Drawn0.refl _ | apply Drawn0.step)⟩

mutual
def digits_number.l0 : Nat → ByteArray → Int → Int → Int → Option (Int × Bool)
 | 0, _, _, _, _ => none
 | k + 1, x0, x4, x11, x12 => if x12 < x11 then (if 0 ≤ x12 then (if x12 < (x0.size : Int) then (if (bt x0 x12) < 48 then (digits_number.j1 k x0 x4 x12 x11 x12 true) else (digits_number.j1 k x0 x4 x12 x11 x12 (decide ((bt x0 x12) > 57)))) else (none)) else (none)) else (some (x4, (x0.toList != ([] : List UInt8))))
def digits_number.j1 : Nat → ByteArray → Int → Int → Int → Int → Bool → Option (Int × Bool)
 | 0, _, _, _, _, _, _ => none
 | k + 1, x0, x4, x5, x11, x12, x24 => if x24 = true then (some (0, false)) else ((dec_Scaled.f k x4 10 1).bind fun bt101 => (if 0 ≤ x5 then (if x5 < (x0.size : Int) then ((dec_Add.f k bt101.1 (((bt x0 x5) - 48) % 256)).bind fun bt103 => (if bt101.2 = true then (if bt103.2 = true then (digits_number.l0 k x0 bt103.1 x11 (wrap64 (x12 + 1))) else (some (0, false))) else (some (0, false)))) else (none)) else (none)))
end
def digits_number.f (k : Nat) (a0 : ByteArray) : Option (Int × Bool) := digits_number.l0 k a0 0 (a0.size : Int) 0
theorem digits_number.mono_l : ∀ k, (∀ y0 y1 y2 y3, LeO (digits_number.l0 k y0 y1 y2 y3) (digits_number.l0 (k + 1) y0 y1 y2 y3)) ∧ (∀ y0 y1 y2 y3 y4 y5, LeO (digits_number.j1 k y0 y1 y2 y3 y4 y5) (digits_number.j1 (k + 1) y0 y1 y2 y3 y4 y5))
 | 0 => ⟨fun _ _ _ _ r h => by simp [digits_number.l0] at h, fun _ _ _ _ _ _ r h => by simp [digits_number.j1] at h⟩
 | k + 1 => by
  obtain ⟨ih0, ih1⟩ := digits_number.mono_l k
  refine ⟨?_, ?_⟩
  ·intro y0 y1 y2 y3
   unfold digits_number.l0
   repeat' first
   | (with_reducible exact ih0 _ _ _ _)
   | (with_reducible exact ih1 _ _ _ _ _ _)
   | (with_reducible exact dec_Add.mono _ _ _)
   | (with_reducible exact dec_Scaled.mono _ _ _ _)
   | (with_reducible exact LeO.refl _)
   | (with_reducible exact LeO.none _)
   | (with_reducible refine LeO.ite ?_ ?_)
   | (with_reducible refine LeO.bind ?_ (fun _ => ?_))
  ·intro y0 y1 y2 y3 y4 y5
   unfold digits_number.j1
   repeat' first
   | (with_reducible exact ih0 _ _ _ _)
   | (with_reducible exact ih1 _ _ _ _ _ _)
   | (with_reducible exact dec_Add.mono _ _ _)
   | (with_reducible exact dec_Scaled.mono _ _ _ _)
   | (with_reducible exact LeO.refl _)
   | (with_reducible exact LeO.none _)
   | (with_reducible refine LeO.ite ?_ ?_)
   | (with_reducible refine LeO.bind ?_ (fun _ => ?_))
theorem digits_number.mono : ∀ a0 k, LeO (digits_number.f k a0) (digits_number.f (k + 1) a0) := by
 intro a0 k; obtain ⟨ih0, ih1⟩ := digits_number.mono_l k
 unfold digits_number.f
 repeat' first
   | (with_reducible exact ih0 _ _ _ _)
   | (with_reducible exact ih1 _ _ _ _ _ _)
   | (with_reducible exact dec_Add.mono _ _ _)
   | (with_reducible exact dec_Scaled.mono _ _ _ _)
   | (with_reducible exact LeO.refl _)
   | (with_reducible exact LeO.none _)
   | (with_reducible refine LeO.ite ?_ ?_)
   | (with_reducible refine LeO.bind ?_ (fun _ => ?_))
set_option maxHeartbeats 8000000 in
set_option maxRecDepth 100000 in
theorem digits_number.calls (k : Nat) (a0 : ByteArray) (r1 : Int) (r2 : Bool) (w : World) (h : digits_number.f k a0 = some (r1, r2)) :
  Calls Try.prog 67 #[.string a0] w fun e w' => e = .returned (.tuple #[.int .i64 r1, .bool r2]) ∧ Drawn0 w w' := by
 have H : (digits_number.l0 k a0 0 (a0.size : Int) 0) = some (r1, r2) := h
 clear h
 have H' := Aside0.mk H
 clear H
 go_enter Try.func67, Try.ntmps67
 go_wp2
 go_loopg [4, 12] k (fun kq v4 v12 w' => ∃ (x4_1 : Int) (x12_1 : Int), v4 = .int .i64 x4_1 ∧ v12 = .int .i64 x12_1 ∧ Aside0 (digits_number.l0 kq a0 x4_1 (a0.size : Int) x12_1 = some (r1, r2)) ∧ Aside0 (kq ≤ k) ∧ Drawn0 w w')
 case atStart => exact ⟨(0), (0), (by first | rfl | (simp; done) | (simp [*]; done)), (by first | rfl | (simp; done) | (simp [*]; done)), H', ⟨Nat.le_refl _⟩, by repeat (first | exact Drawn0.refl _ | apply Drawn0.step)⟩
 case round =>
  clear H'; obtain ⟨x4_1, x12_1, rfl, rfl, HA, HK1, ⟨m1, rfl⟩⟩ := hrel
  cases gk with
  | zero => exact absurd HA.out (by simp [digits_number.l0])
  | succ k1 =>
   have H := HA.out; clear HA
   simp only [digits_number.l0] at H
   by_cases c2 : x12_1 < (a0.size : Int)
   ·rw [if_pos c2] at H; have c2b0 : decide (x12_1 < (a0.size : Int)) = true := decide_eq_true c2; clear c2; have HC3 := Aside0.mk H; clear H
    go_upto_region 5 with (fail)
    go_cut [24] (fun v24 wc => ∃ (kq : Nat) (x24_2 : Bool), v24 = .bool x24_2 ∧ Aside0 (digits_number.j1 kq a0 x4_1 x12_1 (a0.size : Int) x12_1 x24_2 = some (r1, r2)) ∧ Aside0 (kq ≤ k1) ∧ Drawn0 w wc)
    case first =>
     have H := HC3.out; clear HC3
     by_cases c4 : 0 ≤ x12_1
     ·rw [if_pos c4] at H; have c4b0 : decide (0 ≤ x12_1) = true := decide_eq_true c4; clear c4; (first | rw [c4b0] | (simp only [i64_w, i32_w]; rw [c4b0]) | skip)
      by_cases c5 : x12_1 < (a0.size : Int)
      ·rw [if_pos c5] at H; have c5b0 : decide (x12_1 < (a0.size : Int)) = true := decide_eq_true c5; clear c5
       by_cases c7 : (bt a0 x12_1) < 48
       ·rw [if_pos c7] at H; have c7b0 : decide ((bt a0 x12_1) < 48) = true := decide_eq_true c7; clear c7
        have H' := Aside0.mk H
        clear H
        have p6 : 0 ≤ (x12_1 : Int) := of_decide_eq_true (by first | (with_reducible assumption) | assumption)
        have q6 : x12_1 < (a0.size : Int) := of_decide_eq_true (by first | (with_reducible assumption) | assumption)
        have hx6 := bt_at a0 x12_1; replace p6 := eq_true p6; replace q6 := eq_true q6
        go_wp2
        go_meet
        case rel => exact ⟨_, (true), (by first | rfl | (simp; done) | (simp [*]; done)), H', ⟨by have := HK1.out; first | omega | exact Nat.le_refl _⟩, by repeat (first | exact Drawn0.refl _ | apply Drawn0.step)⟩
       ·rw [if_neg c7] at H; have c7b0 : decide ((bt a0 x12_1) < 48) = false := decide_eq_false c7; clear c7
        have H' := Aside0.mk H
        clear H
        have p6 : 0 ≤ (x12_1 : Int) := of_decide_eq_true (by first | (with_reducible assumption) | assumption)
        have q6 : x12_1 < (a0.size : Int) := of_decide_eq_true (by first | (with_reducible assumption) | assumption)
        have hx6 := bt_at a0 x12_1; replace p6 := eq_true p6; replace q6 := eq_true q6
        have p8 : 0 ≤ (x12_1 : Int) := of_decide_eq_true (by first | (with_reducible assumption) | assumption)
        have q8 : x12_1 < (a0.size : Int) := of_decide_eq_true (by first | (with_reducible assumption) | assumption)
        have hx8 := bt_at a0 x12_1; replace p8 := eq_true p8; replace q8 := eq_true q8
        go_wp2
        go_meet
        case rel => exact ⟨_, (decide ((bt a0 x12_1) > 57)), (by first | rfl | (simp; done) | (simp [*]; done)), H', ⟨by have := HK1.out; first | omega | exact Nat.le_refl _⟩, by repeat (first | exact Drawn0.refl _ | apply Drawn0.step)⟩
      ·rw [if_neg c5] at H
       exact absurd H (by simp)
     ·rw [if_neg c4] at H
      exact absurd H (by simp)
    case rest =>
     clear HC3; (try clear c2); (try clear c2b0); (try clear p2); (try clear c4); (try clear c4b0); (try clear c5); (try clear c5b0); (try clear c6); (try clear p6); (try clear q6); (try clear hx6); (try clear c7); (try clear c7b0); (try clear p8); (try clear q8); (try clear hx8); (try clear p6); (try clear p8); (try clear q6); (try clear q8); obtain ⟨kq, x24_2, rfl, HA, HJ2, ⟨mc2, rfl⟩⟩ := hcut
     cases kq with
     | zero => exact absurd HA.out (by simp [digits_number.j1])
     | succ kj2 =>
      have H := HA.out; clear HA
      simp only [digits_number.j1] at H
      by_cases c9 : x24_2 = true
      ·subst c9
       have H1 : (some (0, false)) = some (r1, r2) := by rw [if_pos rfl] at H; exact H
       clear H; have H := H1; clear H1
       simp only [Option.some.injEq, Prod.mk.injEq] at H
       obtain ⟨rfl, rfl⟩ := H
       go_wp2
       go_ret2
       exact ⟨by first | rfl | (simp; done) | (simp; cases a0.toList <;> rfl) | (simp [*]; done), by repeat (first | exact Drawn0.refl _ | apply Drawn0.step)⟩
      ·replace c9 := Bool.eq_false_iff.mpr c9; subst c9
       have H1 : ((dec_Scaled.f kj2 x4_1 10 1).bind fun bt101 => (if 0 ≤ x12_1 then (if x12_1 < (a0.size : Int) then ((dec_Add.f kj2 bt101.1 (((bt a0 x12_1) - 48) % 256)).bind fun bt103 => (if bt101.2 = true then (if bt103.2 = true then (digits_number.l0 kj2 a0 bt103.1 (a0.size : Int) (wrap64 (x12_1 + 1))) else (some (0, false))) else (some (0, false)))) else (none)) else (none))) = some (r1, r2) := by rw [if_neg (show ¬ (false = true) by decide)] at H; exact H
       clear H; have H := H1; clear H1; replace H := Option.bind_eq_some_iff.mp H; obtain ⟨⟨t101, t102⟩, A100, H⟩ := H
       replace H : (if 0 ≤ x12_1 then (if x12_1 < (a0.size : Int) then ((dec_Add.f kj2 t101 (((bt a0 x12_1) - 48) % 256)).bind fun bt103 => (if t102 = true then (if bt103.2 = true then (digits_number.l0 kj2 a0 bt103.1 (a0.size : Int) (wrap64 (x12_1 + 1))) else (some (0, false))) else (some (0, false)))) else (none)) else (none)) = some (r1, r2) := H
       have A10 := Aside0.mk A100; clear A100
       by_cases c11 : 0 ≤ x12_1
       ·rw [if_pos c11] at H; have c11b0 : decide (0 ≤ x12_1) = true := decide_eq_true c11; clear c11
        by_cases c12 : x12_1 < (a0.size : Int)
        ·rw [if_pos c12] at H; have c12b0 : decide (x12_1 < (a0.size : Int)) = true := decide_eq_true c12; clear c12; replace H := Option.bind_eq_some_iff.mp H; obtain ⟨⟨t103, t104⟩, A140, H⟩ := H
         replace H : (if t102 = true then (if t104 = true then (digits_number.l0 kj2 a0 t103 (a0.size : Int) (wrap64 (x12_1 + 1))) else (some (0, false))) else (some (0, false))) = some (r1, r2) := H
         have A14 := Aside0.mk A140; clear A140
         by_cases c15 : t102 = true
         ·subst c15
          have H1 : (if t104 = true then (digits_number.l0 kj2 a0 t103 (a0.size : Int) (wrap64 (x12_1 + 1))) else (some (0, false))) = some (r1, r2) := by rw [if_pos rfl] at H; exact H
          clear H; have H := H1; clear H1
          by_cases c16 : t104 = true
          ·subst c16
           have H1 : (digits_number.l0 kj2 a0 t103 (a0.size : Int) (wrap64 (x12_1 + 1))) = some (r1, r2) := by rw [if_pos rfl] at H; exact H
           clear H; have H := H1; clear H1
           have H' := Aside0.mk H
           clear H
           go_wp2_with (first | ((with_reducible refine gate_callee (f:=45) rfl ?_); refine gL_ (some 27) rfl rfl Try.func45 rfl #[.int .i64 x4_1, .int .i64 10, .int .i64 1] rfl ?_; (with_reducible refine (dec_Scaled.calls kj2 x4_1 10 1 t101 true _ A10.out).mono ?_); rintro e w' ⟨rfl, ⟨nd, rfl⟩⟩; refine ⟨_, rfl, ?_⟩; have p13 : 0 ≤ (x12_1 : Int) := of_decide_eq_true (by first | (with_reducible assumption) | assumption); have q13 : x12_1 < (a0.size : Int) := of_decide_eq_true (by first | (with_reducible assumption) | assumption); have hx13 := bt_at a0 x12_1; replace p13 := eq_true p13; replace q13 := eq_true q13) | ((with_reducible refine gate_callee (f:=39) rfl ?_); refine gL_ (some 37) rfl rfl Try.func39 rfl #[.int .i64 t101, .int .i64 (((bt a0 x12_1) - 48) % 256)] rfl ?_; (with_reducible refine (dec_Add.calls kj2 t101 (((bt a0 x12_1) - 48) % 256) t103 true _ A14.out).mono ?_); rintro e w' ⟨rfl, ⟨nd, rfl⟩⟩; refine ⟨_, rfl, ?_⟩))
           go_roundg kj2
           case measure => have := HK1.out; have := HJ2.out; omega
           case rel => exact ⟨(t103), (wrap64 (x12_1 + 1)), (by first | rfl | (simp; done) | (simp [*]; done) | (cases t103 <;> simp; done)), (by first | rfl | (simp; done) | (simp [*]; done)), H', ⟨by have := HK1.out; have := HJ2.out; omega⟩, by repeat (first | exact Drawn0.refl _ | apply Drawn0.step)⟩
          ·replace c16 := Bool.eq_false_iff.mpr c16; subst c16
           have H1 : (some (0, false)) = some (r1, r2) := by rw [if_neg (show ¬ (false = true) by decide)] at H; exact H
           clear H; have H := H1; clear H1
           simp only [Option.some.injEq, Prod.mk.injEq] at H
           obtain ⟨rfl, rfl⟩ := H
           go_wp2_with (first | ((with_reducible refine gate_callee (f:=45) rfl ?_); refine gL_ (some 27) rfl rfl Try.func45 rfl #[.int .i64 x4_1, .int .i64 10, .int .i64 1] rfl ?_; (with_reducible refine (dec_Scaled.calls kj2 x4_1 10 1 t101 true _ A10.out).mono ?_); rintro e w' ⟨rfl, ⟨nd, rfl⟩⟩; refine ⟨_, rfl, ?_⟩; have p13 : 0 ≤ (x12_1 : Int) := of_decide_eq_true (by first | (with_reducible assumption) | assumption); have q13 : x12_1 < (a0.size : Int) := of_decide_eq_true (by first | (with_reducible assumption) | assumption); have hx13 := bt_at a0 x12_1; replace p13 := eq_true p13; replace q13 := eq_true q13) | ((with_reducible refine gate_callee (f:=39) rfl ?_); refine gL_ (some 37) rfl rfl Try.func39 rfl #[.int .i64 t101, .int .i64 (((bt a0 x12_1) - 48) % 256)] rfl ?_; (with_reducible refine (dec_Add.calls kj2 t101 (((bt a0 x12_1) - 48) % 256) t103 false _ A14.out).mono ?_); rintro e w' ⟨rfl, ⟨nd, rfl⟩⟩; refine ⟨_, rfl, ?_⟩))
           go_ret2
           exact ⟨by first | rfl | (simp; done) | (simp; cases a0.toList <;> rfl) | (simp [*]; done), by repeat (first | exact Drawn0.refl _ | apply Drawn0.step)⟩
         ·replace c15 := Bool.eq_false_iff.mpr c15; subst c15
          have H1 : (some (0, false)) = some (r1, r2) := by rw [if_neg (show ¬ (false = true) by decide)] at H; exact H
          clear H; have H := H1; clear H1
          simp only [Option.some.injEq, Prod.mk.injEq] at H
          obtain ⟨rfl, rfl⟩ := H
          go_wp2_with (first | ((with_reducible refine gate_callee (f:=45) rfl ?_); refine gL_ (some 27) rfl rfl Try.func45 rfl #[.int .i64 x4_1, .int .i64 10, .int .i64 1] rfl ?_; (with_reducible refine (dec_Scaled.calls kj2 x4_1 10 1 t101 false _ A10.out).mono ?_); rintro e w' ⟨rfl, ⟨nd, rfl⟩⟩; refine ⟨_, rfl, ?_⟩; have p13 : 0 ≤ (x12_1 : Int) := of_decide_eq_true (by first | (with_reducible assumption) | assumption); have q13 : x12_1 < (a0.size : Int) := of_decide_eq_true (by first | (with_reducible assumption) | assumption); have hx13 := bt_at a0 x12_1; replace p13 := eq_true p13; replace q13 := eq_true q13) | ((with_reducible refine gate_callee (f:=39) rfl ?_); refine gL_ (some 37) rfl rfl Try.func39 rfl #[.int .i64 t101, .int .i64 (((bt a0 x12_1) - 48) % 256)] rfl ?_; (with_reducible refine (dec_Add.calls kj2 t101 (((bt a0 x12_1) - 48) % 256) t103 t104 _ A14.out).mono ?_); rintro e w' ⟨rfl, ⟨nd, rfl⟩⟩; refine ⟨_, rfl, ?_⟩))
          go_ret2
          exact ⟨by first | rfl | (simp; done) | (simp; cases a0.toList <;> rfl) | (simp [*]; done), by repeat (first | exact Drawn0.refl _ | apply Drawn0.step)⟩
        ·rw [if_neg c12] at H
         exact absurd H (by simp)
       ·rw [if_neg c11] at H
        exact absurd H (by simp)
   ·rw [if_neg c2] at H; have c2b0 : decide (x12_1 < (a0.size : Int)) = false := decide_eq_false c2; clear c2
    simp only [Option.some.injEq, Prod.mk.injEq] at H
    obtain ⟨rfl, rfl⟩ := H
    go_wp2
    go_ret2
    exact ⟨by first | rfl | (simp; done) | (simp; cases a0.toList <;> rfl) | (simp [*]; done), by repeat (first | exact Drawn0.refl _ | apply Drawn0.step)⟩

def dec_Neg.f (a0 : Int) : Option (Int × Bool) := (dec_May.f a0).bind fun t101 => (if t101 = true then (some (wrap64 (-a0), true)) else (some (0, false)))
set_option maxHeartbeats 8000000 in
set_option maxRecDepth 100000 in
theorem dec_Neg.calls (a0 : Int) (r1 : Int) (r2 : Bool) (w : World) (h : dec_Neg.f a0 = some (r1, r2)) :
  Calls Try.prog 73 #[.int .i64 a0] w fun e w' => e = .returned (.tuple #[.int .i64 r1, .bool r2]) ∧ Drawn0 w w' := by
 have H : ((dec_May.f a0).bind fun t101 => (if t101 = true then (some (wrap64 (-a0), true)) else (some (0, false)))) = some (r1, r2) := h
 clear h; replace H := Option.bind_eq_some_iff.mp H; obtain ⟨t101, A20, H⟩ := H
 replace H : (if t101 = true then (some (wrap64 (-a0), true)) else (some (0, false))) = some (r1, r2) := H
 have A2 := Aside0.mk A20; clear A20
 by_cases c3 : t101 = true
 ·subst c3
  have H1 : (some (wrap64 (-a0), true)) = some (r1, r2) := by rw [if_pos rfl] at H; exact H
  clear H; have H := H1; clear H1
  simp only [Option.some.injEq, Prod.mk.injEq] at H
  obtain ⟨rfl, rfl⟩ := H
  go_enter Try.func73, Try.ntmps73
  go_wp2_with (first | ((with_reducible refine gate_callee (f:=42) rfl ?_); refine gL_ (some 5) rfl rfl Try.func42 rfl #[.int .i64 a0] rfl ?_; (with_reducible refine (dec_May.calls a0 true _ A2.out).mono ?_); rintro e w' ⟨rfl, ⟨nd, rfl⟩⟩; refine ⟨_, rfl, ?_⟩))
  go_ret2
  exact ⟨by first | rfl | (simp; done) | (simp [*]; done), by repeat (first | exact Drawn0.refl _ | apply Drawn0.step)⟩
 ·replace c3 := Bool.eq_false_iff.mpr c3; subst c3
  have H1 : (some (0, false)) = some (r1, r2) := by rw [if_neg (show ¬ (false = true) by decide)] at H; exact H
  clear H; have H := H1; clear H1
  simp only [Option.some.injEq, Prod.mk.injEq] at H
  obtain ⟨rfl, rfl⟩ := H
  go_enter Try.func73, Try.ntmps73
  go_wp2_with (first | ((with_reducible refine gate_callee (f:=42) rfl ?_); refine gL_ (some 5) rfl rfl Try.func42 rfl #[.int .i64 a0] rfl ?_; (with_reducible refine (dec_May.calls a0 false _ A2.out).mono ?_); rintro e w' ⟨rfl, ⟨nd, rfl⟩⟩; refine ⟨_, rfl, ?_⟩))
  go_ret2
  exact ⟨by first | rfl | (simp; done) | (simp [*]; done), by repeat (first | exact Drawn0.refl _ | apply Drawn0.step)⟩

def digits_put.j0 : Nat → Bool → Int → Bool → Option (Int × Bool)
 | 0, _, _, _ => none
 | k + 1, x2, x10, x28 => if x28 = true then (some (0, false)) else (if x2 = true then ((dec_Neg.f x10).bind fun bt105 => (some (bt105.1, bt105.2))) else (some (x10, true)))
def digits_put.f (k : Nat) (a0 : Int) (a1 : Int) (a2 : Bool) : Option (Int × Bool) := (dec_Of.f k a0).bind fun bt101 => ((dec_Add.f k bt101.1 a1).bind fun bt103 => (if bt101.2 = true then (digits_put.j0 k a2 bt103.1 (!bt103.2)) else (digits_put.j0 k a2 bt103.1 true)))
theorem digits_put.mono_l : ∀ k, (∀ y0 y1 y2, LeO (digits_put.j0 k y0 y1 y2) (digits_put.j0 (k + 1) y0 y1 y2))
 | 0 => fun _ _ _ r h => by simp [digits_put.j0] at h
 | k + 1 => by
  have ih0 := digits_put.mono_l k
  ·intro y0 y1 y2
   unfold digits_put.j0
   repeat' first
   | (with_reducible exact ih0 _ _ _)
   | (with_reducible exact dec_Add.mono _ _ _)
   | (with_reducible exact dec_Of.mono _ _)
   | (with_reducible exact LeO.refl _)
   | (with_reducible exact LeO.none _)
   | (with_reducible refine LeO.ite ?_ ?_)
   | (with_reducible refine LeO.bind ?_ (fun _ => ?_))
theorem digits_put.mono : ∀ a0 a1 a2 k, LeO (digits_put.f k a0 a1 a2) (digits_put.f (k + 1) a0 a1 a2) := by
 intro a0 a1 a2 k; have ih0 := digits_put.mono_l k
 unfold digits_put.f
 repeat' first
   | (with_reducible exact ih0 _ _ _)
   | (with_reducible exact dec_Add.mono _ _ _)
   | (with_reducible exact dec_Of.mono _ _)
   | (with_reducible exact LeO.refl _)
   | (with_reducible exact LeO.none _)
   | (with_reducible refine LeO.ite ?_ ?_)
   | (with_reducible refine LeO.bind ?_ (fun _ => ?_))
set_option maxHeartbeats 8000000 in
set_option maxRecDepth 100000 in
theorem digits_put.calls (k : Nat) (a0 : Int) (a1 : Int) (a2 : Bool) (r1 : Int) (r2 : Bool) (w : World) (h : digits_put.f k a0 a1 a2 = some (r1, r2)) :
  Calls Try.prog 68 #[.int .i64 a0, .int .i64 a1, .bool a2] w fun e w' => e = .returned (.tuple #[.int .i64 r1, .bool r2]) ∧ Drawn0 w w' := by
 have H : ((dec_Of.f k a0).bind fun bt101 => ((dec_Add.f k bt101.1 a1).bind fun bt103 => (if bt101.2 = true then (digits_put.j0 k a2 bt103.1 (!bt103.2)) else (digits_put.j0 k a2 bt103.1 true)))) = some (r1, r2) := h
 clear h; replace H := Option.bind_eq_some_iff.mp H; obtain ⟨⟨t101, t102⟩, A40, H⟩ := H
 replace H : ((dec_Add.f k t101 a1).bind fun bt103 => (if t102 = true then (digits_put.j0 k a2 bt103.1 (!bt103.2)) else (digits_put.j0 k a2 bt103.1 true))) = some (r1, r2) := H
 have A4 := Aside0.mk A40; clear A40; replace H := Option.bind_eq_some_iff.mp H; obtain ⟨⟨t103, t104⟩, A50, H⟩ := H
 replace H : (if t102 = true then (digits_put.j0 k a2 t103 (!t104)) else (digits_put.j0 k a2 t103 true)) = some (r1, r2) := H
 have A5 := Aside0.mk A50; clear A50; have HC6 := Aside0.mk H; clear H
 go_enter Try.func68, Try.ntmps68
 go_upto_region 3 with (first | ((with_reducible refine gate_callee (f:=35) rfl ?_); refine gL_ (some 14) rfl rfl Try.func35 rfl #[.int .i64 a0] rfl ?_; (with_reducible refine (dec_Of.calls k a0 t101 t102 _ A4.out).mono ?_); rintro e w' ⟨rfl, ⟨nd, rfl⟩⟩; refine ⟨_, rfl, ?_⟩) | ((with_reducible refine gate_callee (f:=39) rfl ?_); refine gL_ (some 20) rfl rfl Try.func39 rfl #[.int .i64 t101, .int .i64 a1] rfl ?_; (with_reducible refine (dec_Add.calls k t101 a1 t103 t104 _ A5.out).mono ?_); rintro e w' ⟨rfl, ⟨nd, rfl⟩⟩; refine ⟨_, rfl, ?_⟩))
 (try simp only [q_])
 go_cut [28] (fun v28 wc => ∃ (kq : Nat) (x28_5 : Bool), v28 = .bool x28_5 ∧ Aside0 (digits_put.j0 kq a2 t103 x28_5 = some (r1, r2)) ∧ Aside0 (kq ≤ k) ∧ Drawn0 w wc)
 case first =>
  have H := HC6.out; clear HC6
  by_cases c7 : t102 = true
  ·subst c7
   have H1 : (digits_put.j0 k a2 t103 (!t104)) = some (r1, r2) := by rw [if_pos rfl] at H; exact H
   clear H; have H := H1; clear H1
   have H' := Aside0.mk H
   clear H
   go_wp2
   go_meet
   case rel => exact ⟨_, (!t104), (by first | rfl | (simp; done) | (simp [*]; done) | (cases t104 <;> simp; done)), H', ⟨by first | omega | exact Nat.le_refl _⟩, by repeat (first | exact Drawn0.refl _ | apply Drawn0.step)⟩
  ·replace c7 := Bool.eq_false_iff.mpr c7; subst c7
   have H1 : (digits_put.j0 k a2 t103 true) = some (r1, r2) := by rw [if_neg (show ¬ (false = true) by decide)] at H; exact H
   clear H; have H := H1; clear H1
   have H' := Aside0.mk H
   clear H
   go_wp2
   go_meet
   case rel => exact ⟨_, (true), (by first | rfl | (simp; done) | (simp [*]; done)), H', ⟨by first | omega | exact Nat.le_refl _⟩, by repeat (first | exact Drawn0.refl _ | apply Drawn0.step)⟩
 case rest =>
  clear HC6; (try clear p2); (try clear c3); (try clear c6); (try clear c7); obtain ⟨kq, x28_5, rfl, HA, HJ5, ⟨mc5, rfl⟩⟩ := hcut
  cases kq with
  | zero => exact absurd HA.out (by simp [digits_put.j0])
  | succ kj5 =>
   have H := HA.out; clear HA
   simp only [digits_put.j0] at H
   by_cases c8 : x28_5 = true
   ·subst c8
    have H1 : (some (0, false)) = some (r1, r2) := by rw [if_pos rfl] at H; exact H
    clear H; have H := H1; clear H1
    simp only [Option.some.injEq, Prod.mk.injEq] at H
    obtain ⟨rfl, rfl⟩ := H
    go_wp2
    go_ret2
    exact ⟨by first | rfl | (simp; done) | (simp [*]; done), by repeat (first | exact Drawn0.refl _ | apply Drawn0.step)⟩
   ·replace c8 := Bool.eq_false_iff.mpr c8; subst c8
    have H1 : (if a2 = true then ((dec_Neg.f t103).bind fun bt105 => (some (bt105.1, bt105.2))) else (some (t103, true))) = some (r1, r2) := by rw [if_neg (show ¬ (false = true) by decide)] at H; exact H
    clear H; have H := H1; clear H1
    by_cases c9 : a2 = true
    ·subst c9
     have H1 : ((dec_Neg.f t103).bind fun bt105 => (some (bt105.1, bt105.2))) = some (r1, r2) := by rw [if_pos rfl] at H; exact H
     clear H; have H := H1; clear H1; replace H := Option.bind_eq_some_iff.mp H; obtain ⟨⟨t105, t106⟩, A100, H⟩ := H
     replace H : (some (t105, t106)) = some (r1, r2) := H
     have A10 := Aside0.mk A100; clear A100
     simp only [Option.some.injEq, Prod.mk.injEq] at H
     obtain ⟨rfl, rfl⟩ := H
     go_wp2_with (first | ((with_reducible refine gate_callee (f:=73) rfl ?_); refine gL_ (some 31) rfl rfl Try.func73 rfl #[.int .i64 t103] rfl ?_; (with_reducible refine (dec_Neg.calls t103 t105 t106 _ A10.out).mono ?_); rintro e w' ⟨rfl, ⟨nd, rfl⟩⟩; refine ⟨_, rfl, ?_⟩))
     go_ret2
     exact ⟨by first | rfl | (simp; done) | (simp [*]; done), by repeat (first | exact Drawn0.refl _ | apply Drawn0.step)⟩
    ·replace c9 := Bool.eq_false_iff.mpr c9; subst c9
     have H1 : (some (t103, true)) = some (r1, r2) := by rw [if_neg (show ¬ (false = true) by decide)] at H; exact H
     clear H; have H := H1; clear H1
     simp only [Option.some.injEq, Prod.mk.injEq] at H
     obtain ⟨rfl, rfl⟩ := H
     go_wp2
     go_ret2
     exact ⟨by first | rfl | (simp; done) | (simp [*]; done), by repeat (first | exact Drawn0.refl _ | apply Drawn0.step)⟩

mutual
def digits_Read.j0 : Nat → Bool → ByteArray → Int → Int → Bool → Option (Int × Bool)
 | 0, _, _, _, _, _ => none
 | k + 1, x5, x7, x9, x11, x50 => if x50 = true then (some (0, false)) else (digits_Read.l0 k x5 x9 x11 (wrap64 (4 - (x7.size : Int))) 0)
def digits_Read.l0 : Nat → Bool → Int → Int → Int → Int → Option (Int × Bool)
 | 0, _, _, _, _, _ => none
 | k + 1, x5, x9, x11, x53, x54 => if x54 < x53 then (digits_Read.l0 k x5 x9 (wrap64 (x11 * 10)) x53 (wrap64 (x54 + 1))) else ((digits_put.f k x9 x11 x5).bind fun bt110 => (some (bt110.1, bt110.2)))
end
def digits_Read.f (k : Nat) (a0 : ByteArray) : Option (Int × Bool) := (strings_CutPrefix.f a0 (⟨#[45]⟩ : ByteArray)).bind fun bt101 => (if (a0.size : Int) > 40 then (some (0, false)) else ((strings_Cut.f bt101.1 (⟨#[46]⟩ : ByteArray)).bind fun bt103 => ((digits_number.f k bt103.1).bind fun bt106 => ((digits_number.f k bt103.2.1).bind fun bt108 => (if bt106.2 = true then (if bt103.2.2 = true then (if bt108.2 = true then (digits_Read.j0 k bt101.2 bt103.2.1 bt106.1 bt108.1 (decide ((bt103.2.1.size : Int) > 4))) else (digits_Read.j0 k bt101.2 bt103.2.1 bt106.1 bt108.1 true)) else (digits_Read.j0 k bt101.2 bt103.2.1 bt106.1 bt108.1 false)) else (digits_Read.j0 k bt101.2 bt103.2.1 bt106.1 bt108.1 true))))))
theorem digits_Read.mono_l : ∀ k, (∀ y0 y1 y2 y3 y4, LeO (digits_Read.j0 k y0 y1 y2 y3 y4) (digits_Read.j0 (k + 1) y0 y1 y2 y3 y4)) ∧ (∀ y0 y1 y2 y3 y4, LeO (digits_Read.l0 k y0 y1 y2 y3 y4) (digits_Read.l0 (k + 1) y0 y1 y2 y3 y4))
 | 0 => ⟨fun _ _ _ _ _ r h => by simp [digits_Read.j0] at h, fun _ _ _ _ _ r h => by simp [digits_Read.l0] at h⟩
 | k + 1 => by
  obtain ⟨ih0, ih1⟩ := digits_Read.mono_l k
  refine ⟨?_, ?_⟩
  ·intro y0 y1 y2 y3 y4
   unfold digits_Read.j0
   repeat' first
   | (with_reducible exact ih0 _ _ _ _ _)
   | (with_reducible exact ih1 _ _ _ _ _)
   | (with_reducible exact digits_number.mono _ _)
   | (with_reducible exact digits_put.mono _ _ _ _)
   | (with_reducible exact LeO.refl _)
   | (with_reducible exact LeO.none _)
   | (with_reducible refine LeO.ite ?_ ?_)
   | (with_reducible refine LeO.bind ?_ (fun _ => ?_))
  ·intro y0 y1 y2 y3 y4
   unfold digits_Read.l0
   repeat' first
   | (with_reducible exact ih0 _ _ _ _ _)
   | (with_reducible exact ih1 _ _ _ _ _)
   | (with_reducible exact digits_number.mono _ _)
   | (with_reducible exact digits_put.mono _ _ _ _)
   | (with_reducible exact LeO.refl _)
   | (with_reducible exact LeO.none _)
   | (with_reducible refine LeO.ite ?_ ?_)
   | (with_reducible refine LeO.bind ?_ (fun _ => ?_))
theorem digits_Read.mono : ∀ a0 k, LeO (digits_Read.f k a0) (digits_Read.f (k + 1) a0) := by
 intro a0 k; obtain ⟨ih0, ih1⟩ := digits_Read.mono_l k
 unfold digits_Read.f
 repeat' first
   | (with_reducible exact ih0 _ _ _ _ _)
   | (with_reducible exact ih1 _ _ _ _ _)
   | (with_reducible exact digits_number.mono _ _)
   | (with_reducible exact digits_put.mono _ _ _ _)
   | (with_reducible exact LeO.refl _)
   | (with_reducible exact LeO.none _)
   | (with_reducible refine LeO.ite ?_ ?_)
   | (with_reducible refine LeO.bind ?_ (fun _ => ?_))
set_option maxHeartbeats 8000000 in
set_option maxRecDepth 100000 in
theorem digits_Read.calls (k : Nat) (a0 : ByteArray) (r1 : Int) (r2 : Bool) (w : World) (h : digits_Read.f k a0 = some (r1, r2)) :
  Calls Try.prog 60 #[.string a0] w fun e w' => e = .returned (.tuple #[.int .i64 r1, .bool r2]) ∧ Drawn0 w w' := by
 have H : ((strings_CutPrefix.f a0 (⟨#[45]⟩ : ByteArray)).bind fun bt101 => (if (a0.size : Int) > 40 then (some (0, false)) else ((strings_Cut.f bt101.1 (⟨#[46]⟩ : ByteArray)).bind fun bt103 => ((digits_number.f k bt103.1).bind fun bt106 => ((digits_number.f k bt103.2.1).bind fun bt108 => (if bt106.2 = true then (if bt103.2.2 = true then (if bt108.2 = true then (digits_Read.j0 k bt101.2 bt103.2.1 bt106.1 bt108.1 (decide ((bt103.2.1.size : Int) > 4))) else (digits_Read.j0 k bt101.2 bt103.2.1 bt106.1 bt108.1 true)) else (digits_Read.j0 k bt101.2 bt103.2.1 bt106.1 bt108.1 false)) else (digits_Read.j0 k bt101.2 bt103.2.1 bt106.1 bt108.1 true))))))) = some (r1, r2) := h
 clear h; replace H := Option.bind_eq_some_iff.mp H; obtain ⟨⟨t101, t102⟩, A20, H⟩ := H
 replace H : (if (a0.size : Int) > 40 then (some (0, false)) else ((strings_Cut.f t101 (⟨#[46]⟩ : ByteArray)).bind fun bt103 => ((digits_number.f k bt103.1).bind fun bt106 => ((digits_number.f k bt103.2.1).bind fun bt108 => (if bt106.2 = true then (if bt103.2.2 = true then (if bt108.2 = true then (digits_Read.j0 k t102 bt103.2.1 bt106.1 bt108.1 (decide ((bt103.2.1.size : Int) > 4))) else (digits_Read.j0 k t102 bt103.2.1 bt106.1 bt108.1 true)) else (digits_Read.j0 k t102 bt103.2.1 bt106.1 bt108.1 false)) else (digits_Read.j0 k t102 bt103.2.1 bt106.1 bt108.1 true)))))) = some (r1, r2) := H
 have A2 := Aside0.mk A20; clear A20
 by_cases c3 : (a0.size : Int) > 40
 ·rw [if_pos c3] at H; have c3b0 : decide (40 < (a0.size : Int)) = true := decide_eq_true c3; have c3b1 : decide (40 < a0.size) = true := decide_eq_true (by omega); clear c3
  simp only [Option.some.injEq, Prod.mk.injEq] at H
  obtain ⟨rfl, rfl⟩ := H
  go_enter Try.func60, Try.ntmps60
  go_wp2_with (first | ((with_reducible refine gate_callee (f:=66) rfl ?_); refine gL_ (some 15) rfl rfl Try.func66 rfl #[.string a0, .string (⟨#[45]⟩ : ByteArray)] rfl ?_; (with_reducible refine (strings_CutPrefix.calls a0 (⟨#[45]⟩ : ByteArray) t101 t102 _ A2.out).mono ?_); rintro e w' ⟨rfl, ⟨nd, rfl⟩⟩; refine ⟨_, rfl, ?_⟩))
  go_ret2
  exact ⟨by first | rfl | (simp; done) | (simp [*]; done), by repeat (first | exact Drawn0.refl _ | apply Drawn0.step)⟩
 ·rw [if_neg c3] at H; have c3b0 : decide (40 < (a0.size : Int)) = false := decide_eq_false c3; have c3b1 : decide (40 < a0.size) = false := decide_eq_false (by omega); clear c3; replace H := Option.bind_eq_some_iff.mp H; obtain ⟨⟨t103, t104, t105⟩, A40, H⟩ := H
  replace H : ((digits_number.f k t103).bind fun bt106 => ((digits_number.f k t104).bind fun bt108 => (if bt106.2 = true then (if t105 = true then (if bt108.2 = true then (digits_Read.j0 k t102 t104 bt106.1 bt108.1 (decide ((t104.size : Int) > 4))) else (digits_Read.j0 k t102 t104 bt106.1 bt108.1 true)) else (digits_Read.j0 k t102 t104 bt106.1 bt108.1 false)) else (digits_Read.j0 k t102 t104 bt106.1 bt108.1 true)))) = some (r1, r2) := H
  have A4 := Aside0.mk A40; clear A40; replace H := Option.bind_eq_some_iff.mp H; obtain ⟨⟨t106, t107⟩, A50, H⟩ := H
  replace H : ((digits_number.f k t104).bind fun bt108 => (if t107 = true then (if t105 = true then (if bt108.2 = true then (digits_Read.j0 k t102 t104 t106 bt108.1 (decide ((t104.size : Int) > 4))) else (digits_Read.j0 k t102 t104 t106 bt108.1 true)) else (digits_Read.j0 k t102 t104 t106 bt108.1 false)) else (digits_Read.j0 k t102 t104 t106 bt108.1 true))) = some (r1, r2) := H
  have A5 := Aside0.mk A50; clear A50; replace H := Option.bind_eq_some_iff.mp H; obtain ⟨⟨t108, t109⟩, A60, H⟩ := H
  replace H : (if t107 = true then (if t105 = true then (if t109 = true then (digits_Read.j0 k t102 t104 t106 t108 (decide ((t104.size : Int) > 4))) else (digits_Read.j0 k t102 t104 t106 t108 true)) else (digits_Read.j0 k t102 t104 t106 t108 false)) else (digits_Read.j0 k t102 t104 t106 t108 true)) = some (r1, r2) := H
  have A6 := Aside0.mk A60; clear A60; have HC7 := Aside0.mk H; clear H
  go_enter Try.func60, Try.ntmps60
  go_upto_region 7 with (first | ((with_reducible refine gate_callee (f:=66) rfl ?_); refine gL_ (some 15) rfl rfl Try.func66 rfl #[.string a0, .string (⟨#[45]⟩ : ByteArray)] rfl ?_; (with_reducible refine (strings_CutPrefix.calls a0 (⟨#[45]⟩ : ByteArray) t101 t102 _ A2.out).mono ?_); rintro e w' ⟨rfl, ⟨nd, rfl⟩⟩; refine ⟨_, rfl, ?_⟩) | ((with_reducible refine gate_callee (f:=62) rfl ?_); refine gL_ (some 23) rfl rfl Try.func62 rfl #[.string t101, .string (⟨#[46]⟩ : ByteArray)] rfl ?_; (with_reducible refine (strings_Cut.calls t101 (⟨#[46]⟩ : ByteArray) t103 t104 t105 _ A4.out).mono ?_); rintro e w' ⟨rfl, ⟨nd, rfl⟩⟩; refine ⟨_, rfl, ?_⟩) | ((with_reducible refine gate_callee (f:=67) rfl ?_); refine gL_ (some 29) rfl rfl Try.func67 rfl #[.string t103] rfl ?_; (with_reducible refine (digits_number.calls k t103 t106 t107 _ A5.out).mono ?_); rintro e w' ⟨rfl, ⟨nd, rfl⟩⟩; refine ⟨_, rfl, ?_⟩) | ((with_reducible refine gate_callee (f:=67) rfl ?_); refine gL_ (some 34) rfl rfl Try.func67 rfl #[.string t104] rfl ?_; (with_reducible refine (digits_number.calls k t104 t108 t109 _ A6.out).mono ?_); rintro e w' ⟨rfl, ⟨nd, rfl⟩⟩; refine ⟨_, rfl, ?_⟩))
  (try simp only [q_])
  go_cut [50] (fun v50 wc => ∃ (kq : Nat) (x50_6 : Bool), v50 = .bool x50_6 ∧ Aside0 (digits_Read.j0 kq t102 t104 t106 t108 x50_6 = some (r1, r2)) ∧ Aside0 (kq ≤ k) ∧ Drawn0 w wc)
  case first =>
   have H := HC7.out; clear HC7
   by_cases c8 : t107 = true
   ·subst c8
    have H1 : (if t105 = true then (if t109 = true then (digits_Read.j0 k t102 t104 t106 t108 (decide ((t104.size : Int) > 4))) else (digits_Read.j0 k t102 t104 t106 t108 true)) else (digits_Read.j0 k t102 t104 t106 t108 false)) = some (r1, r2) := by rw [if_pos rfl] at H; exact H
    clear H; have H := H1; clear H1
    by_cases c9 : t105 = true
    ·subst c9
     have H1 : (if t109 = true then (digits_Read.j0 k t102 t104 t106 t108 (decide ((t104.size : Int) > 4))) else (digits_Read.j0 k t102 t104 t106 t108 true)) = some (r1, r2) := by rw [if_pos rfl] at H; exact H
     clear H; have H := H1; clear H1
     by_cases c10 : t109 = true
     ·subst c10
      have H1 : (digits_Read.j0 k t102 t104 t106 t108 (decide ((t104.size : Int) > 4))) = some (r1, r2) := by rw [if_pos rfl] at H; exact H
      clear H; have H := H1; clear H1
      have H' := Aside0.mk H
      clear H
      go_wp2
      go_meet
      case rel => exact ⟨_, (decide ((t104.size : Int) > 4)), (by first | rfl | (simp; done) | (simp [*]; done) | (cases t104 <;> simp; done)), H', ⟨by first | omega | exact Nat.le_refl _⟩, by repeat (first | exact Drawn0.refl _ | apply Drawn0.step)⟩
     ·replace c10 := Bool.eq_false_iff.mpr c10; subst c10
      have H1 : (digits_Read.j0 k t102 t104 t106 t108 true) = some (r1, r2) := by rw [if_neg (show ¬ (false = true) by decide)] at H; exact H
      clear H; have H := H1; clear H1
      have H' := Aside0.mk H
      clear H
      go_wp2
      go_meet
      case rel => exact ⟨_, (true), (by first | rfl | (simp; done) | (simp [*]; done)), H', ⟨by first | omega | exact Nat.le_refl _⟩, by repeat (first | exact Drawn0.refl _ | apply Drawn0.step)⟩
    ·replace c9 := Bool.eq_false_iff.mpr c9; subst c9
     have H1 : (digits_Read.j0 k t102 t104 t106 t108 false) = some (r1, r2) := by rw [if_neg (show ¬ (false = true) by decide)] at H; exact H
     clear H; have H := H1; clear H1
     have H' := Aside0.mk H
     clear H
     go_wp2
     go_meet
     case rel => exact ⟨_, (false), (by first | rfl | (simp; done) | (simp [*]; done)), H', ⟨by first | omega | exact Nat.le_refl _⟩, by repeat (first | exact Drawn0.refl _ | apply Drawn0.step)⟩
   ·replace c8 := Bool.eq_false_iff.mpr c8; subst c8
    have H1 : (digits_Read.j0 k t102 t104 t106 t108 true) = some (r1, r2) := by rw [if_neg (show ¬ (false = true) by decide)] at H; exact H
    clear H; have H := H1; clear H1
    have H' := Aside0.mk H
    clear H
    go_wp2
    go_meet
    case rel => exact ⟨_, (true), (by first | rfl | (simp; done) | (simp [*]; done)), H', ⟨by first | omega | exact Nat.le_refl _⟩, by repeat (first | exact Drawn0.refl _ | apply Drawn0.step)⟩
  case rest =>
   clear HC7; (try clear c1); (try clear p2); (try clear c3); (try clear c3b0); (try clear c3b1); (try clear c6); (try clear c8); (try clear c9); (try clear c10); obtain ⟨kq, x50_6, rfl, HA, HJ6, ⟨mc6, rfl⟩⟩ := hcut
   cases kq with
   | zero => exact absurd HA.out (by simp [digits_Read.j0])
   | succ kj6 =>
    have H := HA.out; clear HA
    simp only [digits_Read.j0] at H
    by_cases c11 : x50_6 = true
    ·subst c11
     have H1 : (some (0, false)) = some (r1, r2) := by rw [if_pos rfl] at H; exact H
     clear H; have H := H1; clear H1
     simp only [Option.some.injEq, Prod.mk.injEq] at H
     obtain ⟨rfl, rfl⟩ := H
     go_wp2
     go_ret2
     exact ⟨by first | rfl | (simp; done) | (simp [*]; done), by repeat (first | exact Drawn0.refl _ | apply Drawn0.step)⟩
    ·replace c11 := Bool.eq_false_iff.mpr c11; subst c11
     have H1 : (digits_Read.l0 kj6 t102 t106 t108 (wrap64 (4 - (t104.size : Int))) 0) = some (r1, r2) := by rw [if_neg (show ¬ (false = true) by decide)] at H; exact H
     clear H; have H := H1; clear H1
     have H' := Aside0.mk H
     clear H
     go_wp2
     go_loopg [11, 54] kj6 (fun kq v11 v54 w' => ∃ (x11_2 : Int) (x54_2 : Int), v11 = .int .i64 x11_2 ∧ v54 = .int .i64 x54_2 ∧ Aside0 (digits_Read.l0 kq t102 t106 x11_2 (wrap64 (4 - (t104.size : Int))) x54_2 = some (r1, r2)) ∧ Aside0 (kq ≤ kj6) ∧ Drawn0 w w')
     case atStart => exact ⟨(t108), (0), (by first | rfl | (simp; done) | (simp [*]; done) | (cases t108 <;> simp; done)), (by first | rfl | (simp; done) | (simp [*]; done)), H', ⟨Nat.le_refl _⟩, by repeat (first | exact Drawn0.refl _ | apply Drawn0.step)⟩
     case round =>
      clear H'; (try clear c1); (try clear p2); (try clear c3); (try clear c3b0); (try clear c3b1); (try clear c6); (try clear p6); (try clear c8); (try clear c9); (try clear c10); (try clear c11); (try clear p2); obtain ⟨x11_2, x54_2, rfl, rfl, HA, HK2, ⟨m2, rfl⟩⟩ := hrel
      cases gk with
      | zero => exact absurd HA.out (by simp [digits_Read.l0])
      | succ k2 =>
       have H := HA.out; clear HA
       simp only [digits_Read.l0] at H
       by_cases c12 : x54_2 < (wrap64 (4 - (t104.size : Int)))
       ·rw [if_pos c12] at H; have c12b0 : decide (x54_2 < (wrap64 (4 - (t104.size : Int)))) = true := decide_eq_true c12; clear c12
        have H' := Aside0.mk H
        clear H
        go_wp2
        go_roundg k2
        case measure => have := HJ6.out; have := HK2.out; omega
        case rel => exact ⟨(wrap64 (x11_2 * 10)), (wrap64 (x54_2 + 1)), (by first | rfl | (simp; done) | (simp [*]; done)), (by first | rfl | (simp; done) | (simp [*]; done)), H', ⟨by have := HJ6.out; have := HK2.out; omega⟩, by repeat (first | exact Drawn0.refl _ | apply Drawn0.step)⟩
       ·rw [if_neg c12] at H; have c12b0 : decide (x54_2 < (wrap64 (4 - (t104.size : Int)))) = false := decide_eq_false c12; clear c12; replace H := Option.bind_eq_some_iff.mp H; obtain ⟨⟨t110, t111⟩, A130, H⟩ := H
        replace H : (some (t110, t111)) = some (r1, r2) := H
        have A13 := Aside0.mk A130; clear A130
        simp only [Option.some.injEq, Prod.mk.injEq] at H
        obtain ⟨rfl, rfl⟩ := H
        go_wp2_with (first | ((with_reducible refine gate_callee (f:=68) rfl ?_); refine gL_ (some 62) rfl rfl Try.func68 rfl #[.int .i64 t106, .int .i64 x11_2, .bool t102] rfl ?_; (with_reducible refine (digits_put.calls k2 t106 x11_2 t102 t110 t111 _ A13.out).mono ?_); rintro e w' ⟨rfl, ⟨nd, rfl⟩⟩; refine ⟨_, rfl, ?_⟩))
        go_ret2
        exact ⟨by first | rfl | (simp; done) | (simp [*]; done), by repeat (first | exact Drawn0.refl _ | apply Drawn0.step)⟩

def value_Bool.f (a0 : Bool) : Option (Int × Int × ByteArray) := if a0 = true then (some (3, 1, (⟨#[]⟩ : ByteArray))) else (some (3, 0, (⟨#[]⟩ : ByteArray)))
set_option maxHeartbeats 8000000 in
set_option maxRecDepth 100000 in
theorem value_Bool.calls (a0 : Bool) (r1 : Int) (r2 : Int) (r3 : ByteArray) (w : World) (h : value_Bool.f a0 = some (r1, r2, r3)) :
  Calls Try.prog 69 #[.bool a0] w fun e w' => e = .returned (.agg #[.int .i64 r1, .int .i64 r2, .string r3]) ∧ Below w.heap.size w w' := by
 have hu26 := Try.underlying26; have HB := Aside0.mk (Below.refl w.heap.size w)
 have H : (if a0 = true then (some (3, 1, (⟨#[]⟩ : ByteArray))) else (some (3, 0, (⟨#[]⟩ : ByteArray)))) = some (r1, r2, r3) := h
 clear h
 by_cases c2 : a0 = true
 ·subst c2
  have H1 : (some (3, 1, (⟨#[]⟩ : ByteArray))) = some (r1, r2, r3) := by rw [if_pos rfl] at H; exact H
  clear H; have H := H1; clear H1
  simp only [Option.some.injEq, Prod.mk.injEq] at H
  obtain ⟨rfl, rfl, rfl⟩ := H
  go_enter Try.func69, Try.ntmps69
  go_wp2_with (first | ((with_reducible refine gate_dst (N:=2) rfl ?_); refine be_ (N:=2) (cs := #[.int .i64 0, .int .i64 0, .string (⟨#[]⟩ : ByteArray)]) (t:=26) ?_; intro gb101 hg w3 hbox hb; have BK101 := Aside0.mk (hbox); have GW101 := hs_ HB hg; have GE101 := hs_ HB hg; replace HB := bs_ HB hb; clear hb hbox hg; have hcz4_0 : w3.cell? ⟨gb101, 0, none⟩ = some (.int .i64 0) := bc_ BK101 0 rfl; have hcz4_1 : w3.cell? ⟨gb101, 1, none⟩ = some (.int .i64 0) := bc_ BK101 1 rfl; have hcz4_2 : w3.cell? ⟨gb101, 2, none⟩ = some (.string (⟨#[]⟩ : ByteArray)) := bc_ BK101 2 rfl; have hfz4_0 := blk_frozen BK101.out 0; have hfz4_1 := blk_frozen BK101.out 1; have hfz4_2 := blk_frozen BK101.out 2))
  refine bodyPost_ret (results_cell_row rfl _ _ gb101 26 #[.int .i64 3, .int .i64 1, .string (⟨#[]⟩ : ByteArray)] (0, 0) _ rfl (by refine pp_ (cs := #[.int .i64 3, .int .i64 1, .string (⟨#[]⟩ : ByteArray)]) 2 ?_ rfl; refine pp_ (cs := #[.int .i64 3, .int .i64 0, .string (⟨#[]⟩ : ByteArray)]) 1 ?_ rfl; refine pp_ (cs := #[.int .i64 0, .int .i64 0, .string (⟨#[]⟩ : ByteArray)]) 0 ?_ rfl; exact pkx BK101) Try.underlying26 rfl (by kernel_rfl)) rfl ?_
  exact ⟨by first | rfl | (simp [errW_none, errW_some] <;> rfl) | (simp [*, errW_none, errW_some] <;> rfl), by repeat (first | (with_reducible first | exact HB.out | apply below_alloc | apply pw_below_drewN | apply below_drew1 | refine below_set ?_ GE101.out) | exact HB.out)⟩
 ·replace c2 := Bool.eq_false_iff.mpr c2; subst c2
  have H1 : (some (3, 0, (⟨#[]⟩ : ByteArray))) = some (r1, r2, r3) := by rw [if_neg (show ¬ (false = true) by decide)] at H; exact H
  clear H; have H := H1; clear H1
  simp only [Option.some.injEq, Prod.mk.injEq] at H
  obtain ⟨rfl, rfl, rfl⟩ := H
  go_enter Try.func69, Try.ntmps69
  go_wp2_with (first | ((with_reducible refine gate_dst (N:=2) rfl ?_); refine be_ (N:=2) (cs := #[.int .i64 0, .int .i64 0, .string (⟨#[]⟩ : ByteArray)]) (t:=26) ?_; intro gb101 hg w5 hbox hb; have BK101 := Aside0.mk (hbox); have GW101 := hs_ HB hg; have GE101 := hs_ HB hg; replace HB := bs_ HB hb; clear hb hbox hg; have hcz6_0 : w5.cell? ⟨gb101, 0, none⟩ = some (.int .i64 0) := bc_ BK101 0 rfl; have hcz6_1 : w5.cell? ⟨gb101, 1, none⟩ = some (.int .i64 0) := bc_ BK101 1 rfl; have hcz6_2 : w5.cell? ⟨gb101, 2, none⟩ = some (.string (⟨#[]⟩ : ByteArray)) := bc_ BK101 2 rfl; have hfz6_0 := blk_frozen BK101.out 0; have hfz6_1 := blk_frozen BK101.out 1; have hfz6_2 := blk_frozen BK101.out 2))
  refine bodyPost_ret (results_cell_row rfl _ _ gb101 26 #[.int .i64 3, .int .i64 0, .string (⟨#[]⟩ : ByteArray)] (0, 0) _ rfl (by refine pp_ (cs := #[.int .i64 3, .int .i64 0, .string (⟨#[]⟩ : ByteArray)]) 2 ?_ rfl; refine pp_ (cs := #[.int .i64 3, .int .i64 0, .string (⟨#[]⟩ : ByteArray)]) 1 ?_ rfl; refine pp_ (cs := #[.int .i64 0, .int .i64 0, .string (⟨#[]⟩ : ByteArray)]) 0 ?_ rfl; exact pkx BK101) Try.underlying26 rfl (by kernel_rfl)) rfl ?_
  exact ⟨by first | rfl | (simp [errW_none, errW_some] <;> rfl) | (simp [*, errW_none, errW_some] <;> rfl), by repeat (first | (with_reducible first | exact HB.out | apply below_alloc | apply pw_below_drewN | apply below_drew1 | refine below_set ?_ GE101.out) | exact HB.out)⟩

def value_AsTruth.j0 : Nat → Bool → Int → Int → ByteArray → Option (Int × Int × ByteArray)
 | 0, _, _, _, _ => none
 | k + 1, x23, x102000, x102001, x102002 => if x23 = true then ((value_Bool.f (x102002.toList == ([84, 82, 85, 69] : List UInt8))).bind fun bt109 => (some (bt109.1, bt109.2.1, bt109.2.2))) else ((value_Bad.f 2).bind fun bt112 => (some (bt112.1, bt112.2.1, bt112.2.2)))
def value_AsTruth.f (k : Nat) (a0_0 : Int) (a0_1 : Int) (a0_2 : ByteArray) : Option (Int × Int × ByteArray) := if a0_0 = 0 then ((value_Bool.f false).bind fun bt103 => (some (bt103.1, bt103.2.1, bt103.2.2))) else (if a0_0 = 1 then ((value_Bool.f (a0_1 != 0)).bind fun bt106 => (some (bt106.1, bt106.2.1, bt106.2.2))) else (if a0_0 = 2 then (if a0_2.toList = ([84, 82, 85, 69] : List UInt8) then (value_AsTruth.j0 k true a0_0 a0_1 a0_2) else (value_AsTruth.j0 k (a0_2.toList == ([70, 65, 76, 83, 69] : List UInt8)) a0_0 a0_1 a0_2)) else (some (a0_0, a0_1, a0_2))))
theorem value_AsTruth.mono_l : ∀ k, (∀ y0 y1 y2 y3, LeO (value_AsTruth.j0 k y0 y1 y2 y3) (value_AsTruth.j0 (k + 1) y0 y1 y2 y3))
 | 0 => fun _ _ _ _ r h => by simp [value_AsTruth.j0] at h
 | k + 1 => by
  have ih0 := value_AsTruth.mono_l k
  ·intro y0 y1 y2 y3
   unfold value_AsTruth.j0
   repeat' first
   | (with_reducible exact ih0 _ _ _ _)
   | (with_reducible exact LeO.refl _)
   | (with_reducible exact LeO.none _)
   | (with_reducible refine LeO.ite ?_ ?_)
   | (with_reducible refine LeO.bind ?_ (fun _ => ?_))
theorem value_AsTruth.mono : ∀ a0 a1 a2 k, LeO (value_AsTruth.f k a0 a1 a2) (value_AsTruth.f (k + 1) a0 a1 a2) := by
 intro a0 a1 a2 k; have ih0 := value_AsTruth.mono_l k
 unfold value_AsTruth.f
 repeat' first
   | (with_reducible exact ih0 _ _ _ _)
   | (with_reducible exact LeO.refl _)
   | (with_reducible exact LeO.none _)
   | (with_reducible refine LeO.ite ?_ ?_)
   | (with_reducible refine LeO.bind ?_ (fun _ => ?_))
set_option maxHeartbeats 8000000 in
set_option maxRecDepth 100000 in
theorem value_AsTruth.calls (k : Nat) (a0_0 : Int) (a0_1 : Int) (a0_2 : ByteArray) (r1 : Int) (r2 : Int) (r3 : ByteArray) (w : World) (h : value_AsTruth.f k a0_0 a0_1 a0_2 = some (r1, r2, r3)) :
  Calls Try.prog 61 #[.agg #[.int .i64 a0_0, .int .i64 a0_1, .string a0_2]] w fun e w' => e = .returned (.agg #[.int .i64 r1, .int .i64 r2, .string r3]) ∧ Below w.heap.size w w' := by
 have hu26 := Try.underlying26; have HB := Aside0.mk (Below.refl w.heap.size w)
 have H : (if a0_0 = 0 then ((value_Bool.f false).bind fun bt103 => (some (bt103.1, bt103.2.1, bt103.2.2))) else (if a0_0 = 1 then ((value_Bool.f (a0_1 != 0)).bind fun bt106 => (some (bt106.1, bt106.2.1, bt106.2.2))) else (if a0_0 = 2 then (if a0_2.toList = ([84, 82, 85, 69] : List UInt8) then (value_AsTruth.j0 k true a0_0 a0_1 a0_2) else (value_AsTruth.j0 k (a0_2.toList == ([70, 65, 76, 83, 69] : List UInt8)) a0_0 a0_1 a0_2)) else (some (a0_0, a0_1, a0_2))))) = some (r1, r2, r3) := h
 clear h
 by_cases c2 : a0_0 = 0
 ·rw [if_pos c2] at H; have c2b0 : (a0_0 == 0) = true := beq_iff_eq.mpr c2; have c2b1 : (a0_0 != 0) = false := bne_eq_false_iff_eq.mpr c2; clear c2; replace H := Option.bind_eq_some_iff.mp H; obtain ⟨⟨t103, t104, t105⟩, A30, H⟩ := H
  replace H : (some (t103, t104, t105)) = some (r1, r2, r3) := H
  have A3 := Aside0.mk A30; clear A30
  simp only [Option.some.injEq, Prod.mk.injEq] at H
  obtain ⟨rfl, rfl, rfl⟩ := H
  go_enter Try.func61, Try.ntmps61
  go_wp2_with (first | ((with_reducible refine gate_dst (N:=1) rfl ?_); refine be_ (N:=1) (cs := #[.int .i64 a0_0, .int .i64 a0_1, .string a0_2]) (t:=26) ?_; intro gb101 hg w4 hbox hb; have BK101 := Aside0.mk (hbox); have GW101 := hs_ HB hg; have GE101 := hs_ HB hg; replace HB := bs_ HB hb; clear hb hbox hg) | ((with_reducible refine gate_dst (N:=2) rfl ?_); refine be_ (N:=2) (cs := #[.int .i64 0, .int .i64 0, .string (⟨#[]⟩ : ByteArray)]) (t:=26) ?_; intro gb102 hg w5 hbox hb; have BK102 := Aside0.mk (hbox); have GW102 := hs_ HB hg; have GE102 := hs_ HB hg; have NB101_102 := hl_ BK101 hg; have NB102_101 := hr_ BK101 hg; replace BK101 := bb_ BK101 hb; replace HB := bs_ HB hb; clear hb hbox hg; have hnb6 := NB101_102.out; have hnc6 := NB102_101.out; have hcz7_0 : w5.cell? ⟨gb101, 0, none⟩ = some (.int .i64 a0_0) := bc_ BK101 0 rfl; have hcz7_1 : w5.cell? ⟨gb101, 1, none⟩ = some (.int .i64 a0_1) := bc_ BK101 1 rfl; have hcz7_2 : w5.cell? ⟨gb101, 2, none⟩ = some (.string a0_2) := bc_ BK101 2 rfl; have hfz7_0 := blk_frozen BK101.out 0; have hfz7_1 := blk_frozen BK101.out 1; have hfz7_2 := blk_frozen BK101.out 2) | ((with_reducible refine gate_callee (f:=69) rfl ?_); refine gL_ (some 7) rfl rfl Try.func69 rfl #[.bool false] rfl ?_; (with_reducible refine (value_Bool.calls false t103 t104 t105 _ A3.out).mono ?_); rintro e w8 ⟨rfl, hb⟩; refine ⟨_, rfl, ?_⟩; replace BK101 := bb_ BK101 hb; replace BK102 := bb_ BK102 hb; replace HB := bs_ HB hb; (try clear hb); (try clear hb2); (try clear hk); (try clear hi); have hcz9_0 : w8.cell? ⟨gb102, 0, none⟩ = some (.int .i64 0) := bc_ BK102 0 rfl; have hcz9_1 : w8.cell? ⟨gb102, 1, none⟩ = some (.int .i64 0) := bc_ BK102 1 rfl; have hcz9_2 : w8.cell? ⟨gb102, 2, none⟩ = some (.string (⟨#[]⟩ : ByteArray)) := bc_ BK102 2 rfl; have hfz9_0 := blk_frozen BK102.out 0; have hfz9_1 := blk_frozen BK102.out 1; have hfz9_2 := blk_frozen BK102.out 2))
  refine bodyPost_ret (results_cell_row rfl _ _ gb102 26 #[.int .i64 t103, .int .i64 t104, .string t105] (0, 0) _ rfl (by refine pp_ (cs := #[.int .i64 t103, .int .i64 t104, .string (⟨#[]⟩ : ByteArray)]) 2 ?_ rfl; refine pp_ (cs := #[.int .i64 t103, .int .i64 0, .string (⟨#[]⟩ : ByteArray)]) 1 ?_ rfl; refine pp_ (cs := #[.int .i64 0, .int .i64 0, .string (⟨#[]⟩ : ByteArray)]) 0 ?_ rfl; exact pkx BK102) Try.underlying26 rfl (by kernel_rfl)) rfl ?_
  exact ⟨by first | rfl | (simp [errW_none, errW_some] <;> rfl) | (simp [*, errW_none, errW_some] <;> rfl), by repeat (first | (with_reducible first | exact HB.out | apply below_alloc | apply pw_below_drewN | apply below_drew1 | refine below_set ?_ GE101.out | refine below_set ?_ GE102.out) | exact HB.out)⟩
 ·rw [if_neg c2] at H; have c2b0 : (a0_0 == 0) = false := beq_eq_false_iff_ne.mpr c2; have c2b1 : (a0_0 != 0) = true := bne_iff_ne.mpr c2
  by_cases c10 : a0_0 = 1
  ·rw [if_pos c10] at H; have c10b0 : (a0_0 == 1) = true := beq_iff_eq.mpr c10; have c10b1 : (a0_0 != 1) = false := bne_eq_false_iff_eq.mpr c10; clear c10; replace H := Option.bind_eq_some_iff.mp H; obtain ⟨⟨t106, t107, t108⟩, A110, H⟩ := H
   replace H : (some (t106, t107, t108)) = some (r1, r2, r3) := H
   have A11 := Aside0.mk A110; clear A110
   simp only [Option.some.injEq, Prod.mk.injEq] at H
   obtain ⟨rfl, rfl, rfl⟩ := H
   go_enter Try.func61, Try.ntmps61
   go_wp2_with (first | ((with_reducible refine gate_dst (N:=1) rfl ?_); refine be_ (N:=1) (cs := #[.int .i64 a0_0, .int .i64 a0_1, .string a0_2]) (t:=26) ?_; intro gb101 hg w12 hbox hb; have BK101 := Aside0.mk (hbox); have GW101 := hs_ HB hg; have GE101 := hs_ HB hg; replace HB := bs_ HB hb; clear hb hbox hg) | ((with_reducible refine gate_dst (N:=2) rfl ?_); refine be_ (N:=2) (cs := #[.int .i64 0, .int .i64 0, .string (⟨#[]⟩ : ByteArray)]) (t:=26) ?_; intro gb102 hg w13 hbox hb; have BK102 := Aside0.mk (hbox); have GW102 := hs_ HB hg; have GE102 := hs_ HB hg; have NB101_102 := hl_ BK101 hg; have NB102_101 := hr_ BK101 hg; replace BK101 := bb_ BK101 hb; replace HB := bs_ HB hb; clear hb hbox hg; have hnb14 := NB101_102.out; have hnc14 := NB102_101.out; have hcz15_0 : w13.cell? ⟨gb101, 0, none⟩ = some (.int .i64 a0_0) := bc_ BK101 0 rfl; have hcz15_1 : w13.cell? ⟨gb101, 1, none⟩ = some (.int .i64 a0_1) := bc_ BK101 1 rfl; have hcz15_2 : w13.cell? ⟨gb101, 2, none⟩ = some (.string a0_2) := bc_ BK101 2 rfl; have hfz15_0 := blk_frozen BK101.out 0; have hfz15_1 := blk_frozen BK101.out 1; have hfz15_2 := blk_frozen BK101.out 2) | ((with_reducible refine gate_callee (f:=69) rfl ?_); refine gL_ (some 13) rfl rfl Try.func69 rfl #[.bool (a0_1 != 0)] rfl ?_; (with_reducible refine (value_Bool.calls (a0_1 != 0) t106 t107 t108 _ A11.out).mono ?_); rintro e w16 ⟨rfl, hb⟩; refine ⟨_, rfl, ?_⟩; replace BK101 := bb_ BK101 hb; replace BK102 := bb_ BK102 hb; replace HB := bs_ HB hb; (try clear hb); (try clear hb2); (try clear hk); (try clear hi); have hcz17_0 : w16.cell? ⟨gb102, 0, none⟩ = some (.int .i64 0) := bc_ BK102 0 rfl; have hcz17_1 : w16.cell? ⟨gb102, 1, none⟩ = some (.int .i64 0) := bc_ BK102 1 rfl; have hcz17_2 : w16.cell? ⟨gb102, 2, none⟩ = some (.string (⟨#[]⟩ : ByteArray)) := bc_ BK102 2 rfl; have hfz17_0 := blk_frozen BK102.out 0; have hfz17_1 := blk_frozen BK102.out 1; have hfz17_2 := blk_frozen BK102.out 2))
   refine bodyPost_ret (results_cell_row rfl _ _ gb102 26 #[.int .i64 t106, .int .i64 t107, .string t108] (0, 0) _ rfl (by refine pp_ (cs := #[.int .i64 t106, .int .i64 t107, .string (⟨#[]⟩ : ByteArray)]) 2 ?_ rfl; refine pp_ (cs := #[.int .i64 t106, .int .i64 0, .string (⟨#[]⟩ : ByteArray)]) 1 ?_ rfl; refine pp_ (cs := #[.int .i64 0, .int .i64 0, .string (⟨#[]⟩ : ByteArray)]) 0 ?_ rfl; exact pkx BK102) Try.underlying26 rfl (by kernel_rfl)) rfl ?_
   exact ⟨by first | rfl | (simp [errW_none, errW_some] <;> rfl) | (simp [*, errW_none, errW_some] <;> rfl), by repeat (first | (with_reducible first | exact HB.out | apply below_alloc | apply pw_below_drewN | apply below_drew1 | refine below_set ?_ GE101.out | refine below_set ?_ GE102.out) | exact HB.out)⟩
  ·rw [if_neg c10] at H; have c10b0 : (a0_0 == 1) = false := beq_eq_false_iff_ne.mpr c10; have c10b1 : (a0_0 != 1) = true := bne_iff_ne.mpr c10
   by_cases c18 : a0_0 = 2
   ·rw [if_pos c18] at H; have c18b0 : (a0_0 == 2) = true := beq_iff_eq.mpr c18; have c18b1 : (a0_0 != 2) = false := bne_eq_false_iff_eq.mpr c18; clear c18; have HC19 := Aside0.mk H; clear H
    go_enter Try.func61, Try.ntmps61
    go_upto_region 7 with (first | ((with_reducible refine gate_dst (N:=1) rfl ?_); refine be_ (N:=1) (cs := #[.int .i64 a0_0, .int .i64 a0_1, .string a0_2]) (t:=26) ?_; intro gb101 hg w20 hbox hb; have BK101 := Aside0.mk (hbox); have GW101 := hs_ HB hg; have GE101 := hs_ HB hg; replace HB := bs_ HB hb; clear hb hbox hg) | ((with_reducible refine gate_dst (N:=2) rfl ?_); refine be_ (N:=2) (cs := #[.int .i64 0, .int .i64 0, .string (⟨#[]⟩ : ByteArray)]) (t:=26) ?_; intro gb102 hg w21 hbox hb; have BK102 := Aside0.mk (hbox); have GW102 := hs_ HB hg; have GE102 := hs_ HB hg; have NB101_102 := hl_ BK101 hg; have NB102_101 := hr_ BK101 hg; replace BK101 := bb_ BK101 hb; replace HB := bs_ HB hb; clear hb hbox hg; have hnb22 := NB101_102.out; have hnc22 := NB102_101.out; have hcz23_0 : w21.cell? ⟨gb101, 0, none⟩ = some (.int .i64 a0_0) := bc_ BK101 0 rfl; have hcz23_1 : w21.cell? ⟨gb101, 1, none⟩ = some (.int .i64 a0_1) := bc_ BK101 1 rfl; have hcz23_2 : w21.cell? ⟨gb101, 2, none⟩ = some (.string a0_2) := bc_ BK101 2 rfl; have hfz23_0 := blk_frozen BK101.out 0; have hfz23_1 := blk_frozen BK101.out 1; have hfz23_2 := blk_frozen BK101.out 2))
    (try simp only [q_])
    go_cut [23] (fun v23 wc => ∃ (kq : Nat) (x23_18 : Bool), v23 = .bool x23_18 ∧ Aside0 (value_AsTruth.j0 kq x23_18 a0_0 a0_1 a0_2 = some (r1, r2, r3)) ∧ Aside0 (kq ≤ k) ∧ Aside0 (wc.heap[gb101]? = some (.cells #[.int .i64 a0_0, .int .i64 a0_1, .string a0_2] 26 (0, 0))) ∧ Aside0 (wc.heap[gb102]? = some (.cells #[.int .i64 0, .int .i64 0, .string (⟨#[]⟩ : ByteArray)] 26 (0, 0))) ∧ Aside0 (Below w.heap.size w wc))
    case first =>
     have H := HC19.out; clear HC19
     by_cases c24 : a0_2.toList = ([84, 82, 85, 69] : List UInt8)
     ·rw [if_pos c24] at H; have c24b0 : (a0_2.toList == ([84, 82, 85, 69] : List UInt8)) = true := beq_iff_eq.mpr c24; have c24b1 : (a0_2.toList != ([84, 82, 85, 69] : List UInt8)) = false := bne_eq_false_iff_eq.mpr c24; clear c24; (first | rw [c24b0] | (simp only [i64_w, i32_w]; rw [c24b0]) | skip)
      have H' := Aside0.mk H
      clear H; have hnb25 := NB101_102.out; have hnc25 := NB102_101.out
      have hcz26_0 : w21.cell? ⟨gb101, 0, none⟩ = some (.int .i64 a0_0) := bc_ BK101 0 rfl
      have hcz26_1 : w21.cell? ⟨gb101, 1, none⟩ = some (.int .i64 a0_1) := bc_ BK101 1 rfl
      have hcz26_2 : w21.cell? ⟨gb101, 2, none⟩ = some (.string a0_2) := bc_ BK101 2 rfl
      have hfz26_0 := blk_frozen BK101.out 0; have hfz26_1 := blk_frozen BK101.out 1; have hfz26_2 := blk_frozen BK101.out 2
      go_wp2
      go_meet
      case rel => exact ⟨_, (true), (by first | rfl | (simp; done) | (simp [*]; done)), H', ⟨by first | omega | exact Nat.le_refl _⟩, ⟨pkx BK101⟩, ⟨pkx BK102⟩, ⟨pbx HB⟩⟩
     ·rw [if_neg c24] at H; have c24b0 : (a0_2.toList == ([84, 82, 85, 69] : List UInt8)) = false := beq_eq_false_iff_ne.mpr c24; have c24b1 : (a0_2.toList != ([84, 82, 85, 69] : List UInt8)) = true := bne_iff_ne.mpr c24; (first | rw [c24b0] | (simp only [i64_w, i32_w]; rw [c24b0]) | skip)
      have H' := Aside0.mk H
      clear H; have hnb27 := NB101_102.out; have hnc27 := NB102_101.out
      have hcz28_0 : w21.cell? ⟨gb101, 0, none⟩ = some (.int .i64 a0_0) := bc_ BK101 0 rfl
      have hcz28_1 : w21.cell? ⟨gb101, 1, none⟩ = some (.int .i64 a0_1) := bc_ BK101 1 rfl
      have hcz28_2 : w21.cell? ⟨gb101, 2, none⟩ = some (.string a0_2) := bc_ BK101 2 rfl
      have hfz28_0 := blk_frozen BK101.out 0; have hfz28_1 := blk_frozen BK101.out 1; have hfz28_2 := blk_frozen BK101.out 2
      go_wp2
      go_meet
      case rel => exact ⟨_, ((a0_2.toList == ([70, 65, 76, 83, 69] : List UInt8))), (by first | rfl | (simp; done) | (simp [*]; done)), H', ⟨by first | omega | exact Nat.le_refl _⟩, ⟨pkx BK101⟩, ⟨pkx BK102⟩, ⟨pbx HB⟩⟩
    case rest =>
     clear HC19; (try clear c1); (try clear c2); (try clear c2b0); (try clear c2b1); (try clear p2); (try clear c6); (try clear c10); (try clear c10b0); (try clear c10b1); (try clear c14); (try clear c18); (try clear c18b0); (try clear c18b1); (try clear c22); (try clear c24); (try clear c24b0); (try clear c24b1); (try clear c25); (try clear c27); (try clear hcz15_0); (try clear hcz15_1); (try clear hcz15_2); (try clear hcz17_0); (try clear hcz17_1); (try clear hcz17_2); (try clear hcz23_0); (try clear hcz23_1); (try clear hcz23_2); (try clear hcz26_0); (try clear hcz26_1); (try clear hcz26_2); (try clear hcz28_0); (try clear hcz28_1); (try clear hcz28_2); (try clear hcz7_0); (try clear hcz7_1); (try clear hcz7_2); (try clear hcz9_0); (try clear hcz9_1); (try clear hcz9_2); (try clear hfz15_0); (try clear hfz15_1); (try clear hfz15_2); (try clear hfz17_0); (try clear hfz17_1); (try clear hfz17_2)
     (try clear hfz23_0); (try clear hfz23_1); (try clear hfz23_2); (try clear hfz26_0); (try clear hfz26_1); (try clear hfz26_2); (try clear hfz28_0); (try clear hfz28_1); (try clear hfz28_2); (try clear hfz7_0); (try clear hfz7_1); (try clear hfz7_2); (try clear hfz9_0); (try clear hfz9_1); (try clear hfz9_2); obtain ⟨kq, x23_18, rfl, HA, HJ18, BK101, BK102, HB⟩ := hcut
     cases kq with
     | zero => exact absurd HA.out (by simp [value_AsTruth.j0])
     | succ kj18 =>
      have H := HA.out; clear HA
      simp only [value_AsTruth.j0] at H
      by_cases c29 : x23_18 = true
      ·subst c29
       have H1 : ((value_Bool.f (a0_2.toList == ([84, 82, 85, 69] : List UInt8))).bind fun bt109 => (some (bt109.1, bt109.2.1, bt109.2.2))) = some (r1, r2, r3) := by rw [if_pos rfl] at H; exact H
       clear H; have H := H1; clear H1; replace H := Option.bind_eq_some_iff.mp H; obtain ⟨⟨t109, t110, t111⟩, A300, H⟩ := H
       replace H : (some (t109, t110, t111)) = some (r1, r2, r3) := H
       have A30 := Aside0.mk A300; clear A300
       simp only [Option.some.injEq, Prod.mk.injEq] at H
       obtain ⟨rfl, rfl, rfl⟩ := H; have hnb31 := NB101_102.out; have hnc31 := NB102_101.out
       have hcz32_0 : wc.cell? ⟨gb101, 0, none⟩ = some (.int .i64 a0_0) := bc_ BK101 0 rfl
       have hcz32_1 : wc.cell? ⟨gb101, 1, none⟩ = some (.int .i64 a0_1) := bc_ BK101 1 rfl
       have hcz32_2 : wc.cell? ⟨gb101, 2, none⟩ = some (.string a0_2) := bc_ BK101 2 rfl
       have hfz32_0 := blk_frozen BK101.out 0; have hfz32_1 := blk_frozen BK101.out 1; have hfz32_2 := blk_frozen BK101.out 2
       go_wp2_with (first | ((with_reducible refine gate_callee (f:=69) rfl ?_); refine gL_ (some 27) rfl rfl Try.func69 rfl #[.bool (a0_2.toList == ([84, 82, 85, 69] : List UInt8))] rfl ?_; (with_reducible refine (value_Bool.calls (a0_2.toList == ([84, 82, 85, 69] : List UInt8)) t109 t110 t111 _ A30.out).mono ?_); rintro e w33 ⟨rfl, hb⟩; refine ⟨_, rfl, ?_⟩; replace BK101 := bb_ BK101 hb; replace BK102 := bb_ BK102 hb; replace HB := bs_ HB hb; (try clear hb); (try clear hb2); (try clear hk); (try clear hi); have hcz34_0 : w33.cell? ⟨gb102, 0, none⟩ = some (.int .i64 0) := bc_ BK102 0 rfl; have hcz34_1 : w33.cell? ⟨gb102, 1, none⟩ = some (.int .i64 0) := bc_ BK102 1 rfl; have hcz34_2 : w33.cell? ⟨gb102, 2, none⟩ = some (.string (⟨#[]⟩ : ByteArray)) := bc_ BK102 2 rfl; have hfz34_0 := blk_frozen BK102.out 0; have hfz34_1 := blk_frozen BK102.out 1; have hfz34_2 := blk_frozen BK102.out 2))
       refine bodyPost_ret (results_cell_row rfl _ _ gb102 26 #[.int .i64 t109, .int .i64 t110, .string t111] (0, 0) _ rfl (by refine pp_ (cs := #[.int .i64 t109, .int .i64 t110, .string (⟨#[]⟩ : ByteArray)]) 2 ?_ rfl; refine pp_ (cs := #[.int .i64 t109, .int .i64 0, .string (⟨#[]⟩ : ByteArray)]) 1 ?_ rfl; refine pp_ (cs := #[.int .i64 0, .int .i64 0, .string (⟨#[]⟩ : ByteArray)]) 0 ?_ rfl; exact pkx BK102) Try.underlying26 rfl (by kernel_rfl)) rfl ?_
       exact ⟨by first | rfl | (simp [errW_none, errW_some] <;> rfl) | (simp [*, errW_none, errW_some] <;> rfl), by repeat (first | (with_reducible first | exact HB.out | apply below_alloc | apply pw_below_drewN | apply below_drew1 | refine below_set ?_ GE101.out | refine below_set ?_ GE102.out) | exact HB.out)⟩
      ·replace c29 := Bool.eq_false_iff.mpr c29; subst c29
       have H1 : ((value_Bad.f 2).bind fun bt112 => (some (bt112.1, bt112.2.1, bt112.2.2))) = some (r1, r2, r3) := by rw [if_neg (show ¬ (false = true) by decide)] at H; exact H
       clear H; have H := H1; clear H1; replace H := Option.bind_eq_some_iff.mp H; obtain ⟨⟨t112, t113, t114⟩, A350, H⟩ := H
       replace H : (some (t112, t113, t114)) = some (r1, r2, r3) := H
       have A35 := Aside0.mk A350; clear A350
       simp only [Option.some.injEq, Prod.mk.injEq] at H
       obtain ⟨rfl, rfl, rfl⟩ := H
       go_wp2_with (first | ((with_reducible refine gate_callee (f:=26) rfl ?_); refine gL_ (some 28) rfl rfl Try.func26 rfl #[.int .i64 2] rfl ?_; (with_reducible refine (value_Bad.calls 2 t112 t113 t114 _ A35.out).mono ?_); rintro e w36 ⟨rfl, hb⟩; refine ⟨_, rfl, ?_⟩; replace BK101 := bb_ BK101 hb; replace BK102 := bb_ BK102 hb; replace HB := bs_ HB hb; (try clear hb); (try clear hb2); (try clear hk); (try clear hi); have hnb37 := NB102_101.out; have hnc37 := NB101_102.out; have hcz38_0 : w36.cell? ⟨gb102, 0, none⟩ = some (.int .i64 0) := bc_ BK102 0 rfl; have hcz38_1 : w36.cell? ⟨gb102, 1, none⟩ = some (.int .i64 0) := bc_ BK102 1 rfl; have hcz38_2 : w36.cell? ⟨gb102, 2, none⟩ = some (.string (⟨#[]⟩ : ByteArray)) := bc_ BK102 2 rfl; have hfz38_0 := blk_frozen BK102.out 0; have hfz38_1 := blk_frozen BK102.out 1; have hfz38_2 := blk_frozen BK102.out 2))
       refine bodyPost_ret (results_cell_row rfl _ _ gb102 26 #[.int .i64 t112, .int .i64 t113, .string t114] (0, 0) _ rfl (by refine pp_ (cs := #[.int .i64 t112, .int .i64 t113, .string (⟨#[]⟩ : ByteArray)]) 2 ?_ rfl; refine pp_ (cs := #[.int .i64 t112, .int .i64 0, .string (⟨#[]⟩ : ByteArray)]) 1 ?_ rfl; refine pp_ (cs := #[.int .i64 0, .int .i64 0, .string (⟨#[]⟩ : ByteArray)]) 0 ?_ rfl; exact pkx BK102) Try.underlying26 rfl (by kernel_rfl)) rfl ?_
       exact ⟨by first | rfl | (simp [errW_none, errW_some] <;> rfl) | (simp [*, errW_none, errW_some] <;> rfl), by repeat (first | (with_reducible first | exact HB.out | apply below_alloc | apply pw_below_drewN | apply below_drew1 | refine below_set ?_ GE101.out | refine below_set ?_ GE102.out) | exact HB.out)⟩
   ·rw [if_neg c18] at H; have c18b0 : (a0_0 == 2) = false := beq_eq_false_iff_ne.mpr c18; have c18b1 : (a0_0 != 2) = true := bne_iff_ne.mpr c18
    simp only [Option.some.injEq, Prod.mk.injEq] at H
    obtain ⟨rfl, rfl, rfl⟩ := H
    go_enter Try.func61, Try.ntmps61
    go_wp2_with (first | ((with_reducible refine gate_dst (N:=1) rfl ?_); refine be_ (N:=1) (cs := #[.int .i64 a0_0, .int .i64 a0_1, .string a0_2]) (t:=26) ?_; intro gb101 hg w39 hbox hb; have BK101 := Aside0.mk (hbox); have GW101 := hs_ HB hg; have GE101 := hs_ HB hg; replace HB := bs_ HB hb; clear hb hbox hg) | ((with_reducible refine gate_dst (N:=2) rfl ?_); refine be_ (N:=2) (cs := #[.int .i64 0, .int .i64 0, .string (⟨#[]⟩ : ByteArray)]) (t:=26) ?_; intro gb102 hg w40 hbox hb; have BK102 := Aside0.mk (hbox); have GW102 := hs_ HB hg; have GE102 := hs_ HB hg; have NB101_102 := hl_ BK101 hg; have NB102_101 := hr_ BK101 hg; replace BK101 := bb_ BK101 hb; replace HB := bs_ HB hb; clear hb hbox hg; have hnb41 := NB101_102.out; have hnc41 := NB102_101.out; have hcz42_0 : w40.cell? ⟨gb101, 0, none⟩ = some (.int .i64 a0_0) := bc_ BK101 0 rfl; have hcz42_1 : w40.cell? ⟨gb101, 1, none⟩ = some (.int .i64 a0_1) := bc_ BK101 1 rfl; have hcz42_2 : w40.cell? ⟨gb101, 2, none⟩ = some (.string a0_2) := bc_ BK101 2 rfl; have hfz42_0 := blk_frozen BK101.out 0; have hfz42_1 := blk_frozen BK101.out 1; have hfz42_2 := blk_frozen BK101.out 2; have hcz43_0 : w40.cell? ⟨gb102, 0, none⟩ = some (.int .i64 0) := bc_ BK102 0 rfl; have hcz43_1 : w40.cell? ⟨gb102, 1, none⟩ = some (.int .i64 0) := bc_ BK102 1 rfl; have hcz43_2 : w40.cell? ⟨gb102, 2, none⟩ = some (.string (⟨#[]⟩ : ByteArray)) := bc_ BK102 2 rfl; have hfz43_0 := blk_frozen BK102.out 0; have hfz43_1 := blk_frozen BK102.out 1; have hfz43_2 := blk_frozen BK102.out 2))
    refine bodyPost_ret (results_cell_row rfl _ _ gb102 26 #[.int .i64 a0_0, .int .i64 a0_1, .string a0_2] (0, 0) _ rfl (by refine pp_ (cs := #[.int .i64 a0_0, .int .i64 a0_1, .string (⟨#[]⟩ : ByteArray)]) 2 ?_ rfl; refine pp_ (cs := #[.int .i64 a0_0, .int .i64 0, .string (⟨#[]⟩ : ByteArray)]) 1 ?_ rfl; refine pp_ (cs := #[.int .i64 0, .int .i64 0, .string (⟨#[]⟩ : ByteArray)]) 0 ?_ rfl; exact pkx BK102) Try.underlying26 rfl (by kernel_rfl)) rfl ?_
    exact ⟨by first | rfl | (simp [errW_none, errW_some] <;> rfl) | (simp [*, errW_none, errW_some] <;> rfl), by repeat (first | (with_reducible first | exact HB.out | apply below_alloc | apply pw_below_drewN | apply below_drew1 | refine below_set ?_ GE101.out | refine below_set ?_ GE102.out) | exact HB.out)⟩

def crit_read.f (k : Nat) (a0 : ByteArray) : Option (Int × Int × ByteArray) := (digits_Read.f k a0).bind fun bt102 => (if bt102.2 = true then ((value_Num.f bt102.1).bind fun bt104 => (some (bt104.1, bt104.2.1, bt104.2.2))) else ((value_Str.f a0).bind fun bt107 => ((value_AsTruth.f k bt107.1 bt107.2.1 bt107.2.2).bind fun bt110 => (if bt110.1 = 3 then (some (bt110.1, bt110.2.1, bt110.2.2)) else ((value_Str.f a0).bind fun bt114 => (some (bt114.1, bt114.2.1, bt114.2.2)))))))
theorem crit_read.mono : ∀ a0 k, LeO (crit_read.f k a0) (crit_read.f (k + 1) a0) := by
 intro a0 k
 unfold crit_read.f
 repeat' first
   | (with_reducible exact digits_Read.mono _ _)
   | (with_reducible exact value_AsTruth.mono _ _ _ _)
   | (with_reducible exact LeO.refl _)
   | (with_reducible exact LeO.none _)
   | (with_reducible refine LeO.ite ?_ ?_)
   | (with_reducible refine LeO.bind ?_ (fun _ => ?_))
set_option maxHeartbeats 8000000 in
set_option maxRecDepth 100000 in
theorem crit_read.calls (k : Nat) (a0 : ByteArray) (r1 : Int) (r2 : Int) (r3 : ByteArray) (w : World) (h : crit_read.f k a0 = some (r1, r2, r3)) :
  Calls Try.prog 53 #[.string a0] w fun e w' => e = .returned (.agg #[.int .i64 r1, .int .i64 r2, .string r3]) ∧ Below w.heap.size w w' := by
 have hu26 := Try.underlying26; have HB := Aside0.mk (Below.refl w.heap.size w)
 have H : ((digits_Read.f k a0).bind fun bt102 => (if bt102.2 = true then ((value_Num.f bt102.1).bind fun bt104 => (some (bt104.1, bt104.2.1, bt104.2.2))) else ((value_Str.f a0).bind fun bt107 => ((value_AsTruth.f k bt107.1 bt107.2.1 bt107.2.2).bind fun bt110 => (if bt110.1 = 3 then (some (bt110.1, bt110.2.1, bt110.2.2)) else ((value_Str.f a0).bind fun bt114 => (some (bt114.1, bt114.2.1, bt114.2.2)))))))) = some (r1, r2, r3) := h
 clear h; replace H := Option.bind_eq_some_iff.mp H; obtain ⟨⟨t102, t103⟩, A20, H⟩ := H
 replace H : (if t103 = true then ((value_Num.f t102).bind fun bt104 => (some (bt104.1, bt104.2.1, bt104.2.2))) else ((value_Str.f a0).bind fun bt107 => ((value_AsTruth.f k bt107.1 bt107.2.1 bt107.2.2).bind fun bt110 => (if bt110.1 = 3 then (some (bt110.1, bt110.2.1, bt110.2.2)) else ((value_Str.f a0).bind fun bt114 => (some (bt114.1, bt114.2.1, bt114.2.2))))))) = some (r1, r2, r3) := H
 have A2 := Aside0.mk A20; clear A20
 by_cases c3 : t103 = true
 ·subst c3
  have H1 : ((value_Num.f t102).bind fun bt104 => (some (bt104.1, bt104.2.1, bt104.2.2))) = some (r1, r2, r3) := by rw [if_pos rfl] at H; exact H
  clear H; have H := H1; clear H1; replace H := Option.bind_eq_some_iff.mp H; obtain ⟨⟨t104, t105, t106⟩, A40, H⟩ := H
  replace H : (some (t104, t105, t106)) = some (r1, r2, r3) := H
  have A4 := Aside0.mk A40; clear A40
  simp only [Option.some.injEq, Prod.mk.injEq] at H
  obtain ⟨rfl, rfl, rfl⟩ := H
  go_enter Try.func53, Try.ntmps53
  go_wp2_with (first | ((with_reducible refine gate_dst (N:=2) rfl ?_); refine be_ (N:=2) (cs := #[.int .i64 0, .int .i64 0, .string (⟨#[]⟩ : ByteArray)]) (t:=26) ?_; intro gb101 hg w5 hbox hb; have BK101 := Aside0.mk (hbox); have GW101 := hs_ HB hg; have GE101 := hs_ HB hg; replace HB := bs_ HB hb; clear hb hbox hg) | ((with_reducible refine gate_callee (f:=60) rfl ?_); refine gL_ (some 8) rfl rfl Try.func60 rfl #[.string a0] rfl ?_; (with_reducible refine (digits_Read.calls k a0 t102 true _ A2.out).mono ?_); rintro e w' ⟨rfl, ⟨nd, rfl⟩⟩; refine ⟨_, rfl, ?_⟩; (try (rw [drewN_self w5]; generalize hq_ : World.drewN w5 _ = w5; have n0_ : Aside0 (w5.heap[gb101]? = some (.cells #[.int .i64 0, .int .i64 0, .string (⟨#[]⟩ : ByteArray)] 26 (0, 0))) := ⟨by rw [← hq_]; exact (pkx BK101)⟩; have n1_ : Aside0 (Below w.heap.size w w5) := ⟨by rw [← hq_]; exact (pbx HB)⟩; clear BK101 HB hq_; have BK101 := n0_; have HB := n1_; clear n0_ n1_))) | ((with_reducible refine gate_callee (f:=21) rfl ?_); refine gL_ (some 13) rfl rfl Try.func21 rfl #[.int .i64 t102] rfl ?_; (with_reducible refine (value_Num.calls t102 t104 t105 t106 _ A4.out).mono ?_); rintro e w6 ⟨rfl, hb⟩; refine ⟨_, rfl, ?_⟩; replace BK101 := bb_ BK101 hb; replace HB := bs_ HB hb; (try clear hb); (try clear hb2); (try clear hk); (try clear hi); have hcz7_0 : w6.cell? ⟨gb101, 0, none⟩ = some (.int .i64 0) := bc_ BK101 0 rfl; have hcz7_1 : w6.cell? ⟨gb101, 1, none⟩ = some (.int .i64 0) := bc_ BK101 1 rfl; have hcz7_2 : w6.cell? ⟨gb101, 2, none⟩ = some (.string (⟨#[]⟩ : ByteArray)) := bc_ BK101 2 rfl; have hfz7_0 := blk_frozen BK101.out 0; have hfz7_1 := blk_frozen BK101.out 1; have hfz7_2 := blk_frozen BK101.out 2))
  refine bodyPost_ret (results_cell_row rfl _ _ gb101 26 #[.int .i64 t104, .int .i64 t105, .string t106] (0, 0) _ rfl (by refine pp_ (cs := #[.int .i64 t104, .int .i64 t105, .string (⟨#[]⟩ : ByteArray)]) 2 ?_ rfl; refine pp_ (cs := #[.int .i64 t104, .int .i64 0, .string (⟨#[]⟩ : ByteArray)]) 1 ?_ rfl; refine pp_ (cs := #[.int .i64 0, .int .i64 0, .string (⟨#[]⟩ : ByteArray)]) 0 ?_ rfl; exact pkx BK101) Try.underlying26 rfl (by kernel_rfl)) rfl ?_
  exact ⟨by first | rfl | (simp [errW_none, errW_some] <;> rfl) | (simp [*, errW_none, errW_some] <;> rfl), by repeat (first | (with_reducible first | exact HB.out | apply below_alloc | apply pw_below_drewN | apply below_drew1 | refine below_set ?_ GE101.out) | exact HB.out)⟩
 ·replace c3 := Bool.eq_false_iff.mpr c3; subst c3
  have H1 : ((value_Str.f a0).bind fun bt107 => ((value_AsTruth.f k bt107.1 bt107.2.1 bt107.2.2).bind fun bt110 => (if bt110.1 = 3 then (some (bt110.1, bt110.2.1, bt110.2.2)) else ((value_Str.f a0).bind fun bt114 => (some (bt114.1, bt114.2.1, bt114.2.2)))))) = some (r1, r2, r3) := by rw [if_neg (show ¬ (false = true) by decide)] at H; exact H
  clear H; have H := H1; clear H1; replace H := Option.bind_eq_some_iff.mp H; obtain ⟨⟨t107, t108, t109⟩, A80, H⟩ := H
  replace H : ((value_AsTruth.f k t107 t108 t109).bind fun bt110 => (if bt110.1 = 3 then (some (bt110.1, bt110.2.1, bt110.2.2)) else ((value_Str.f a0).bind fun bt114 => (some (bt114.1, bt114.2.1, bt114.2.2))))) = some (r1, r2, r3) := H
  have A8 := Aside0.mk A80; clear A80; replace H := Option.bind_eq_some_iff.mp H; obtain ⟨⟨t110, t111, t112⟩, A90, H⟩ := H
  replace H : (if t110 = 3 then (some (t110, t111, t112)) else ((value_Str.f a0).bind fun bt114 => (some (bt114.1, bt114.2.1, bt114.2.2)))) = some (r1, r2, r3) := H
  have A9 := Aside0.mk A90; clear A90
  by_cases c10 : t110 = 3
  ·rw [if_pos c10] at H; have c10b0 : (t110 == 3) = true := beq_iff_eq.mpr c10; have c10b1 : (t110 != 3) = false := bne_eq_false_iff_eq.mpr c10; clear c10
   simp only [Option.some.injEq, Prod.mk.injEq] at H
   obtain ⟨rfl, rfl, rfl⟩ := H
   go_enter Try.func53, Try.ntmps53
   go_wp2_with (first | ((with_reducible refine gate_dst (N:=2) rfl ?_); refine be_ (N:=2) (cs := #[.int .i64 0, .int .i64 0, .string (⟨#[]⟩ : ByteArray)]) (t:=26) ?_; intro gb101 hg w11 hbox hb; have BK101 := Aside0.mk (hbox); have GW101 := hs_ HB hg; have GE101 := hs_ HB hg; replace HB := bs_ HB hb; clear hb hbox hg) | ((with_reducible refine gate_callee (f:=60) rfl ?_); refine gL_ (some 8) rfl rfl Try.func60 rfl #[.string a0] rfl ?_; (with_reducible refine (digits_Read.calls k a0 t102 false _ A2.out).mono ?_); rintro e w' ⟨rfl, ⟨nd, rfl⟩⟩; refine ⟨_, rfl, ?_⟩; (try (rw [drewN_self w11]; generalize hq_ : World.drewN w11 _ = w11; have n0_ : Aside0 (w11.heap[gb101]? = some (.cells #[.int .i64 0, .int .i64 0, .string (⟨#[]⟩ : ByteArray)] 26 (0, 0))) := ⟨by rw [← hq_]; exact (pkx BK101)⟩; have n1_ : Aside0 (Below w.heap.size w w11) := ⟨by rw [← hq_]; exact (pbx HB)⟩; clear BK101 HB hq_; have BK101 := n0_; have HB := n1_; clear n0_ n1_))) | ((with_reducible refine gate_callee (f:=20) rfl ?_); refine gL_ (some 15) rfl rfl Try.func20 rfl #[.string a0] rfl ?_; (with_reducible refine (value_Str.calls a0 t107 t108 t109 _ A8.out).mono ?_); rintro e w12 ⟨rfl, hb⟩; refine ⟨_, rfl, ?_⟩; replace BK101 := bb_ BK101 hb; replace HB := bs_ HB hb; (try clear hb); (try clear hb2); (try clear hk); (try clear hi)) | ((with_reducible refine gate_callee (f:=61) rfl ?_); refine gL_ (some 16) rfl rfl Try.func61 rfl #[.agg #[.int .i64 t107, .int .i64 t108, .string t109]] rfl ?_; (with_reducible refine (value_AsTruth.calls k t107 t108 t109 t110 t111 t112 _ A9.out).mono ?_); rintro e w13 ⟨rfl, hb⟩; refine ⟨_, rfl, ?_⟩; replace BK101 := bb_ BK101 hb; replace HB := bs_ HB hb; (try clear hb); (try clear hb2); (try clear hk); (try clear hi)) | ((with_reducible refine gate_dst (N:=5) rfl ?_); refine be_ (N:=5) (cs := #[.int .i64 0, .int .i64 0, .string (⟨#[]⟩ : ByteArray)]) (t:=26) ?_; intro gb113 hg w14 hbox hb; have BK113 := Aside0.mk (hbox); have GW113 := hs_ HB hg; have GE113 := hs_ HB hg; have NB101_113 := hl_ BK101 hg; have NB113_101 := hr_ BK101 hg; replace BK101 := bb_ BK101 hb; replace HB := bs_ HB hb; clear hb hbox hg; have hnb15 := NB113_101.out; have hnc15 := NB101_113.out; have hcz16_0 : w14.cell? ⟨gb113, 0, none⟩ = some (.int .i64 0) := bc_ BK113 0 rfl; have hcz16_1 : w14.cell? ⟨gb113, 1, none⟩ = some (.int .i64 0) := bc_ BK113 1 rfl; have hcz16_2 : w14.cell? ⟨gb113, 2, none⟩ = some (.string (⟨#[]⟩ : ByteArray)) := bc_ BK113 2 rfl; have hfz16_0 := blk_frozen BK113.out 0; have hfz16_1 := blk_frozen BK113.out 1; have hfz16_2 := blk_frozen BK113.out 2; have hcz17_0 : w14.cell? ⟨gb101, 0, none⟩ = some (.int .i64 0) := bc_ BK101 0 rfl; have hcz17_1 : w14.cell? ⟨gb101, 1, none⟩ = some (.int .i64 0) := bc_ BK101 1 rfl; have hcz17_2 : w14.cell? ⟨gb101, 2, none⟩ = some (.string (⟨#[]⟩ : ByteArray)) := bc_ BK101 2 rfl; have hfz17_0 := blk_frozen BK101.out 0; have hfz17_1 := blk_frozen BK101.out 1; have hfz17_2 := blk_frozen BK101.out 2))
   refine bodyPost_ret (results_cell_row rfl _ _ gb101 26 #[.int .i64 t110, .int .i64 t111, .string t112] (0, 0) _ rfl (by refine pp_ (cs := #[.int .i64 t110, .int .i64 t111, .string (⟨#[]⟩ : ByteArray)]) 2 ?_ rfl; refine pp_ (cs := #[.int .i64 t110, .int .i64 0, .string (⟨#[]⟩ : ByteArray)]) 1 ?_ rfl; refine pp_ (cs := #[.int .i64 0, .int .i64 0, .string (⟨#[]⟩ : ByteArray)]) 0 ?_ rfl; refine pf_ ?_ NB101_113.out; refine blk_far ?_ NB101_113.out _; refine blk_far ?_ NB101_113.out _; exact pkx BK101) Try.underlying26 rfl (by kernel_rfl)) rfl ?_
   exact ⟨by first | rfl | (simp [errW_none, errW_some] <;> rfl) | (simp [*, errW_none, errW_some] <;> rfl), by repeat (first | (with_reducible first | exact HB.out | apply below_alloc | apply pw_below_drewN | apply below_drew1 | refine below_set ?_ GE101.out | refine below_set ?_ GE113.out) | exact HB.out)⟩
  ·rw [if_neg c10] at H; have c10b0 : (t110 == 3) = false := beq_eq_false_iff_ne.mpr c10; have c10b1 : (t110 != 3) = true := bne_iff_ne.mpr c10; replace H := Option.bind_eq_some_iff.mp H; obtain ⟨⟨t114, t115, t116⟩, A180, H⟩ := H
   replace H : (some (t114, t115, t116)) = some (r1, r2, r3) := H
   have A18 := Aside0.mk A180; clear A180
   simp only [Option.some.injEq, Prod.mk.injEq] at H
   obtain ⟨rfl, rfl, rfl⟩ := H
   go_enter Try.func53, Try.ntmps53
   go_wp2_with (first | ((with_reducible refine gate_dst (N:=2) rfl ?_); refine be_ (N:=2) (cs := #[.int .i64 0, .int .i64 0, .string (⟨#[]⟩ : ByteArray)]) (t:=26) ?_; intro gb101 hg w19 hbox hb; have BK101 := Aside0.mk (hbox); have GW101 := hs_ HB hg; have GE101 := hs_ HB hg; replace HB := bs_ HB hb; clear hb hbox hg) | ((with_reducible refine gate_callee (f:=60) rfl ?_); refine gL_ (some 8) rfl rfl Try.func60 rfl #[.string a0] rfl ?_; (with_reducible refine (digits_Read.calls k a0 t102 false _ A2.out).mono ?_); rintro e w' ⟨rfl, ⟨nd, rfl⟩⟩; refine ⟨_, rfl, ?_⟩; (try (rw [drewN_self w19]; generalize hq_ : World.drewN w19 _ = w19; have n0_ : Aside0 (w19.heap[gb101]? = some (.cells #[.int .i64 0, .int .i64 0, .string (⟨#[]⟩ : ByteArray)] 26 (0, 0))) := ⟨by rw [← hq_]; exact (pkx BK101)⟩; have n1_ : Aside0 (Below w.heap.size w w19) := ⟨by rw [← hq_]; exact (pbx HB)⟩; clear BK101 HB hq_; have BK101 := n0_; have HB := n1_; clear n0_ n1_))) | ((with_reducible refine gate_callee (f:=20) rfl ?_); refine gL_ (some 15) rfl rfl Try.func20 rfl #[.string a0] rfl ?_; (with_reducible refine (value_Str.calls a0 t107 t108 t109 _ A8.out).mono ?_); rintro e w20 ⟨rfl, hb⟩; refine ⟨_, rfl, ?_⟩; replace BK101 := bb_ BK101 hb; replace HB := bs_ HB hb; (try clear hb); (try clear hb2); (try clear hk); (try clear hi)) | ((with_reducible refine gate_callee (f:=61) rfl ?_); refine gL_ (some 16) rfl rfl Try.func61 rfl #[.agg #[.int .i64 t107, .int .i64 t108, .string t109]] rfl ?_; (with_reducible refine (value_AsTruth.calls k t107 t108 t109 t110 t111 t112 _ A9.out).mono ?_); rintro e w21 ⟨rfl, hb⟩; refine ⟨_, rfl, ?_⟩; replace BK101 := bb_ BK101 hb; replace HB := bs_ HB hb; (try clear hb); (try clear hb2); (try clear hk); (try clear hi)) | ((with_reducible refine gate_dst (N:=5) rfl ?_); refine be_ (N:=5) (cs := #[.int .i64 0, .int .i64 0, .string (⟨#[]⟩ : ByteArray)]) (t:=26) ?_; intro gb113 hg w22 hbox hb; have BK113 := Aside0.mk (hbox); have GW113 := hs_ HB hg; have GE113 := hs_ HB hg; have NB101_113 := hl_ BK101 hg; have NB113_101 := hr_ BK101 hg; replace BK101 := bb_ BK101 hb; replace HB := bs_ HB hb; clear hb hbox hg; have hnb23 := NB113_101.out; have hnc23 := NB101_113.out; have hcz24_0 : w22.cell? ⟨gb113, 0, none⟩ = some (.int .i64 0) := bc_ BK113 0 rfl; have hcz24_1 : w22.cell? ⟨gb113, 1, none⟩ = some (.int .i64 0) := bc_ BK113 1 rfl; have hcz24_2 : w22.cell? ⟨gb113, 2, none⟩ = some (.string (⟨#[]⟩ : ByteArray)) := bc_ BK113 2 rfl; have hfz24_0 := blk_frozen BK113.out 0; have hfz24_1 := blk_frozen BK113.out 1; have hfz24_2 := blk_frozen BK113.out 2) | ((with_reducible refine gate_callee (f:=20) rfl ?_); refine gL_ (some 22) rfl rfl Try.func20 rfl #[.string a0] rfl ?_; (with_reducible refine (value_Str.calls a0 t114 t115 t116 _ A18.out).mono ?_); rintro e w25 ⟨rfl, hb⟩; refine ⟨_, rfl, ?_⟩; replace BK101 := Aside0.mk (blk_below (g:=gb101) (o := .cells #[.int .i64 0, .int .i64 0, .string (⟨#[]⟩ : ByteArray)] 26 (0, 0)) (by refine pf_ ?_ NB101_113.out; refine blk_far ?_ NB101_113.out _; refine blk_far ?_ NB101_113.out _; exact pkx BK101) hb); replace BK113 := Aside0.mk (blk_below (g:=gb113) (o := .cells #[.int .i64 t110, .int .i64 t111, .string t112] 26 (0, 0)) (by refine pp_ (cs := #[.int .i64 t110, .int .i64 t111, .string (⟨#[]⟩ : ByteArray)]) 2 ?_ rfl; refine pp_ (cs := #[.int .i64 t110, .int .i64 0, .string (⟨#[]⟩ : ByteArray)]) 1 ?_ rfl; refine pp_ (cs := #[.int .i64 0, .int .i64 0, .string (⟨#[]⟩ : ByteArray)]) 0 ?_ rfl; exact pkx BK113) hb); replace HB := Aside0.mk (below_step (by repeat (first | (with_reducible first | exact HB.out | apply below_alloc | apply pw_below_drewN | apply below_drew1 | refine below_set ?_ GE101.out | refine below_set ?_ GE113.out) | exact HB.out)) hb); (try clear hb); (try clear hb2); (try clear hk); (try clear hi); have hcz26_0 : w25.cell? ⟨gb101, 0, none⟩ = some (.int .i64 0) := bc_ BK101 0 rfl; have hcz26_1 : w25.cell? ⟨gb101, 1, none⟩ = some (.int .i64 0) := bc_ BK101 1 rfl; have hcz26_2 : w25.cell? ⟨gb101, 2, none⟩ = some (.string (⟨#[]⟩ : ByteArray)) := bc_ BK101 2 rfl; have hfz26_0 := blk_frozen BK101.out 0; have hfz26_1 := blk_frozen BK101.out 1; have hfz26_2 := blk_frozen BK101.out 2))
   refine bodyPost_ret (results_cell_row rfl _ _ gb101 26 #[.int .i64 t114, .int .i64 t115, .string t116] (0, 0) _ rfl (by refine pp_ (cs := #[.int .i64 t114, .int .i64 t115, .string (⟨#[]⟩ : ByteArray)]) 2 ?_ rfl; refine pp_ (cs := #[.int .i64 t114, .int .i64 0, .string (⟨#[]⟩ : ByteArray)]) 1 ?_ rfl; refine pp_ (cs := #[.int .i64 0, .int .i64 0, .string (⟨#[]⟩ : ByteArray)]) 0 ?_ rfl; exact pkx BK101) Try.underlying26 rfl (by kernel_rfl)) rfl ?_
   exact ⟨by first | rfl | (simp [errW_none, errW_some] <;> rfl) | (simp [*, errW_none, errW_some] <;> rfl), by repeat (first | (with_reducible first | exact HB.out | apply below_alloc | apply pw_below_drewN | apply below_drew1 | refine below_set ?_ GE101.out | refine below_set ?_ GE113.out) | exact HB.out)⟩

def crit_Of.f (k : Nat) (a0_0 : Int) (a0_1 : Int) (a0_2 : ByteArray) : Option (Int × Int × Int × ByteArray × Bool) := if a0_0 = 4 then (some (0, 0, 0, (⟨#[]⟩ : ByteArray), false)) else (if a0_0 = 0 then ((value_Str.f (⟨#[]⟩ : ByteArray)).bind fun bt103 => (some (7, bt103.1, bt103.2.1, bt103.2.2, true))) else (if a0_0 = 2 then ((crit_sign.f a0_2).bind fun bt106 => (if 0 ≤ bt106.2 then (if bt106.2 ≤ (a0_2.size : Int) then ((crit_read.f k (a0_2.extract (bt106.2 : Int).toNat a0_2.size)).bind fun bt108 => (some (bt106.1, bt108.1, bt108.2.1, bt108.2.2, true))) else (none)) else (none))) else (some (7, a0_0, a0_1, a0_2, true))))
theorem crit_Of.mono : ∀ a0 a1 a2 k, LeO (crit_Of.f k a0 a1 a2) (crit_Of.f (k + 1) a0 a1 a2) := by
 intro a0 a1 a2 k
 unfold crit_Of.f
 repeat' first
   | (with_reducible exact crit_read.mono _ _)
   | (with_reducible exact LeO.refl _)
   | (with_reducible exact LeO.none _)
   | (with_reducible refine LeO.ite ?_ ?_)
   | (with_reducible refine LeO.bind ?_ (fun _ => ?_))
set_option maxHeartbeats 8000000 in
set_option maxRecDepth 100000 in
theorem crit_Of.calls (k : Nat) (a0_0 : Int) (a0_1 : Int) (a0_2 : ByteArray) (r1 : Int) (r2 : Int) (r3 : Int) (r4 : ByteArray) (r5 : Bool) (w : World) (h : crit_Of.f k a0_0 a0_1 a0_2 = some (r1, r2, r3, r4, r5)) :
  Calls Try.prog 43 #[.agg #[.int .i64 a0_0, .int .i64 a0_1, .string a0_2]] w fun e w' => e = .returned (.tuple #[.agg #[.int .i64 r1, .int .i64 r2, .int .i64 r3, .string r4], .bool r5]) ∧ Below w.heap.size w w' := by
 have hu26 := Try.underlying26; have hu63 := Try.underlying63; have HB := Aside0.mk (Below.refl w.heap.size w)
 have H : (if a0_0 = 4 then (some (0, 0, 0, (⟨#[]⟩ : ByteArray), false)) else (if a0_0 = 0 then ((value_Str.f (⟨#[]⟩ : ByteArray)).bind fun bt103 => (some (7, bt103.1, bt103.2.1, bt103.2.2, true))) else (if a0_0 = 2 then ((crit_sign.f a0_2).bind fun bt106 => (if 0 ≤ bt106.2 then (if bt106.2 ≤ (a0_2.size : Int) then ((crit_read.f k (a0_2.extract (bt106.2 : Int).toNat a0_2.size)).bind fun bt108 => (some (bt106.1, bt108.1, bt108.2.1, bt108.2.2, true))) else (none)) else (none))) else (some (7, a0_0, a0_1, a0_2, true))))) = some (r1, r2, r3, r4, r5) := h
 clear h
 by_cases c2 : a0_0 = 4
 ·rw [if_pos c2] at H; have c2b0 : (a0_0 == 4) = true := beq_iff_eq.mpr c2; have c2b1 : (a0_0 != 4) = false := bne_eq_false_iff_eq.mpr c2; clear c2
  simp only [Option.some.injEq, Prod.mk.injEq] at H
  obtain ⟨rfl, rfl, rfl, rfl, rfl⟩ := H
  go_enter Try.func43, Try.ntmps43
  go_wp2_with (first | ((with_reducible refine gate_dst (N:=1) rfl ?_); refine be_ (N:=1) (cs := #[.int .i64 a0_0, .int .i64 a0_1, .string a0_2]) (t:=26) ?_; intro gb101 hg w3 hbox hb; have BK101 := Aside0.mk (hbox); have GW101 := hs_ HB hg; have GE101 := hs_ HB hg; replace HB := bs_ HB hb; clear hb hbox hg) | ((with_reducible refine gate_dst (N:=2) rfl ?_); refine be_ (N:=2) (cs := #[.int .i64 0, .int .i64 0, .int .i64 0, .string (⟨#[]⟩ : ByteArray)]) (t:=63) ?_; intro gb102 hg w4 hbox hb; have BK102 := Aside0.mk (hbox); have GW102 := hs_ HB hg; have GE102 := hs_ HB hg; have NB101_102 := hl_ BK101 hg; have NB102_101 := hr_ BK101 hg; replace BK101 := bb_ BK101 hb; replace HB := bs_ HB hb; clear hb hbox hg; have hnb5 := NB101_102.out; have hnc5 := NB102_101.out; have hcz6_0 : w4.cell? ⟨gb101, 0, none⟩ = some (.int .i64 a0_0) := bc_ BK101 0 rfl; have hcz6_1 : w4.cell? ⟨gb101, 1, none⟩ = some (.int .i64 a0_1) := bc_ BK101 1 rfl; have hcz6_2 : w4.cell? ⟨gb101, 2, none⟩ = some (.string a0_2) := bc_ BK101 2 rfl; have hfz6_0 := blk_frozen BK101.out 0; have hfz6_1 := blk_frozen BK101.out 1; have hfz6_2 := blk_frozen BK101.out 2; have hcz7_0 : w4.cell? ⟨gb102, 0, none⟩ = some (.int .i64 0) := bc_ BK102 0 rfl; have hcz7_1 : w4.cell? ⟨gb102, 1, none⟩ = some (.int .i64 0) := bc_ BK102 1 rfl; have hcz7_2 : w4.cell? ⟨gb102, 2, none⟩ = some (.int .i64 0) := bc_ BK102 2 rfl; have hcz7_3 : w4.cell? ⟨gb102, 3, none⟩ = some (.string (⟨#[]⟩ : ByteArray)) := bc_ BK102 3 rfl; have hfz7_0 := blk_frozen BK102.out 0; have hfz7_1 := blk_frozen BK102.out 1; have hfz7_2 := blk_frozen BK102.out 2; have hfz7_3 := blk_frozen BK102.out 3))
  refine bodyPost_ret (results_ct rfl _ _ gb102 63 #[.int .i64 0, .int .i64 0, .int .i64 0, .string (⟨#[]⟩ : ByteArray)] (0, 0) _ rfl (by refine pp_ (cs := #[.int .i64 0, .int .i64 0, .int .i64 0, .string (⟨#[]⟩ : ByteArray)]) 3 ?_ rfl; refine pp_ (cs := #[.int .i64 0, .int .i64 0, .int .i64 0, .string (⟨#[]⟩ : ByteArray)]) 2 ?_ rfl; refine pp_ (cs := #[.int .i64 0, .int .i64 0, .int .i64 0, .string (⟨#[]⟩ : ByteArray)]) 1 ?_ rfl; refine pp_ (cs := #[.int .i64 0, .int .i64 0, .int .i64 0, .string (⟨#[]⟩ : ByteArray)]) 0 ?_ rfl; exact pkx BK102) Try.underlying63 rfl (by kernel_rfl)) rfl ?_
  exact ⟨by first | rfl | (simp [errW_none, errW_some] <;> rfl) | (simp [*, errW_none, errW_some] <;> rfl), by repeat (first | (with_reducible first | exact HB.out | apply below_alloc | apply pw_below_drewN | apply below_drew1 | refine below_set ?_ GE101.out | refine below_set ?_ GE102.out) | exact HB.out)⟩
 ·rw [if_neg c2] at H; have c2b0 : (a0_0 == 4) = false := beq_eq_false_iff_ne.mpr c2; have c2b1 : (a0_0 != 4) = true := bne_iff_ne.mpr c2
  by_cases c8 : a0_0 = 0
  ·rw [if_pos c8] at H; have c8b0 : (a0_0 == 0) = true := beq_iff_eq.mpr c8; have c8b1 : (a0_0 != 0) = false := bne_eq_false_iff_eq.mpr c8; clear c8; replace H := Option.bind_eq_some_iff.mp H; obtain ⟨⟨t103, t104, t105⟩, A90, H⟩ := H
   replace H : (some (7, t103, t104, t105, true)) = some (r1, r2, r3, r4, r5) := H
   have A9 := Aside0.mk A90; clear A90
   simp only [Option.some.injEq, Prod.mk.injEq] at H
   obtain ⟨rfl, rfl, rfl, rfl, rfl⟩ := H
   go_enter Try.func43, Try.ntmps43
   go_wp2_with (first | ((with_reducible refine gate_dst (N:=1) rfl ?_); refine be_ (N:=1) (cs := #[.int .i64 a0_0, .int .i64 a0_1, .string a0_2]) (t:=26) ?_; intro gb101 hg w10 hbox hb; have BK101 := Aside0.mk (hbox); have GW101 := hs_ HB hg; have GE101 := hs_ HB hg; replace HB := bs_ HB hb; clear hb hbox hg) | ((with_reducible refine gate_dst (N:=2) rfl ?_); refine be_ (N:=2) (cs := #[.int .i64 0, .int .i64 0, .int .i64 0, .string (⟨#[]⟩ : ByteArray)]) (t:=63) ?_; intro gb102 hg w11 hbox hb; have BK102 := Aside0.mk (hbox); have GW102 := hs_ HB hg; have GE102 := hs_ HB hg; have NB101_102 := hl_ BK101 hg; have NB102_101 := hr_ BK101 hg; replace BK101 := bb_ BK101 hb; replace HB := bs_ HB hb; clear hb hbox hg; have hnb12 := NB101_102.out; have hnc12 := NB102_101.out; have hcz13_0 : w11.cell? ⟨gb101, 0, none⟩ = some (.int .i64 a0_0) := bc_ BK101 0 rfl; have hcz13_1 : w11.cell? ⟨gb101, 1, none⟩ = some (.int .i64 a0_1) := bc_ BK101 1 rfl; have hcz13_2 : w11.cell? ⟨gb101, 2, none⟩ = some (.string a0_2) := bc_ BK101 2 rfl; have hfz13_0 := blk_frozen BK101.out 0; have hfz13_1 := blk_frozen BK101.out 1; have hfz13_2 := blk_frozen BK101.out 2) | ((with_reducible refine gate_callee (f:=20) rfl ?_); refine gL_ (some 13) rfl rfl Try.func20 rfl #[.string (⟨#[]⟩ : ByteArray)] rfl ?_; (with_reducible refine (value_Str.calls (⟨#[]⟩ : ByteArray) t103 t104 t105 _ A9.out).mono ?_); rintro e w14 ⟨rfl, hb⟩; refine ⟨_, rfl, ?_⟩; replace BK101 := bb_ BK101 hb; replace BK102 := bb_ BK102 hb; replace HB := bs_ HB hb; (try clear hb); (try clear hb2); (try clear hk); (try clear hi); have hcz15_0 : w14.cell? ⟨gb102, 0, none⟩ = some (.int .i64 0) := bc_ BK102 0 rfl; have hcz15_1 : w14.cell? ⟨gb102, 1, none⟩ = some (.int .i64 0) := bc_ BK102 1 rfl; have hcz15_2 : w14.cell? ⟨gb102, 2, none⟩ = some (.int .i64 0) := bc_ BK102 2 rfl; have hcz15_3 : w14.cell? ⟨gb102, 3, none⟩ = some (.string (⟨#[]⟩ : ByteArray)) := bc_ BK102 3 rfl; have hfz15_0 := blk_frozen BK102.out 0; have hfz15_1 := blk_frozen BK102.out 1; have hfz15_2 := blk_frozen BK102.out 2; have hfz15_3 := blk_frozen BK102.out 3))
   refine bodyPost_ret (results_ct rfl _ _ gb102 63 #[.int .i64 7, .int .i64 t103, .int .i64 t104, .string t105] (0, 0) _ rfl (by refine pp_ (cs := #[.int .i64 7, .int .i64 t103, .int .i64 t104, .string (⟨#[]⟩ : ByteArray)]) 3 ?_ rfl; refine pp_ (cs := #[.int .i64 7, .int .i64 t103, .int .i64 0, .string (⟨#[]⟩ : ByteArray)]) 2 ?_ rfl; refine pp_ (cs := #[.int .i64 7, .int .i64 0, .int .i64 0, .string (⟨#[]⟩ : ByteArray)]) 1 ?_ rfl; refine pp_ (cs := #[.int .i64 0, .int .i64 0, .int .i64 0, .string (⟨#[]⟩ : ByteArray)]) 0 ?_ rfl; exact pkx BK102) Try.underlying63 rfl (by kernel_rfl)) rfl ?_
   exact ⟨by first | rfl | (simp [errW_none, errW_some] <;> rfl) | (simp [*, errW_none, errW_some] <;> rfl), by repeat (first | (with_reducible first | exact HB.out | apply below_alloc | apply pw_below_drewN | apply below_drew1 | refine below_set ?_ GE101.out | refine below_set ?_ GE102.out) | exact HB.out)⟩
  ·rw [if_neg c8] at H; have c8b0 : (a0_0 == 0) = false := beq_eq_false_iff_ne.mpr c8; have c8b1 : (a0_0 != 0) = true := bne_iff_ne.mpr c8
   by_cases c16 : a0_0 = 2
   ·rw [if_pos c16] at H; have c16b0 : (a0_0 == 2) = true := beq_iff_eq.mpr c16; have c16b1 : (a0_0 != 2) = false := bne_eq_false_iff_eq.mpr c16; clear c16; replace H := Option.bind_eq_some_iff.mp H; obtain ⟨⟨t106, t107⟩, A170, H⟩ := H
    replace H : (if 0 ≤ t107 then (if t107 ≤ (a0_2.size : Int) then ((crit_read.f k (a0_2.extract (t107 : Int).toNat a0_2.size)).bind fun bt108 => (some (t106, bt108.1, bt108.2.1, bt108.2.2, true))) else (none)) else (none)) = some (r1, r2, r3, r4, r5) := H
    have A17 := Aside0.mk A170; clear A170
    by_cases c18 : 0 ≤ t107
    ·rw [if_pos c18] at H; have c18b0 := eq_true c18; have c18b1 : decide (0 ≤ t107) = true := decide_eq_true c18; clear c18
     by_cases c19 : t107 ≤ (a0_2.size : Int)
     ·rw [if_pos c19] at H; have c19b0 := eq_true c19; have c19b1 : decide (t107 ≤ (a0_2.size : Int)) = true := decide_eq_true c19; clear c19; replace H := Option.bind_eq_some_iff.mp H; obtain ⟨⟨t108, t109, t110⟩, A200, H⟩ := H
      replace H : (some (t106, t108, t109, t110, true)) = some (r1, r2, r3, r4, r5) := H
      have A20 := Aside0.mk A200; clear A200
      simp only [Option.some.injEq, Prod.mk.injEq] at H
      obtain ⟨rfl, rfl, rfl, rfl, rfl⟩ := H
      go_enter Try.func43, Try.ntmps43
      go_wp2_with (first | ((with_reducible refine gate_dst (N:=1) rfl ?_); refine be_ (N:=1) (cs := #[.int .i64 a0_0, .int .i64 a0_1, .string a0_2]) (t:=26) ?_; intro gb101 hg w21 hbox hb; have BK101 := Aside0.mk (hbox); have GW101 := hs_ HB hg; have GE101 := hs_ HB hg; replace HB := bs_ HB hb; clear hb hbox hg) | ((with_reducible refine gate_dst (N:=2) rfl ?_); refine be_ (N:=2) (cs := #[.int .i64 0, .int .i64 0, .int .i64 0, .string (⟨#[]⟩ : ByteArray)]) (t:=63) ?_; intro gb102 hg w22 hbox hb; have BK102 := Aside0.mk (hbox); have GW102 := hs_ HB hg; have GE102 := hs_ HB hg; have NB101_102 := hl_ BK101 hg; have NB102_101 := hr_ BK101 hg; replace BK101 := bb_ BK101 hb; replace HB := bs_ HB hb; clear hb hbox hg; have hnb23 := NB101_102.out; have hnc23 := NB102_101.out; have hcz24_0 : w22.cell? ⟨gb101, 0, none⟩ = some (.int .i64 a0_0) := bc_ BK101 0 rfl; have hcz24_1 : w22.cell? ⟨gb101, 1, none⟩ = some (.int .i64 a0_1) := bc_ BK101 1 rfl; have hcz24_2 : w22.cell? ⟨gb101, 2, none⟩ = some (.string a0_2) := bc_ BK101 2 rfl; have hfz24_0 := blk_frozen BK101.out 0; have hfz24_1 := blk_frozen BK101.out 1; have hfz24_2 := blk_frozen BK101.out 2) | ((with_reducible refine gate_callee (f:=52) rfl ?_); refine gL_ (some 20) rfl rfl Try.func52 rfl #[.string a0_2] rfl ?_; (with_reducible refine (crit_sign.calls a0_2 t106 t107 _ A17.out).mono ?_); rintro e w25 ⟨rfl, hb⟩; refine ⟨_, rfl, ?_⟩; replace BK101 := bb_ BK101 hb; replace BK102 := bb_ BK102 hb; replace HB := bs_ HB hb; (try clear hb); (try clear hb2); (try clear hk); (try clear hi); have hcz26_0 : w25.cell? ⟨gb101, 0, none⟩ = some (.int .i64 a0_0) := bc_ BK101 0 rfl; have hcz26_1 : w25.cell? ⟨gb101, 1, none⟩ = some (.int .i64 a0_1) := bc_ BK101 1 rfl; have hcz26_2 : w25.cell? ⟨gb101, 2, none⟩ = some (.string a0_2) := bc_ BK101 2 rfl; have hfz26_0 := blk_frozen BK101.out 0; have hfz26_1 := blk_frozen BK101.out 1; have hfz26_2 := blk_frozen BK101.out 2) | ((with_reducible refine gate_callee (f:=53) rfl ?_); refine gL_ (some 28) rfl rfl Try.func53 rfl #[.string (a0_2.extract (t107 : Int).toNat a0_2.size)] rfl ?_; (with_reducible refine (crit_read.calls k (a0_2.extract (t107 : Int).toNat a0_2.size) t108 t109 t110 _ A20.out).mono ?_); rintro e w27 ⟨rfl, hb⟩; refine ⟨_, rfl, ?_⟩; replace BK101 := bb_ BK101 hb; replace BK102 := bb_ BK102 hb; replace HB := bs_ HB hb; (try clear hb); (try clear hb2); (try clear hk); (try clear hi); have hcz28_0 : w27.cell? ⟨gb102, 0, none⟩ = some (.int .i64 0) := bc_ BK102 0 rfl; have hcz28_1 : w27.cell? ⟨gb102, 1, none⟩ = some (.int .i64 0) := bc_ BK102 1 rfl; have hcz28_2 : w27.cell? ⟨gb102, 2, none⟩ = some (.int .i64 0) := bc_ BK102 2 rfl; have hcz28_3 : w27.cell? ⟨gb102, 3, none⟩ = some (.string (⟨#[]⟩ : ByteArray)) := bc_ BK102 3 rfl; have hfz28_0 := blk_frozen BK102.out 0; have hfz28_1 := blk_frozen BK102.out 1; have hfz28_2 := blk_frozen BK102.out 2; have hfz28_3 := blk_frozen BK102.out 3))
      refine bodyPost_ret (results_ct rfl _ _ gb102 63 #[.int .i64 t106, .int .i64 t108, .int .i64 t109, .string t110] (0, 0) _ rfl (by refine pp_ (cs := #[.int .i64 t106, .int .i64 t108, .int .i64 t109, .string (⟨#[]⟩ : ByteArray)]) 3 ?_ rfl; refine pp_ (cs := #[.int .i64 t106, .int .i64 t108, .int .i64 0, .string (⟨#[]⟩ : ByteArray)]) 2 ?_ rfl; refine pp_ (cs := #[.int .i64 t106, .int .i64 0, .int .i64 0, .string (⟨#[]⟩ : ByteArray)]) 1 ?_ rfl; refine pp_ (cs := #[.int .i64 0, .int .i64 0, .int .i64 0, .string (⟨#[]⟩ : ByteArray)]) 0 ?_ rfl; exact pkx BK102) Try.underlying63 rfl (by kernel_rfl)) rfl ?_
      exact ⟨by first | rfl | (simp [errW_none, errW_some] <;> rfl) | (simp [*, errW_none, errW_some] <;> rfl), by repeat (first | (with_reducible first | exact HB.out | apply below_alloc | apply pw_below_drewN | apply below_drew1 | refine below_set ?_ GE101.out | refine below_set ?_ GE102.out) | exact HB.out)⟩
     ·rw [if_neg c19] at H
      exact absurd H (by simp)
    ·rw [if_neg c18] at H
     exact absurd H (by simp)
   ·rw [if_neg c16] at H; have c16b0 : (a0_0 == 2) = false := beq_eq_false_iff_ne.mpr c16; have c16b1 : (a0_0 != 2) = true := bne_iff_ne.mpr c16
    simp only [Option.some.injEq, Prod.mk.injEq] at H
    obtain ⟨rfl, rfl, rfl, rfl, rfl⟩ := H
    go_enter Try.func43, Try.ntmps43
    go_wp2_with (first | ((with_reducible refine gate_dst (N:=1) rfl ?_); refine be_ (N:=1) (cs := #[.int .i64 a0_0, .int .i64 a0_1, .string a0_2]) (t:=26) ?_; intro gb101 hg w29 hbox hb; have BK101 := Aside0.mk (hbox); have GW101 := hs_ HB hg; have GE101 := hs_ HB hg; replace HB := bs_ HB hb; clear hb hbox hg) | ((with_reducible refine gate_dst (N:=2) rfl ?_); refine be_ (N:=2) (cs := #[.int .i64 0, .int .i64 0, .int .i64 0, .string (⟨#[]⟩ : ByteArray)]) (t:=63) ?_; intro gb102 hg w30 hbox hb; have BK102 := Aside0.mk (hbox); have GW102 := hs_ HB hg; have GE102 := hs_ HB hg; have NB101_102 := hl_ BK101 hg; have NB102_101 := hr_ BK101 hg; replace BK101 := bb_ BK101 hb; replace HB := bs_ HB hb; clear hb hbox hg; have hnb31 := NB101_102.out; have hnc31 := NB102_101.out; have hcz32_0 : w30.cell? ⟨gb101, 0, none⟩ = some (.int .i64 a0_0) := bc_ BK101 0 rfl; have hcz32_1 : w30.cell? ⟨gb101, 1, none⟩ = some (.int .i64 a0_1) := bc_ BK101 1 rfl; have hcz32_2 : w30.cell? ⟨gb101, 2, none⟩ = some (.string a0_2) := bc_ BK101 2 rfl; have hfz32_0 := blk_frozen BK101.out 0; have hfz32_1 := blk_frozen BK101.out 1; have hfz32_2 := blk_frozen BK101.out 2; have hcz33_0 : w30.cell? ⟨gb102, 0, none⟩ = some (.int .i64 0) := bc_ BK102 0 rfl; have hcz33_1 : w30.cell? ⟨gb102, 1, none⟩ = some (.int .i64 0) := bc_ BK102 1 rfl; have hcz33_2 : w30.cell? ⟨gb102, 2, none⟩ = some (.int .i64 0) := bc_ BK102 2 rfl; have hcz33_3 : w30.cell? ⟨gb102, 3, none⟩ = some (.string (⟨#[]⟩ : ByteArray)) := bc_ BK102 3 rfl; have hfz33_0 := blk_frozen BK102.out 0; have hfz33_1 := blk_frozen BK102.out 1; have hfz33_2 := blk_frozen BK102.out 2; have hfz33_3 := blk_frozen BK102.out 3))
    refine bodyPost_ret (results_ct rfl _ _ gb102 63 #[.int .i64 7, .int .i64 a0_0, .int .i64 a0_1, .string a0_2] (0, 0) _ rfl (by refine pp_ (cs := #[.int .i64 7, .int .i64 a0_0, .int .i64 a0_1, .string (⟨#[]⟩ : ByteArray)]) 3 ?_ rfl; refine pp_ (cs := #[.int .i64 7, .int .i64 a0_0, .int .i64 0, .string (⟨#[]⟩ : ByteArray)]) 2 ?_ rfl; refine pp_ (cs := #[.int .i64 7, .int .i64 0, .int .i64 0, .string (⟨#[]⟩ : ByteArray)]) 1 ?_ rfl; refine pp_ (cs := #[.int .i64 0, .int .i64 0, .int .i64 0, .string (⟨#[]⟩ : ByteArray)]) 0 ?_ rfl; exact pkx BK102) Try.underlying63 rfl (by kernel_rfl)) rfl ?_
    exact ⟨by first | rfl | (simp [errW_none, errW_some] <;> rfl) | (simp [*, errW_none, errW_some] <;> rfl), by repeat (first | (with_reducible first | exact HB.out | apply below_alloc | apply pw_below_drewN | apply below_drew1 | refine below_set ?_ GE101.out | refine below_set ?_ GE102.out) | exact HB.out)⟩

def crit_fits.l0 : Nat → ByteArray → ByteArray → Int → Int → Option (Bool)
 | 0, _, _, _, _ => none
 | k + 1, x0, x1, x12, x13 => if x13 < x12 then (if 0 ≤ x13 then (if x13 < (x0.size : Int) then (if (bt x0 x13) = 63 then (crit_fits.l0 k x0 x1 x12 (wrap64 (x13 + 1))) else (if x13 < (x1.size : Int) then (if (bt x0 x13) = (bt x1 x13) then (crit_fits.l0 k x0 x1 x12 (wrap64 (x13 + 1))) else (some false)) else (none))) else (none)) else (none)) else (some true)
def crit_fits.f (k : Nat) (a0 : ByteArray) (a1 : ByteArray) : Option (Bool) := if (a1.size : Int) < (a0.size : Int) then (some false) else (crit_fits.l0 k a0 a1 (a0.size : Int) 0)
theorem crit_fits.mono_l : ∀ k, (∀ y0 y1 y2 y3, LeO (crit_fits.l0 k y0 y1 y2 y3) (crit_fits.l0 (k + 1) y0 y1 y2 y3))
 | 0 => fun _ _ _ _ r h => by simp [crit_fits.l0] at h
 | k + 1 => by
  have ih0 := crit_fits.mono_l k
  ·intro y0 y1 y2 y3
   unfold crit_fits.l0
   repeat' first
   | (with_reducible exact ih0 _ _ _ _)
   | (with_reducible exact LeO.refl _)
   | (with_reducible exact LeO.none _)
   | (with_reducible refine LeO.ite ?_ ?_)
   | (with_reducible refine LeO.bind ?_ (fun _ => ?_))
theorem crit_fits.mono : ∀ a0 a1 k, LeO (crit_fits.f k a0 a1) (crit_fits.f (k + 1) a0 a1) := by
 intro a0 a1 k; have ih0 := crit_fits.mono_l k
 unfold crit_fits.f
 repeat' first
   | (with_reducible exact ih0 _ _ _ _)
   | (with_reducible exact LeO.refl _)
   | (with_reducible exact LeO.none _)
   | (with_reducible refine LeO.ite ?_ ?_)
   | (with_reducible refine LeO.bind ?_ (fun _ => ?_))
set_option maxHeartbeats 8000000 in
set_option maxRecDepth 100000 in
theorem crit_fits.calls (k : Nat) (a0 : ByteArray) (a1 : ByteArray) (r : Bool) (w : World) (h : crit_fits.f k a0 a1 = some r) :
  Calls Try.prog 63 #[.string a0, .string a1] w fun e w' => e = .returned (.bool r) ∧ Drawn0 w w' := by
 have H : (if (a1.size : Int) < (a0.size : Int) then (some false) else (crit_fits.l0 k a0 a1 (a0.size : Int) 0)) = some r := h
 clear h
 by_cases c3 : (a1.size : Int) < (a0.size : Int)
 ·rw [if_pos c3] at H; have c3b0 : decide ((a1.size : Int) < (a0.size : Int)) = true := decide_eq_true c3; have c3b1 : decide (a1.size < a0.size) = true := decide_eq_true (Int.ofNat_lt.mp c3); clear c3; obtain rfl := Option.some.inj H
  go_enter Try.func63, Try.ntmps63
  go_wp2
  repeat (go_quiet (fail); try go_wp2)
  go_ret
  exact ⟨by first | rfl | (simp; done) | (simp [*]; done), by repeat (first | exact Drawn0.refl _ | apply Drawn0.step)⟩
 ·rw [if_neg c3] at H; have c3b0 : decide ((a1.size : Int) < (a0.size : Int)) = false := decide_eq_false c3; have c3b1 : decide (a1.size < a0.size) = false := decide_eq_false (fun h => c3 (Int.ofNat_lt.mpr h)); clear c3
  have H' := Aside0.mk H
  clear H
  go_enter Try.func63, Try.ntmps63
  go_wp2
  repeat (go_quiet (fail); try go_wp2)
  go_loopg [13] k (fun kq v13 w' => ∃ (x13_1 : Int), v13 = .int .i64 x13_1 ∧ Aside0 (crit_fits.l0 kq a0 a1 (a0.size : Int) x13_1 = some r) ∧ Aside0 (kq ≤ k) ∧ Drawn0 w w')
  case atStart => exact ⟨(0), (by first | rfl | (simp; done) | (simp [*]; done)), H', ⟨Nat.le_refl _⟩, by repeat (first | exact Drawn0.refl _ | apply Drawn0.step)⟩
  case round =>
   clear H'; (try clear p2); (try clear c3); (try clear c3b0); (try clear c3b1); obtain ⟨x13_1, rfl, HA, HK1, ⟨m1, rfl⟩⟩ := hrel
   cases gk with
   | zero => exact absurd HA.out (by simp [crit_fits.l0])
   | succ k1 =>
    have H := HA.out; clear HA
    simp only [crit_fits.l0] at H
    by_cases c4 : x13_1 < (a0.size : Int)
    ·rw [if_pos c4] at H; have c4b0 : decide (x13_1 < (a0.size : Int)) = true := decide_eq_true c4; clear c4
     by_cases c5 : 0 ≤ x13_1
     ·rw [if_pos c5] at H; have c5b0 : decide (0 ≤ x13_1) = true := decide_eq_true c5; clear c5
      by_cases c6 : x13_1 < (a0.size : Int)
      ·rw [if_pos c6] at H; have c6b0 : decide (x13_1 < (a0.size : Int)) = true := decide_eq_true c6; clear c6
       by_cases c8 : (bt a0 x13_1) = 63
       ·rw [if_pos c8] at H; have c8b0 : ((bt a0 x13_1) == 63) = true := beq_iff_eq.mpr c8; have c8b1 : ((bt a0 x13_1) != 63) = false := bne_eq_false_iff_eq.mpr c8; clear c8
        have H' := Aside0.mk H
        clear H
        have p7 : 0 ≤ (x13_1 : Int) := of_decide_eq_true (by first | (with_reducible assumption) | assumption)
        have q7 : x13_1 < (a0.size : Int) := of_decide_eq_true (by first | (with_reducible assumption) | assumption)
        have hx7 := bt_at a0 x13_1; replace p7 := eq_true p7; replace q7 := eq_true q7
        go_wp2
        repeat (go_quiet (fail); try go_wp2)
        go_roundg k1
        case measure => have := HK1.out; omega
        case rel => exact ⟨(wrap64 (x13_1 + 1)), (by first | rfl | (simp; done) | (simp [*]; done)), H', ⟨by have := HK1.out; omega⟩, by repeat (first | exact Drawn0.refl _ | apply Drawn0.step)⟩
       ·rw [if_neg c8] at H; have c8b0 : ((bt a0 x13_1) == 63) = false := beq_eq_false_iff_ne.mpr c8; have c8b1 : ((bt a0 x13_1) != 63) = true := bne_iff_ne.mpr c8
        by_cases c10 : x13_1 < (a1.size : Int)
        ·rw [if_pos c10] at H; have c10b0 : decide (x13_1 < (a1.size : Int)) = true := decide_eq_true c10; clear c10
         by_cases c12 : (bt a0 x13_1) = (bt a1 x13_1)
         ·rw [if_pos c12] at H; have c12b0 : ((bt a0 x13_1) == (bt a1 x13_1)) = true := beq_iff_eq.mpr c12; have c12b1 : ((bt a0 x13_1) != (bt a1 x13_1)) = false := bne_eq_false_iff_eq.mpr c12; clear c12
          have H' := Aside0.mk H
          clear H
          have p7 : 0 ≤ (x13_1 : Int) := of_decide_eq_true (by first | (with_reducible assumption) | assumption)
          have q7 : x13_1 < (a0.size : Int) := of_decide_eq_true (by first | (with_reducible assumption) | assumption)
          have hx7 := bt_at a0 x13_1; replace p7 := eq_true p7; replace q7 := eq_true q7
          have p9 : 0 ≤ (x13_1 : Int) := of_decide_eq_true (by first | (with_reducible assumption) | assumption)
          have q9 : x13_1 < (a0.size : Int) := of_decide_eq_true (by first | (with_reducible assumption) | assumption)
          have hx9 := bt_at a0 x13_1; replace p9 := eq_true p9; replace q9 := eq_true q9
          have p11 : 0 ≤ (x13_1 : Int) := of_decide_eq_true (by first | (with_reducible assumption) | assumption)
          have q11 : x13_1 < (a1.size : Int) := of_decide_eq_true (by first | (with_reducible assumption) | assumption)
          have hx11 := bt_at a1 x13_1; replace p11 := eq_true p11; replace q11 := eq_true q11
          go_wp2
          repeat (go_quiet (fail); try go_wp2)
          go_roundg k1
          case measure => have := HK1.out; omega
          case rel => exact ⟨(wrap64 (x13_1 + 1)), (by first | rfl | (simp; done) | (simp [*]; done)), H', ⟨by have := HK1.out; omega⟩, by repeat (first | exact Drawn0.refl _ | apply Drawn0.step)⟩
         ·rw [if_neg c12] at H; have c12b0 : ((bt a0 x13_1) == (bt a1 x13_1)) = false := beq_eq_false_iff_ne.mpr c12; have c12b1 : ((bt a0 x13_1) != (bt a1 x13_1)) = true := bne_iff_ne.mpr c12; obtain rfl := Option.some.inj H
          have p7 : 0 ≤ (x13_1 : Int) := of_decide_eq_true (by first | (with_reducible assumption) | assumption)
          have q7 : x13_1 < (a0.size : Int) := of_decide_eq_true (by first | (with_reducible assumption) | assumption)
          have hx7 := bt_at a0 x13_1; replace p7 := eq_true p7; replace q7 := eq_true q7
          have p9 : 0 ≤ (x13_1 : Int) := of_decide_eq_true (by first | (with_reducible assumption) | assumption)
          have q9 : x13_1 < (a0.size : Int) := of_decide_eq_true (by first | (with_reducible assumption) | assumption)
          have hx9 := bt_at a0 x13_1; replace p9 := eq_true p9; replace q9 := eq_true q9
          have p11 : 0 ≤ (x13_1 : Int) := of_decide_eq_true (by first | (with_reducible assumption) | assumption)
          have q11 : x13_1 < (a1.size : Int) := of_decide_eq_true (by first | (with_reducible assumption) | assumption)
          have hx11 := bt_at a1 x13_1; replace p11 := eq_true p11; replace q11 := eq_true q11
          go_wp2
          repeat (go_quiet (fail); try go_wp2)
          go_ret
          exact ⟨by first | rfl | (simp; done) | (simp [*]; done), by repeat (first | exact Drawn0.refl _ | apply Drawn0.step)⟩
        ·rw [if_neg c10] at H
         exact absurd H (by simp)
      ·rw [if_neg c6] at H
       exact absurd H (by simp)
     ·rw [if_neg c5] at H
      exact absurd H (by simp)
    ·rw [if_neg c4] at H; have c4b0 : decide (x13_1 < (a0.size : Int)) = false := decide_eq_false c4; clear c4; obtain rfl := Option.some.inj H
     go_wp2
     repeat (go_quiet (fail); try go_wp2)
     go_ret
     exact ⟨by first | rfl | (simp; done) | (simp [*]; done), by repeat (first | exact Drawn0.refl _ | apply Drawn0.step)⟩

end Go.Proofs.Ytejkoenlfcghbaa.X
