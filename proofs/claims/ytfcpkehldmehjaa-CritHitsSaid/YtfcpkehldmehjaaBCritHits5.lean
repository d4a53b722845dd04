/- Contracts of the functions that the law CritHits reaches, and what they answer (a session's own texts, joined; part 5). -/
import Derived.Test.YtfcpkehldmehjaaBCritHits4
namespace Go.Proofs.Ytfcpkehldmehjaa.X
open Go.RowKit Go.Proofs.YtfcpkehldmehjaaW.PrintWords Go.Proofs.YtfcpkehldmehjaaW.PrintLast Go.Proofs.YtfcpkehldmehjaaW.PrintMore
attribute [local go_sem] max2_int min2_int max_two min_two max_three min_three max_four min_four   -- for this text's walks alone
set_option linter.unusedVariables false
set_option linter.unusedSimpArgs false

/-! ### oculusref08_Scaled: function 54 -/
mutual
def oculusref08_Scaled.j0 : Nat → Int → Int → Int → Bool → Option (Int × Bool)
 | 0, _, _, _, _ => none
 | k + 1, x0, x1, x2, x27 => if x27 = true then (some (0, false)) else ((oculusref08_Abs.f x2).bind fun t105 => ((oculusref08_Abs.f x0).bind fun t106 => ((oculusref08_Abs.f x1).bind fun t107 => ((oculusref08_Times.f t106 t107).bind fun bt108 => ((oculusref08_Divide.f k bt108.1 bt108.2 t105).bind fun bt110 => (if bt110.2.2 = true then (oculusref08_Scaled.j1 k x0 x1 x2 t105 (decide (bt110.1 > 9223372036854775807)) bt110.1 bt110.2.1 bt110.2.2) else (oculusref08_Scaled.j1 k x0 x1 x2 t105 true bt110.1 bt110.2.1 bt110.2.2)))))))
def oculusref08_Scaled.j1 : Nat → Int → Int → Int → Int → Bool → Int → Int → Bool → Option (Int × Bool)
 | 0, _, _, _, _, _, _, _, _ => none
 | k + 1, x0, x1, x2, x7, x45, x114000, x114001, x114002 => if x45 = true then (some (0, false)) else (if (IntKind.u64.wrap (x7 - x114001)) ≤ x114001 then (oculusref08_Scaled.j2 k x0 x1 x2 (IntKind.u64.wrap (x114000 + 1))) else (oculusref08_Scaled.j2 k x0 x1 x2 x114000))
def oculusref08_Scaled.j2 : Nat → Int → Int → Int → Int → Option (Int × Bool)
 | 0, _, _, _, _ => none
 | k + 1, x0, x1, x2, x9 => if x9 > 9223372036854775807 then (some (0, false)) else (if ((decide (x0 < 0)) != (decide (x1 < 0))) = true then (if x2 < 0 then (some (wrap64 (-(wrap64 (-(wrap64 (x9))))), true)) else (some (wrap64 (-(wrap64 (x9))), true))) else (if x2 < 0 then (some (wrap64 (-(wrap64 (x9))), true)) else (some (wrap64 (x9), true))))
end
def oculusref08_Scaled.f (k : Nat) (a0 : Int) (a1 : Int) (a2 : Int) : Option (Int × Bool) := (oculusref08_May.f a0).bind fun t102 => (if t102 = true then ((oculusref08_May.f a1).bind fun t103 => (if t103 = true then ((oculusref08_May.f a2).bind fun t104 => (if t104 = true then (oculusref08_Scaled.j0 k a0 a1 a2 (a2 == 0)) else (oculusref08_Scaled.j0 k a0 a1 a2 true))) else (oculusref08_Scaled.j0 k a0 a1 a2 true))) else (oculusref08_Scaled.j0 k a0 a1 a2 true))
set_option maxHeartbeats 8000000 in
set_option maxRecDepth 100000 in
theorem oculusref08_Scaled.calls (k : Nat) (a0 : Int) (a1 : Int) (a2 : Int) (r1 : Int) (r2 : Bool) (w : World) (h : oculusref08_Scaled.f k a0 a1 a2 = some (r1, r2)) :
  Calls Try.prog 54 #[.int .i64 a0, .int .i64 a1, .int .i64 a2] w fun e w' => e = .returned (.agg #[.int .i64 r1, .bool r2]) ∧ Below w.heap.size w w' := by
 have hu54 := Try.underlying54; have hu79 := Try.underlying79; have HB := Aside0.mk (Below.refl w.heap.size w)
 have H : ((oculusref08_May.f a0).bind fun t102 => (if t102 = true then ((oculusref08_May.f a1).bind fun t103 => (if t103 = true then ((oculusref08_May.f a2).bind fun t104 => (if t104 = true then (oculusref08_Scaled.j0 k a0 a1 a2 (a2 == 0)) else (oculusref08_Scaled.j0 k a0 a1 a2 true))) else (oculusref08_Scaled.j0 k a0 a1 a2 true))) else (oculusref08_Scaled.j0 k a0 a1 a2 true))) = some (r1, r2) := h
 clear h; have HC4 := Aside0.mk H; clear H
 go_enter Try.func54, Try.ntmps54
 go_upto_region 1 with (first | ((with_reducible refine gate_dst (N:=6) rfl ?_); refine box_event ?hg (N:=6) ?hd (cs := #[.int .i64 0, .bool false]) (t:=54) ?hr ?_; (case hd => rfl); (case hg => rfl); (case hr => first | (go_simp; done) | (go_simp; rfl)); intro gb101 hg w5 hbox hb; have BK101 := Aside0.mk (hbox); have GW101 := hs_ HB hg; have GE101 := hs_ HB hg; replace HB := bs_ HB hb; clear hb hbox hg))
 (try simp only [q_])
 go_cut [27] (fun v27 wc => ∃ (kq : Nat) (x27_3 : Bool), v27 = .bool x27_3 ∧ Aside0 (oculusref08_Scaled.j0 kq a0 a1 a2 x27_3 = some (r1, r2)) ∧ Aside0 (kq ≤ k) ∧ Aside0 (wc.heap[gb101]? = some (.cells #[.int .i64 0, .bool false] 54 (0, 0))) ∧ Aside0 (Below w.heap.size w wc))
 case first =>
  have H := HC4.out; clear HC4; replace H := Option.bind_eq_some_iff.mp H; obtain ⟨t102, A60, H⟩ := H
  replace H : (if t102 = true then ((oculusref08_May.f a1).bind fun t103 => (if t103 = true then ((oculusref08_May.f a2).bind fun t104 => (if t104 = true then (oculusref08_Scaled.j0 k a0 a1 a2 (a2 == 0)) else (oculusref08_Scaled.j0 k a0 a1 a2 true))) else (oculusref08_Scaled.j0 k a0 a1 a2 true))) else (oculusref08_Scaled.j0 k a0 a1 a2 true)) = some (r1, r2) := H
  have A6 := Aside0.mk A60; clear A60
  by_cases c7 : t102 = true
  ·subst c7
   have H1 : ((oculusref08_May.f a1).bind fun t103 => (if t103 = true then ((oculusref08_May.f a2).bind fun t104 => (if t104 = true then (oculusref08_Scaled.j0 k a0 a1 a2 (a2 == 0)) else (oculusref08_Scaled.j0 k a0 a1 a2 true))) else (oculusref08_Scaled.j0 k a0 a1 a2 true))) = some (r1, r2) := by rw [if_pos rfl] at H; exact H
   clear H; have H := H1; clear H1; replace H := Option.bind_eq_some_iff.mp H; obtain ⟨t103, A80, H⟩ := H
   replace H : (if t103 = true then ((oculusref08_May.f a2).bind fun t104 => (if t104 = true then (oculusref08_Scaled.j0 k a0 a1 a2 (a2 == 0)) else (oculusref08_Scaled.j0 k a0 a1 a2 true))) else (oculusref08_Scaled.j0 k a0 a1 a2 true)) = some (r1, r2) := H
   have A8 := Aside0.mk A80; clear A80
   by_cases c9 : t103 = true
   ·subst c9
    have H1 : ((oculusref08_May.f a2).bind fun t104 => (if t104 = true then (oculusref08_Scaled.j0 k a0 a1 a2 (a2 == 0)) else (oculusref08_Scaled.j0 k a0 a1 a2 true))) = some (r1, r2) := by rw [if_pos rfl] at H; exact H
    clear H; have H := H1; clear H1; replace H := Option.bind_eq_some_iff.mp H; obtain ⟨t104, A100, H⟩ := H
    replace H : (if t104 = true then (oculusref08_Scaled.j0 k a0 a1 a2 (a2 == 0)) else (oculusref08_Scaled.j0 k a0 a1 a2 true)) = some (r1, r2) := H
    have A10 := Aside0.mk A100; clear A100
    by_cases c11 : t104 = true
    ·subst c11
     have H1 : (oculusref08_Scaled.j0 k a0 a1 a2 (a2 == 0)) = some (r1, r2) := by rw [if_pos rfl] at H; exact H
     clear H; have H := H1; clear H1
     have H' := Aside0.mk H
     clear H
     go_wp2_with (first | ((with_reducible refine gate_callee (f:=15) rfl ?_); refine goesL_ (some 12) rfl rfl Try.func15 (by kernel_rfl) rfl #[.int .i64 a0] rfl (by (try simp only [List.map_toArray, List.map_cons, List.map_nil]); first | done | rfl | (simp only [List.length_drop, List.length_take]; rfl)) ?_; (with_reducible refine (oculusref08_May.calls a0 true _ A6.out).mono ?_); rintro e w' ⟨rfl, ⟨nd, rfl⟩⟩; refine ⟨_, rfl, ?_⟩) | (go_at_call 15; (with_reducible refine (oculusref08_May.calls a1 true _ A8.out).mono ?_); rintro e w' ⟨rfl, ⟨nd, rfl⟩⟩) | (go_at_call 15; (with_reducible refine (oculusref08_May.calls a2 true _ A10.out).mono ?_); rintro e w' ⟨rfl, ⟨nd, rfl⟩⟩))
     go_meet
     case rel => exact ⟨_, ((a2 == 0)), (by first | rfl | (simp; done) | (simp [*]; done)), H', ⟨by first | omega | exact Nat.le_refl _⟩, ⟨pkx BK101⟩, ⟨pbx HB⟩⟩
    ·replace c11 := Bool.eq_false_iff.mpr c11; subst c11
     have H1 : (oculusref08_Scaled.j0 k a0 a1 a2 true) = some (r1, r2) := by rw [if_neg (show ¬ (false = true) by decide)] at H; exact H
     clear H; have H := H1; clear H1
     have H' := Aside0.mk H
     clear H
     go_wp2_with (first | ((with_reducible refine gate_callee (f:=15) rfl ?_); refine goesL_ (some 12) rfl rfl Try.func15 (by kernel_rfl) rfl #[.int .i64 a0] rfl (by (try simp only [List.map_toArray, List.map_cons, List.map_nil]); first | done | rfl | (simp only [List.length_drop, List.length_take]; rfl)) ?_; (with_reducible refine (oculusref08_May.calls a0 true _ A6.out).mono ?_); rintro e w' ⟨rfl, ⟨nd, rfl⟩⟩; refine ⟨_, rfl, ?_⟩) | (go_at_call 15; (with_reducible refine (oculusref08_May.calls a1 true _ A8.out).mono ?_); rintro e w' ⟨rfl, ⟨nd, rfl⟩⟩) | (go_at_call 15; (with_reducible refine (oculusref08_May.calls a2 false _ A10.out).mono ?_); rintro e w' ⟨rfl, ⟨nd, rfl⟩⟩))
     go_meet
     case rel => exact ⟨_, (true), (by first | rfl | (simp; done) | (simp [*]; done)), H', ⟨by first | omega | exact Nat.le_refl _⟩, ⟨pkx BK101⟩, ⟨pbx HB⟩⟩
   ·replace c9 := Bool.eq_false_iff.mpr c9; subst c9
    have H1 : (oculusref08_Scaled.j0 k a0 a1 a2 true) = some (r1, r2) := by rw [if_neg (show ¬ (false = true) by decide)] at H; exact H
    clear H; have H := H1; clear H1
    have H' := Aside0.mk H
    clear H
    go_wp2_with (first | ((with_reducible refine gate_callee (f:=15) rfl ?_); refine goesL_ (some 12) rfl rfl Try.func15 (by kernel_rfl) rfl #[.int .i64 a0] rfl (by (try simp only [List.map_toArray, List.map_cons, List.map_nil]); first | done | rfl | (simp only [List.length_drop, List.length_take]; rfl)) ?_; (with_reducible refine (oculusref08_May.calls a0 true _ A6.out).mono ?_); rintro e w' ⟨rfl, ⟨nd, rfl⟩⟩; refine ⟨_, rfl, ?_⟩) | (go_at_call 15; (with_reducible refine (oculusref08_May.calls a1 false _ A8.out).mono ?_); rintro e w' ⟨rfl, ⟨nd, rfl⟩⟩))
    go_meet
    case rel => exact ⟨_, (true), (by first | rfl | (simp; done) | (simp [*]; done)), H', ⟨by first | omega | exact Nat.le_refl _⟩, ⟨pkx BK101⟩, ⟨pbx HB⟩⟩
  ·replace c7 := Bool.eq_false_iff.mpr c7; subst c7
   have H1 : (oculusref08_Scaled.j0 k a0 a1 a2 true) = some (r1, r2) := by rw [if_neg (show ¬ (false = true) by decide)] at H; exact H
   clear H; have H := H1; clear H1
   have H' := Aside0.mk H
   clear H
   go_wp2_with (first | ((with_reducible refine gate_callee (f:=15) rfl ?_); refine goesL_ (some 12) rfl rfl Try.func15 (by kernel_rfl) rfl #[.int .i64 a0] rfl (by (try simp only [List.map_toArray, List.map_cons, List.map_nil]); first | done | rfl | (simp only [List.length_drop, List.length_take]; rfl)) ?_; (with_reducible refine (oculusref08_May.calls a0 false _ A6.out).mono ?_); rintro e w' ⟨rfl, ⟨nd, rfl⟩⟩; refine ⟨_, rfl, ?_⟩))
   go_meet
   case rel => exact ⟨_, (true), (by first | rfl | (simp; done) | (simp [*]; done)), H', ⟨by first | omega | exact Nat.le_refl _⟩, ⟨pkx BK101⟩, ⟨pbx HB⟩⟩
 case rest =>
  clear HC4; (try clear c1); (try clear p2); (try clear c5); (try clear c7); (try clear c9); (try clear c11); obtain ⟨kq, x27_3, rfl, HA, HJ3, BK101, HB⟩ := hcut
  cases kq with
  | zero => exact absurd HA.out (by simp [oculusref08_Scaled.j0])
  | succ kj3 =>
   have H := HA.out; clear HA
   simp only [oculusref08_Scaled.j0] at H
   by_cases c12 : x27_3 = true
   ·subst c12
    have H1 : (some (0, false)) = some (r1, r2) := by rw [if_pos rfl] at H; exact H
    clear H; have H := H1; clear H1
    simp only [Option.some.injEq, Prod.mk.injEq] at H
    obtain ⟨rfl, rfl⟩ := H
    have hcz13_0 : wc.cell? ⟨gb101, 0, none⟩ = some (.int .i64 0) := bc_ BK101 0 rfl
    have hcz13_1 : wc.cell? ⟨gb101, 1, none⟩ = some (.bool false) := bc_ BK101 1 rfl
    have hfz13_0 := blk_frozen BK101.out 0; have hfz13_1 := blk_frozen BK101.out 1
    go_wp2
    refine bodyPost_ret (results_cell_row rfl _ _ gb101 54 #[.int .i64 0, .bool false] (0, 0) _ rfl (by (with_reducible repeat (first | refine blk_drewN ?_ _ | refine blk_drew ?_ | refine blk_alloc ?_ _)); refine blk_put (cs := #[.int .i64 0, .bool false]) ?_ 1 _ rfl; refine blk_put (cs := #[.int .i64 0, .bool false]) ?_ 0 _ rfl; (with_reducible repeat (first | refine blk_drewN ?_ _ | refine blk_drew ?_ | refine blk_alloc ?_ _)); exact BK101.out) Try.underlying54 rfl (by kernel_rfl)) rfl ?_
    exact ⟨by first | rfl | (simp [errW_none, errW_some] <;> rfl) | (simp [*, errW_none, errW_some] <;> rfl), by repeat (first | (with_reducible first | exact HB.out | apply below_alloc | apply pw_below_drewN | apply below_drew1 | refine below_set ?_ GE101.out) | exact HB.out)⟩
   ·replace c12 := Bool.eq_false_iff.mpr c12; subst c12
    have H1 : ((oculusref08_Abs.f a2).bind fun t105 => ((oculusref08_Abs.f a0).bind fun t106 => ((oculusref08_Abs.f a1).bind fun t107 => ((oculusref08_Times.f t106 t107).bind fun bt108 => ((oculusref08_Divide.f kj3 bt108.1 bt108.2 t105).bind fun bt110 => (if bt110.2.2 = true then (oculusref08_Scaled.j1 kj3 a0 a1 a2 t105 (decide (bt110.1 > 9223372036854775807)) bt110.1 bt110.2.1 bt110.2.2) else (oculusref08_Scaled.j1 kj3 a0 a1 a2 t105 true bt110.1 bt110.2.1 bt110.2.2))))))) = some (r1, r2) := by rw [if_neg (show ¬ (false = true) by decide)] at H; exact H
    clear H; have H := H1; clear H1; replace H := Option.bind_eq_some_iff.mp H; obtain ⟨t105, A140, H⟩ := H
    replace H : ((oculusref08_Abs.f a0).bind fun t106 => ((oculusref08_Abs.f a1).bind fun t107 => ((oculusref08_Times.f t106 t107).bind fun bt108 => ((oculusref08_Divide.f kj3 bt108.1 bt108.2 t105).bind fun bt110 => (if bt110.2.2 = true then (oculusref08_Scaled.j1 kj3 a0 a1 a2 t105 (decide (bt110.1 > 9223372036854775807)) bt110.1 bt110.2.1 bt110.2.2) else (oculusref08_Scaled.j1 kj3 a0 a1 a2 t105 true bt110.1 bt110.2.1 bt110.2.2)))))) = some (r1, r2) := H
    have A14 := Aside0.mk A140; clear A140; replace H := Option.bind_eq_some_iff.mp H; obtain ⟨t106, A150, H⟩ := H
    replace H : ((oculusref08_Abs.f a1).bind fun t107 => ((oculusref08_Times.f t106 t107).bind fun bt108 => ((oculusref08_Divide.f kj3 bt108.1 bt108.2 t105).bind fun bt110 => (if bt110.2.2 = true then (oculusref08_Scaled.j1 kj3 a0 a1 a2 t105 (decide (bt110.1 > 9223372036854775807)) bt110.1 bt110.2.1 bt110.2.2) else (oculusref08_Scaled.j1 kj3 a0 a1 a2 t105 true bt110.1 bt110.2.1 bt110.2.2))))) = some (r1, r2) := H
    have A15 := Aside0.mk A150; clear A150; replace H := Option.bind_eq_some_iff.mp H; obtain ⟨t107, A160, H⟩ := H
    replace H : ((oculusref08_Times.f t106 t107).bind fun bt108 => ((oculusref08_Divide.f kj3 bt108.1 bt108.2 t105).bind fun bt110 => (if bt110.2.2 = true then (oculusref08_Scaled.j1 kj3 a0 a1 a2 t105 (decide (bt110.1 > 9223372036854775807)) bt110.1 bt110.2.1 bt110.2.2) else (oculusref08_Scaled.j1 kj3 a0 a1 a2 t105 true bt110.1 bt110.2.1 bt110.2.2)))) = some (r1, r2) := H
    have A16 := Aside0.mk A160; clear A160; replace H := Option.bind_eq_some_iff.mp H; obtain ⟨⟨t108, t109⟩, A170, H⟩ := H
    replace H : ((oculusref08_Divide.f kj3 t108 t109 t105).bind fun bt110 => (if bt110.2.2 = true then (oculusref08_Scaled.j1 kj3 a0 a1 a2 t105 (decide (bt110.1 > 9223372036854775807)) bt110.1 bt110.2.1 bt110.2.2) else (oculusref08_Scaled.j1 kj3 a0 a1 a2 t105 true bt110.1 bt110.2.1 bt110.2.2))) = some (r1, r2) := H
    have A17 := Aside0.mk A170; clear A170; replace H := Option.bind_eq_some_iff.mp H; obtain ⟨⟨t110, t111, t112⟩, A180, H⟩ := H
    replace H : (if t112 = true then (oculusref08_Scaled.j1 kj3 a0 a1 a2 t105 (decide (t110 > 9223372036854775807)) t110 t111 t112) else (oculusref08_Scaled.j1 kj3 a0 a1 a2 t105 true t110 t111 t112)) = some (r1, r2) := H
    have A18 := Aside0.mk A180; clear A180; have HC19 := Aside0.mk H; clear H
    go_upto_region 5 with (first | ((with_reducible refine gate_callee (f:=65) rfl ?_); refine goesL_ (some 30) rfl rfl Try.func65 (by kernel_rfl) rfl #[.int .i64 a2] rfl (by (try simp only [List.map_toArray, List.map_cons, List.map_nil]); first | done | rfl | (simp only [List.length_drop, List.length_take]; rfl)) ?_; (with_reducible refine (oculusref08_Abs.calls a2 t105 _ A14.out).mono ?_); rintro e w' ⟨rfl, ⟨nd, rfl⟩⟩; refine ⟨_, rfl, ?_⟩; (try (rw [drewN_self wc]; generalize hq_ : World.drewN wc _ = wc; have n0_ : Aside0 (wc.heap[gb101]? = some (.cells #[.int .i64 0, .bool false] 54 (0, 0))) := ⟨by rw [← hq_]; exact (pkx BK101)⟩; have n1_ : Aside0 (Below w.heap.size w wc) := ⟨by rw [← hq_]; exact (pbx HB)⟩; clear BK101 HB hq_; have BK101 := n0_; have HB := n1_; clear n0_ n1_))) | ((with_reducible refine gate_callee (f:=65) rfl ?_); refine goesL_ (some 32) rfl rfl Try.func65 (by kernel_rfl) rfl #[.int .i64 a0] rfl (by (try simp only [List.map_toArray, List.map_cons, List.map_nil]); first | done | rfl | (simp only [List.length_drop, List.length_take]; rfl)) ?_; (with_reducible refine (oculusref08_Abs.calls a0 t106 _ A15.out).mono ?_); rintro e w' ⟨rfl, ⟨nd, rfl⟩⟩; refine ⟨_, rfl, ?_⟩; (try (rw [drewN_self wc]; generalize hq_ : World.drewN wc _ = wc; have n0_ : Aside0 (wc.heap[gb101]? = some (.cells #[.int .i64 0, .bool false] 54 (0, 0))) := ⟨by rw [← hq_]; exact (pkx BK101)⟩; have n1_ : Aside0 (Below w.heap.size w wc) := ⟨by rw [← hq_]; exact (pbx HB)⟩; clear BK101 HB hq_; have BK101 := n0_; have HB := n1_; clear n0_ n1_))) | ((with_reducible refine gate_callee (f:=65) rfl ?_); refine goesL_ (some 34) rfl rfl Try.func65 (by kernel_rfl) rfl #[.int .i64 a1] rfl (by (try simp only [List.map_toArray, List.map_cons, List.map_nil]); first | done | rfl | (simp only [List.length_drop, List.length_take]; rfl)) ?_; (with_reducible refine (oculusref08_Abs.calls a1 t107 _ A16.out).mono ?_); rintro e w' ⟨rfl, ⟨nd, rfl⟩⟩; refine ⟨_, rfl, ?_⟩; (try (rw [drewN_self wc]; generalize hq_ : World.drewN wc _ = wc; have n0_ : Aside0 (wc.heap[gb101]? = some (.cells #[.int .i64 0, .bool false] 54 (0, 0))) := ⟨by rw [← hq_]; exact (pkx BK101)⟩; have n1_ : Aside0 (Below w.heap.size w wc) := ⟨by rw [← hq_]; exact (pbx HB)⟩; clear BK101 HB hq_; have BK101 := n0_; have HB := n1_; clear n0_ n1_))) | ((with_reducible refine gate_callee (f:=67) rfl ?_); refine goesL_ (some 35) rfl rfl Try.func67 (by kernel_rfl) rfl #[.int .u64 t106, .int .u64 t107] rfl (by (try simp only [List.map_toArray, List.map_cons, List.map_nil]); first | done | rfl | (simp only [List.length_drop, List.length_take]; rfl)) ?_; (with_reducible refine (oculusref08_Times.calls t106 t107 t108 t109 _ A17.out).mono ?_); rintro e w20 ⟨rfl, hb⟩; refine ⟨_, rfl, ?_⟩; replace BK101 := bb_ BK101 hb; replace HB := bs_ HB hb; (try clear hb); (try clear hb2); (try clear hk); (try clear hi)) | ((with_reducible refine gate_callee (f:=66) rfl ?_); refine goesL_ (some 37) rfl rfl Try.func66 (by kernel_rfl) rfl #[.agg #[.int .u64 t108, .int .u64 t109], .int .u64 t105] rfl (by (try simp only [List.map_toArray, List.map_cons, List.map_nil]); first | done | rfl | (simp only [List.length_drop, List.length_take]; rfl)) ?_; (with_reducible refine (oculusref08_Divide.calls kj3 t108 t109 t105 t110 t111 t112 _ A18.out).mono ?_); rintro e w21 ⟨rfl, hb⟩; refine ⟨_, rfl, ?_⟩; replace BK101 := bb_ BK101 hb; replace HB := bs_ HB hb; (try clear hb); (try clear hb2); (try clear hk); (try clear hi)) | ((with_reducible refine gate_dst (N:=8) rfl ?_); refine box_event ?hg (N:=8) ?hd (cs := #[.int .u64 0, .int .u64 0, .bool false]) (t:=79) ?hr ?_; (case hd => rfl); (case hg => rfl); (case hr => first | (go_simp; done) | (go_simp; rfl)); intro gb113 hg w22 hbox hb; have BK113 := Aside0.mk (hbox); have GW113 := hs_ HB hg; have GE113 := hs_ HB hg; have NB101_113 := hl_ BK101 hg; have NB113_101 := hr_ BK101 hg; replace BK101 := bb_ BK101 hb; replace HB := bs_ HB hb; clear hb hbox hg; have hnb23 := NB113_101.out; have hnc23 := NB101_113.out; have hcz24_0 : w22.cell? ⟨gb113, 0, none⟩ = some (.int .u64 0) := bc_ BK113 0 rfl; have hcz24_1 : w22.cell? ⟨gb113, 1, none⟩ = some (.int .u64 0) := bc_ BK113 1 rfl; have hcz24_2 : w22.cell? ⟨gb113, 2, none⟩ = some (.bool false) := bc_ BK113 2 rfl; have hfz24_0 := blk_frozen BK113.out 0; have hfz24_1 := blk_frozen BK113.out 1; have hfz24_2 := blk_frozen BK113.out 2))
    (try simp only [q_])
    go_cut [45] (fun v45 wc => ∃ (kq : Nat) (x45_18 : Bool), v45 = .bool x45_18 ∧ Aside0 (oculusref08_Scaled.j1 kq a0 a1 a2 t105 x45_18 t110 t111 t112 = some (r1, r2)) ∧ Aside0 (kq ≤ kj3) ∧ Aside0 (wc.heap[gb101]? = some (.cells #[.int .i64 0, .bool false] 54 (0, 0))) ∧ Aside0 (wc.heap[gb113]? = some (.cells #[.int .u64 t110, .int .u64 t111, .bool t112] 79 (0, 0))) ∧ Aside0 (Below w.heap.size w wc))
    case first =>
     have H := HC19.out; clear HC19
     by_cases c25 : t112 = true
     ·subst c25
      have H1 : (oculusref08_Scaled.j1 kj3 a0 a1 a2 t105 (decide (t110 > 9223372036854775807)) t110 t111 true) = some (r1, r2) := by rw [if_pos rfl] at H; exact H
      clear H; have H := H1; clear H1
      have H' := Aside0.mk H
      clear H; have hnb26 := NB113_101.out; have hnc26 := NB101_113.out
      have hcz27_0 : w22.cell? ⟨gb113, 0, none⟩ = some (.int .u64 0) := bc_ BK113 0 rfl
      have hcz27_1 : w22.cell? ⟨gb113, 1, none⟩ = some (.int .u64 0) := bc_ BK113 1 rfl
      have hcz27_2 : w22.cell? ⟨gb113, 2, none⟩ = some (.bool false) := bc_ BK113 2 rfl
      have hfz27_0 := blk_frozen BK113.out 0; have hfz27_1 := blk_frozen BK113.out 1; have hfz27_2 := blk_frozen BK113.out 2
      go_wp2
      go_meet
      case rel => exact ⟨_, (decide (t110 > 9223372036854775807)), (by first | rfl | (simp; done) | (simp [*]; done) | (cases t110 <;> simp; done)), H', ⟨by have := HJ3.out; first | omega | exact Nat.le_refl _⟩, ⟨by (with_reducible repeat (first | refine blk_drewN ?_ _ | refine blk_drew ?_ | refine blk_alloc ?_ _)); refine blk_far ?_ NB101_113.out _; refine blk_far ?_ NB101_113.out _; refine blk_far ?_ NB101_113.out _; (with_reducible repeat (first | refine blk_drewN ?_ _ | refine blk_drew ?_ | refine blk_alloc ?_ _)); exact BK101.out⟩, ⟨by (with_reducible repeat (first | refine blk_drewN ?_ _ | refine blk_drew ?_ | refine blk_alloc ?_ _)); refine blk_put (cs := #[.int .u64 t110, .int .u64 t111, .bool false]) ?_ 2 _ rfl; refine blk_put (cs := #[.int .u64 t110, .int .u64 0, .bool false]) ?_ 1 _ rfl; refine blk_put (cs := #[.int .u64 0, .int .u64 0, .bool false]) ?_ 0 _ rfl; (with_reducible repeat (first | refine blk_drewN ?_ _ | refine blk_drew ?_ | refine blk_alloc ?_ _)); exact BK113.out⟩, ⟨by repeat (first | (with_reducible first | exact HB.out | apply below_alloc | apply pw_below_drewN | apply below_drew1 | refine below_set ?_ GE101.out | refine below_set ?_ GE113.out) | exact HB.out)⟩⟩
     ·replace c25 := Bool.eq_false_iff.mpr c25; subst c25
      have H1 : (oculusref08_Scaled.j1 kj3 a0 a1 a2 t105 true t110 t111 false) = some (r1, r2) := by rw [if_neg (show ¬ (false = true) by decide)] at H; exact H
      clear H; have H := H1; clear H1
      have H' := Aside0.mk H
      clear H; have hnb28 := NB113_101.out; have hnc28 := NB101_113.out
      have hcz29_0 : w22.cell? ⟨gb113, 0, none⟩ = some (.int .u64 0) := bc_ BK113 0 rfl
      have hcz29_1 : w22.cell? ⟨gb113, 1, none⟩ = some (.int .u64 0) := bc_ BK113 1 rfl
      have hcz29_2 : w22.cell? ⟨gb113, 2, none⟩ = some (.bool false) := bc_ BK113 2 rfl
      have hfz29_0 := blk_frozen BK113.out 0; have hfz29_1 := blk_frozen BK113.out 1; have hfz29_2 := blk_frozen BK113.out 2
      go_wp2
      go_meet
      case rel => exact ⟨_, (true), (by first | rfl | (simp; done) | (simp [*]; done)), H', ⟨by have := HJ3.out; first | omega | exact Nat.le_refl _⟩, ⟨by (with_reducible repeat (first | refine blk_drewN ?_ _ | refine blk_drew ?_ | refine blk_alloc ?_ _)); refine blk_far ?_ NB101_113.out _; refine blk_far ?_ NB101_113.out _; refine blk_far ?_ NB101_113.out _; (with_reducible repeat (first | refine blk_drewN ?_ _ | refine blk_drew ?_ | refine blk_alloc ?_ _)); exact BK101.out⟩, ⟨by (with_reducible repeat (first | refine blk_drewN ?_ _ | refine blk_drew ?_ | refine blk_alloc ?_ _)); refine blk_put (cs := #[.int .u64 t110, .int .u64 t111, .bool false]) ?_ 2 _ rfl; refine blk_put (cs := #[.int .u64 t110, .int .u64 0, .bool false]) ?_ 1 _ rfl; refine blk_put (cs := #[.int .u64 0, .int .u64 0, .bool false]) ?_ 0 _ rfl; (with_reducible repeat (first | refine blk_drewN ?_ _ | refine blk_drew ?_ | refine blk_alloc ?_ _)); exact BK113.out⟩, ⟨by repeat (first | (with_reducible first | exact HB.out | apply below_alloc | apply pw_below_drewN | apply below_drew1 | refine below_set ?_ GE101.out | refine below_set ?_ GE113.out) | exact HB.out)⟩⟩
    case rest =>
     clear HC19; (try clear c1); (try clear c2); (try clear p2); (try clear c5); (try clear c6); (try clear c7); (try clear c9); (try clear c11); (try clear c12); (try clear c15); (try clear c23); (try clear c25); (try clear c26); (try clear c28); (try clear hcz13_0); (try clear hcz13_1); (try clear hcz24_0); (try clear hcz24_1); (try clear hcz24_2); (try clear hcz27_0); (try clear hcz27_1); (try clear hcz27_2); (try clear hcz29_0); (try clear hcz29_1); (try clear hcz29_2); (try clear hfz13_0); (try clear hfz13_1); (try clear hfz24_0); (try clear hfz24_1); (try clear hfz24_2); (try clear hfz27_0); (try clear hfz27_1); (try clear hfz27_2); (try clear hfz29_0); (try clear hfz29_1); (try clear hfz29_2); (try clear p2); obtain ⟨kq, x45_18, rfl, HA, HJ18, BK101, BK113, HB⟩ := hcut
     cases kq with
     | zero => exact absurd HA.out (by simp [oculusref08_Scaled.j1])
     | succ kj18 =>
      have H := HA.out; clear HA
      simp only [oculusref08_Scaled.j1] at H
      by_cases c30 : x45_18 = true
      ·subst c30
       have H1 : (some (0, false)) = some (r1, r2) := by rw [if_pos rfl] at H; exact H
       clear H; have H := H1; clear H1
       simp only [Option.some.injEq, Prod.mk.injEq] at H
       obtain ⟨rfl, rfl⟩ := H; have hnb31 := NB101_113.out; have hnc31 := NB113_101.out
       have hcz32_0 : wc.cell? ⟨gb101, 0, none⟩ = some (.int .i64 0) := bc_ BK101 0 rfl
       have hcz32_1 : wc.cell? ⟨gb101, 1, none⟩ = some (.bool false) := bc_ BK101 1 rfl
       have hfz32_0 := blk_frozen BK101.out 0; have hfz32_1 := blk_frozen BK101.out 1
       go_wp2
       refine bodyPost_ret (results_cell_row rfl _ _ gb101 54 #[.int .i64 0, .bool false] (0, 0) _ rfl (by (with_reducible repeat (first | refine blk_drewN ?_ _ | refine blk_drew ?_ | refine blk_alloc ?_ _)); refine blk_put (cs := #[.int .i64 0, .bool false]) ?_ 1 _ rfl; refine blk_put (cs := #[.int .i64 0, .bool false]) ?_ 0 _ rfl; (with_reducible repeat (first | refine blk_drewN ?_ _ | refine blk_drew ?_ | refine blk_alloc ?_ _)); exact BK101.out) Try.underlying54 rfl (by kernel_rfl)) rfl ?_
       exact ⟨by first | rfl | (simp [errW_none, errW_some] <;> rfl) | (simp [*, errW_none, errW_some] <;> rfl), by repeat (first | (with_reducible first | exact HB.out | apply below_alloc | apply pw_below_drewN | apply below_drew1 | refine below_set ?_ GE101.out | refine below_set ?_ GE113.out) | exact HB.out)⟩
      ·replace c30 := Bool.eq_false_iff.mpr c30; subst c30
       have H1 : (if (IntKind.u64.wrap (t105 - t111)) ≤ t111 then (oculusref08_Scaled.j2 kj18 a0 a1 a2 (IntKind.u64.wrap (t110 + 1))) else (oculusref08_Scaled.j2 kj18 a0 a1 a2 t110)) = some (r1, r2) := by rw [if_neg (show ¬ (false = true) by decide)] at H; exact H
       clear H; have H := H1; clear H1; have HC33 := Aside0.mk H; clear H; have hnb34 := NB113_101.out; have hnc34 := NB101_113.out
       have hcz35_0 : wc.cell? ⟨gb113, 0, none⟩ = some (.int .u64 t110) := bc_ BK113 0 rfl
       have hcz35_1 : wc.cell? ⟨gb113, 1, none⟩ = some (.int .u64 t111) := bc_ BK113 1 rfl
       have hcz35_2 : wc.cell? ⟨gb113, 2, none⟩ = some (.bool t112) := bc_ BK113 2 rfl
       have hfz35_0 := blk_frozen BK113.out 0; have hfz35_1 := blk_frozen BK113.out 1; have hfz35_2 := blk_frozen BK113.out 2
       go_upto_if 55 with (fail)
       go_cut [9] (fun v9 wc => ∃ (kq : Nat) (x9_32 : Int), v9 = .int .u64 x9_32 ∧ Aside0 (oculusref08_Scaled.j2 kq a0 a1 a2 x9_32 = some (r1, r2)) ∧ Aside0 (kq ≤ kj18) ∧ Aside0 (wc.heap[gb101]? = some (.cells #[.int .i64 0, .bool false] 54 (0, 0))) ∧ Aside0 (wc.heap[gb113]? = some (.cells #[.int .u64 t110, .int .u64 t111, .bool t112] 79 (0, 0))) ∧ Aside0 (Below w.heap.size w wc))
       case first =>
        have H := HC33.out; clear HC33
        by_cases c36 : (IntKind.u64.wrap (t105 - t111)) ≤ t111
        ·rw [if_pos c36] at H; have c36b0 : decide ((IntKind.u64.wrap (t105 - t111)) ≤ t111) = true := decide_eq_true c36; clear c36; (first | rw [c36b0] | (simp only [i64_w, i32_w]; rw [c36b0]) | skip)
         have H' := Aside0.mk H
         clear H
         go_wp2
         go_meet
         case rel => exact ⟨_, (IntKind.u64.wrap (t110 + 1)), (by first | rfl | (simp; done) | (simp [*]; done) | (cases t110 <;> simp; done)), H', ⟨by have := HJ3.out; have := HJ18.out; first | omega | exact Nat.le_refl _⟩, ⟨pkx BK101⟩, ⟨pkx BK113⟩, ⟨pbx HB⟩⟩
        ·rw [if_neg c36] at H; have c36b0 : decide ((IntKind.u64.wrap (t105 - t111)) ≤ t111) = false := decide_eq_false c36; clear c36; (first | rw [c36b0] | (simp only [i64_w, i32_w]; rw [c36b0]) | skip)
         have H' := Aside0.mk H
         clear H
         go_wp2
         go_meet
         case rel => exact ⟨_, (t110), (by first | rfl | (simp; done) | (simp [*]; done) | (cases t110 <;> simp; done)), H', ⟨by have := HJ3.out; have := HJ18.out; first | omega | exact Nat.le_refl _⟩, ⟨pkx BK101⟩, ⟨pkx BK113⟩, ⟨pbx HB⟩⟩
       case rest =>
        clear HC33; (try clear c1); (try clear c2); (try clear p2); (try clear c3); (try clear c5); (try clear c6); (try clear c7); (try clear c9); (try clear c11); (try clear c12); (try clear c15); (try clear c23); (try clear c25); (try clear c26); (try clear c28); (try clear c30); (try clear c31); (try clear c34); (try clear c36); (try clear c36b0); (try clear hcz13_0); (try clear hcz13_1); (try clear hcz24_0); (try clear hcz24_1); (try clear hcz24_2); (try clear hcz27_0); (try clear hcz27_1); (try clear hcz27_2); (try clear hcz29_0); (try clear hcz29_1); (try clear hcz29_2); (try clear hcz32_0); (try clear hcz32_1); (try clear hcz35_0); (try clear hcz35_1); (try clear hcz35_2); (try clear hfz13_0); (try clear hfz13_1); (try clear hfz24_0); (try clear hfz24_1); (try clear hfz24_2); (try clear hfz27_0); (try clear hfz27_1); (try clear hfz27_2); (try clear hfz29_0); (try clear hfz29_1); (try clear hfz29_2)
        (try clear hfz32_0); (try clear hfz32_1); (try clear hfz35_0); (try clear hfz35_1); (try clear hfz35_2); (try clear p2); obtain ⟨kq, x9_32, rfl, HA, HJ32, BK101, BK113, HB⟩ := hcut
        cases kq with
        | zero => exact absurd HA.out (by simp [oculusref08_Scaled.j2])
        | succ kj32 =>
         have H := HA.out; clear HA
         simp only [oculusref08_Scaled.j2] at H
         by_cases c37 : x9_32 > 9223372036854775807
         ·rw [if_pos c37] at H; have c37b0 : decide (9223372036854775807 < x9_32) = true := decide_eq_true c37; clear c37
          simp only [Option.some.injEq, Prod.mk.injEq] at H
          obtain ⟨rfl, rfl⟩ := H; have hnb38 := NB101_113.out; have hnc38 := NB113_101.out
          have hcz39_0 : wc.cell? ⟨gb101, 0, none⟩ = some (.int .i64 0) := bc_ BK101 0 rfl
          have hcz39_1 : wc.cell? ⟨gb101, 1, none⟩ = some (.bool false) := bc_ BK101 1 rfl
          have hfz39_0 := blk_frozen BK101.out 0; have hfz39_1 := blk_frozen BK101.out 1
          go_wp2
          refine bodyPost_ret (results_cell_row rfl _ _ gb101 54 #[.int .i64 0, .bool false] (0, 0) _ rfl (by (with_reducible repeat (first | refine blk_drewN ?_ _ | refine blk_drew ?_ | refine blk_alloc ?_ _)); refine blk_put (cs := #[.int .i64 0, .bool false]) ?_ 1 _ rfl; refine blk_put (cs := #[.int .i64 0, .bool false]) ?_ 0 _ rfl; (with_reducible repeat (first | refine blk_drewN ?_ _ | refine blk_drew ?_ | refine blk_alloc ?_ _)); exact BK101.out) Try.underlying54 rfl (by kernel_rfl)) rfl ?_
          exact ⟨by first | rfl | (simp [errW_none, errW_some] <;> rfl) | (simp [*, errW_none, errW_some] <;> rfl), by repeat (first | (with_reducible first | exact HB.out | apply below_alloc | apply pw_below_drewN | apply below_drew1 | refine below_set ?_ GE101.out | refine below_set ?_ GE113.out) | exact HB.out)⟩
         ·rw [if_neg c37] at H; have c37b0 : decide (9223372036854775807 < x9_32) = false := decide_eq_false c37; clear c37
          by_cases c40 : ((decide (a0 < 0)) != (decide (a1 < 0))) = true
          ·rw [if_pos c40] at H
           have c40b0 : ((decide (a0 < 0)) != (decide (a1 < 0))) = true := c40
           (try (have c40b1 : decide ((decide (a0 < 0)) = (decide (a1 < 0))) = false := by simpa using c40)); (try (have c40b2 : ((decide (a0 < 0)) == (decide (a1 < 0))) = false := by simpa using c40)); (try (have c40b3 : ¬ ((decide (a0 < 0)) = (decide (a1 < 0))) := by simpa using c40)); clear c40
           by_cases c41 : a2 < 0
           ·rw [if_pos c41] at H; have c41b0 : decide (a2 < 0) = true := decide_eq_true c41; clear c41
            simp only [Option.some.injEq, Prod.mk.injEq] at H
            obtain ⟨rfl, rfl⟩ := H; have hnb42 := NB101_113.out; have hnc42 := NB113_101.out
            have hcz43_0 : wc.cell? ⟨gb101, 0, none⟩ = some (.int .i64 0) := bc_ BK101 0 rfl
            have hcz43_1 : wc.cell? ⟨gb101, 1, none⟩ = some (.bool false) := bc_ BK101 1 rfl
            have hfz43_0 := blk_frozen BK101.out 0; have hfz43_1 := blk_frozen BK101.out 1
            go_wp2
            refine bodyPost_ret (results_cell_row rfl _ _ gb101 54 #[.int .i64 (wrap64 (-(wrap64 (-(wrap64 (x9_32)))))), .bool true] (0, 0) _ rfl (by (with_reducible repeat (first | refine blk_drewN ?_ _ | refine blk_drew ?_ | refine blk_alloc ?_ _)); refine blk_put (cs := #[.int .i64 (wrap64 (-(wrap64 (-(wrap64 (x9_32)))))), .bool false]) ?_ 1 _ rfl; refine blk_put (cs := #[.int .i64 0, .bool false]) ?_ 0 _ rfl; (with_reducible repeat (first | refine blk_drewN ?_ _ | refine blk_drew ?_ | refine blk_alloc ?_ _)); exact BK101.out) Try.underlying54 rfl (by kernel_rfl)) rfl ?_
            exact ⟨by first | rfl | (simp [errW_none, errW_some] <;> rfl) | (simp [*, errW_none, errW_some] <;> rfl), by repeat (first | (with_reducible first | exact HB.out | apply below_alloc | apply pw_below_drewN | apply below_drew1 | refine below_set ?_ GE101.out | refine below_set ?_ GE113.out) | exact HB.out)⟩
           ·rw [if_neg c41] at H; have c41b0 : decide (a2 < 0) = false := decide_eq_false c41; clear c41
            simp only [Option.some.injEq, Prod.mk.injEq] at H
            obtain ⟨rfl, rfl⟩ := H; have hnb44 := NB101_113.out; have hnc44 := NB113_101.out
            have hcz45_0 : wc.cell? ⟨gb101, 0, none⟩ = some (.int .i64 0) := bc_ BK101 0 rfl
            have hcz45_1 : wc.cell? ⟨gb101, 1, none⟩ = some (.bool false) := bc_ BK101 1 rfl
            have hfz45_0 := blk_frozen BK101.out 0; have hfz45_1 := blk_frozen BK101.out 1
            go_wp2
            refine bodyPost_ret (results_cell_row rfl _ _ gb101 54 #[.int .i64 (wrap64 (-(wrap64 (x9_32)))), .bool true] (0, 0) _ rfl (by (with_reducible repeat (first | refine blk_drewN ?_ _ | refine blk_drew ?_ | refine blk_alloc ?_ _)); refine blk_put (cs := #[.int .i64 (wrap64 (-(wrap64 (x9_32)))), .bool false]) ?_ 1 _ rfl; refine blk_put (cs := #[.int .i64 0, .bool false]) ?_ 0 _ rfl; (with_reducible repeat (first | refine blk_drewN ?_ _ | refine blk_drew ?_ | refine blk_alloc ?_ _)); exact BK101.out) Try.underlying54 rfl (by kernel_rfl)) rfl ?_
            exact ⟨by first | rfl | (simp [errW_none, errW_some] <;> rfl) | (simp [*, errW_none, errW_some] <;> rfl), by repeat (first | (with_reducible first | exact HB.out | apply below_alloc | apply pw_below_drewN | apply below_drew1 | refine below_set ?_ GE101.out | refine below_set ?_ GE113.out) | exact HB.out)⟩
          ·rw [if_neg c40] at H
           have c40b0 : ((decide (a0 < 0)) != (decide (a1 < 0))) = false := by simpa using c40
           (try (have c40b1 : decide ((decide (a0 < 0)) = (decide (a1 < 0))) = true := by simpa using c40)); (try (have c40b2 : ((decide (a0 < 0)) == (decide (a1 < 0))) = true := by simpa using c40)); clear c40
           by_cases c46 : a2 < 0
           ·rw [if_pos c46] at H; have c46b0 : decide (a2 < 0) = true := decide_eq_true c46; clear c46
            simp only [Option.some.injEq, Prod.mk.injEq] at H
            obtain ⟨rfl, rfl⟩ := H; have hnb47 := NB101_113.out; have hnc47 := NB113_101.out
            have hcz48_0 : wc.cell? ⟨gb101, 0, none⟩ = some (.int .i64 0) := bc_ BK101 0 rfl
            have hcz48_1 : wc.cell? ⟨gb101, 1, none⟩ = some (.bool false) := bc_ BK101 1 rfl
            have hfz48_0 := blk_frozen BK101.out 0; have hfz48_1 := blk_frozen BK101.out 1
            go_wp2
            refine bodyPost_ret (results_cell_row rfl _ _ gb101 54 #[.int .i64 (wrap64 (-(wrap64 (x9_32)))), .bool true] (0, 0) _ rfl (by (with_reducible repeat (first | refine blk_drewN ?_ _ | refine blk_drew ?_ | refine blk_alloc ?_ _)); refine blk_put (cs := #[.int .i64 (wrap64 (-(wrap64 (x9_32)))), .bool false]) ?_ 1 _ rfl; refine blk_put (cs := #[.int .i64 0, .bool false]) ?_ 0 _ rfl; (with_reducible repeat (first | refine blk_drewN ?_ _ | refine blk_drew ?_ | refine blk_alloc ?_ _)); exact BK101.out) Try.underlying54 rfl (by kernel_rfl)) rfl ?_
            exact ⟨by first | rfl | (simp [errW_none, errW_some] <;> rfl) | (simp [*, errW_none, errW_some] <;> rfl), by repeat (first | (with_reducible first | exact HB.out | apply below_alloc | apply pw_below_drewN | apply below_drew1 | refine below_set ?_ GE101.out | refine below_set ?_ GE113.out) | exact HB.out)⟩
           ·rw [if_neg c46] at H; have c46b0 : decide (a2 < 0) = false := decide_eq_false c46; clear c46
            simp only [Option.some.injEq, Prod.mk.injEq] at H
            obtain ⟨rfl, rfl⟩ := H; have hnb49 := NB101_113.out; have hnc49 := NB113_101.out
            have hcz50_0 : wc.cell? ⟨gb101, 0, none⟩ = some (.int .i64 0) := bc_ BK101 0 rfl
            have hcz50_1 : wc.cell? ⟨gb101, 1, none⟩ = some (.bool false) := bc_ BK101 1 rfl
            have hfz50_0 := blk_frozen BK101.out 0; have hfz50_1 := blk_frozen BK101.out 1
            go_wp2
            refine bodyPost_ret (results_cell_row rfl _ _ gb101 54 #[.int .i64 (wrap64 (x9_32)), .bool true] (0, 0) _ rfl (by (with_reducible repeat (first | refine blk_drewN ?_ _ | refine blk_drew ?_ | refine blk_alloc ?_ _)); refine blk_put (cs := #[.int .i64 (wrap64 (x9_32)), .bool false]) ?_ 1 _ rfl; refine blk_put (cs := #[.int .i64 0, .bool false]) ?_ 0 _ rfl; (with_reducible repeat (first | refine blk_drewN ?_ _ | refine blk_drew ?_ | refine blk_alloc ?_ _)); exact BK101.out) Try.underlying54 rfl (by kernel_rfl)) rfl ?_
            exact ⟨by first | rfl | (simp [errW_none, errW_some] <;> rfl) | (simp [*, errW_none, errW_some] <;> rfl), by repeat (first | (with_reducible first | exact HB.out | apply below_alloc | apply pw_below_drewN | apply below_drew1 | refine below_set ?_ GE101.out | refine below_set ?_ GE113.out) | exact HB.out)⟩

end Go.Proofs.Ytfcpkehldmehjaa.X
namespace Go.Proofs.Ytfcpkehldmehjaa.X
open Go.RowKit Go.Proofs.YtfcpkehldmehjaaW.PrintWords Go.Proofs.YtfcpkehldmehjaaW.PrintLast Go.Proofs.YtfcpkehldmehjaaW.PrintMore
attribute [local go_sem] max2_int min2_int max_two min_two max_three min_three max_four min_four   -- for this text's walks alone
set_option linter.unusedVariables false
set_option linter.unusedSimpArgs false

/-! ### oculusref08_Add: function 55 -/
def oculusref08_Add.j0 : Nat → Int → Int → Bool → Option (Int × Bool)
 | 0, _, _, _ => none
 | k + 1, x0, x1, x32 => if x32 = true then (some (0, false)) else (some (wrap64 (x0 + x1), true))
def oculusref08_Add.f (k : Nat) (a0 : Int) (a1 : Int) : Option (Int × Bool) := (oculusref08_May.f a0).bind fun t102 => (if t102 = true then ((oculusref08_May.f a1).bind fun t103 => (if t103 = true then (if a1 > 0 then (if a0 > (wrap64 (9223372036854775807 - a1)) then (oculusref08_Add.j0 k a0 a1 true) else (if a1 < 0 then (oculusref08_Add.j0 k a0 a1 (decide (a0 < (wrap64 ((-9223372036854775807) - a1))))) else (oculusref08_Add.j0 k a0 a1 false))) else (if a1 < 0 then (oculusref08_Add.j0 k a0 a1 (decide (a0 < (wrap64 ((-9223372036854775807) - a1))))) else (oculusref08_Add.j0 k a0 a1 false))) else (oculusref08_Add.j0 k a0 a1 true))) else (oculusref08_Add.j0 k a0 a1 true))
set_option maxHeartbeats 8000000 in
set_option maxRecDepth 100000 in
theorem oculusref08_Add.calls (k : Nat) (a0 : Int) (a1 : Int) (r1 : Int) (r2 : Bool) (w : World) (h : oculusref08_Add.f k a0 a1 = some (r1, r2)) :
  Calls Try.prog 55 #[.int .i64 a0, .int .i64 a1] w fun e w' => e = .returned (.agg #[.int .i64 r1, .bool r2]) ∧ Below w.heap.size w w' := by
 have hu54 := Try.underlying54; have HB := Aside0.mk (Below.refl w.heap.size w)
 have H : ((oculusref08_May.f a0).bind fun t102 => (if t102 = true then ((oculusref08_May.f a1).bind fun t103 => (if t103 = true then (if a1 > 0 then (if a0 > (wrap64 (9223372036854775807 - a1)) then (oculusref08_Add.j0 k a0 a1 true) else (if a1 < 0 then (oculusref08_Add.j0 k a0 a1 (decide (a0 < (wrap64 ((-9223372036854775807) - a1))))) else (oculusref08_Add.j0 k a0 a1 false))) else (if a1 < 0 then (oculusref08_Add.j0 k a0 a1 (decide (a0 < (wrap64 ((-9223372036854775807) - a1))))) else (oculusref08_Add.j0 k a0 a1 false))) else (oculusref08_Add.j0 k a0 a1 true))) else (oculusref08_Add.j0 k a0 a1 true))) = some (r1, r2) := h
 clear h; have HC3 := Aside0.mk H; clear H
 go_enter Try.func55, Try.ntmps55
 go_upto_region 1 with (first | ((with_reducible refine gate_dst (N:=4) rfl ?_); refine box_event ?hg (N:=4) ?hd (cs := #[.int .i64 0, .bool false]) (t:=54) ?hr ?_; (case hd => rfl); (case hg => rfl); (case hr => first | (go_simp; done) | (go_simp; rfl)); intro gb101 hg w4 hbox hb; have BK101 := Aside0.mk (hbox); have GW101 := hs_ HB hg; have GE101 := hs_ HB hg; replace HB := bs_ HB hb; clear hb hbox hg))
 (try simp only [q_])
 go_cut [32] (fun v32 wc => ∃ (kq : Nat) (x32_2 : Bool), v32 = .bool x32_2 ∧ Aside0 (oculusref08_Add.j0 kq a0 a1 x32_2 = some (r1, r2)) ∧ Aside0 (kq ≤ k) ∧ Aside0 (wc.heap[gb101]? = some (.cells #[.int .i64 0, .bool false] 54 (0, 0))) ∧ Aside0 (Below w.heap.size w wc))
 case first =>
  have H := HC3.out; clear HC3; replace H := Option.bind_eq_some_iff.mp H; obtain ⟨t102, A50, H⟩ := H
  replace H : (if t102 = true then ((oculusref08_May.f a1).bind fun t103 => (if t103 = true then (if a1 > 0 then (if a0 > (wrap64 (9223372036854775807 - a1)) then (oculusref08_Add.j0 k a0 a1 true) else (if a1 < 0 then (oculusref08_Add.j0 k a0 a1 (decide (a0 < (wrap64 ((-9223372036854775807) - a1))))) else (oculusref08_Add.j0 k a0 a1 false))) else (if a1 < 0 then (oculusref08_Add.j0 k a0 a1 (decide (a0 < (wrap64 ((-9223372036854775807) - a1))))) else (oculusref08_Add.j0 k a0 a1 false))) else (oculusref08_Add.j0 k a0 a1 true))) else (oculusref08_Add.j0 k a0 a1 true)) = some (r1, r2) := H
  have A5 := Aside0.mk A50; clear A50
  by_cases c6 : t102 = true
  ·subst c6
   have H1 : ((oculusref08_May.f a1).bind fun t103 => (if t103 = true then (if a1 > 0 then (if a0 > (wrap64 (9223372036854775807 - a1)) then (oculusref08_Add.j0 k a0 a1 true) else (if a1 < 0 then (oculusref08_Add.j0 k a0 a1 (decide (a0 < (wrap64 ((-9223372036854775807) - a1))))) else (oculusref08_Add.j0 k a0 a1 false))) else (if a1 < 0 then (oculusref08_Add.j0 k a0 a1 (decide (a0 < (wrap64 ((-9223372036854775807) - a1))))) else (oculusref08_Add.j0 k a0 a1 false))) else (oculusref08_Add.j0 k a0 a1 true))) = some (r1, r2) := by rw [if_pos rfl] at H; exact H
   clear H; have H := H1; clear H1; replace H := Option.bind_eq_some_iff.mp H; obtain ⟨t103, A70, H⟩ := H
   replace H : (if t103 = true then (if a1 > 0 then (if a0 > (wrap64 (9223372036854775807 - a1)) then (oculusref08_Add.j0 k a0 a1 true) else (if a1 < 0 then (oculusref08_Add.j0 k a0 a1 (decide (a0 < (wrap64 ((-9223372036854775807) - a1))))) else (oculusref08_Add.j0 k a0 a1 false))) else (if a1 < 0 then (oculusref08_Add.j0 k a0 a1 (decide (a0 < (wrap64 ((-9223372036854775807) - a1))))) else (oculusref08_Add.j0 k a0 a1 false))) else (oculusref08_Add.j0 k a0 a1 true)) = some (r1, r2) := H
   have A7 := Aside0.mk A70; clear A70
   by_cases c8 : t103 = true
   ·subst c8
    have H1 : (if a1 > 0 then (if a0 > (wrap64 (9223372036854775807 - a1)) then (oculusref08_Add.j0 k a0 a1 true) else (if a1 < 0 then (oculusref08_Add.j0 k a0 a1 (decide (a0 < (wrap64 ((-9223372036854775807) - a1))))) else (oculusref08_Add.j0 k a0 a1 false))) else (if a1 < 0 then (oculusref08_Add.j0 k a0 a1 (decide (a0 < (wrap64 ((-9223372036854775807) - a1))))) else (oculusref08_Add.j0 k a0 a1 false))) = some (r1, r2) := by rw [if_pos rfl] at H; exact H
    clear H; have H := H1; clear H1
    by_cases c9 : a1 > 0
    ·rw [if_pos c9] at H; have c9b0 : decide (0 < a1) = true := decide_eq_true c9; clear c9; (first | rw [c9b0] | (simp only [i64_w, i32_w]; rw [c9b0]) | skip)
     by_cases c10 : a0 > (wrap64 (9223372036854775807 - a1))
     ·rw [if_pos c10] at H; have c10b0 : decide ((wrap64 (9223372036854775807 - a1)) < a0) = true := decide_eq_true c10; clear c10
      have H' := Aside0.mk H
      clear H
      go_wp2_with (first | ((with_reducible refine gate_callee (f:=15) rfl ?_); refine goesL_ (some 6) rfl rfl Try.func15 (by kernel_rfl) rfl #[.int .i64 a0] rfl (by (try simp only [List.map_toArray, List.map_cons, List.map_nil]); first | done | rfl | (simp only [List.length_drop, List.length_take]; rfl)) ?_; (with_reducible refine (oculusref08_May.calls a0 true _ A5.out).mono ?_); rintro e w' ⟨rfl, ⟨nd, rfl⟩⟩; refine ⟨_, rfl, ?_⟩) | (go_at_call 15; (with_reducible refine (oculusref08_May.calls a1 true _ A7.out).mono ?_); rintro e w' ⟨rfl, ⟨nd, rfl⟩⟩))
      go_meet
      case rel => exact ⟨_, (true), (by first | rfl | (simp; done) | (simp [*]; done)), H', ⟨by first | omega | exact Nat.le_refl _⟩, ⟨pkx BK101⟩, ⟨pbx HB⟩⟩
     ·rw [if_neg c10] at H; have c10b0 : decide ((wrap64 (9223372036854775807 - a1)) < a0) = false := decide_eq_false c10; clear c10
      by_cases c11 : a1 < 0
      ·rw [if_pos c11] at H; have c11b0 : decide (a1 < 0) = true := decide_eq_true c11; clear c11
       have H' := Aside0.mk H
       clear H
       go_wp2_with (first | ((with_reducible refine gate_callee (f:=15) rfl ?_); refine goesL_ (some 6) rfl rfl Try.func15 (by kernel_rfl) rfl #[.int .i64 a0] rfl (by (try simp only [List.map_toArray, List.map_cons, List.map_nil]); first | done | rfl | (simp only [List.length_drop, List.length_take]; rfl)) ?_; (with_reducible refine (oculusref08_May.calls a0 true _ A5.out).mono ?_); rintro e w' ⟨rfl, ⟨nd, rfl⟩⟩; refine ⟨_, rfl, ?_⟩) | (go_at_call 15; (with_reducible refine (oculusref08_May.calls a1 true _ A7.out).mono ?_); rintro e w' ⟨rfl, ⟨nd, rfl⟩⟩))
       go_meet
       case rel => exact ⟨_, (decide (a0 < (wrap64 ((-9223372036854775807) - a1)))), (by first | rfl | (simp; done) | (simp [*]; done)), H', ⟨by first | omega | exact Nat.le_refl _⟩, ⟨pkx BK101⟩, ⟨pbx HB⟩⟩
      ·rw [if_neg c11] at H; have c11b0 : decide (a1 < 0) = false := decide_eq_false c11; clear c11
       have H' := Aside0.mk H
       clear H
       go_wp2_with (first | ((with_reducible refine gate_callee (f:=15) rfl ?_); refine goesL_ (some 6) rfl rfl Try.func15 (by kernel_rfl) rfl #[.int .i64 a0] rfl (by (try simp only [List.map_toArray, List.map_cons, List.map_nil]); first | done | rfl | (simp only [List.length_drop, List.length_take]; rfl)) ?_; (with_reducible refine (oculusref08_May.calls a0 true _ A5.out).mono ?_); rintro e w' ⟨rfl, ⟨nd, rfl⟩⟩; refine ⟨_, rfl, ?_⟩) | (go_at_call 15; (with_reducible refine (oculusref08_May.calls a1 true _ A7.out).mono ?_); rintro e w' ⟨rfl, ⟨nd, rfl⟩⟩))
       go_meet
       case rel => exact ⟨_, (false), (by first | rfl | (simp; done) | (simp [*]; done)), H', ⟨by first | omega | exact Nat.le_refl _⟩, ⟨pkx BK101⟩, ⟨pbx HB⟩⟩
    ·rw [if_neg c9] at H; have c9b0 : decide (0 < a1) = false := decide_eq_false c9; clear c9; (first | rw [c9b0] | (simp only [i64_w, i32_w]; rw [c9b0]) | skip)
     by_cases c12 : a1 < 0
     ·rw [if_pos c12] at H; have c12b0 : decide (a1 < 0) = true := decide_eq_true c12; clear c12
      have H' := Aside0.mk H
      clear H
      go_wp2_with (first | ((with_reducible refine gate_callee (f:=15) rfl ?_); refine goesL_ (some 6) rfl rfl Try.func15 (by kernel_rfl) rfl #[.int .i64 a0] rfl (by (try simp only [List.map_toArray, List.map_cons, List.map_nil]); first | done | rfl | (simp only [List.length_drop, List.length_take]; rfl)) ?_; (with_reducible refine (oculusref08_May.calls a0 true _ A5.out).mono ?_); rintro e w' ⟨rfl, ⟨nd, rfl⟩⟩; refine ⟨_, rfl, ?_⟩) | (go_at_call 15; (with_reducible refine (oculusref08_May.calls a1 true _ A7.out).mono ?_); rintro e w' ⟨rfl, ⟨nd, rfl⟩⟩))
      go_meet
      case rel => exact ⟨_, (decide (a0 < (wrap64 ((-9223372036854775807) - a1)))), (by first | rfl | (simp; done) | (simp [*]; done)), H', ⟨by first | omega | exact Nat.le_refl _⟩, ⟨pkx BK101⟩, ⟨pbx HB⟩⟩
     ·rw [if_neg c12] at H; have c12b0 : decide (a1 < 0) = false := decide_eq_false c12; clear c12
      have H' := Aside0.mk H
      clear H
      go_wp2_with (first | ((with_reducible refine gate_callee (f:=15) rfl ?_); refine goesL_ (some 6) rfl rfl Try.func15 (by kernel_rfl) rfl #[.int .i64 a0] rfl (by (try simp only [List.map_toArray, List.map_cons, List.map_nil]); first | done | rfl | (simp only [List.length_drop, List.length_take]; rfl)) ?_; (with_reducible refine (oculusref08_May.calls a0 true _ A5.out).mono ?_); rintro e w' ⟨rfl, ⟨nd, rfl⟩⟩; refine ⟨_, rfl, ?_⟩) | (go_at_call 15; (with_reducible refine (oculusref08_May.calls a1 true _ A7.out).mono ?_); rintro e w' ⟨rfl, ⟨nd, rfl⟩⟩))
      go_meet
      case rel => exact ⟨_, (false), (by first | rfl | (simp; done) | (simp [*]; done)), H', ⟨by first | omega | exact Nat.le_refl _⟩, ⟨pkx BK101⟩, ⟨pbx HB⟩⟩
   ·replace c8 := Bool.eq_false_iff.mpr c8; subst c8
    have H1 : (oculusref08_Add.j0 k a0 a1 true) = some (r1, r2) := by rw [if_neg (show ¬ (false = true) by decide)] at H; exact H
    clear H; have H := H1; clear H1
    have H' := Aside0.mk H
    clear H
    go_wp2_with (first | ((with_reducible refine gate_callee (f:=15) rfl ?_); refine goesL_ (some 6) rfl rfl Try.func15 (by kernel_rfl) rfl #[.int .i64 a0] rfl (by (try simp only [List.map_toArray, List.map_cons, List.map_nil]); first | done | rfl | (simp only [List.length_drop, List.length_take]; rfl)) ?_; (with_reducible refine (oculusref08_May.calls a0 true _ A5.out).mono ?_); rintro e w' ⟨rfl, ⟨nd, rfl⟩⟩; refine ⟨_, rfl, ?_⟩) | (go_at_call 15; (with_reducible refine (oculusref08_May.calls a1 false _ A7.out).mono ?_); rintro e w' ⟨rfl, ⟨nd, rfl⟩⟩))
    go_meet
    case rel => exact ⟨_, (true), (by first | rfl | (simp; done) | (simp [*]; done)), H', ⟨by first | omega | exact Nat.le_refl _⟩, ⟨pkx BK101⟩, ⟨pbx HB⟩⟩
  ·replace c6 := Bool.eq_false_iff.mpr c6; subst c6
   have H1 : (oculusref08_Add.j0 k a0 a1 true) = some (r1, r2) := by rw [if_neg (show ¬ (false = true) by decide)] at H; exact H
   clear H; have H := H1; clear H1
   have H' := Aside0.mk H
   clear H
   go_wp2_with (first | ((with_reducible refine gate_callee (f:=15) rfl ?_); refine goesL_ (some 6) rfl rfl Try.func15 (by kernel_rfl) rfl #[.int .i64 a0] rfl (by (try simp only [List.map_toArray, List.map_cons, List.map_nil]); first | done | rfl | (simp only [List.length_drop, List.length_take]; rfl)) ?_; (with_reducible refine (oculusref08_May.calls a0 false _ A5.out).mono ?_); rintro e w' ⟨rfl, ⟨nd, rfl⟩⟩; refine ⟨_, rfl, ?_⟩))
   go_meet
   case rel => exact ⟨_, (true), (by first | rfl | (simp; done) | (simp [*]; done)), H', ⟨by first | omega | exact Nat.le_refl _⟩, ⟨pkx BK101⟩, ⟨pbx HB⟩⟩
 case rest =>
  clear HC3; (try clear c1); (try clear p2); (try clear c5); (try clear c6); (try clear p6); (try clear c8); (try clear c9); (try clear c9b0); (try clear c10); (try clear c10b0); (try clear c11); (try clear c11b0); (try clear c12); (try clear c12b0); obtain ⟨kq, x32_2, rfl, HA, HJ2, BK101, HB⟩ := hcut
  cases kq with
  | zero => exact absurd HA.out (by simp [oculusref08_Add.j0])
  | succ kj2 =>
   have H := HA.out; clear HA
   simp only [oculusref08_Add.j0] at H
   by_cases c13 : x32_2 = true
   ·subst c13
    have H1 : (some (0, false)) = some (r1, r2) := by rw [if_pos rfl] at H; exact H
    clear H; have H := H1; clear H1
    simp only [Option.some.injEq, Prod.mk.injEq] at H
    obtain ⟨rfl, rfl⟩ := H
    have hcz14_0 : wc.cell? ⟨gb101, 0, none⟩ = some (.int .i64 0) := bc_ BK101 0 rfl
    have hcz14_1 : wc.cell? ⟨gb101, 1, none⟩ = some (.bool false) := bc_ BK101 1 rfl
    have hfz14_0 := blk_frozen BK101.out 0; have hfz14_1 := blk_frozen BK101.out 1
    go_wp2
    refine bodyPost_ret (results_cell_row rfl _ _ gb101 54 #[.int .i64 0, .bool false] (0, 0) _ rfl (by (with_reducible repeat (first | refine blk_drewN ?_ _ | refine blk_drew ?_ | refine blk_alloc ?_ _)); refine blk_put (cs := #[.int .i64 0, .bool false]) ?_ 1 _ rfl; refine blk_put (cs := #[.int .i64 0, .bool false]) ?_ 0 _ rfl; (with_reducible repeat (first | refine blk_drewN ?_ _ | refine blk_drew ?_ | refine blk_alloc ?_ _)); exact BK101.out) Try.underlying54 rfl (by kernel_rfl)) rfl ?_
    exact ⟨by first | rfl | (simp [errW_none, errW_some] <;> rfl) | (simp [*, errW_none, errW_some] <;> rfl), by repeat (first | (with_reducible first | exact HB.out | apply below_alloc | apply pw_below_drewN | apply below_drew1 | refine below_set ?_ GE101.out) | exact HB.out)⟩
   ·replace c13 := Bool.eq_false_iff.mpr c13; subst c13
    have H1 : (some (wrap64 (a0 + a1), true)) = some (r1, r2) := by rw [if_neg (show ¬ (false = true) by decide)] at H; exact H
    clear H; have H := H1; clear H1
    simp only [Option.some.injEq, Prod.mk.injEq] at H
    obtain ⟨rfl, rfl⟩ := H
    have hcz15_0 : wc.cell? ⟨gb101, 0, none⟩ = some (.int .i64 0) := bc_ BK101 0 rfl
    have hcz15_1 : wc.cell? ⟨gb101, 1, none⟩ = some (.bool false) := bc_ BK101 1 rfl
    have hfz15_0 := blk_frozen BK101.out 0; have hfz15_1 := blk_frozen BK101.out 1
    go_wp2
    refine bodyPost_ret (results_cell_row rfl _ _ gb101 54 #[.int .i64 (wrap64 (a0 + a1)), .bool true] (0, 0) _ rfl (by (with_reducible repeat (first | refine blk_drewN ?_ _ | refine blk_drew ?_ | refine blk_alloc ?_ _)); refine blk_put (cs := #[.int .i64 (wrap64 (a0 + a1)), .bool false]) ?_ 1 _ rfl; refine blk_put (cs := #[.int .i64 0, .bool false]) ?_ 0 _ rfl; (with_reducible repeat (first | refine blk_drewN ?_ _ | refine blk_drew ?_ | refine blk_alloc ?_ _)); exact BK101.out) Try.underlying54 rfl (by kernel_rfl)) rfl ?_
    exact ⟨by first | rfl | (simp [errW_none, errW_some] <;> rfl) | (simp [*, errW_none, errW_some] <;> rfl), by repeat (first | (with_reducible first | exact HB.out | apply below_alloc | apply pw_below_drewN | apply below_drew1 | refine below_set ?_ GE101.out) | exact HB.out)⟩

end Go.Proofs.Ytfcpkehldmehjaa.X
namespace Go.Proofs.Ytfcpkehldmehjaa.X
open Go.RowKit Go.Proofs.YtfcpkehldmehjaaW.PrintWords Go.Proofs.YtfcpkehldmehjaaW.PrintLast Go.Proofs.YtfcpkehldmehjaaW.PrintMore
attribute [local go_sem] max2_int min2_int max_two min_two max_three min_three max_four min_four   -- for this text's walks alone
set_option linter.unusedVariables false
set_option linter.unusedSimpArgs false

/-! ### oculusref11_more: function 44 -/
def oculusref11_more.f (k : Nat) (a0_0 : Int) (a0_1 : Bool) (a1 : Int) : Option (Int × Bool) := if a0_1 = true then ((oculusref08_Scaled.f k a0_0 10 1).bind fun bt103 => (if bt103.2 = true then ((oculusref08_Add.f k bt103.1 a1).bind fun bt106 => (some (bt106.1, bt106.2))) else (some (bt103.1, bt103.2)))) else (some (a0_0, a0_1))
set_option maxHeartbeats 8000000 in
set_option maxRecDepth 100000 in
theorem oculusref11_more.calls (k : Nat) (a0_0 : Int) (a0_1 : Bool) (a1 : Int) (r1 : Int) (r2 : Bool) (w : World) (h : oculusref11_more.f k a0_0 a0_1 a1 = some (r1, r2)) :
  Calls Try.prog 44 #[.agg #[.int .i64 a0_0, .bool a0_1], .int .i64 a1] w fun e w' => e = .returned (.agg #[.int .i64 r1, .bool r2]) ∧ Below w.heap.size w w' := by
 have hu54 := Try.underlying54; have HB := Aside0.mk (Below.refl w.heap.size w)
 have H : (if a0_1 = true then ((oculusref08_Scaled.f k a0_0 10 1).bind fun bt103 => (if bt103.2 = true then ((oculusref08_Add.f k bt103.1 a1).bind fun bt106 => (some (bt106.1, bt106.2))) else (some (bt103.1, bt103.2)))) else (some (a0_0, a0_1))) = some (r1, r2) := h
 clear h
 by_cases c3 : a0_1 = true
 ·subst c3
  have H1 : ((oculusref08_Scaled.f k a0_0 10 1).bind fun bt103 => (if bt103.2 = true then ((oculusref08_Add.f k bt103.1 a1).bind fun bt106 => (some (bt106.1, bt106.2))) else (some (bt103.1, bt103.2)))) = some (r1, r2) := by rw [if_pos rfl] at H; exact H
  clear H; have H := H1; clear H1; replace H := Option.bind_eq_some_iff.mp H; obtain ⟨⟨t103, t104⟩, A40, H⟩ := H
  replace H : (if t104 = true then ((oculusref08_Add.f k t103 a1).bind fun bt106 => (some (bt106.1, bt106.2))) else (some (t103, t104))) = some (r1, r2) := H
  have A4 := Aside0.mk A40; clear A40
  by_cases c5 : t104 = true
  ·subst c5
   have H1 : ((oculusref08_Add.f k t103 a1).bind fun bt106 => (some (bt106.1, bt106.2))) = some (r1, r2) := by rw [if_pos rfl] at H; exact H
   clear H; have H := H1; clear H1; replace H := Option.bind_eq_some_iff.mp H; obtain ⟨⟨t106, t107⟩, A60, H⟩ := H
   replace H : (some (t106, t107)) = some (r1, r2) := H
   have A6 := Aside0.mk A60; clear A60
   simp only [Option.some.injEq, Prod.mk.injEq] at H
   obtain ⟨rfl, rfl⟩ := H
   go_enter Try.func44, Try.ntmps44
   go_wp2_with (first | ((with_reducible refine gate_dst (N:=2) rfl ?_); refine box_event ?hg (N:=2) ?hd (cs := #[.int .i64 a0_0, .bool true]) (t:=54) ?hr ?_; (case hd => rfl); (case hg => rfl); (case hr => first | (go_simp; done) | (go_simp; rfl)); intro gb101 hg w7 hbox hb; have BK101 := Aside0.mk (hbox); have GW101 := hs_ HB hg; have GE101 := hs_ HB hg; replace HB := bs_ HB hb; clear hb hbox hg) | ((with_reducible refine gate_dst (N:=4) rfl ?_); refine box_event ?hg (N:=4) ?hd (cs := #[.int .i64 0, .bool false]) (t:=54) ?hr ?_; (case hd => rfl); (case hg => rfl); (case hr => first | (go_simp; done) | (go_simp; rfl)); intro gb102 hg w8 hbox hb; have BK102 := Aside0.mk (hbox); have GW102 := hs_ HB hg; have GE102 := hs_ HB hg; have NB101_102 := hl_ BK101 hg; have NB102_101 := hr_ BK101 hg; replace BK101 := bb_ BK101 hb; replace HB := bs_ HB hb; clear hb hbox hg; have hnb9 := NB101_102.out; have hnc9 := NB102_101.out; have hcz10_0 : w8.cell? ⟨gb101, 0, none⟩ = some (.int .i64 a0_0) := bc_ BK101 0 rfl; have hcz10_1 : w8.cell? ⟨gb101, 1, none⟩ = some (.bool true) := bc_ BK101 1 rfl; have hfz10_0 := blk_frozen BK101.out 0; have hfz10_1 := blk_frozen BK101.out 1) | ((with_reducible refine gate_callee (f:=54) rfl ?_); refine goesL_ (some 12) rfl rfl Try.func54 (by kernel_rfl) rfl #[.int .i64 a0_0, .int .i64 10, .int .i64 1] rfl (by (try simp only [List.map_toArray, List.map_cons, List.map_nil]); first | done | rfl | (simp only [List.length_drop, List.length_take]; rfl)) ?_; (with_reducible refine (oculusref08_Scaled.calls k a0_0 10 1 t103 true _ A4.out).mono ?_); rintro e w11 ⟨rfl, hb⟩; refine ⟨_, rfl, ?_⟩; replace BK101 := bb_ BK101 hb; replace BK102 := bb_ BK102 hb; replace HB := bs_ HB hb; (try clear hb); (try clear hb2); (try clear hk); (try clear hi)) | ((with_reducible refine gate_dst (N:=5) rfl ?_); refine box_event ?hg (N:=5) ?hd (cs := #[.int .i64 0, .bool false]) (t:=54) ?hr ?_; (case hd => rfl); (case hg => rfl); (case hr => first | (go_simp; done) | (go_simp; rfl)); intro gb105 hg w12 hbox hb; have BK105 := Aside0.mk (hbox); have GW105 := hs_ HB hg; have GE105 := hs_ HB hg; have NB101_105 := hl_ BK101 hg; have NB105_101 := hr_ BK101 hg; have NB102_105 := hl_ BK102 hg; have NB105_102 := hr_ BK102 hg; replace BK101 := bb_ BK101 hb; replace BK102 := bb_ BK102 hb; replace HB := bs_ HB hb; clear hb hbox hg; have hnb13 := NB105_101.out; have hnc13 := NB101_105.out; have hnb14 := NB105_102.out; have hnc14 := NB102_105.out; have hcz15_0 : w12.cell? ⟨gb105, 0, none⟩ = some (.int .i64 0) := bc_ BK105 0 rfl; have hcz15_1 : w12.cell? ⟨gb105, 1, none⟩ = some (.bool false) := bc_ BK105 1 rfl; have hfz15_0 := blk_frozen BK105.out 0; have hfz15_1 := blk_frozen BK105.out 1) | ((with_reducible refine gate_callee (f:=55) rfl ?_); refine goesL_ (some 20) rfl rfl Try.func55 (by kernel_rfl) rfl #[.int .i64 t103, .int .i64 a1] rfl (by (try simp only [List.map_toArray, List.map_cons, List.map_nil]); first | done | rfl | (simp only [List.length_drop, List.length_take]; rfl)) ?_; (with_reducible refine (oculusref08_Add.calls k t103 a1 t106 t107 _ A6.out).mono ?_); rintro e w16 ⟨rfl, hb⟩; refine ⟨_, rfl, ?_⟩; replace BK101 := Aside0.mk (blk_below (g:=gb101) (o := .cells #[.int .i64 a0_0, .bool true] 54 (0, 0)) (by (with_reducible repeat (first | refine blk_drewN ?_ _ | refine blk_drew ?_ | refine blk_alloc ?_ _)); refine blk_far ?_ NB101_105.out _; refine blk_far ?_ NB101_105.out _; (with_reducible repeat (first | refine blk_drewN ?_ _ | refine blk_drew ?_ | refine blk_alloc ?_ _)); exact BK101.out) hb); replace BK102 := Aside0.mk (blk_below (g:=gb102) (o := .cells #[.int .i64 0, .bool false] 54 (0, 0)) (by (with_reducible repeat (first | refine blk_drewN ?_ _ | refine blk_drew ?_ | refine blk_alloc ?_ _)); refine blk_far ?_ NB102_105.out _; refine blk_far ?_ NB102_105.out _; (with_reducible repeat (first | refine blk_drewN ?_ _ | refine blk_drew ?_ | refine blk_alloc ?_ _)); exact BK102.out) hb); replace BK105 := Aside0.mk (blk_below (g:=gb105) (o := .cells #[.int .i64 t103, .bool true] 54 (0, 0)) (by (with_reducible repeat (first | refine blk_drewN ?_ _ | refine blk_drew ?_ | refine blk_alloc ?_ _)); refine blk_put (cs := #[.int .i64 t103, .bool false]) ?_ 1 _ rfl; refine blk_put (cs := #[.int .i64 0, .bool false]) ?_ 0 _ rfl; (with_reducible repeat (first | refine blk_drewN ?_ _ | refine blk_drew ?_ | refine blk_alloc ?_ _)); exact BK105.out) hb); replace HB := Aside0.mk (below_step (by repeat (first | (with_reducible first | exact HB.out | apply below_alloc | apply pw_below_drewN | apply below_drew1 | refine below_set ?_ GE101.out | refine below_set ?_ GE102.out | refine below_set ?_ GE105.out) | exact HB.out)) hb); (try clear hb); (try clear hb2); (try clear hk); (try clear hi); have hcz17_0 : w16.cell? ⟨gb102, 0, none⟩ = some (.int .i64 0) := bc_ BK102 0 rfl; have hcz17_1 : w16.cell? ⟨gb102, 1, none⟩ = some (.bool false) := bc_ BK102 1 rfl; have hfz17_0 := blk_frozen BK102.out 0; have hfz17_1 := blk_frozen BK102.out 1))
   refine bodyPost_ret (results_cell_row rfl _ _ gb102 54 #[.int .i64 t106, .bool t107] (0, 0) _ rfl (by (with_reducible repeat (first | refine blk_drewN ?_ _ | refine blk_drew ?_ | refine blk_alloc ?_ _)); refine blk_put (cs := #[.int .i64 t106, .bool false]) ?_ 1 _ rfl; refine blk_put (cs := #[.int .i64 0, .bool false]) ?_ 0 _ rfl; (with_reducible repeat (first | refine blk_drewN ?_ _ | refine blk_drew ?_ | refine blk_alloc ?_ _)); exact BK102.out) Try.underlying54 rfl (by kernel_rfl)) rfl ?_
   exact ⟨by first | rfl | (simp [errW_none, errW_some] <;> rfl) | (simp [*, errW_none, errW_some] <;> rfl), by repeat (first | (with_reducible first | exact HB.out | apply below_alloc | apply pw_below_drewN | apply below_drew1 | refine below_set ?_ GE101.out | refine below_set ?_ GE102.out | refine below_set ?_ GE105.out) | exact HB.out)⟩
  ·replace c5 := Bool.eq_false_iff.mpr c5; subst c5
   have H1 : (some (t103, false)) = some (r1, r2) := by rw [if_neg (show ¬ (false = true) by decide)] at H; exact H
   clear H; have H := H1; clear H1
   simp only [Option.some.injEq, Prod.mk.injEq] at H
   obtain ⟨rfl, rfl⟩ := H
   go_enter Try.func44, Try.ntmps44
   go_wp2_with (first | ((with_reducible refine gate_dst (N:=2) rfl ?_); refine box_event ?hg (N:=2) ?hd (cs := #[.int .i64 a0_0, .bool true]) (t:=54) ?hr ?_; (case hd => rfl); (case hg => rfl); (case hr => first | (go_simp; done) | (go_simp; rfl)); intro gb101 hg w18 hbox hb; have BK101 := Aside0.mk (hbox); have GW101 := hs_ HB hg; have GE101 := hs_ HB hg; replace HB := bs_ HB hb; clear hb hbox hg) | ((with_reducible refine gate_dst (N:=4) rfl ?_); refine box_event ?hg (N:=4) ?hd (cs := #[.int .i64 0, .bool false]) (t:=54) ?hr ?_; (case hd => rfl); (case hg => rfl); (case hr => first | (go_simp; done) | (go_simp; rfl)); intro gb102 hg w19 hbox hb; have BK102 := Aside0.mk (hbox); have GW102 := hs_ HB hg; have GE102 := hs_ HB hg; have NB101_102 := hl_ BK101 hg; have NB102_101 := hr_ BK101 hg; replace BK101 := bb_ BK101 hb; replace HB := bs_ HB hb; clear hb hbox hg; have hnb20 := NB101_102.out; have hnc20 := NB102_101.out; have hcz21_0 : w19.cell? ⟨gb101, 0, none⟩ = some (.int .i64 a0_0) := bc_ BK101 0 rfl; have hcz21_1 : w19.cell? ⟨gb101, 1, none⟩ = some (.bool true) := bc_ BK101 1 rfl; have hfz21_0 := blk_frozen BK101.out 0; have hfz21_1 := blk_frozen BK101.out 1) | ((with_reducible refine gate_callee (f:=54) rfl ?_); refine goesL_ (some 12) rfl rfl Try.func54 (by kernel_rfl) rfl #[.int .i64 a0_0, .int .i64 10, .int .i64 1] rfl (by (try simp only [List.map_toArray, List.map_cons, List.map_nil]); first | done | rfl | (simp only [List.length_drop, List.length_take]; rfl)) ?_; (with_reducible refine (oculusref08_Scaled.calls k a0_0 10 1 t103 false _ A4.out).mono ?_); rintro e w22 ⟨rfl, hb⟩; refine ⟨_, rfl, ?_⟩; replace BK101 := bb_ BK101 hb; replace BK102 := bb_ BK102 hb; replace HB := bs_ HB hb; (try clear hb); (try clear hb2); (try clear hk); (try clear hi)) | ((with_reducible refine gate_dst (N:=5) rfl ?_); refine box_event ?hg (N:=5) ?hd (cs := #[.int .i64 0, .bool false]) (t:=54) ?hr ?_; (case hd => rfl); (case hg => rfl); (case hr => first | (go_simp; done) | (go_simp; rfl)); intro gb105 hg w23 hbox hb; have BK105 := Aside0.mk (hbox); have GW105 := hs_ HB hg; have GE105 := hs_ HB hg; have NB101_105 := hl_ BK101 hg; have NB105_101 := hr_ BK101 hg; have NB102_105 := hl_ BK102 hg; have NB105_102 := hr_ BK102 hg; replace BK101 := bb_ BK101 hb; replace BK102 := bb_ BK102 hb; replace HB := bs_ HB hb; clear hb hbox hg; have hnb24 := NB105_101.out; have hnc24 := NB101_105.out; have hnb25 := NB105_102.out; have hnc25 := NB102_105.out; have hcz26_0 : w23.cell? ⟨gb105, 0, none⟩ = some (.int .i64 0) := bc_ BK105 0 rfl; have hcz26_1 : w23.cell? ⟨gb105, 1, none⟩ = some (.bool false) := bc_ BK105 1 rfl; have hfz26_0 := blk_frozen BK105.out 0; have hfz26_1 := blk_frozen BK105.out 1; have hcz27_0 : w23.cell? ⟨gb102, 0, none⟩ = some (.int .i64 0) := bc_ BK102 0 rfl; have hcz27_1 : w23.cell? ⟨gb102, 1, none⟩ = some (.bool false) := bc_ BK102 1 rfl; have hfz27_0 := blk_frozen BK102.out 0; have hfz27_1 := blk_frozen BK102.out 1))
   refine bodyPost_ret (results_cell_row rfl _ _ gb102 54 #[.int .i64 t103, .bool false] (0, 0) _ rfl (by (with_reducible repeat (first | refine blk_drewN ?_ _ | refine blk_drew ?_ | refine blk_alloc ?_ _)); refine blk_put (cs := #[.int .i64 t103, .bool false]) ?_ 1 _ rfl; refine blk_put (cs := #[.int .i64 0, .bool false]) ?_ 0 _ rfl; (with_reducible repeat (first | refine blk_drewN ?_ _ | refine blk_drew ?_ | refine blk_alloc ?_ _)); refine blk_far ?_ NB102_105.out _; refine blk_far ?_ NB102_105.out _; (with_reducible repeat (first | refine blk_drewN ?_ _ | refine blk_drew ?_ | refine blk_alloc ?_ _)); exact BK102.out) Try.underlying54 rfl (by kernel_rfl)) rfl ?_
   exact ⟨by first | rfl | (simp [errW_none, errW_some] <;> rfl) | (simp [*, errW_none, errW_some] <;> rfl), by repeat (first | (with_reducible first | exact HB.out | apply below_alloc | apply pw_below_drewN | apply below_drew1 | refine below_set ?_ GE101.out | refine below_set ?_ GE102.out | refine below_set ?_ GE105.out) | exact HB.out)⟩
 ·replace c3 := Bool.eq_false_iff.mpr c3; subst c3
  have H1 : (some (a0_0, false)) = some (r1, r2) := by rw [if_neg (show ¬ (false = true) by decide)] at H; exact H
  clear H; have H := H1; clear H1
  simp only [Option.some.injEq, Prod.mk.injEq] at H
  obtain ⟨rfl, rfl⟩ := H
  go_enter Try.func44, Try.ntmps44
  go_wp2_with (first | ((with_reducible refine gate_dst (N:=2) rfl ?_); refine box_event ?hg (N:=2) ?hd (cs := #[.int .i64 a0_0, .bool false]) (t:=54) ?hr ?_; (case hd => rfl); (case hg => rfl); (case hr => first | (go_simp; done) | (go_simp; rfl)); intro gb101 hg w28 hbox hb; have BK101 := Aside0.mk (hbox); have GW101 := hs_ HB hg; have GE101 := hs_ HB hg; replace HB := bs_ HB hb; clear hb hbox hg) | ((with_reducible refine gate_dst (N:=4) rfl ?_); refine box_event ?hg (N:=4) ?hd (cs := #[.int .i64 0, .bool false]) (t:=54) ?hr ?_; (case hd => rfl); (case hg => rfl); (case hr => first | (go_simp; done) | (go_simp; rfl)); intro gb102 hg w29 hbox hb; have BK102 := Aside0.mk (hbox); have GW102 := hs_ HB hg; have GE102 := hs_ HB hg; have NB101_102 := hl_ BK101 hg; have NB102_101 := hr_ BK101 hg; replace BK101 := bb_ BK101 hb; replace HB := bs_ HB hb; clear hb hbox hg; have hnb30 := NB101_102.out; have hnc30 := NB102_101.out; have hcz31_0 : w29.cell? ⟨gb101, 0, none⟩ = some (.int .i64 a0_0) := bc_ BK101 0 rfl; have hcz31_1 : w29.cell? ⟨gb101, 1, none⟩ = some (.bool false) := bc_ BK101 1 rfl; have hfz31_0 := blk_frozen BK101.out 0; have hfz31_1 := blk_frozen BK101.out 1; have hcz32_0 : w29.cell? ⟨gb102, 0, none⟩ = some (.int .i64 0) := bc_ BK102 0 rfl; have hcz32_1 : w29.cell? ⟨gb102, 1, none⟩ = some (.bool false) := bc_ BK102 1 rfl; have hfz32_0 := blk_frozen BK102.out 0; have hfz32_1 := blk_frozen BK102.out 1))
  refine bodyPost_ret (results_cell_row rfl _ _ gb102 54 #[.int .i64 a0_0, .bool false] (0, 0) _ rfl (by (with_reducible repeat (first | refine blk_drewN ?_ _ | refine blk_drew ?_ | refine blk_alloc ?_ _)); refine blk_put (cs := #[.int .i64 a0_0, .bool false]) ?_ 1 _ rfl; refine blk_put (cs := #[.int .i64 0, .bool false]) ?_ 0 _ rfl; (with_reducible repeat (first | refine blk_drewN ?_ _ | refine blk_drew ?_ | refine blk_alloc ?_ _)); exact BK102.out) Try.underlying54 rfl (by kernel_rfl)) rfl ?_
  exact ⟨by first | rfl | (simp [errW_none, errW_some] <;> rfl) | (simp [*, errW_none, errW_some] <;> rfl), by repeat (first | (with_reducible first | exact HB.out | apply below_alloc | apply pw_below_drewN | apply below_drew1 | refine below_set ?_ GE101.out | refine below_set ?_ GE102.out) | exact HB.out)⟩

end Go.Proofs.Ytfcpkehldmehjaa.X
namespace Go.Proofs.Ytfcpkehldmehjaa.X
open Go.RowKit Go.Proofs.YtfcpkehldmehjaaW.PrintWords Go.Proofs.YtfcpkehldmehjaaW.PrintLast Go.Proofs.YtfcpkehldmehjaaW.PrintMore
attribute [local go_sem] max2_int min2_int max_two min_two max_three min_three max_four min_four   -- for this text's walks alone
set_option linter.unusedVariables false
set_option linter.unusedSimpArgs false

/-! ### oculusref11_Read: function 30 -/
mutual
def oculusref11_Read.j0 : Nat → ByteArray → Bool → Option (Int × Bool)
 | 0, _, _ => none
 | k + 1, x0, x3 => if x3 = true then (if 1 ≤ (x0.size : Int) then (oculusref11_Read.j1 k (x0.extract 1 x0.size) x3) else (none)) else (oculusref11_Read.j1 k x0 x3)
def oculusref11_Read.j1 : Nat → ByteArray → Bool → Option (Int × Bool)
 | 0, _, _ => none
 | k + 1, x0, x3 => oculusref11_Read.l0 k x0 x3 (-1) 0 0 true
def oculusref11_Read.l0 : Nat → ByteArray → Bool → Int → Int → Int → Bool → Option (Int × Bool)
 | 0, _, _, _, _, _, _ => none
 | k + 1, x0, x3, x5, x6, x103000, x103001 => if x6 < (x0.size : Int) then (if 0 ≤ x6 then (if (bt x0 x6) = 46 then (if x5 < 0 then (oculusref11_Read.j3 k x0 x3 x5 x6 (decide (x6 > 0)) x103000 x103001) else (oculusref11_Read.j3 k x0 x3 x5 x6 false x103000 x103001)) else (oculusref11_Read.j3 k x0 x3 x5 x6 false x103000 x103001)) else (none)) else (if (x0.size : Int) = 0 then (oculusref11_Read.j6 k x3 x5 true x103000 x103001) else (if x5 = 0 then (oculusref11_Read.j6 k x3 x5 true x103000 x103001) else (oculusref11_Read.j6 k x3 x5 (decide (x5 > 4)) x103000 x103001)))
def oculusref11_Read.j3 : Nat → ByteArray → Bool → Int → Int → Bool → Int → Bool → Option (Int × Bool)
 | 0, _, _, _, _, _, _, _ => none
 | k + 1, x0, x3, x5, x6, x41, x103000, x103001 => if x41 = true then (oculusref11_Read.l0 k x0 x3 0 (wrap64 (x6 + 1)) x103000 x103001) else ((oculusref11_Digit.f x0 x6).bind fun t103 => (oculusref11_Read.j4 k x0 x3 x5 x6 (!t103) x103000 x103001))
def oculusref11_Read.j4 : Nat → ByteArray → Bool → Int → Int → Bool → Int → Bool → Option (Int × Bool)
 | 0, _, _, _, _, _, _, _ => none
 | k + 1, x0, x3, x5, x6, x45, x103000, x103001 => if x45 = true then (some (0, false)) else (if x5 ≥ 0 then (oculusref11_Read.j5 k x0 x3 (wrap64 (x5 + 1)) x6 x103000 x103001) else (oculusref11_Read.j5 k x0 x3 x5 x6 x103000 x103001))
def oculusref11_Read.j5 : Nat → ByteArray → Bool → Int → Int → Int → Bool → Option (Int × Bool)
 | 0, _, _, _, _, _, _ => none
 | k + 1, x0, x3, x5, x6, x103000, x103001 => if 0 ≤ x6 then (if x6 < (x0.size : Int) then ((oculusref11_more.f k x103000 x103001 (wrap64 ((wrap64 (bt x0 x6)) - 48))).bind fun bt104 => (oculusref11_Read.l0 k x0 x3 x5 (wrap64 (x6 + 1)) bt104.1 bt104.2)) else (none)) else (none)
def oculusref11_Read.j6 : Nat → Bool → Int → Bool → Int → Bool → Option (Int × Bool)
 | 0, _, _, _, _, _ => none
 | k + 1, x3, x5, x68, x103000, x103001 => if x68 = true then (some (0, false)) else (oculusref11_Read.l1 k x3 (mx x5 0) x103000 x103001)
def oculusref11_Read.l1 : Nat → Bool → Int → Int → Bool → Option (Int × Bool)
 | 0, _, _, _, _ => none
 | k + 1, x3, x7, x103000, x103001 => if x7 < 4 then ((oculusref11_more.f k x103000 x103001 0).bind fun bt106 => (oculusref11_Read.l1 k x3 (wrap64 (x7 + 1)) bt106.1 bt106.2)) else (if x3 = true then (some (wrap64 (-x103000), x103001)) else (some (x103000, x103001)))
end
def oculusref11_Read.f (k : Nat) (a0 : ByteArray) : Option (Int × Bool) := if (a0.size : Int) > 40 then (some (0, false)) else (if (a0.size : Int) > 0 then (if 0 < (a0.size : Int) then (oculusref11_Read.j0 k a0 ((bt a0 0) == 45)) else (none)) else (oculusref11_Read.j0 k a0 false))
def oculusref11_Read.T17 : Bool × List (List Nat × List Nat) := (true, [([], []), ([], []), ([], []), ([1, 2], [1, 2]), ([3], [3]), ([4], [4]), ([0, 5], [0, 5]), ([6, 6, 0, 1, 2, 3, 4, 5, 6], [6])])
def oculusref11_Read.B17 : List Nat := [0, 0, 0, 6, 14, 30, 63, 127]
theorem oculusref11_Read.tab17 : rtab .any (opsOf Try.f30 17) = oculusref11_Read.T17 := by kernel_rfl
theorem oculusref11_Read.bits17 : waitsOk oculusref11_Read.T17.2 oculusref11_Read.B17 = true := by kernel_rfl
set_option maxHeartbeats 8000000 in
set_option maxRecDepth 100000 in
theorem oculusref11_Read.calls (k : Nat) (a0 : ByteArray) (r1 : Int) (r2 : Bool) (w : World) (h : oculusref11_Read.f k a0 = some (r1, r2)) :
  Calls Try.prog 30 #[.string a0] w fun e w' => e = .returned (.agg #[.int .i64 r1, .bool r2]) ∧ Below w.heap.size w w' := by
 have hu54 := Try.underlying54; have HB := Aside0.mk (Below.refl w.heap.size w)
 have H : (if (a0.size : Int) > 40 then (some (0, false)) else (if (a0.size : Int) > 0 then (if 0 < (a0.size : Int) then (oculusref11_Read.j0 k a0 ((bt a0 0) == 45)) else (none)) else (oculusref11_Read.j0 k a0 false))) = some (r1, r2) := h
 clear h
 by_cases c2 : (a0.size : Int) > 40
 ·rw [if_pos c2] at H; have c2b0 : decide (40 < (a0.size : Int)) = true := decide_eq_true c2; have c2b1 : decide (40 < a0.size) = true := decide_eq_true (by omega); clear c2
  simp only [Option.some.injEq, Prod.mk.injEq] at H
  obtain ⟨rfl, rfl⟩ := H
  go_enter Try.func30, Try.ntmps30
  go_wp2_with (first | ((with_reducible refine gate_dst (N:=2) rfl ?_); refine box_event ?hg (N:=2) ?hd (cs := #[.int .i64 0, .bool false]) (t:=54) ?hr ?_; (case hd => rfl); (case hg => rfl); (case hr => first | (go_simp; done) | (go_simp; rfl)); intro gb101 hg w3 hbox hb; have BK101 := Aside0.mk (hbox); have GW101 := hs_ HB hg; have GE101 := hs_ HB hg; replace HB := bs_ HB hb; clear hb hbox hg; have hcz4_0 : w3.cell? ⟨gb101, 0, none⟩ = some (.int .i64 0) := bc_ BK101 0 rfl; have hcz4_1 : w3.cell? ⟨gb101, 1, none⟩ = some (.bool false) := bc_ BK101 1 rfl; have hfz4_0 := blk_frozen BK101.out 0; have hfz4_1 := blk_frozen BK101.out 1))
  refine bodyPost_ret (results_cell_row rfl _ _ gb101 54 #[.int .i64 0, .bool false] (0, 0) _ rfl (by (with_reducible repeat (first | refine blk_drewN ?_ _ | refine blk_drew ?_ | refine blk_alloc ?_ _)); refine blk_put (cs := #[.int .i64 0, .bool false]) ?_ 1 _ rfl; refine blk_put (cs := #[.int .i64 0, .bool false]) ?_ 0 _ rfl; (with_reducible repeat (first | refine blk_drewN ?_ _ | refine blk_drew ?_ | refine blk_alloc ?_ _)); exact BK101.out) Try.underlying54 rfl (by kernel_rfl)) rfl ?_
  exact ⟨by first | rfl | (simp [errW_none, errW_some] <;> rfl) | (simp [*, errW_none, errW_some] <;> rfl), by repeat (first | (with_reducible first | exact HB.out | apply below_alloc | apply pw_below_drewN | apply below_drew1 | refine below_set ?_ GE101.out) | exact HB.out)⟩
 ·rw [if_neg c2] at H; have c2b0 : decide (40 < (a0.size : Int)) = false := decide_eq_false c2; have c2b1 : decide (40 < a0.size) = false := decide_eq_false (by omega); clear c2; have HC5 := Aside0.mk H; clear H
  go_enter Try.func30, Try.ntmps30
  go_upto_region 3 with (first | ((with_reducible refine gate_dst (N:=2) rfl ?_); refine box_event ?hg (N:=2) ?hd (cs := #[.int .i64 0, .bool false]) (t:=54) ?hr ?_; (case hd => rfl); (case hg => rfl); (case hr => first | (go_simp; done) | (go_simp; rfl)); intro gb101 hg w6 hbox hb; have BK101 := Aside0.mk (hbox); have GW101 := hs_ HB hg; have GE101 := hs_ HB hg; replace HB := bs_ HB hb; clear hb hbox hg))
  (try simp only [q_])
  go_cut [3] (fun v3 wc => ∃ (kq : Nat) (x3_4 : Bool), v3 = .bool x3_4 ∧ Aside0 (oculusref11_Read.j0 kq a0 x3_4 = some (r1, r2)) ∧ Aside0 (kq ≤ k) ∧ Aside0 (wc.heap[gb101]? = some (.cells #[.int .i64 0, .bool false] 54 (0, 0))) ∧ Aside0 (Below w.heap.size w wc))
  case first =>
   have H := HC5.out; clear HC5
   by_cases c7 : (a0.size : Int) > 0
   ·rw [if_pos c7] at H; have c7b0 : decide (0 < (a0.size : Int)) = true := decide_eq_true c7; have c7b1 : decide (0 < a0.size) = true := decide_eq_true (by omega); clear c7; (first | rw [c7b0] | (simp only [i64_w, i32_w]; rw [c7b0]) | skip)
    by_cases c8 : 0 < (a0.size : Int)
    ·rw [if_pos c8] at H; have c8b0 : decide (0 < (a0.size : Int)) = true := decide_eq_true c8; have c8b1 : decide (0 < a0.size) = true := decide_eq_true (by omega); clear c8
     have H' := Aside0.mk H
     clear H
     have p9 : 0 ≤ (0 : Int) := (by omega)
     have q9 : 0 < a0.size := (by have : (0 : Int) < (a0.size : Int) := of_decide_eq_true (by first | (with_reducible assumption) | assumption); omega)
     have hx9 : ∀ h : 0 < a0.size, ((a0[0]'h).toNat : Int) = bt a0 0 := bt_at a0 0
     clear p9; have qi9 : (0 < (a0.size : Int)) = True := eq_true (of_decide_eq_true (by first | (with_reducible assumption) | assumption)); replace q9 := eq_true q9
     go_wp2
     go_meet
     case rel => exact ⟨_, (((bt a0 0) == 45)), (by first | rfl | (simp; done) | (simp [*]; done)), H', ⟨by first | omega | exact Nat.le_refl _⟩, ⟨pkx BK101⟩, ⟨pbx HB⟩⟩
    ·rw [if_neg c8] at H
     exact absurd H (by simp)
   ·rw [if_neg c7] at H; have c7b0 : decide (0 < (a0.size : Int)) = false := decide_eq_false c7; have c7b1 : decide (0 < a0.size) = false := decide_eq_false (by omega); clear c7; (first | rw [c7b0] | (simp only [i64_w, i32_w]; rw [c7b0]) | skip)
    have H' := Aside0.mk H
    clear H
    go_wp2
    go_meet
    case rel => exact ⟨_, (false), (by first | rfl | (simp; done) | (simp [*]; done)), H', ⟨by first | omega | exact Nat.le_refl _⟩, ⟨pkx BK101⟩, ⟨pbx HB⟩⟩
  case rest =>
   clear HC5; (try clear c2); (try clear c2b0); (try clear c2b1); (try clear p2); (try clear c3); (try clear c7); (try clear c7b0); (try clear c7b1); (try clear c8); (try clear c8b0); (try clear c8b1); (try clear p9); (try clear q9); (try clear hx9); (try clear qi9); (try clear hcz4_0); (try clear hcz4_1); (try clear hfz4_0); (try clear hfz4_1); (try clear p9); (try clear q9); obtain ⟨kq, x3_4, rfl, HA, HJ4, BK101, HB⟩ := hcut
   cases kq with
   | zero => exact absurd HA.out (by simp [oculusref11_Read.j0])
   | succ kj4 =>
    have H := HA.out; clear HA
    simp only [oculusref11_Read.j0] at H
    have HC10 := Aside0.mk H; clear H
    go_upto_if 20 with (fail)
    go_cut [0] (fun v0 wc => ∃ (kq : Nat) (x0_9 : ByteArray), v0 = .string x0_9 ∧ Aside0 (oculusref11_Read.j1 kq x0_9 x3_4 = some (r1, r2)) ∧ Aside0 (kq ≤ kj4) ∧ Aside0 (wc.heap[gb101]? = some (.cells #[.int .i64 0, .bool false] 54 (0, 0))) ∧ Aside0 (Below w.heap.size w wc))
    case first =>
     have H := HC10.out; clear HC10
     by_cases c11 : x3_4 = true
     ·subst c11
      have H1 : (if 1 ≤ (a0.size : Int) then (oculusref11_Read.j1 kj4 (a0.extract 1 a0.size) true) else (none)) = some (r1, r2) := by rw [if_pos rfl] at H; exact H
      clear H; have H := H1; clear H1
      by_cases c12 : 1 ≤ (a0.size : Int)
      ·rw [if_pos c12] at H; have c12b0 := eq_true c12; have c12b1 : decide (1 ≤ (a0.size : Int)) = true := decide_eq_true c12; clear c12
       have H' := Aside0.mk H
       clear H
       go_wp2
       go_meet
       case rel => exact ⟨_, (a0.extract 1 a0.size), (by first | rfl | (simp; done) | (simp [*]; done)), H', ⟨by have := HJ4.out; first | omega | exact Nat.le_refl _⟩, ⟨pkx BK101⟩, ⟨pbx HB⟩⟩
      ·rw [if_neg c12] at H
       exact absurd H (by simp)
     ·replace c11 := Bool.eq_false_iff.mpr c11; subst c11
      have H1 : (oculusref11_Read.j1 kj4 a0 false) = some (r1, r2) := by rw [if_neg (show ¬ (false = true) by decide)] at H; exact H
      clear H; have H := H1; clear H1
      have H' := Aside0.mk H
      clear H
      go_wp2
      go_meet
      case rel => exact ⟨_, (a0), (by first | rfl | (simp; done) | (simp [*]; done)), H', ⟨by have := HJ4.out; first | omega | exact Nat.le_refl _⟩, ⟨pkx BK101⟩, ⟨pbx HB⟩⟩
    case rest =>
     clear HC10; (try clear c1); (try clear c2); (try clear c2b0); (try clear c2b1); (try clear p2); (try clear c3); (try clear c7); (try clear c7b0); (try clear c7b1); (try clear c8); (try clear c8b0); (try clear c8b1); (try clear p9); (try clear q9); (try clear hx9); (try clear qi9); (try clear c11); (try clear c12); (try clear c12b0); (try clear c12b1); (try clear hcz4_0); (try clear hcz4_1); (try clear hfz4_0); (try clear hfz4_1); (try clear p2); (try clear p9); (try clear q9); obtain ⟨kq, x0_9, rfl, HA, HJ9, BK101, HB⟩ := hcut
     cases kq with
     | zero => exact absurd HA.out (by simp [oculusref11_Read.j1])
     | succ kj9 =>
      have H := HA.out; clear HA
      simp only [oculusref11_Read.j1] at H
      have H' := Aside0.mk H
      clear H
      go_wp2_with (first | ((with_reducible refine gate_dst (N:=4) rfl ?_); refine box_event ?hg (N:=4) ?hd (cs := #[.int .i64 0, .bool false]) (t:=54) ?hr ?_; (case hd => rfl); (case hg => rfl); (case hr => first | (go_simp; done) | (go_simp; rfl)); intro gb102 hg w13 hbox hb; have BK102 := Aside0.mk (hbox); have GW102 := hs_ HB hg; have GE102 := hs_ HB hg; have NB101_102 := hl_ BK101 hg; have NB102_101 := hr_ BK101 hg; replace BK101 := bb_ BK101 hb; replace HB := bs_ HB hb; clear hb hbox hg; have hnb14 := NB102_101.out; have hnc14 := NB101_102.out; have hcz15_0 : w13.cell? ⟨gb102, 0, none⟩ = some (.int .i64 0) := bc_ BK102 0 rfl; have hcz15_1 : w13.cell? ⟨gb102, 1, none⟩ = some (.bool false) := bc_ BK102 1 rfl; have hfz15_0 := blk_frozen BK102.out 0; have hfz15_1 := blk_frozen BK102.out 1))
      go_loopg [5, 6] kj9 (fun kq v5 v6 w' => ∃ (x5_3 : Int) (x6_3 : Int) (x102000_3 : Int) (x102001_3 : Bool) (x103000_3 : Int) (x103001_3 : Bool), v5 = .int .i64 x5_3 ∧ v6 = .int .i64 x6_3 ∧ Aside0 (oculusref11_Read.l0 kq x0_9 x3_4 x5_3 x6_3 x103000_3 x103001_3 = some (r1, r2)) ∧ Aside0 (kq ≤ kj9) ∧ Aside0 (w'.heap[gb101]? = some (.cells #[.int .i64 x102000_3, .bool x102001_3] 54 (0, 0))) ∧ Aside0 (w'.heap[gb102]? = some (.cells #[.int .i64 x103000_3, .bool x103001_3] 54 (0, 0))) ∧ Aside0 (Below w.heap.size w w'))
      case atStart => exact ⟨((-1)), (0), (0), (false), (0), (true), (by first | rfl | (simp; done) | (simp [*]; done)), (by first | rfl | (simp; done) | (simp [*]; done)), H', ⟨Nat.le_refl _⟩, ⟨by (with_reducible repeat (first | refine blk_drewN ?_ _ | refine blk_drew ?_ | refine blk_alloc ?_ _)); refine blk_far ?_ NB101_102.out _; refine blk_far ?_ NB101_102.out _; (with_reducible repeat (first | refine blk_drewN ?_ _ | refine blk_drew ?_ | refine blk_alloc ?_ _)); exact BK101.out⟩, ⟨by (with_reducible repeat (first | refine blk_drewN ?_ _ | refine blk_drew ?_ | refine blk_alloc ?_ _)); refine blk_put (cs := #[.int .i64 0, .bool false]) ?_ 1 _ rfl; refine blk_put (cs := #[.int .i64 0, .bool false]) ?_ 0 _ rfl; (with_reducible repeat (first | refine blk_drewN ?_ _ | refine blk_drew ?_ | refine blk_alloc ?_ _)); exact BK102.out⟩, ⟨by repeat (first | (with_reducible first | exact HB.out | apply below_alloc | apply pw_below_drewN | apply below_drew1 | refine below_set ?_ GE101.out | refine below_set ?_ GE102.out) | exact HB.out)⟩⟩
      case round =>
       clear H'; (try clear c1); (try clear c2); (try clear c2b0); (try clear c2b1); (try clear p2); (try clear c3); (try clear c7); (try clear c7b0); (try clear c7b1); (try clear c8); (try clear c8b0); (try clear c8b1); (try clear p9); (try clear q9); (try clear hx9); (try clear qi9); (try clear c11); (try clear c12); (try clear c12b0); (try clear c12b1); (try clear c14); (try clear hcz15_0); (try clear hcz15_1); (try clear hcz4_0); (try clear hcz4_1); (try clear hfz15_0); (try clear hfz15_1); (try clear hfz4_0); (try clear hfz4_1); (try clear p2); (try clear p9); (try clear q9); obtain ⟨x5_3, x6_3, x102000_3, x102001_3, x103000_3, x103001_3, rfl, rfl, HA, HK3, BK101, BK102, HB⟩ := hrel
       cases gk with
       | zero => exact absurd HA.out (by simp [oculusref11_Read.l0])
       | succ k3 =>
        have H := HA.out; clear HA
        simp only [oculusref11_Read.l0] at H
        by_cases c16 : x6_3 < (x0_9.size : Int)
        ·rw [if_pos c16] at H; have c16b0 : decide (x6_3 < (x0_9.size : Int)) = true := decide_eq_true c16; clear c16; have HC17 := Aside0.mk H; clear H
         go_upto_region 11 with (fail)
         go_cut [41] (fun v41 wc => ∃ (kq : Nat) (x41_16 : Bool), v41 = .bool x41_16 ∧ Aside0 (oculusref11_Read.j3 kq x0_9 x3_4 x5_3 x6_3 x41_16 x103000_3 x103001_3 = some (r1, r2)) ∧ Aside0 (kq ≤ k3) ∧ Aside0 (wc.heap[gb101]? = some (.cells #[.int .i64 x102000_3, .bool x102001_3] 54 (0, 0))) ∧ Aside0 (wc.heap[gb102]? = some (.cells #[.int .i64 x103000_3, .bool x103001_3] 54 (0, 0))) ∧ Aside0 (Below w.heap.size w wc))
         case first =>
          have H := HC17.out; clear HC17
          by_cases c18 : 0 ≤ x6_3
          ·rw [if_pos c18] at H; have c18b0 : decide (0 ≤ x6_3) = true := decide_eq_true c18; clear c18; (first | rw [c18b0] | (simp only [i64_w, i32_w]; rw [c18b0]) | skip)
           by_cases c20 : (bt x0_9 x6_3) = 46
           ·rw [if_pos c20] at H; have c20b0 : ((bt x0_9 x6_3) == 46) = true := beq_iff_eq.mpr c20; have c20b1 : ((bt x0_9 x6_3) != 46) = false := bne_eq_false_iff_eq.mpr c20; clear c20
            by_cases c21 : x5_3 < 0
            ·rw [if_pos c21] at H; have c21b0 : decide (x5_3 < 0) = true := decide_eq_true c21; clear c21
             have H' := Aside0.mk H
             clear H
             have p19 : 0 ≤ (x6_3 : Int) := of_decide_eq_true (by first | (with_reducible assumption) | assumption)
             have q19 : x6_3 < (x0_9.size : Int) := of_decide_eq_true (by first | (with_reducible assumption) | assumption)
             have hx19 := bt_at x0_9 x6_3; replace p19 := eq_true p19; replace q19 := eq_true q19
             go_wp2
             go_meet
             case rel => exact ⟨_, (decide (x6_3 > 0)), (by first | rfl | (simp; done) | (simp [*]; done)), H', ⟨by have := HJ4.out; have := HJ9.out; have := HK3.out; first | omega | exact Nat.le_refl _⟩, ⟨pkx BK101⟩, ⟨pkx BK102⟩, ⟨pbx HB⟩⟩
            ·rw [if_neg c21] at H; have c21b0 : decide (x5_3 < 0) = false := decide_eq_false c21; clear c21
             have H' := Aside0.mk H
             clear H
             have p19 : 0 ≤ (x6_3 : Int) := of_decide_eq_true (by first | (with_reducible assumption) | assumption)
             have q19 : x6_3 < (x0_9.size : Int) := of_decide_eq_true (by first | (with_reducible assumption) | assumption)
             have hx19 := bt_at x0_9 x6_3; replace p19 := eq_true p19; replace q19 := eq_true q19
             go_wp2
             go_meet
             case rel => exact ⟨_, (false), (by first | rfl | (simp; done) | (simp [*]; done)), H', ⟨by have := HJ4.out; have := HJ9.out; have := HK3.out; first | omega | exact Nat.le_refl _⟩, ⟨pkx BK101⟩, ⟨pkx BK102⟩, ⟨pbx HB⟩⟩
           ·rw [if_neg c20] at H; have c20b0 : ((bt x0_9 x6_3) == 46) = false := beq_eq_false_iff_ne.mpr c20; have c20b1 : ((bt x0_9 x6_3) != 46) = true := bne_iff_ne.mpr c20
            have H' := Aside0.mk H
            clear H
            have p19 : 0 ≤ (x6_3 : Int) := of_decide_eq_true (by first | (with_reducible assumption) | assumption)
            have q19 : x6_3 < (x0_9.size : Int) := of_decide_eq_true (by first | (with_reducible assumption) | assumption)
            have hx19 := bt_at x0_9 x6_3; replace p19 := eq_true p19; replace q19 := eq_true q19
            go_wp2
            go_meet
            case rel => exact ⟨_, (false), (by first | rfl | (simp; done) | (simp [*]; done)), H', ⟨by have := HJ4.out; have := HJ9.out; have := HK3.out; first | omega | exact Nat.le_refl _⟩, ⟨pkx BK101⟩, ⟨pkx BK102⟩, ⟨pbx HB⟩⟩
          ·rw [if_neg c18] at H
           exact absurd H (by simp)
         case rest =>
          clear HC17; (try clear c1); (try clear p1); (try clear q1); (try clear hx1); (try clear c2); (try clear c2b0); (try clear c2b1); (try clear p2); (try clear c3); (try clear c7); (try clear c7b0); (try clear c7b1); (try clear c8); (try clear c8b0); (try clear c8b1); (try clear p9); (try clear q9); (try clear hx9); (try clear qi9); (try clear c11); (try clear c12); (try clear c12b0); (try clear c12b1); (try clear c14); (try clear c16); (try clear c16b0); (try clear c18); (try clear c18b0); (try clear p19); (try clear q19); (try clear hx19); (try clear c20); (try clear c20b0); (try clear c20b1); (try clear c21); (try clear c21b0); (try clear hcz15_0); (try clear hcz15_1); (try clear hcz4_0); (try clear hcz4_1); (try clear hfz15_0); (try clear hfz15_1); (try clear hfz4_0); (try clear hfz4_1); (try clear p19); (try clear p2); (try clear p9); (try clear q19); (try clear q9); obtain ⟨kq, x41_16, rfl, HA, HJ16, BK101, BK102, HB⟩ := hcut
          cases kq with
          | zero => exact absurd HA.out (by simp [oculusref11_Read.j3])
          | succ kj16 =>
           have H := HA.out; clear HA
           simp only [oculusref11_Read.j3] at H
           by_cases c22 : x41_16 = true
           ·subst c22
            have H1 : (oculusref11_Read.l0 kj16 x0_9 x3_4 0 (wrap64 (x6_3 + 1)) x103000_3 x103001_3) = some (r1, r2) := by rw [if_pos rfl] at H; exact H
            clear H; have H := H1; clear H1
            have H' := Aside0.mk H
            clear H
            go_wp2
            go_roundg kj16
            case measure => have := HJ4.out; have := HJ9.out; have := HK3.out; have := HJ16.out; omega
            case rel => exact ⟨(0), (wrap64 (x6_3 + 1)), (x102000_3), (x102001_3), (x103000_3), (x103001_3), (by first | rfl | (simp; done) | (simp [*]; done)), (by first | rfl | (simp; done) | (simp [*]; done)), H', ⟨by have := HJ4.out; have := HJ9.out; have := HK3.out; have := HJ16.out; omega⟩, ⟨pkx BK101⟩, ⟨pkx BK102⟩, ⟨pbx HB⟩⟩
           ·replace c22 := Bool.eq_false_iff.mpr c22; subst c22
            have H1 : ((oculusref11_Digit.f x0_9 x6_3).bind fun t103 => (oculusref11_Read.j4 kj16 x0_9 x3_4 x5_3 x6_3 (!t103) x103000_3 x103001_3)) = some (r1, r2) := by rw [if_neg (show ¬ (false = true) by decide)] at H; exact H
            clear H; have H := H1; clear H1; have HC23 := Aside0.mk H; clear H
            go_upto_region 13 with (fail)
            go_cut [45] (fun v45 wc => ∃ (kq : Nat) (x45_22 : Bool), v45 = .bool x45_22 ∧ Aside0 (oculusref11_Read.j4 kq x0_9 x3_4 x5_3 x6_3 x45_22 x103000_3 x103001_3 = some (r1, r2)) ∧ Aside0 (kq ≤ kj16) ∧ Aside0 (wc.heap[gb101]? = some (.cells #[.int .i64 x102000_3, .bool x102001_3] 54 (0, 0))) ∧ Aside0 (wc.heap[gb102]? = some (.cells #[.int .i64 x103000_3, .bool x103001_3] 54 (0, 0))) ∧ Aside0 (Below w.heap.size w wc))
            case first =>
             have H := HC23.out; clear HC23; replace H := Option.bind_eq_some_iff.mp H; obtain ⟨t103, A240, H⟩ := H
             replace H : (oculusref11_Read.j4 kj16 x0_9 x3_4 x5_3 x6_3 (!t103) x103000_3 x103001_3) = some (r1, r2) := H
             have A24 := Aside0.mk A240; clear A240
             have H' := Aside0.mk H
             clear H
             go_wp2_with (first | ((with_reducible refine gate_callee (f:=43) rfl ?_); refine goesL_ (some 44) rfl rfl Try.func43 (by kernel_rfl) rfl #[.string x0_9, .int .i64 x6_3] rfl (by (try simp only [List.map_toArray, List.map_cons, List.map_nil]); first | done | rfl | (simp only [List.length_drop, List.length_take]; rfl)) ?_; (with_reducible refine (oculusref11_Digit.calls x0_9 x6_3 t103 _ A24.out).mono ?_); rintro e w' ⟨rfl, ⟨nd, rfl⟩⟩; refine ⟨_, rfl, ?_⟩))
             go_meet
             case rel => exact ⟨_, (!t103), (by first | rfl | (simp; done) | (simp [*]; done) | (cases t103 <;> simp; done)), H', ⟨by have := HJ4.out; have := HJ9.out; have := HK3.out; have := HJ16.out; first | omega | exact Nat.le_refl _⟩, ⟨pkx BK101⟩, ⟨pkx BK102⟩, ⟨pbx HB⟩⟩
            case rest =>
             clear HC23; (try clear c1); (try clear p1); (try clear q1); (try clear hx1); (try clear c2); (try clear c2b0); (try clear c2b1); (try clear p2); (try clear c3); (try clear c4); (try clear p6); (try clear c7); (try clear c7b0); (try clear c7b1); (try clear c8); (try clear c8b0); (try clear c8b1); (try clear p9); (try clear q9); (try clear hx9); (try clear qi9); (try clear c11); (try clear c12); (try clear c12b0); (try clear c12b1); (try clear c14); (try clear c16); (try clear c16b0); (try clear c18); (try clear c18b0); (try clear p19); (try clear q19); (try clear hx19); (try clear c20); (try clear c20b0); (try clear c20b1); (try clear c21); (try clear c21b0); (try clear c22); (try clear hcz15_0); (try clear hcz15_1); (try clear hcz4_0); (try clear hcz4_1); (try clear hfz15_0); (try clear hfz15_1); (try clear hfz4_0); (try clear hfz4_1); (try clear p1); (try clear p19); (try clear p2)
             (try clear p9); (try clear q1); (try clear q19); (try clear q9); obtain ⟨kq, x45_22, rfl, HA, HJ22, BK101, BK102, HB⟩ := hcut
             cases kq with
             | zero => exact absurd HA.out (by simp [oculusref11_Read.j4])
             | succ kj22 =>
              have H := HA.out; clear HA
              simp only [oculusref11_Read.j4] at H
              by_cases c25 : x45_22 = true
              ·subst c25
               have H1 : (some (0, false)) = some (r1, r2) := by rw [if_pos rfl] at H; exact H
               clear H; have H := H1; clear H1
               simp only [Option.some.injEq, Prod.mk.injEq] at H
               obtain ⟨rfl, rfl⟩ := H; have hnb26 := NB101_102.out; have hnc26 := NB102_101.out
               have hcz27_0 : wc.cell? ⟨gb101, 0, none⟩ = some (.int .i64 x102000_3) := bc_ BK101 0 rfl
               have hcz27_1 : wc.cell? ⟨gb101, 1, none⟩ = some (.bool x102001_3) := bc_ BK101 1 rfl
               have hfz27_0 := blk_frozen BK101.out 0; have hfz27_1 := blk_frozen BK101.out 1
               go_wp2
               refine bodyPost_ret (results_cell_row rfl _ _ gb101 54 #[.int .i64 0, .bool false] (0, 0) _ rfl (by (with_reducible repeat (first | refine blk_drewN ?_ _ | refine blk_drew ?_ | refine blk_alloc ?_ _)); refine blk_put (cs := #[.int .i64 0, .bool x102001_3]) ?_ 1 _ rfl; refine blk_put (cs := #[.int .i64 x102000_3, .bool x102001_3]) ?_ 0 _ rfl; (with_reducible repeat (first | refine blk_drewN ?_ _ | refine blk_drew ?_ | refine blk_alloc ?_ _)); exact BK101.out) Try.underlying54 rfl (by kernel_rfl)) rfl ?_
               exact ⟨by first | rfl | (simp [errW_none, errW_some] <;> rfl) | (simp [*, errW_none, errW_some] <;> rfl), by repeat (first | (with_reducible first | exact HB.out | apply below_alloc | apply pw_below_drewN | apply below_drew1 | refine below_set ?_ GE101.out | refine below_set ?_ GE102.out) | exact HB.out)⟩
              ·replace c25 := Bool.eq_false_iff.mpr c25; subst c25
               have H1 : (if x5_3 ≥ 0 then (oculusref11_Read.j5 kj22 x0_9 x3_4 (wrap64 (x5_3 + 1)) x6_3 x103000_3 x103001_3) else (oculusref11_Read.j5 kj22 x0_9 x3_4 x5_3 x6_3 x103000_3 x103001_3)) = some (r1, r2) := by rw [if_neg (show ¬ (false = true) by decide)] at H; exact H
               clear H; have H := H1; clear H1; have HC28 := Aside0.mk H; clear H
               go_upto_if 48 with (fail)
               go_cut [5] (fun v5 wc => ∃ (kq : Nat) (x5_27 : Int), v5 = .int .i64 x5_27 ∧ Aside0 (oculusref11_Read.j5 kq x0_9 x3_4 x5_27 x6_3 x103000_3 x103001_3 = some (r1, r2)) ∧ Aside0 (kq ≤ kj22) ∧ Aside0 (wc.heap[gb101]? = some (.cells #[.int .i64 x102000_3, .bool x102001_3] 54 (0, 0))) ∧ Aside0 (wc.heap[gb102]? = some (.cells #[.int .i64 x103000_3, .bool x103001_3] 54 (0, 0))) ∧ Aside0 (Below w.heap.size w wc))
               case first =>
                have H := HC28.out; clear HC28
                by_cases c29 : x5_3 ≥ 0
                ·rw [if_pos c29] at H; have c29b0 : decide (0 ≤ x5_3) = true := decide_eq_true c29; clear c29; (first | rw [c29b0] | (simp only [i64_w, i32_w]; rw [c29b0]) | skip)
                 have H' := Aside0.mk H
                 clear H
                 go_wp2
                 go_meet
                 case rel => exact ⟨_, (wrap64 (x5_3 + 1)), (by first | rfl | (simp; done) | (simp [*]; done)), H', ⟨by have := HJ4.out; have := HJ9.out; have := HK3.out; have := HJ16.out; have := HJ22.out; first | omega | exact Nat.le_refl _⟩, ⟨pkx BK101⟩, ⟨pkx BK102⟩, ⟨pbx HB⟩⟩
                ·rw [if_neg c29] at H; have c29b0 : decide (0 ≤ x5_3) = false := decide_eq_false c29; clear c29; (first | rw [c29b0] | (simp only [i64_w, i32_w]; rw [c29b0]) | skip)
                 have H' := Aside0.mk H
                 clear H
                 go_wp2
                 go_meet
                 case rel => exact ⟨_, (x5_3), (by first | rfl | (simp; done) | (simp [*]; done)), H', ⟨by have := HJ4.out; have := HJ9.out; have := HK3.out; have := HJ16.out; have := HJ22.out; first | omega | exact Nat.le_refl _⟩, ⟨pkx BK101⟩, ⟨pkx BK102⟩, ⟨pbx HB⟩⟩
               case rest =>
                clear HC28; (try clear c1); (try clear p1); (try clear q1); (try clear hx1); (try clear c2); (try clear c2b0); (try clear c2b1); (try clear p2); (try clear c3); (try clear c4); (try clear p6); (try clear c7); (try clear c7b0); (try clear c7b1); (try clear c8); (try clear c8b0); (try clear c8b1); (try clear p9); (try clear q9); (try clear hx9); (try clear qi9); (try clear c11); (try clear c12); (try clear c12b0); (try clear c12b1); (try clear c14); (try clear c16); (try clear c16b0); (try clear c18); (try clear c18b0); (try clear p19); (try clear q19); (try clear hx19); (try clear c20); (try clear c20b0); (try clear c20b1); (try clear c21); (try clear c21b0); (try clear c22); (try clear c25); (try clear c26); (try clear c29); (try clear c29b0); (try clear hcz15_0); (try clear hcz15_1); (try clear hcz27_0); (try clear hcz27_1); (try clear hcz4_0); (try clear hcz4_1); (try clear hfz15_0)
                (try clear hfz15_1); (try clear hfz27_0); (try clear hfz27_1); (try clear hfz4_0); (try clear hfz4_1); (try clear p1); (try clear p19); (try clear p2); (try clear p6); (try clear p9); (try clear q1); (try clear q19); (try clear q9); obtain ⟨kq, x5_27, rfl, HA, HJ27, BK101, BK102, HB⟩ := hcut
                cases kq with
                | zero => exact absurd HA.out (by simp [oculusref11_Read.j5])
                | succ kj27 =>
                 have H := HA.out; clear HA
                 simp only [oculusref11_Read.j5] at H
                 by_cases c30 : 0 ≤ x6_3
                 ·rw [if_pos c30] at H; have c30b0 : decide (0 ≤ x6_3) = true := decide_eq_true c30; clear c30
                  by_cases c31 : x6_3 < (x0_9.size : Int)
                  ·rw [if_pos c31] at H; have c31b0 : decide (x6_3 < (x0_9.size : Int)) = true := decide_eq_true c31; clear c31; replace H := Option.bind_eq_some_iff.mp H; obtain ⟨⟨t104, t105⟩, A330, H⟩ := H
                   replace H : (oculusref11_Read.l0 kj27 x0_9 x3_4 x5_27 (wrap64 (x6_3 + 1)) t104 t105) = some (r1, r2) := H
                   have A33 := Aside0.mk A330; clear A330
                   have H' := Aside0.mk H
                   clear H
                   try go_wp2
                   (try (rw [drewN_self wc]; generalize hq_ : World.drewN wc _ = wc; have n0_ : Aside0 (wc.heap[gb101]? = some (.cells #[.int .i64 x102000_3, .bool x102001_3] 54 (0, 0))) := ⟨by rw [← hq_]; exact (pkx BK101)⟩; have n1_ : Aside0 (wc.heap[gb102]? = some (.cells #[.int .i64 x103000_3, .bool x103001_3] 54 (0, 0))) := ⟨by rw [← hq_]; exact (pkx BK102)⟩; have n2_ : Aside0 (Below w.heap.size w wc) := ⟨by rw [← hq_]; exact (pbx HB)⟩; clear BK101 BK102 HB hq_; have BK101 := n0_; have BK102 := n1_; have HB := n2_; clear n0_ n1_ n2_))
                   replace BK101 := Aside0.mk (blk_drew BK101.out); replace BK102 := Aside0.mk (blk_drew BK102.out); replace HB := Aside0.mk (below_drew1 HB.out)
                   have p32 : 0 ≤ (x6_3 : Int) := of_decide_eq_true (by first | (with_reducible assumption) | assumption)
                   have q32 : x6_3 < (x0_9.size : Int) := of_decide_eq_true (by first | (with_reducible assumption) | assumption)
                   have hx32 := bt_at x0_9 x6_3; replace p32 := eq_true p32; replace q32 := eq_true q32
                   refine start_ (n:=8) (S := fun w' => w'.cell? ⟨gb102, 0, none⟩ = some (.int .i64 x103000_3) ∧ w'.cell? ⟨gb102, 1, none⟩ = some (.bool x103001_3)) (ds := [7]) #[F,F,F,F,F,F,F,F] (by kernel_rfl) rfl rfl ⟨bc_ BK102 0 rfl, bc_ BK102 1 rfl⟩ (fun hHeld => ?_); refine with_tabW oculusref11_Read.tab17 oculusref11_Read.bits17 (fun HT_ HW_ => ?_)
                   generalize wc.drew = w34 at BK101 BK102 HB hHeld ⊢; refine pure_ (i:=1) (N:=some 52) (v:=?_) (a':=?_) ⟨m_ 8 2⟩ rfl rfl (any_of HT_.out (by kernel_rfl)) (fun _ _ _ h=>h) (Or.inl ⟨rfl, ?_⟩) ?_ ?_; rotate_left
                   ·intro w'; go_simp; with_reducible rfl
                   rotate_left
                   ·simp only [q_, i64_w, i32_w]; rfl
                   refine pure_ (i:=2) (N:=some 53) (v:=?_) (a':=?_) ⟨m_ 8 6⟩ rfl rfl (any_of HT_.out (by kernel_rfl)) (fun _ _ _ h=>h) (Or.inl ⟨rfl, ?_⟩) ?_ ?_; rotate_left
                   ·intro w'; go_simp; with_reducible rfl
                   rotate_left
                   ·simp only [q_, i64_w, i32_w]; rfl
                   refine take_ (i:=0) (N:=some 51) (v:=?_) (a':=?_) ⟨m_ 8 7⟩ rfl rfl (take_ofW HT_.out HW_.out (by kernel_rfl)) (fun _ _ _ h=>h) (Or.inl ⟨rfl, ?_⟩) hHeld ?_ ?_; rotate_left
                   ·rintro w' ⟨s0, s1⟩; go_simp; with_reducible rfl
                   rotate_left
                   ·simp only [q_, i64_w, i32_w]; rfl
                   refine take_ (i:=3) (N:=some 54) (v:=?_) (a':=?_) ⟨m_ 8 15⟩ rfl rfl (take_ofW HT_.out HW_.out (by kernel_rfl)) (fun _ _ _ h=>h) (Or.inl ⟨rfl, ?_⟩) hHeld ?_ ?_; rotate_left
                   ·rintro w' ⟨s0, s1⟩; go_simp; with_reducible rfl
                   rotate_left
                   ·simp only [q_, i64_w, i32_w]; rfl
                   refine pure_ (i:=4) (N:=some 55) (v:=?_) (a':=?_) ⟨m_ 8 31⟩ rfl rfl (any_of HT_.out (by kernel_rfl)) (fun _ _ _ h=>h) (Or.inl ⟨rfl, ?_⟩) ?_ ?_; rotate_left
                   ·intro w'; go_simp; with_reducible rfl
                   rotate_left
                   ·simp only [q_, i64_w, i32_w]; rfl
                   refine pure_ (i:=5) (N:=some 56) (v:=?_) (a':=?_) ⟨m_ 8 63⟩ rfl rfl (any_of HT_.out (by kernel_rfl)) (fun _ _ _ h=>h) (Or.inl ⟨rfl, ?_⟩) ?_ ?_; rotate_left
                   ·intro w'; go_simp; with_reducible rfl
                   rotate_left
                   ·simp only [q_, i64_w, i32_w]; rfl
                   refine one_ (i:=6) (N:=some 57) ⟨m_ 8 127⟩ rfl rfl (one_of HT_.out (by kernel_rfl)) (by decide) (fun K hK => ?_); refine goes_ Try.func44 (by kernel_rfl) rfl #[.agg #[.int .i64 x103000_3, .bool x103001_3], .int .i64 (wrap64 ((wrap64 (bt x0_9 x6_3)) - 48))] (by rfl) rfl rfl (by (try simp only [List.map_toArray, List.map_cons, List.map_nil]); first | done | rfl | (simp only [List.length_drop, List.length_take]; rfl)) ?_; with_reducible refine (oculusref11_more.calls kj27 x103000_3 x103001_3 (wrap64 ((wrap64 (bt x0_9 x6_3)) - 48)) t104 t105 _ A33.out).mono ?_; rintro e w35 ⟨rfl, hb⟩; refine ⟨_, rfl, ?_⟩
                   replace BK101 := bb_ BK101 hb; replace BK102 := bb_ BK102 hb; replace HB := bs_ HB hb; (try clear hb); (try clear hb2); (try clear hk); (try clear hi); refine hK.out _ _ ⟨bc_ BK102 0 rfl, bc_ BK102 1 rfl⟩ (fun hHeld => ?_); clear hK K; refine norm_ (a':=?_) ?_ ?_; rotate_left
                   ·show Act.put _ (some 57) _ = _; simp only [q_, i64_w, i32_w]; rfl
                   refine last_ (i:=7) (N:=none) ⟨m_ 8 255⟩ rfl rfl (one_of HT_.out (by kernel_rfl)) (by decide) (fun K hK => ?_)
                   have hs36 : w35.cell? ⟨gb102, 0, none⟩ = some (.int .i64 x103000_3) := bc_ BK102 0 rfl
                   have hfs36 := blk_frozen BK102.out 0; have hns36_0 := NB101_102.out; have hms36_0 := NB102_101.out
                   have hs37 : w35.cell? ⟨gb102, 1, none⟩ = some (.bool x103001_3) := bc_ BK102 1 rfl
                   have hfs37 := blk_frozen BK102.out 1; have hns37_0 := NB101_102.out; have hms37_0 := NB102_101.out
                   refine skip_ (w1 := ?_) (by rfl) rfl ?_ ?_
                   rotate_left
                   ·go_simp; rfl
                   refine hK.out _ _ ?_; clear hK K
                   refine done_ (done_of HT_.out (by kernel_rfl)) ?_
                   try go_wp2
                   go_roundg kj27
                   case measure => have := HJ4.out; have := HJ9.out; have := HK3.out; have := HJ16.out; have := HJ22.out; have := HJ27.out; omega
                   case rel => exact ⟨(x5_27), (wrap64 (x6_3 + 1)), (x102000_3), (x102001_3), (t104), (t105), (by first | rfl | (simp; done) | (simp [*]; done)), (by first | rfl | (simp; done) | (simp [*]; done)), H', ⟨by have := HJ4.out; have := HJ9.out; have := HK3.out; have := HJ16.out; have := HJ22.out; have := HJ27.out; omega⟩, ⟨by (with_reducible repeat (first | refine blk_drewN ?_ _ | refine blk_drew ?_ | refine blk_alloc ?_ _)); refine blk_far ?_ NB101_102.out _; refine blk_far ?_ NB101_102.out _; (with_reducible repeat (first | refine blk_drewN ?_ _ | refine blk_drew ?_ | refine blk_alloc ?_ _)); exact BK101.out⟩, ⟨by (with_reducible repeat (first | refine blk_drewN ?_ _ | refine blk_drew ?_ | refine blk_alloc ?_ _)); refine blk_put (cs := #[.int .i64 t104, .bool x103001_3]) ?_ 1 _ rfl; refine blk_put (cs := #[.int .i64 x103000_3, .bool x103001_3]) ?_ 0 _ rfl; (with_reducible repeat (first | refine blk_drewN ?_ _ | refine blk_drew ?_ | refine blk_alloc ?_ _)); exact BK102.out⟩, ⟨by repeat (first | (with_reducible first | exact HB.out | apply below_alloc | apply pw_below_drewN | apply below_drew1 | refine below_set ?_ GE101.out | refine below_set ?_ GE102.out) | exact HB.out)⟩⟩
                  ·rw [if_neg c31] at H
                   exact absurd H (by simp)
                 ·rw [if_neg c30] at H
                  exact absurd H (by simp)
        ·rw [if_neg c16] at H; have c16b0 : decide (x6_3 < (x0_9.size : Int)) = false := decide_eq_false c16; clear c16; have HC38 := Aside0.mk H; clear H
         go_upto_region 18 with (fail)
         go_cut [68] (fun v68 wc => ∃ (kq : Nat) (x68_37 : Bool), v68 = .bool x68_37 ∧ Aside0 (oculusref11_Read.j6 kq x3_4 x5_3 x68_37 x103000_3 x103001_3 = some (r1, r2)) ∧ Aside0 (kq ≤ k3) ∧ Aside0 (wc.heap[gb101]? = some (.cells #[.int .i64 x102000_3, .bool x102001_3] 54 (0, 0))) ∧ Aside0 (wc.heap[gb102]? = some (.cells #[.int .i64 x103000_3, .bool x103001_3] 54 (0, 0))) ∧ Aside0 (Below w.heap.size w wc))
         case first =>
          have H := HC38.out; clear HC38
          by_cases c39 : (x0_9.size : Int) = 0
          ·rw [if_pos c39] at H; have c39b0 : ((x0_9.size : Int) == 0) = true := beq_iff_eq.mpr c39; have c39b1 : ((x0_9.size : Int) != 0) = false := bne_eq_false_iff_eq.mpr c39; clear c39; (first | rw [c39b0] | (simp only [i64_w, i32_w]; rw [c39b0]) | skip)
           have H' := Aside0.mk H
           clear H
           go_wp2
           go_meet
           case rel => exact ⟨_, (true), (by first | rfl | (simp; done) | (simp [*]; done)), H', ⟨by have := HJ4.out; have := HJ9.out; have := HK3.out; first | omega | exact Nat.le_refl _⟩, ⟨pkx BK101⟩, ⟨pkx BK102⟩, ⟨pbx HB⟩⟩
          ·rw [if_neg c39] at H; have c39b0 : ((x0_9.size : Int) == 0) = false := beq_eq_false_iff_ne.mpr c39; have c39b1 : ((x0_9.size : Int) != 0) = true := bne_iff_ne.mpr c39; (first | rw [c39b0] | (simp only [i64_w, i32_w]; rw [c39b0]) | skip)
           by_cases c40 : x5_3 = 0
           ·rw [if_pos c40] at H; have c40b0 : (x5_3 == 0) = true := beq_iff_eq.mpr c40; have c40b1 : (x5_3 != 0) = false := bne_eq_false_iff_eq.mpr c40; clear c40
            have H' := Aside0.mk H
            clear H
            go_wp2
            go_meet
            case rel => exact ⟨_, (true), (by first | rfl | (simp; done) | (simp [*]; done)), H', ⟨by have := HJ4.out; have := HJ9.out; have := HK3.out; first | omega | exact Nat.le_refl _⟩, ⟨pkx BK101⟩, ⟨pkx BK102⟩, ⟨pbx HB⟩⟩
           ·rw [if_neg c40] at H; have c40b0 : (x5_3 == 0) = false := beq_eq_false_iff_ne.mpr c40; have c40b1 : (x5_3 != 0) = true := bne_iff_ne.mpr c40
            have H' := Aside0.mk H
            clear H
            go_wp2
            go_meet
            case rel => exact ⟨_, (decide (x5_3 > 4)), (by first | rfl | (simp; done) | (simp [*]; done)), H', ⟨by have := HJ4.out; have := HJ9.out; have := HK3.out; first | omega | exact Nat.le_refl _⟩, ⟨pkx BK101⟩, ⟨pkx BK102⟩, ⟨pbx HB⟩⟩
         case rest =>
          clear HC38; (try clear c1); (try clear p1); (try clear q1); (try clear hx1); (try clear c2); (try clear c2b0); (try clear c2b1); (try clear p2); (try clear c3); (try clear p3); (try clear q3); (try clear hx3); (try clear c4); (try clear p6); (try clear c7); (try clear c7b0); (try clear c7b1); (try clear c8); (try clear c8b0); (try clear c8b1); (try clear p9); (try clear q9); (try clear hx9); (try clear qi9); (try clear c11); (try clear c12); (try clear c12b0); (try clear c12b1); (try clear c14); (try clear c16); (try clear c16b0); (try clear c18); (try clear c18b0); (try clear p19); (try clear q19); (try clear hx19); (try clear c20); (try clear c20b0); (try clear c20b1); (try clear c21); (try clear c21b0); (try clear c22); (try clear c25); (try clear c26); (try clear c29); (try clear c29b0); (try clear c30); (try clear c30b0); (try clear c31); (try clear c31b0); (try clear p32)
          (try clear q32); (try clear hx32); (try clear c39); (try clear c39b0); (try clear c39b1); (try clear c40); (try clear c40b0); (try clear c40b1); (try clear hcz15_0); (try clear hcz15_1); (try clear hcz27_0); (try clear hcz27_1); (try clear hcz4_0); (try clear hcz4_1); (try clear hfz15_0); (try clear hfz15_1); (try clear hfz27_0); (try clear hfz27_1); (try clear hfz4_0); (try clear hfz4_1); (try clear p1); (try clear p19); (try clear p2); (try clear p32); (try clear p6); (try clear p9); (try clear q1); (try clear q19); (try clear q32); (try clear q9); obtain ⟨kq, x68_37, rfl, HA, HJ37, BK101, BK102, HB⟩ := hcut
          cases kq with
          | zero => exact absurd HA.out (by simp [oculusref11_Read.j6])
          | succ kj37 =>
           have H := HA.out; clear HA
           simp only [oculusref11_Read.j6] at H
           by_cases c41 : x68_37 = true
           ·subst c41
            have H1 : (some (0, false)) = some (r1, r2) := by rw [if_pos rfl] at H; exact H
            clear H; have H := H1; clear H1
            simp only [Option.some.injEq, Prod.mk.injEq] at H
            obtain ⟨rfl, rfl⟩ := H; have hnb42 := NB101_102.out; have hnc42 := NB102_101.out
            have hcz43_0 : wc.cell? ⟨gb101, 0, none⟩ = some (.int .i64 x102000_3) := bc_ BK101 0 rfl
            have hcz43_1 : wc.cell? ⟨gb101, 1, none⟩ = some (.bool x102001_3) := bc_ BK101 1 rfl
            have hfz43_0 := blk_frozen BK101.out 0; have hfz43_1 := blk_frozen BK101.out 1
            go_wp2
            refine bodyPost_ret (results_cell_row rfl _ _ gb101 54 #[.int .i64 0, .bool false] (0, 0) _ rfl (by (with_reducible repeat (first | refine blk_drewN ?_ _ | refine blk_drew ?_ | refine blk_alloc ?_ _)); refine blk_put (cs := #[.int .i64 0, .bool x102001_3]) ?_ 1 _ rfl; refine blk_put (cs := #[.int .i64 x102000_3, .bool x102001_3]) ?_ 0 _ rfl; (with_reducible repeat (first | refine blk_drewN ?_ _ | refine blk_drew ?_ | refine blk_alloc ?_ _)); exact BK101.out) Try.underlying54 rfl (by kernel_rfl)) rfl ?_
            exact ⟨by first | rfl | (simp [errW_none, errW_some] <;> rfl) | (simp [*, errW_none, errW_some] <;> rfl), by repeat (first | (with_reducible first | exact HB.out | apply below_alloc | apply pw_below_drewN | apply below_drew1 | refine below_set ?_ GE101.out | refine below_set ?_ GE102.out) | exact HB.out)⟩
           ·replace c41 := Bool.eq_false_iff.mpr c41; subst c41
            have H1 : (oculusref11_Read.l1 kj37 x3_4 (mx x5_3 0) x103000_3 x103001_3) = some (r1, r2) := by rw [if_neg (show ¬ (false = true) by decide)] at H; exact H
            clear H; have H := H1; clear H1; obtain ⟨ji44, hji44⟩ : ∃ j_ : Int, (mx x5_3 0) = j_ := ⟨_, rfl⟩
            replace H : (oculusref11_Read.l1 kj37 x3_4 ji44 x103000_3 x103001_3) = some (r1, r2) := by first | (rw [hji44] at H; exact H) | (simp only [hji44] at H ⊢; exact H)
            have hji44_ : (if x5_3 < 0 then 0 else x5_3) = ji44 := hji44
            have H' := Aside0.mk H
            clear H
            go_wp2
            go_loopg [7] kj37 (fun kq v7 w' => ∃ (x7_5 : Int) (x103000_5 : Int) (x103001_5 : Bool), v7 = .int .i64 x7_5 ∧ Aside0 (oculusref11_Read.l1 kq x3_4 x7_5 x103000_5 x103001_5 = some (r1, r2)) ∧ Aside0 (kq ≤ kj37) ∧ Aside0 (w'.heap[gb101]? = some (.cells #[.int .i64 x102000_3, .bool x102001_3] 54 (0, 0))) ∧ Aside0 (w'.heap[gb102]? = some (.cells #[.int .i64 x103000_5, .bool x103001_5] 54 (0, 0))) ∧ Aside0 (Below w.heap.size w w'))
            case atStart => exact ⟨(ji44), (x103000_3), (x103001_3), (by first | rfl | (simp; done) | (simp only [← hji44] <;> (first | rfl | simp)) | (simp [*]; done)), H', ⟨Nat.le_refl _⟩, ⟨pkx BK101⟩, ⟨pkx BK102⟩, ⟨pbx HB⟩⟩
            case round =>
             clear H'; (try clear c1); (try clear p1); (try clear q1); (try clear hx1); (try clear c2); (try clear c2b0); (try clear c2b1); (try clear p2); (try clear c3); (try clear p3); (try clear q3); (try clear hx3); (try clear c4); (try clear p6); (try clear c7); (try clear c7b0); (try clear c7b1); (try clear c8); (try clear c8b0); (try clear c8b1); (try clear p9); (try clear q9); (try clear hx9); (try clear qi9); (try clear c11); (try clear c12); (try clear c12b0); (try clear c12b1); (try clear c14); (try clear c16); (try clear c16b0); (try clear c18); (try clear c18b0); (try clear p19); (try clear q19); (try clear hx19); (try clear c20); (try clear c20b0); (try clear c20b1); (try clear c21); (try clear c21b0); (try clear c22); (try clear c25); (try clear c26); (try clear c29); (try clear c29b0); (try clear c30); (try clear c30b0); (try clear c31); (try clear c31b0); (try clear p32)
             (try clear q32); (try clear hx32); (try clear c39); (try clear c39b0); (try clear c39b1); (try clear c40); (try clear c40b0); (try clear c40b1); (try clear c41); (try clear c42); (try clear c43); (try clear c44); (try clear hcz15_0); (try clear hcz15_1); (try clear hcz27_0); (try clear hcz27_1); (try clear hcz43_0); (try clear hcz43_1); (try clear hcz4_0); (try clear hcz4_1); (try clear hfz15_0); (try clear hfz15_1); (try clear hfz27_0); (try clear hfz27_1); (try clear hfz43_0); (try clear hfz43_1); (try clear hfz4_0); (try clear hfz4_1); (try clear p1); (try clear p19); (try clear p2); (try clear p3); (try clear p32); (try clear p6); (try clear p9); (try clear q1); (try clear q19); (try clear q3); (try clear q32); (try clear q9); obtain ⟨x7_5, x103000_5, x103001_5, rfl, HA, HK5, BK101, BK102, HB⟩ := hrel
             cases gk with
             | zero => exact absurd HA.out (by simp [oculusref11_Read.l1])
             | succ k5 =>
              have H := HA.out; clear HA
              simp only [oculusref11_Read.l1] at H
              by_cases c45 : x7_5 < 4
              ·rw [if_pos c45] at H; have c45b0 : decide (x7_5 < 4) = true := decide_eq_true c45; clear c45; replace H := Option.bind_eq_some_iff.mp H; obtain ⟨⟨t106, t107⟩, A460, H⟩ := H
               replace H : (oculusref11_Read.l1 k5 x3_4 (wrap64 (x7_5 + 1)) t106 t107) = some (r1, r2) := H
               have A46 := Aside0.mk A460; clear A460
               have H' := Aside0.mk H
               clear H; have hnb47 := NB102_101.out; have hnc47 := NB101_102.out
               have hcz48_0 : wr.cell? ⟨gb102, 0, none⟩ = some (.int .i64 x103000_5) := bc_ BK102 0 rfl
               have hcz48_1 : wr.cell? ⟨gb102, 1, none⟩ = some (.bool x103001_5) := bc_ BK102 1 rfl
               have hfz48_0 := blk_frozen BK102.out 0; have hfz48_1 := blk_frozen BK102.out 1
               go_wp2_with (first | ((with_reducible refine gate_callee (f:=44) rfl ?_); refine goesL_ (some 77) rfl rfl Try.func44 (by kernel_rfl) rfl #[.agg #[.int .i64 x103000_5, .bool x103001_5], .int .i64 0] rfl (by (try simp only [List.map_toArray, List.map_cons, List.map_nil]); first | done | rfl | (simp only [List.length_drop, List.length_take]; rfl)) ?_; (with_reducible refine (oculusref11_more.calls k5 x103000_5 x103001_5 0 t106 t107 _ A46.out).mono ?_); rintro e w49 ⟨rfl, hb⟩; refine ⟨_, rfl, ?_⟩; replace BK101 := bb_ BK101 hb; replace BK102 := bb_ BK102 hb; replace HB := bs_ HB hb; (try clear hb); (try clear hb2); (try clear hk); (try clear hi); have hcz50_0 : w49.cell? ⟨gb102, 0, none⟩ = some (.int .i64 x103000_5) := bc_ BK102 0 rfl; have hcz50_1 : w49.cell? ⟨gb102, 1, none⟩ = some (.bool x103001_5) := bc_ BK102 1 rfl; have hfz50_0 := blk_frozen BK102.out 0; have hfz50_1 := blk_frozen BK102.out 1))
               go_roundg k5
               case measure => have := HJ4.out; have := HJ9.out; have := HK3.out; have := HJ37.out; have := HK5.out; omega
               case rel => exact ⟨(wrap64 (x7_5 + 1)), (t106), (t107), (by first | rfl | (simp; done) | (simp [*]; done)), H', ⟨by have := HJ4.out; have := HJ9.out; have := HK3.out; have := HJ37.out; have := HK5.out; omega⟩, ⟨by (with_reducible repeat (first | refine blk_drewN ?_ _ | refine blk_drew ?_ | refine blk_alloc ?_ _)); refine blk_far ?_ NB101_102.out _; refine blk_far ?_ NB101_102.out _; (with_reducible repeat (first | refine blk_drewN ?_ _ | refine blk_drew ?_ | refine blk_alloc ?_ _)); exact BK101.out⟩, ⟨by (with_reducible repeat (first | refine blk_drewN ?_ _ | refine blk_drew ?_ | refine blk_alloc ?_ _)); refine blk_put (cs := #[.int .i64 t106, .bool x103001_5]) ?_ 1 _ rfl; refine blk_put (cs := #[.int .i64 x103000_5, .bool x103001_5]) ?_ 0 _ rfl; (with_reducible repeat (first | refine blk_drewN ?_ _ | refine blk_drew ?_ | refine blk_alloc ?_ _)); exact BK102.out⟩, ⟨by repeat (first | (with_reducible first | exact HB.out | apply below_alloc | apply pw_below_drewN | apply below_drew1 | refine below_set ?_ GE101.out | refine below_set ?_ GE102.out) | exact HB.out)⟩⟩
              ·rw [if_neg c45] at H; have c45b0 : decide (x7_5 < 4) = false := decide_eq_false c45; clear c45
               by_cases c51 : x3_4 = true
               ·subst c51
                have H1 : (some (wrap64 (-x103000_5), x103001_5)) = some (r1, r2) := by rw [if_pos rfl] at H; exact H
                clear H; have H := H1; clear H1
                simp only [Option.some.injEq, Prod.mk.injEq] at H
                obtain ⟨rfl, rfl⟩ := H; have hnb52 := NB102_101.out; have hnc52 := NB101_102.out
                have hcz53_0 : wr.cell? ⟨gb102, 0, none⟩ = some (.int .i64 x103000_5) := bc_ BK102 0 rfl
                have hcz53_1 : wr.cell? ⟨gb102, 1, none⟩ = some (.bool x103001_5) := bc_ BK102 1 rfl
                have hfz53_0 := blk_frozen BK102.out 0; have hfz53_1 := blk_frozen BK102.out 1
                have hcz54_0 : wr.cell? ⟨gb101, 0, none⟩ = some (.int .i64 x102000_3) := bc_ BK101 0 rfl
                have hcz54_1 : wr.cell? ⟨gb101, 1, none⟩ = some (.bool x102001_3) := bc_ BK101 1 rfl
                have hfz54_0 := blk_frozen BK101.out 0; have hfz54_1 := blk_frozen BK101.out 1
                go_wp2
                refine bodyPost_ret (results_cell_row rfl _ _ gb101 54 #[.int .i64 (wrap64 (-x103000_5)), .bool x103001_5] (0, 0) _ rfl (by (with_reducible repeat (first | refine blk_drewN ?_ _ | refine blk_drew ?_ | refine blk_alloc ?_ _)); refine blk_put (cs := #[.int .i64 (wrap64 (-x103000_5)), .bool x102001_3]) ?_ 1 _ rfl; refine blk_put (cs := #[.int .i64 x102000_3, .bool x102001_3]) ?_ 0 _ rfl; (with_reducible repeat (first | refine blk_drewN ?_ _ | refine blk_drew ?_ | refine blk_alloc ?_ _)); refine blk_far ?_ NB101_102.out _; (with_reducible repeat (first | refine blk_drewN ?_ _ | refine blk_drew ?_ | refine blk_alloc ?_ _)); exact BK101.out) Try.underlying54 rfl (by kernel_rfl)) rfl ?_
                exact ⟨by first | rfl | (simp [errW_none, errW_some] <;> rfl) | (simp only [← hji44]; first | rfl | (simp [errW_none, errW_some] <;> rfl)) | (simp [*, errW_none, errW_some] <;> rfl), by repeat (first | (with_reducible first | exact HB.out | apply below_alloc | apply pw_below_drewN | apply below_drew1 | refine below_set ?_ GE101.out | refine below_set ?_ GE102.out) | exact HB.out)⟩
               ·replace c51 := Bool.eq_false_iff.mpr c51; subst c51
                have H1 : (some (x103000_5, x103001_5)) = some (r1, r2) := by rw [if_neg (show ¬ (false = true) by decide)] at H; exact H
                clear H; have H := H1; clear H1
                simp only [Option.some.injEq, Prod.mk.injEq] at H
                obtain ⟨rfl, rfl⟩ := H; have hnb55 := NB102_101.out; have hnc55 := NB101_102.out
                have hcz56_0 : wr.cell? ⟨gb102, 0, none⟩ = some (.int .i64 x103000_5) := bc_ BK102 0 rfl
                have hcz56_1 : wr.cell? ⟨gb102, 1, none⟩ = some (.bool x103001_5) := bc_ BK102 1 rfl
                have hfz56_0 := blk_frozen BK102.out 0; have hfz56_1 := blk_frozen BK102.out 1
                have hcz57_0 : wr.cell? ⟨gb101, 0, none⟩ = some (.int .i64 x102000_3) := bc_ BK101 0 rfl
                have hcz57_1 : wr.cell? ⟨gb101, 1, none⟩ = some (.bool x102001_3) := bc_ BK101 1 rfl
                have hfz57_0 := blk_frozen BK101.out 0; have hfz57_1 := blk_frozen BK101.out 1
                go_wp2
                refine bodyPost_ret (results_cell_row rfl _ _ gb101 54 #[.int .i64 x103000_5, .bool x103001_5] (0, 0) _ rfl (by (with_reducible repeat (first | refine blk_drewN ?_ _ | refine blk_drew ?_ | refine blk_alloc ?_ _)); refine blk_put (cs := #[.int .i64 x103000_5, .bool x102001_3]) ?_ 1 _ rfl; refine blk_put (cs := #[.int .i64 x102000_3, .bool x102001_3]) ?_ 0 _ rfl; (with_reducible repeat (first | refine blk_drewN ?_ _ | refine blk_drew ?_ | refine blk_alloc ?_ _)); exact BK101.out) Try.underlying54 rfl (by kernel_rfl)) rfl ?_
                exact ⟨by first | rfl | (simp [errW_none, errW_some] <;> rfl) | (simp only [← hji44]; first | rfl | (simp [errW_none, errW_some] <;> rfl)) | (simp [*, errW_none, errW_some] <;> rfl), by repeat (first | (with_reducible first | exact HB.out | apply below_alloc | apply pw_below_drewN | apply below_drew1 | refine below_set ?_ GE101.out | refine below_set ?_ GE102.out) | exact HB.out)⟩

end Go.Proofs.Ytfcpkehldmehjaa.X
namespace Go.Proofs.Ytfcpkehldmehjaa.X
open Go.RowKit Go.Proofs.YtfcpkehldmehjaaW.PrintWords Go.Proofs.YtfcpkehldmehjaaW.PrintLast Go.Proofs.YtfcpkehldmehjaaW.PrintMore
attribute [local go_sem] max2_int min2_int max_two min_two max_three min_three max_four min_four   -- for this text's walks alone
set_option linter.unusedVariables false
set_option linter.unusedSimpArgs false

/-! ### oculusref12_Bad: function 45 -/
def oculusref12_Bad.f (a0 : Int) : Option (Int × Int × ByteArray) := if a0 < 1 then (some (4, 2, (⟨#[]⟩ : ByteArray))) else (if a0 > 7 then (some (4, 2, (⟨#[]⟩ : ByteArray))) else (some (4, a0, (⟨#[]⟩ : ByteArray))))
set_option maxHeartbeats 8000000 in
set_option maxRecDepth 100000 in
theorem oculusref12_Bad.calls (a0 : Int) (r1 : Int) (r2 : Int) (r3 : ByteArray) (w : World) (h : oculusref12_Bad.f a0 = some (r1, r2, r3)) :
  Calls Try.prog 45 #[.int .i64 a0] w fun e w' => e = .returned (.agg #[.int .i64 r1, .int .i64 r2, .string r3]) ∧ Below w.heap.size w w' := by
 have hu23 := Try.underlying23; have HB := Aside0.mk (Below.refl w.heap.size w)
 have H : (if a0 < 1 then (some (4, 2, (⟨#[]⟩ : ByteArray))) else (if a0 > 7 then (some (4, 2, (⟨#[]⟩ : ByteArray))) else (some (4, a0, (⟨#[]⟩ : ByteArray))))) = some (r1, r2, r3) := h
 clear h
 by_cases c2 : a0 < 1
 ·rw [if_pos c2] at H; have c2b0 : decide (a0 < 1) = true := decide_eq_true c2; clear c2
  simp only [Option.some.injEq, Prod.mk.injEq] at H
  obtain ⟨rfl, rfl, rfl⟩ := H
  go_enter Try.func45, Try.ntmps45
  go_wp2_with (first | ((with_reducible refine gate_dst (N:=2) rfl ?_); refine box_event ?hg (N:=2) ?hd (cs := #[.int .i64 0, .int .i64 0, .string (⟨#[]⟩ : ByteArray)]) (t:=23) ?hr ?_; (case hd => rfl); (case hg => rfl); (case hr => first | (go_simp; done) | (go_simp; rfl)); intro gb101 hg w3 hbox hb; have BK101 := Aside0.mk (hbox); have GW101 := hs_ HB hg; have GE101 := hs_ HB hg; replace HB := bs_ HB hb; clear hb hbox hg; have hcz4_0 : w3.cell? ⟨gb101, 0, none⟩ = some (.int .i64 0) := bc_ BK101 0 rfl; have hcz4_1 : w3.cell? ⟨gb101, 1, none⟩ = some (.int .i64 0) := bc_ BK101 1 rfl; have hcz4_2 : w3.cell? ⟨gb101, 2, none⟩ = some (.string (⟨#[]⟩ : ByteArray)) := bc_ BK101 2 rfl; have hfz4_0 := blk_frozen BK101.out 0; have hfz4_1 := blk_frozen BK101.out 1; have hfz4_2 := blk_frozen BK101.out 2))
  refine bodyPost_ret (results_cell_row rfl _ _ gb101 23 #[.int .i64 4, .int .i64 2, .string (⟨#[]⟩ : ByteArray)] (0, 0) _ rfl (by (with_reducible repeat (first | refine blk_drewN ?_ _ | refine blk_drew ?_ | refine blk_alloc ?_ _)); refine blk_put (cs := #[.int .i64 4, .int .i64 2, .string (⟨#[]⟩ : ByteArray)]) ?_ 2 _ rfl; (with_reducible repeat (first | refine blk_drewN ?_ _ | refine blk_drew ?_ | refine blk_alloc ?_ _)); refine blk_put (cs := #[.int .i64 4, .int .i64 0, .string (⟨#[]⟩ : ByteArray)]) ?_ 1 _ rfl; (with_reducible repeat (first | refine blk_drewN ?_ _ | refine blk_drew ?_ | refine blk_alloc ?_ _)); refine blk_put (cs := #[.int .i64 0, .int .i64 0, .string (⟨#[]⟩ : ByteArray)]) ?_ 0 _ rfl; (with_reducible repeat (first | refine blk_drewN ?_ _ | refine blk_drew ?_ | refine blk_alloc ?_ _)); exact BK101.out) Try.underlying23 rfl (by kernel_rfl)) rfl ?_
  exact ⟨by first | rfl | (simp [errW_none, errW_some] <;> rfl) | (simp [*, errW_none, errW_some] <;> rfl), by repeat (first | (with_reducible first | exact HB.out | apply below_alloc | apply pw_below_drewN | apply below_drew1 | refine below_set ?_ GE101.out) | exact HB.out)⟩
 ·rw [if_neg c2] at H; have c2b0 : decide (a0 < 1) = false := decide_eq_false c2; clear c2
  by_cases c5 : a0 > 7
  ·rw [if_pos c5] at H; have c5b0 : decide (7 < a0) = true := decide_eq_true c5; clear c5
   simp only [Option.some.injEq, Prod.mk.injEq] at H
   obtain ⟨rfl, rfl, rfl⟩ := H
   go_enter Try.func45, Try.ntmps45
   go_wp2_with (first | ((with_reducible refine gate_dst (N:=2) rfl ?_); refine box_event ?hg (N:=2) ?hd (cs := #[.int .i64 0, .int .i64 0, .string (⟨#[]⟩ : ByteArray)]) (t:=23) ?hr ?_; (case hd => rfl); (case hg => rfl); (case hr => first | (go_simp; done) | (go_simp; rfl)); intro gb101 hg w6 hbox hb; have BK101 := Aside0.mk (hbox); have GW101 := hs_ HB hg; have GE101 := hs_ HB hg; replace HB := bs_ HB hb; clear hb hbox hg; have hcz7_0 : w6.cell? ⟨gb101, 0, none⟩ = some (.int .i64 0) := bc_ BK101 0 rfl; have hcz7_1 : w6.cell? ⟨gb101, 1, none⟩ = some (.int .i64 0) := bc_ BK101 1 rfl; have hcz7_2 : w6.cell? ⟨gb101, 2, none⟩ = some (.string (⟨#[]⟩ : ByteArray)) := bc_ BK101 2 rfl; have hfz7_0 := blk_frozen BK101.out 0; have hfz7_1 := blk_frozen BK101.out 1; have hfz7_2 := blk_frozen BK101.out 2))
   refine bodyPost_ret (results_cell_row rfl _ _ gb101 23 #[.int .i64 4, .int .i64 2, .string (⟨#[]⟩ : ByteArray)] (0, 0) _ rfl (by (with_reducible repeat (first | refine blk_drewN ?_ _ | refine blk_drew ?_ | refine blk_alloc ?_ _)); refine blk_put (cs := #[.int .i64 4, .int .i64 2, .string (⟨#[]⟩ : ByteArray)]) ?_ 2 _ rfl; (with_reducible repeat (first | refine blk_drewN ?_ _ | refine blk_drew ?_ | refine blk_alloc ?_ _)); refine blk_put (cs := #[.int .i64 4, .int .i64 0, .string (⟨#[]⟩ : ByteArray)]) ?_ 1 _ rfl; (with_reducible repeat (first | refine blk_drewN ?_ _ | refine blk_drew ?_ | refine blk_alloc ?_ _)); refine blk_put (cs := #[.int .i64 0, .int .i64 0, .string (⟨#[]⟩ : ByteArray)]) ?_ 0 _ rfl; (with_reducible repeat (first | refine blk_drewN ?_ _ | refine blk_drew ?_ | refine blk_alloc ?_ _)); exact BK101.out) Try.underlying23 rfl (by kernel_rfl)) rfl ?_
   exact ⟨by first | rfl | (simp [errW_none, errW_some] <;> rfl) | (simp [*, errW_none, errW_some] <;> rfl), by repeat (first | (with_reducible first | exact HB.out | apply below_alloc | apply pw_below_drewN | apply below_drew1 | refine below_set ?_ GE101.out) | exact HB.out)⟩
  ·rw [if_neg c5] at H; have c5b0 : decide (7 < a0) = false := decide_eq_false c5; clear c5
   simp only [Option.some.injEq, Prod.mk.injEq] at H
   obtain ⟨rfl, rfl, rfl⟩ := H
   go_enter Try.func45, Try.ntmps45
   go_wp2_with (first | ((with_reducible refine gate_dst (N:=2) rfl ?_); refine box_event ?hg (N:=2) ?hd (cs := #[.int .i64 0, .int .i64 0, .string (⟨#[]⟩ : ByteArray)]) (t:=23) ?hr ?_; (case hd => rfl); (case hg => rfl); (case hr => first | (go_simp; done) | (go_simp; rfl)); intro gb101 hg w8 hbox hb; have BK101 := Aside0.mk (hbox); have GW101 := hs_ HB hg; have GE101 := hs_ HB hg; replace HB := bs_ HB hb; clear hb hbox hg; have hcz9_0 : w8.cell? ⟨gb101, 0, none⟩ = some (.int .i64 0) := bc_ BK101 0 rfl; have hcz9_1 : w8.cell? ⟨gb101, 1, none⟩ = some (.int .i64 0) := bc_ BK101 1 rfl; have hcz9_2 : w8.cell? ⟨gb101, 2, none⟩ = some (.string (⟨#[]⟩ : ByteArray)) := bc_ BK101 2 rfl; have hfz9_0 := blk_frozen BK101.out 0; have hfz9_1 := blk_frozen BK101.out 1; have hfz9_2 := blk_frozen BK101.out 2))
   refine bodyPost_ret (results_cell_row rfl _ _ gb101 23 #[.int .i64 4, .int .i64 a0, .string (⟨#[]⟩ : ByteArray)] (0, 0) _ rfl (by (with_reducible repeat (first | refine blk_drewN ?_ _ | refine blk_drew ?_ | refine blk_alloc ?_ _)); refine blk_put (cs := #[.int .i64 4, .int .i64 a0, .string (⟨#[]⟩ : ByteArray)]) ?_ 2 _ rfl; (with_reducible repeat (first | refine blk_drewN ?_ _ | refine blk_drew ?_ | refine blk_alloc ?_ _)); refine blk_put (cs := #[.int .i64 4, .int .i64 0, .string (⟨#[]⟩ : ByteArray)]) ?_ 1 _ rfl; (with_reducible repeat (first | refine blk_drewN ?_ _ | refine blk_drew ?_ | refine blk_alloc ?_ _)); refine blk_put (cs := #[.int .i64 0, .int .i64 0, .string (⟨#[]⟩ : ByteArray)]) ?_ 0 _ rfl; (with_reducible repeat (first | refine blk_drewN ?_ _ | refine blk_drew ?_ | refine blk_alloc ?_ _)); exact BK101.out) Try.underlying23 rfl (by kernel_rfl)) rfl ?_
   exact ⟨by first | rfl | (simp [errW_none, errW_some] <;> rfl) | (simp [*, errW_none, errW_some] <;> rfl), by repeat (first | (with_reducible first | exact HB.out | apply below_alloc | apply pw_below_drewN | apply below_drew1 | refine below_set ?_ GE101.out) | exact HB.out)⟩

end Go.Proofs.Ytfcpkehldmehjaa.X
namespace Go.Proofs.Ytfcpkehldmehjaa.X
open Go.RowKit Go.Proofs.YtfcpkehldmehjaaW.PrintWords Go.Proofs.YtfcpkehldmehjaaW.PrintLast Go.Proofs.YtfcpkehldmehjaaW.PrintMore
attribute [local go_sem] max2_int min2_int max_two min_two max_three min_three max_four min_four   -- for this text's walks alone
set_option linter.unusedVariables false
set_option linter.unusedSimpArgs false

/-! ### oculusref12_Num: function 31 -/
def oculusref12_Num.f (a0 : Int) : Option (Int × Int × ByteArray) := (oculusref08_May.f a0).bind fun t102 => (if t102 = true then (some (1, a0, (⟨#[]⟩ : ByteArray))) else ((oculusref12_Bad.f 4).bind fun bt103 => (some (bt103.1, bt103.2.1, bt103.2.2))))
set_option maxHeartbeats 8000000 in
set_option maxRecDepth 100000 in
theorem oculusref12_Num.calls (a0 : Int) (r1 : Int) (r2 : Int) (r3 : ByteArray) (w : World) (h : oculusref12_Num.f a0 = some (r1, r2, r3)) :
  Calls Try.prog 31 #[.int .i64 a0] w fun e w' => e = .returned (.agg #[.int .i64 r1, .int .i64 r2, .string r3]) ∧ Below w.heap.size w w' := by
 have hu23 := Try.underlying23; have HB := Aside0.mk (Below.refl w.heap.size w)
 have H : ((oculusref08_May.f a0).bind fun t102 => (if t102 = true then (some (1, a0, (⟨#[]⟩ : ByteArray))) else ((oculusref12_Bad.f 4).bind fun bt103 => (some (bt103.1, bt103.2.1, bt103.2.2))))) = some (r1, r2, r3) := h
 clear h; replace H := Option.bind_eq_some_iff.mp H; obtain ⟨t102, A20, H⟩ := H
 replace H : (if t102 = true then (some (1, a0, (⟨#[]⟩ : ByteArray))) else ((oculusref12_Bad.f 4).bind fun bt103 => (some (bt103.1, bt103.2.1, bt103.2.2)))) = some (r1, r2, r3) := H
 have A2 := Aside0.mk A20; clear A20
 by_cases c3 : t102 = true
 ·subst c3
  have H1 : (some (1, a0, (⟨#[]⟩ : ByteArray))) = some (r1, r2, r3) := by rw [if_pos rfl] at H; exact H
  clear H; have H := H1; clear H1
  simp only [Option.some.injEq, Prod.mk.injEq] at H
  obtain ⟨rfl, rfl, rfl⟩ := H
  go_enter Try.func31, Try.ntmps31
  go_wp2_with (first | ((with_reducible refine gate_dst (N:=2) rfl ?_); refine box_event ?hg (N:=2) ?hd (cs := #[.int .i64 0, .int .i64 0, .string (⟨#[]⟩ : ByteArray)]) (t:=23) ?hr ?_; (case hd => rfl); (case hg => rfl); (case hr => first | (go_simp; done) | (go_simp; rfl)); intro gb101 hg w4 hbox hb; have BK101 := Aside0.mk (hbox); have GW101 := hs_ HB hg; have GE101 := hs_ HB hg; replace HB := bs_ HB hb; clear hb hbox hg) | ((with_reducible refine gate_callee (f:=15) rfl ?_); refine goesL_ (some 4) rfl rfl Try.func15 (by kernel_rfl) rfl #[.int .i64 a0] rfl (by (try simp only [List.map_toArray, List.map_cons, List.map_nil]); first | done | rfl | (simp only [List.length_drop, List.length_take]; rfl)) ?_; (with_reducible refine (oculusref08_May.calls a0 true _ A2.out).mono ?_); rintro e w' ⟨rfl, ⟨nd, rfl⟩⟩; refine ⟨_, rfl, ?_⟩; (try (rw [drewN_self w4]; generalize hq_ : World.drewN w4 _ = w4; have n0_ : Aside0 (w4.heap[gb101]? = some (.cells #[.int .i64 0, .int .i64 0, .string (⟨#[]⟩ : ByteArray)] 23 (0, 0))) := ⟨by rw [← hq_]; exact (pkx BK101)⟩; have n1_ : Aside0 (Below w.heap.size w w4) := ⟨by rw [← hq_]; exact (pbx HB)⟩; clear BK101 HB hq_; have BK101 := n0_; have HB := n1_; clear n0_ n1_)); have hcz5_0 : w4.cell? ⟨gb101, 0, none⟩ = some (.int .i64 0) := bc_ BK101 0 rfl; have hcz5_1 : w4.cell? ⟨gb101, 1, none⟩ = some (.int .i64 0) := bc_ BK101 1 rfl; have hcz5_2 : w4.cell? ⟨gb101, 2, none⟩ = some (.string (⟨#[]⟩ : ByteArray)) := bc_ BK101 2 rfl; have hfz5_0 := blk_frozen BK101.out 0; have hfz5_1 := blk_frozen BK101.out 1; have hfz5_2 := blk_frozen BK101.out 2))
  refine bodyPost_ret (results_cell_row rfl _ _ gb101 23 #[.int .i64 1, .int .i64 a0, .string (⟨#[]⟩ : ByteArray)] (0, 0) _ rfl (by (with_reducible repeat (first | refine blk_drewN ?_ _ | refine blk_drew ?_ | refine blk_alloc ?_ _)); refine blk_put (cs := #[.int .i64 1, .int .i64 a0, .string (⟨#[]⟩ : ByteArray)]) ?_ 2 _ rfl; (with_reducible repeat (first | refine blk_drewN ?_ _ | refine blk_drew ?_ | refine blk_alloc ?_ _)); refine blk_put (cs := #[.int .i64 1, .int .i64 0, .string (⟨#[]⟩ : ByteArray)]) ?_ 1 _ rfl; (with_reducible repeat (first | refine blk_drewN ?_ _ | refine blk_drew ?_ | refine blk_alloc ?_ _)); refine blk_put (cs := #[.int .i64 0, .int .i64 0, .string (⟨#[]⟩ : ByteArray)]) ?_ 0 _ rfl; (with_reducible repeat (first | refine blk_drewN ?_ _ | refine blk_drew ?_ | refine blk_alloc ?_ _)); exact BK101.out) Try.underlying23 rfl (by kernel_rfl)) rfl ?_
  exact ⟨by first | rfl | (simp [errW_none, errW_some] <;> rfl) | (simp [*, errW_none, errW_some] <;> rfl), by repeat (first | (with_reducible first | exact HB.out | apply below_alloc | apply pw_below_drewN | apply below_drew1 | refine below_set ?_ GE101.out) | exact HB.out)⟩
 ·replace c3 := Bool.eq_false_iff.mpr c3; subst c3
  have H1 : ((oculusref12_Bad.f 4).bind fun bt103 => (some (bt103.1, bt103.2.1, bt103.2.2))) = some (r1, r2, r3) := by rw [if_neg (show ¬ (false = true) by decide)] at H; exact H
  clear H; have H := H1; clear H1; replace H := Option.bind_eq_some_iff.mp H; obtain ⟨⟨t103, t104, t105⟩, A60, H⟩ := H
  replace H : (some (t103, t104, t105)) = some (r1, r2, r3) := H
  have A6 := Aside0.mk A60; clear A60
  simp only [Option.some.injEq, Prod.mk.injEq] at H
  obtain ⟨rfl, rfl, rfl⟩ := H
  go_enter Try.func31, Try.ntmps31
  go_wp2_with (first | ((with_reducible refine gate_dst (N:=2) rfl ?_); refine box_event ?hg (N:=2) ?hd (cs := #[.int .i64 0, .int .i64 0, .string (⟨#[]⟩ : ByteArray)]) (t:=23) ?hr ?_; (case hd => rfl); (case hg => rfl); (case hr => first | (go_simp; done) | (go_simp; rfl)); intro gb101 hg w7 hbox hb; have BK101 := Aside0.mk (hbox); have GW101 := hs_ HB hg; have GE101 := hs_ HB hg; replace HB := bs_ HB hb; clear hb hbox hg) | ((with_reducible refine gate_callee (f:=15) rfl ?_); refine goesL_ (some 4) rfl rfl Try.func15 (by kernel_rfl) rfl #[.int .i64 a0] rfl (by (try simp only [List.map_toArray, List.map_cons, List.map_nil]); first | done | rfl | (simp only [List.length_drop, List.length_take]; rfl)) ?_; (with_reducible refine (oculusref08_May.calls a0 false _ A2.out).mono ?_); rintro e w' ⟨rfl, ⟨nd, rfl⟩⟩; refine ⟨_, rfl, ?_⟩; (try (rw [drewN_self w7]; generalize hq_ : World.drewN w7 _ = w7; have n0_ : Aside0 (w7.heap[gb101]? = some (.cells #[.int .i64 0, .int .i64 0, .string (⟨#[]⟩ : ByteArray)] 23 (0, 0))) := ⟨by rw [← hq_]; exact (pkx BK101)⟩; have n1_ : Aside0 (Below w.heap.size w w7) := ⟨by rw [← hq_]; exact (pbx HB)⟩; clear BK101 HB hq_; have BK101 := n0_; have HB := n1_; clear n0_ n1_))) | ((with_reducible refine gate_callee (f:=45) rfl ?_); refine goesL_ (some 6) rfl rfl Try.func45 (by kernel_rfl) rfl #[.int .i64 4] rfl (by (try simp only [List.map_toArray, List.map_cons, List.map_nil]); first | done | rfl | (simp only [List.length_drop, List.length_take]; rfl)) ?_; (with_reducible refine (oculusref12_Bad.calls 4 t103 t104 t105 _ A6.out).mono ?_); rintro e w8 ⟨rfl, hb⟩; refine ⟨_, rfl, ?_⟩; replace BK101 := bb_ BK101 hb; replace HB := bs_ HB hb; (try clear hb); (try clear hb2); (try clear hk); (try clear hi); have hcz9_0 : w8.cell? ⟨gb101, 0, none⟩ = some (.int .i64 0) := bc_ BK101 0 rfl; have hcz9_1 : w8.cell? ⟨gb101, 1, none⟩ = some (.int .i64 0) := bc_ BK101 1 rfl; have hcz9_2 : w8.cell? ⟨gb101, 2, none⟩ = some (.string (⟨#[]⟩ : ByteArray)) := bc_ BK101 2 rfl; have hfz9_0 := blk_frozen BK101.out 0; have hfz9_1 := blk_frozen BK101.out 1; have hfz9_2 := blk_frozen BK101.out 2))
  refine bodyPost_ret (results_cell_row rfl _ _ gb101 23 #[.int .i64 t103, .int .i64 t104, .string t105] (0, 0) _ rfl (by (with_reducible repeat (first | refine blk_drewN ?_ _ | refine blk_drew ?_ | refine blk_alloc ?_ _)); refine blk_put (cs := #[.int .i64 t103, .int .i64 t104, .string (⟨#[]⟩ : ByteArray)]) ?_ 2 _ rfl; (with_reducible repeat (first | refine blk_drewN ?_ _ | refine blk_drew ?_ | refine blk_alloc ?_ _)); refine blk_put (cs := #[.int .i64 t103, .int .i64 0, .string (⟨#[]⟩ : ByteArray)]) ?_ 1 _ rfl; (with_reducible repeat (first | refine blk_drewN ?_ _ | refine blk_drew ?_ | refine blk_alloc ?_ _)); refine blk_put (cs := #[.int .i64 0, .int .i64 0, .string (⟨#[]⟩ : ByteArray)]) ?_ 0 _ rfl; (with_reducible repeat (first | refine blk_drewN ?_ _ | refine blk_drew ?_ | refine blk_alloc ?_ _)); exact BK101.out) Try.underlying23 rfl (by kernel_rfl)) rfl ?_
  exact ⟨by first | rfl | (simp [errW_none, errW_some] <;> rfl) | (simp [*, errW_none, errW_some] <;> rfl), by repeat (first | (with_reducible first | exact HB.out | apply below_alloc | apply pw_below_drewN | apply below_drew1 | refine below_set ?_ GE101.out) | exact HB.out)⟩

end Go.Proofs.Ytfcpkehldmehjaa.X
namespace Go.Proofs.Ytfcpkehldmehjaa.X
open Go.RowKit Go.Proofs.YtfcpkehldmehjaaW.PrintWords Go.Proofs.YtfcpkehldmehjaaW.PrintLast Go.Proofs.YtfcpkehldmehjaaW.PrintMore
attribute [local go_sem] max2_int min2_int max_two min_two max_three min_three max_four min_four   -- for this text's walks alone
set_option linter.unusedVariables false
set_option linter.unusedSimpArgs false

/-! ### oculusref12_Bool: function 32 -/
def oculusref12_Bool.f (a0 : Bool) : Option (Int × Int × ByteArray) := if a0 = true then (some (3, 1, (⟨#[]⟩ : ByteArray))) else (some (3, 0, (⟨#[]⟩ : ByteArray)))
set_option maxHeartbeats 8000000 in
set_option maxRecDepth 100000 in
theorem oculusref12_Bool.calls (a0 : Bool) (r1 : Int) (r2 : Int) (r3 : ByteArray) (w : World) (h : oculusref12_Bool.f a0 = some (r1, r2, r3)) :
  Calls Try.prog 32 #[.bool a0] w fun e w' => e = .returned (.agg #[.int .i64 r1, .int .i64 r2, .string r3]) ∧ Below w.heap.size w w' := by
 have hu23 := Try.underlying23; have HB := Aside0.mk (Below.refl w.heap.size w)
 have H : (if a0 = true then (some (3, 1, (⟨#[]⟩ : ByteArray))) else (some (3, 0, (⟨#[]⟩ : ByteArray)))) = some (r1, r2, r3) := h
 clear h
 by_cases c2 : a0 = true
 ·subst c2
  have H1 : (some (3, 1, (⟨#[]⟩ : ByteArray))) = some (r1, r2, r3) := by rw [if_pos rfl] at H; exact H
  clear H; have H := H1; clear H1
  simp only [Option.some.injEq, Prod.mk.injEq] at H
  obtain ⟨rfl, rfl, rfl⟩ := H
  go_enter Try.func32, Try.ntmps32
  go_wp2_with (first | ((with_reducible refine gate_dst (N:=2) rfl ?_); refine box_event ?hg (N:=2) ?hd (cs := #[.int .i64 0, .int .i64 0, .string (⟨#[]⟩ : ByteArray)]) (t:=23) ?hr ?_; (case hd => rfl); (case hg => rfl); (case hr => first | (go_simp; done) | (go_simp; rfl)); intro gb101 hg w3 hbox hb; have BK101 := Aside0.mk (hbox); have GW101 := hs_ HB hg; have GE101 := hs_ HB hg; replace HB := bs_ HB hb; clear hb hbox hg; have hcz4_0 : w3.cell? ⟨gb101, 0, none⟩ = some (.int .i64 0) := bc_ BK101 0 rfl; have hcz4_1 : w3.cell? ⟨gb101, 1, none⟩ = some (.int .i64 0) := bc_ BK101 1 rfl; have hcz4_2 : w3.cell? ⟨gb101, 2, none⟩ = some (.string (⟨#[]⟩ : ByteArray)) := bc_ BK101 2 rfl; have hfz4_0 := blk_frozen BK101.out 0; have hfz4_1 := blk_frozen BK101.out 1; have hfz4_2 := blk_frozen BK101.out 2))
  refine bodyPost_ret (results_cell_row rfl _ _ gb101 23 #[.int .i64 3, .int .i64 1, .string (⟨#[]⟩ : ByteArray)] (0, 0) _ rfl (by (with_reducible repeat (first | refine blk_drewN ?_ _ | refine blk_drew ?_ | refine blk_alloc ?_ _)); refine blk_put (cs := #[.int .i64 3, .int .i64 1, .string (⟨#[]⟩ : ByteArray)]) ?_ 2 _ rfl; (with_reducible repeat (first | refine blk_drewN ?_ _ | refine blk_drew ?_ | refine blk_alloc ?_ _)); refine blk_put (cs := #[.int .i64 3, .int .i64 0, .string (⟨#[]⟩ : ByteArray)]) ?_ 1 _ rfl; (with_reducible repeat (first | refine blk_drewN ?_ _ | refine blk_drew ?_ | refine blk_alloc ?_ _)); refine blk_put (cs := #[.int .i64 0, .int .i64 0, .string (⟨#[]⟩ : ByteArray)]) ?_ 0 _ rfl; (with_reducible repeat (first | refine blk_drewN ?_ _ | refine blk_drew ?_ | refine blk_alloc ?_ _)); exact BK101.out) Try.underlying23 rfl (by kernel_rfl)) rfl ?_
  exact ⟨by first | rfl | (simp [errW_none, errW_some] <;> rfl) | (simp [*, errW_none, errW_some] <;> rfl), by repeat (first | (with_reducible first | exact HB.out | apply below_alloc | apply pw_below_drewN | apply below_drew1 | refine below_set ?_ GE101.out) | exact HB.out)⟩
 ·replace c2 := Bool.eq_false_iff.mpr c2; subst c2
  have H1 : (some (3, 0, (⟨#[]⟩ : ByteArray))) = some (r1, r2, r3) := by rw [if_neg (show ¬ (false = true) by decide)] at H; exact H
  clear H; have H := H1; clear H1
  simp only [Option.some.injEq, Prod.mk.injEq] at H
  obtain ⟨rfl, rfl, rfl⟩ := H
  go_enter Try.func32, Try.ntmps32
  go_wp2_with (first | ((with_reducible refine gate_dst (N:=2) rfl ?_); refine box_event ?hg (N:=2) ?hd (cs := #[.int .i64 0, .int .i64 0, .string (⟨#[]⟩ : ByteArray)]) (t:=23) ?hr ?_; (case hd => rfl); (case hg => rfl); (case hr => first | (go_simp; done) | (go_simp; rfl)); intro gb101 hg w5 hbox hb; have BK101 := Aside0.mk (hbox); have GW101 := hs_ HB hg; have GE101 := hs_ HB hg; replace HB := bs_ HB hb; clear hb hbox hg; have hcz6_0 : w5.cell? ⟨gb101, 0, none⟩ = some (.int .i64 0) := bc_ BK101 0 rfl; have hcz6_1 : w5.cell? ⟨gb101, 1, none⟩ = some (.int .i64 0) := bc_ BK101 1 rfl; have hcz6_2 : w5.cell? ⟨gb101, 2, none⟩ = some (.string (⟨#[]⟩ : ByteArray)) := bc_ BK101 2 rfl; have hfz6_0 := blk_frozen BK101.out 0; have hfz6_1 := blk_frozen BK101.out 1; have hfz6_2 := blk_frozen BK101.out 2))
  refine bodyPost_ret (results_cell_row rfl _ _ gb101 23 #[.int .i64 3, .int .i64 0, .string (⟨#[]⟩ : ByteArray)] (0, 0) _ rfl (by (with_reducible repeat (first | refine blk_drewN ?_ _ | refine blk_drew ?_ | refine blk_alloc ?_ _)); refine blk_put (cs := #[.int .i64 3, .int .i64 0, .string (⟨#[]⟩ : ByteArray)]) ?_ 2 _ rfl; (with_reducible repeat (first | refine blk_drewN ?_ _ | refine blk_drew ?_ | refine blk_alloc ?_ _)); refine blk_put (cs := #[.int .i64 3, .int .i64 0, .string (⟨#[]⟩ : ByteArray)]) ?_ 1 _ rfl; (with_reducible repeat (first | refine blk_drewN ?_ _ | refine blk_drew ?_ | refine blk_alloc ?_ _)); refine blk_put (cs := #[.int .i64 0, .int .i64 0, .string (⟨#[]⟩ : ByteArray)]) ?_ 0 _ rfl; (with_reducible repeat (first | refine blk_drewN ?_ _ | refine blk_drew ?_ | refine blk_alloc ?_ _)); exact BK101.out) Try.underlying23 rfl (by kernel_rfl)) rfl ?_
  exact ⟨by first | rfl | (simp [errW_none, errW_some] <;> rfl) | (simp [*, errW_none, errW_some] <;> rfl), by repeat (first | (with_reducible first | exact HB.out | apply below_alloc | apply pw_below_drewN | apply below_drew1 | refine below_set ?_ GE101.out) | exact HB.out)⟩

end Go.Proofs.Ytfcpkehldmehjaa.X
namespace Go.Proofs.Ytfcpkehldmehjaa.X
open Go.RowKit Go.Proofs.YtfcpkehldmehjaaW.PrintWords Go.Proofs.YtfcpkehldmehjaaW.PrintLast Go.Proofs.YtfcpkehldmehjaaW.PrintMore
attribute [local go_sem] max2_int min2_int max_two min_two max_three min_three max_four min_four   -- for this text's walks alone
set_option linter.unusedVariables false
set_option linter.unusedSimpArgs false

/-! ### oculusref12_Str: function 33 -/
def oculusref12_Str.f (a0 : ByteArray) : Option (Int × Int × ByteArray) := if (a0.size : Int) > 256 then ((oculusref12_Bad.f 2).bind fun bt102 => (some (bt102.1, bt102.2.1, bt102.2.2))) else (some (2, 0, a0))
set_option maxHeartbeats 8000000 in
set_option maxRecDepth 100000 in
theorem oculusref12_Str.calls (a0 : ByteArray) (r1 : Int) (r2 : Int) (r3 : ByteArray) (w : World) (h : oculusref12_Str.f a0 = some (r1, r2, r3)) :
  Calls Try.prog 33 #[.string a0] w fun e w' => e = .returned (.agg #[.int .i64 r1, .int .i64 r2, .string r3]) ∧ Below w.heap.size w w' := by
 have hu23 := Try.underlying23; have HB := Aside0.mk (Below.refl w.heap.size w)
 have H : (if (a0.size : Int) > 256 then ((oculusref12_Bad.f 2).bind fun bt102 => (some (bt102.1, bt102.2.1, bt102.2.2))) else (some (2, 0, a0))) = some (r1, r2, r3) := h
 clear h
 by_cases c2 : (a0.size : Int) > 256
 ·rw [if_pos c2] at H; have c2b0 : decide (256 < (a0.size : Int)) = true := decide_eq_true c2; have c2b1 : decide (256 < a0.size) = true := decide_eq_true (by omega); clear c2; replace H := Option.bind_eq_some_iff.mp H; obtain ⟨⟨t102, t103, t104⟩, A30, H⟩ := H
  replace H : (some (t102, t103, t104)) = some (r1, r2, r3) := H
  have A3 := Aside0.mk A30; clear A30
  simp only [Option.some.injEq, Prod.mk.injEq] at H
  obtain ⟨rfl, rfl, rfl⟩ := H
  go_enter Try.func33, Try.ntmps33
  go_wp2_with (first | ((with_reducible refine gate_dst (N:=2) rfl ?_); refine box_event ?hg (N:=2) ?hd (cs := #[.int .i64 0, .int .i64 0, .string (⟨#[]⟩ : ByteArray)]) (t:=23) ?hr ?_; (case hd => rfl); (case hg => rfl); (case hr => first | (go_simp; done) | (go_simp; rfl)); intro gb101 hg w4 hbox hb; have BK101 := Aside0.mk (hbox); have GW101 := hs_ HB hg; have GE101 := hs_ HB hg; replace HB := bs_ HB hb; clear hb hbox hg) | ((with_reducible refine gate_callee (f:=45) rfl ?_); refine goesL_ (some 6) rfl rfl Try.func45 (by kernel_rfl) rfl #[.int .i64 2] rfl (by (try simp only [List.map_toArray, List.map_cons, List.map_nil]); first | done | rfl | (simp only [List.length_drop, List.length_take]; rfl)) ?_; (with_reducible refine (oculusref12_Bad.calls 2 t102 t103 t104 _ A3.out).mono ?_); rintro e w5 ⟨rfl, hb⟩; refine ⟨_, rfl, ?_⟩; replace BK101 := bb_ BK101 hb; replace HB := bs_ HB hb; (try clear hb); (try clear hb2); (try clear hk); (try clear hi); have hcz6_0 : w5.cell? ⟨gb101, 0, none⟩ = some (.int .i64 0) := bc_ BK101 0 rfl; have hcz6_1 : w5.cell? ⟨gb101, 1, none⟩ = some (.int .i64 0) := bc_ BK101 1 rfl; have hcz6_2 : w5.cell? ⟨gb101, 2, none⟩ = some (.string (⟨#[]⟩ : ByteArray)) := bc_ BK101 2 rfl; have hfz6_0 := blk_frozen BK101.out 0; have hfz6_1 := blk_frozen BK101.out 1; have hfz6_2 := blk_frozen BK101.out 2))
  refine bodyPost_ret (results_cell_row rfl _ _ gb101 23 #[.int .i64 t102, .int .i64 t103, .string t104] (0, 0) _ rfl (by (with_reducible repeat (first | refine blk_drewN ?_ _ | refine blk_drew ?_ | refine blk_alloc ?_ _)); refine blk_put (cs := #[.int .i64 t102, .int .i64 t103, .string (⟨#[]⟩ : ByteArray)]) ?_ 2 _ rfl; (with_reducible repeat (first | refine blk_drewN ?_ _ | refine blk_drew ?_ | refine blk_alloc ?_ _)); refine blk_put (cs := #[.int .i64 t102, .int .i64 0, .string (⟨#[]⟩ : ByteArray)]) ?_ 1 _ rfl; (with_reducible repeat (first | refine blk_drewN ?_ _ | refine blk_drew ?_ | refine blk_alloc ?_ _)); refine blk_put (cs := #[.int .i64 0, .int .i64 0, .string (⟨#[]⟩ : ByteArray)]) ?_ 0 _ rfl; (with_reducible repeat (first | refine blk_drewN ?_ _ | refine blk_drew ?_ | refine blk_alloc ?_ _)); exact BK101.out) Try.underlying23 rfl (by kernel_rfl)) rfl ?_
  exact ⟨by first | rfl | (simp [errW_none, errW_some] <;> rfl) | (simp [*, errW_none, errW_some] <;> rfl), by repeat (first | (with_reducible first | exact HB.out | apply below_alloc | apply pw_below_drewN | apply below_drew1 | refine below_set ?_ GE101.out) | exact HB.out)⟩
 ·rw [if_neg c2] at H; have c2b0 : decide (256 < (a0.size : Int)) = false := decide_eq_false c2; have c2b1 : decide (256 < a0.size) = false := decide_eq_false (by omega); clear c2
  simp only [Option.some.injEq, Prod.mk.injEq] at H
  obtain ⟨rfl, rfl, rfl⟩ := H
  go_enter Try.func33, Try.ntmps33
  go_wp2_with (first | ((with_reducible refine gate_dst (N:=2) rfl ?_); refine box_event ?hg (N:=2) ?hd (cs := #[.int .i64 0, .int .i64 0, .string (⟨#[]⟩ : ByteArray)]) (t:=23) ?hr ?_; (case hd => rfl); (case hg => rfl); (case hr => first | (go_simp; done) | (go_simp; rfl)); intro gb101 hg w7 hbox hb; have BK101 := Aside0.mk (hbox); have GW101 := hs_ HB hg; have GE101 := hs_ HB hg; replace HB := bs_ HB hb; clear hb hbox hg; have hcz8_0 : w7.cell? ⟨gb101, 0, none⟩ = some (.int .i64 0) := bc_ BK101 0 rfl; have hcz8_1 : w7.cell? ⟨gb101, 1, none⟩ = some (.int .i64 0) := bc_ BK101 1 rfl; have hcz8_2 : w7.cell? ⟨gb101, 2, none⟩ = some (.string (⟨#[]⟩ : ByteArray)) := bc_ BK101 2 rfl; have hfz8_0 := blk_frozen BK101.out 0; have hfz8_1 := blk_frozen BK101.out 1; have hfz8_2 := blk_frozen BK101.out 2))
  refine bodyPost_ret (results_cell_row rfl _ _ gb101 23 #[.int .i64 2, .int .i64 0, .string a0] (0, 0) _ rfl (by (with_reducible repeat (first | refine blk_drewN ?_ _ | refine blk_drew ?_ | refine blk_alloc ?_ _)); refine blk_put (cs := #[.int .i64 2, .int .i64 0, .string (⟨#[]⟩ : ByteArray)]) ?_ 2 _ rfl; (with_reducible repeat (first | refine blk_drewN ?_ _ | refine blk_drew ?_ | refine blk_alloc ?_ _)); refine blk_put (cs := #[.int .i64 2, .int .i64 0, .string (⟨#[]⟩ : ByteArray)]) ?_ 1 _ rfl; (with_reducible repeat (first | refine blk_drewN ?_ _ | refine blk_drew ?_ | refine blk_alloc ?_ _)); refine blk_put (cs := #[.int .i64 0, .int .i64 0, .string (⟨#[]⟩ : ByteArray)]) ?_ 0 _ rfl; (with_reducible repeat (first | refine blk_drewN ?_ _ | refine blk_drew ?_ | refine blk_alloc ?_ _)); exact BK101.out) Try.underlying23 rfl (by kernel_rfl)) rfl ?_
  exact ⟨by first | rfl | (simp [errW_none, errW_some] <;> rfl) | (simp [*, errW_none, errW_some] <;> rfl), by repeat (first | (with_reducible first | exact HB.out | apply below_alloc | apply pw_below_drewN | apply below_drew1 | refine below_set ?_ GE101.out) | exact HB.out)⟩

end Go.Proofs.Ytfcpkehldmehjaa.X
namespace Go.Proofs.Ytfcpkehldmehjaa.X
open Go.RowKit Go.Proofs.YtfcpkehldmehjaaW.PrintWords Go.Proofs.YtfcpkehldmehjaaW.PrintLast Go.Proofs.YtfcpkehldmehjaaW.PrintMore
attribute [local go_sem] max2_int min2_int max_two min_two max_three min_three max_four min_four   -- for this text's walks alone
set_option linter.unusedVariables false
set_option linter.unusedSimpArgs false

/-! ### oculusref17_read: function 21 -/
def oculusref17_read.j0 : Nat → ByteArray → Bool → Option (Int × Int × ByteArray)
 | 0, _, _ => none
 | k + 1, x0, x16 => if x16 = true then ((oculusref12_Bool.f (x0.toList == ([84, 82, 85, 69] : List UInt8))).bind fun bt108 => (some (bt108.1, bt108.2.1, bt108.2.2))) else ((oculusref12_Str.f x0).bind fun bt111 => (some (bt111.1, bt111.2.1, bt111.2.2)))
def oculusref17_read.f (k : Nat) (a0 : ByteArray) : Option (Int × Int × ByteArray) := (oculusref11_Read.f k a0).bind fun bt102 => (if bt102.2 = true then ((oculusref12_Num.f bt102.1).bind fun bt105 => (some (bt105.1, bt105.2.1, bt105.2.2))) else (if a0.toList = ([84, 82, 85, 69] : List UInt8) then (oculusref17_read.j0 k a0 true) else (oculusref17_read.j0 k a0 (a0.toList == ([70, 65, 76, 83, 69] : List UInt8)))))
set_option maxHeartbeats 8000000 in
set_option maxRecDepth 100000 in
theorem oculusref17_read.calls (k : Nat) (a0 : ByteArray) (r1 : Int) (r2 : Int) (r3 : ByteArray) (w : World) (h : oculusref17_read.f k a0 = some (r1, r2, r3)) :
  Calls Try.prog 21 #[.string a0] w fun e w' => e = .returned (.agg #[.int .i64 r1, .int .i64 r2, .string r3]) ∧ Below w.heap.size w w' := by
 have hu23 := Try.underlying23; have hu54 := Try.underlying54; have HB := Aside0.mk (Below.refl w.heap.size w)
 have H : ((oculusref11_Read.f k a0).bind fun bt102 => (if bt102.2 = true then ((oculusref12_Num.f bt102.1).bind fun bt105 => (some (bt105.1, bt105.2.1, bt105.2.2))) else (if a0.toList = ([84, 82, 85, 69] : List UInt8) then (oculusref17_read.j0 k a0 true) else (oculusref17_read.j0 k a0 (a0.toList == ([70, 65, 76, 83, 69] : List UInt8)))))) = some (r1, r2, r3) := h
 clear h; replace H := Option.bind_eq_some_iff.mp H; obtain ⟨⟨t102, t103⟩, A20, H⟩ := H
 replace H : (if t103 = true then ((oculusref12_Num.f t102).bind fun bt105 => (some (bt105.1, bt105.2.1, bt105.2.2))) else (if a0.toList = ([84, 82, 85, 69] : List UInt8) then (oculusref17_read.j0 k a0 true) else (oculusref17_read.j0 k a0 (a0.toList == ([70, 65, 76, 83, 69] : List UInt8))))) = some (r1, r2, r3) := H
 have A2 := Aside0.mk A20; clear A20
 by_cases c3 : t103 = true
 ·subst c3
  have H1 : ((oculusref12_Num.f t102).bind fun bt105 => (some (bt105.1, bt105.2.1, bt105.2.2))) = some (r1, r2, r3) := by rw [if_pos rfl] at H; exact H
  clear H; have H := H1; clear H1; replace H := Option.bind_eq_some_iff.mp H; obtain ⟨⟨t105, t106, t107⟩, A40, H⟩ := H
  replace H : (some (t105, t106, t107)) = some (r1, r2, r3) := H
  have A4 := Aside0.mk A40; clear A40
  simp only [Option.some.injEq, Prod.mk.injEq] at H
  obtain ⟨rfl, rfl, rfl⟩ := H
  go_enter Try.func21, Try.ntmps21
  go_wp2_with (first | ((with_reducible refine gate_dst (N:=2) rfl ?_); refine box_event ?hg (N:=2) ?hd (cs := #[.int .i64 0, .int .i64 0, .string (⟨#[]⟩ : ByteArray)]) (t:=23) ?hr ?_; (case hd => rfl); (case hg => rfl); (case hr => first | (go_simp; done) | (go_simp; rfl)); intro gb101 hg w5 hbox hb; have BK101 := Aside0.mk (hbox); have GW101 := hs_ HB hg; have GE101 := hs_ HB hg; replace HB := bs_ HB hb; clear hb hbox hg) | ((with_reducible refine gate_callee (f:=30) rfl ?_); refine goesL_ (some 5) rfl rfl Try.func30 (by kernel_rfl) rfl #[.string a0] rfl (by (try simp only [List.map_toArray, List.map_cons, List.map_nil]); first | done | rfl | (simp only [List.length_drop, List.length_take]; rfl)) ?_; (with_reducible refine (oculusref11_Read.calls k a0 t102 true _ A2.out).mono ?_); rintro e w6 ⟨rfl, hb⟩; refine ⟨_, rfl, ?_⟩; replace BK101 := bb_ BK101 hb; replace HB := bs_ HB hb; (try clear hb); (try clear hb2); (try clear hk); (try clear hi)) | ((with_reducible refine gate_dst (N:=3) rfl ?_); refine box_event ?hg (N:=3) ?hd (cs := #[.int .i64 0, .bool false]) (t:=54) ?hr ?_; (case hd => rfl); (case hg => rfl); (case hr => first | (go_simp; done) | (go_simp; rfl)); intro gb104 hg w7 hbox hb; have BK104 := Aside0.mk (hbox); have GW104 := hs_ HB hg; have GE104 := hs_ HB hg; have NB101_104 := hl_ BK101 hg; have NB104_101 := hr_ BK101 hg; replace BK101 := bb_ BK101 hb; replace HB := bs_ HB hb; clear hb hbox hg; have hnb8 := NB104_101.out; have hnc8 := NB101_104.out; have hcz9_0 : w7.cell? ⟨gb104, 0, none⟩ = some (.int .i64 0) := bc_ BK104 0 rfl; have hcz9_1 : w7.cell? ⟨gb104, 1, none⟩ = some (.bool false) := bc_ BK104 1 rfl; have hfz9_0 := blk_frozen BK104.out 0; have hfz9_1 := blk_frozen BK104.out 1) | ((with_reducible refine gate_callee (f:=31) rfl ?_); refine goesL_ (some 10) rfl rfl Try.func31 (by kernel_rfl) rfl #[.int .i64 t102] rfl (by (try simp only [List.map_toArray, List.map_cons, List.map_nil]); first | done | rfl | (simp only [List.length_drop, List.length_take]; rfl)) ?_; (with_reducible refine (oculusref12_Num.calls t102 t105 t106 t107 _ A4.out).mono ?_); rintro e w10 ⟨rfl, hb⟩; refine ⟨_, rfl, ?_⟩; replace BK101 := Aside0.mk (blk_below (g:=gb101) (o := .cells #[.int .i64 0, .int .i64 0, .string (⟨#[]⟩ : ByteArray)] 23 (0, 0)) (by (with_reducible repeat (first | refine blk_drewN ?_ _ | refine blk_drew ?_ | refine blk_alloc ?_ _)); refine blk_far ?_ NB101_104.out _; refine blk_far ?_ NB101_104.out _; (with_reducible repeat (first | refine blk_drewN ?_ _ | refine blk_drew ?_ | refine blk_alloc ?_ _)); exact BK101.out) hb); replace BK104 := Aside0.mk (blk_below (g:=gb104) (o := .cells #[.int .i64 t102, .bool true] 54 (0, 0)) (by (with_reducible repeat (first | refine blk_drewN ?_ _ | refine blk_drew ?_ | refine blk_alloc ?_ _)); refine blk_put (cs := #[.int .i64 t102, .bool false]) ?_ 1 _ rfl; refine blk_put (cs := #[.int .i64 0, .bool false]) ?_ 0 _ rfl; (with_reducible repeat (first | refine blk_drewN ?_ _ | refine blk_drew ?_ | refine blk_alloc ?_ _)); exact BK104.out) hb); replace HB := Aside0.mk (below_step (by repeat (first | (with_reducible first | exact HB.out | apply below_alloc | apply pw_below_drewN | apply below_drew1 | refine below_set ?_ GE101.out | refine below_set ?_ GE104.out) | exact HB.out)) hb); (try clear hb); (try clear hb2); (try clear hk); (try clear hi); have hcz11_0 : w10.cell? ⟨gb101, 0, none⟩ = some (.int .i64 0) := bc_ BK101 0 rfl; have hcz11_1 : w10.cell? ⟨gb101, 1, none⟩ = some (.int .i64 0) := bc_ BK101 1 rfl; have hcz11_2 : w10.cell? ⟨gb101, 2, none⟩ = some (.string (⟨#[]⟩ : ByteArray)) := bc_ BK101 2 rfl; have hfz11_0 := blk_frozen BK101.out 0; have hfz11_1 := blk_frozen BK101.out 1; have hfz11_2 := blk_frozen BK101.out 2))
  refine bodyPost_ret (results_cell_row rfl _ _ gb101 23 #[.int .i64 t105, .int .i64 t106, .string t107] (0, 0) _ rfl (by (with_reducible repeat (first | refine blk_drewN ?_ _ | refine blk_drew ?_ | refine blk_alloc ?_ _)); refine blk_put (cs := #[.int .i64 t105, .int .i64 t106, .string (⟨#[]⟩ : ByteArray)]) ?_ 2 _ rfl; (with_reducible repeat (first | refine blk_drewN ?_ _ | refine blk_drew ?_ | refine blk_alloc ?_ _)); refine blk_put (cs := #[.int .i64 t105, .int .i64 0, .string (⟨#[]⟩ : ByteArray)]) ?_ 1 _ rfl; (with_reducible repeat (first | refine blk_drewN ?_ _ | refine blk_drew ?_ | refine blk_alloc ?_ _)); refine blk_put (cs := #[.int .i64 0, .int .i64 0, .string (⟨#[]⟩ : ByteArray)]) ?_ 0 _ rfl; (with_reducible repeat (first | refine blk_drewN ?_ _ | refine blk_drew ?_ | refine blk_alloc ?_ _)); exact BK101.out) Try.underlying23 rfl (by kernel_rfl)) rfl ?_
  exact ⟨by first | rfl | (simp [errW_none, errW_some] <;> rfl) | (simp [*, errW_none, errW_some] <;> rfl), by repeat (first | (with_reducible first | exact HB.out | apply below_alloc | apply pw_below_drewN | apply below_drew1 | refine below_set ?_ GE101.out | refine below_set ?_ GE104.out) | exact HB.out)⟩
 ·replace c3 := Bool.eq_false_iff.mpr c3; subst c3
  have H1 : (if a0.toList = ([84, 82, 85, 69] : List UInt8) then (oculusref17_read.j0 k a0 true) else (oculusref17_read.j0 k a0 (a0.toList == ([70, 65, 76, 83, 69] : List UInt8)))) = some (r1, r2, r3) := by rw [if_neg (show ¬ (false = true) by decide)] at H; exact H
  clear H; have H := H1; clear H1; have HC12 := Aside0.mk H; clear H
  go_enter Try.func21, Try.ntmps21
  go_upto_region 4 with (first | ((with_reducible refine gate_dst (N:=2) rfl ?_); refine box_event ?hg (N:=2) ?hd (cs := #[.int .i64 0, .int .i64 0, .string (⟨#[]⟩ : ByteArray)]) (t:=23) ?hr ?_; (case hd => rfl); (case hg => rfl); (case hr => first | (go_simp; done) | (go_simp; rfl)); intro gb101 hg w13 hbox hb; have BK101 := Aside0.mk (hbox); have GW101 := hs_ HB hg; have GE101 := hs_ HB hg; replace HB := bs_ HB hb; clear hb hbox hg) | ((with_reducible refine gate_callee (f:=30) rfl ?_); refine goesL_ (some 5) rfl rfl Try.func30 (by kernel_rfl) rfl #[.string a0] rfl (by (try simp only [List.map_toArray, List.map_cons, List.map_nil]); first | done | rfl | (simp only [List.length_drop, List.length_take]; rfl)) ?_; (with_reducible refine (oculusref11_Read.calls k a0 t102 false _ A2.out).mono ?_); rintro e w14 ⟨rfl, hb⟩; refine ⟨_, rfl, ?_⟩; replace BK101 := bb_ BK101 hb; replace HB := bs_ HB hb; (try clear hb); (try clear hb2); (try clear hk); (try clear hi)) | ((with_reducible refine gate_dst (N:=3) rfl ?_); refine box_event ?hg (N:=3) ?hd (cs := #[.int .i64 0, .bool false]) (t:=54) ?hr ?_; (case hd => rfl); (case hg => rfl); (case hr => first | (go_simp; done) | (go_simp; rfl)); intro gb104 hg w15 hbox hb; have BK104 := Aside0.mk (hbox); have GW104 := hs_ HB hg; have GE104 := hs_ HB hg; have NB101_104 := hl_ BK101 hg; have NB104_101 := hr_ BK101 hg; replace BK101 := bb_ BK101 hb; replace HB := bs_ HB hb; clear hb hbox hg; have hnb16 := NB104_101.out; have hnc16 := NB101_104.out; have hcz17_0 : w15.cell? ⟨gb104, 0, none⟩ = some (.int .i64 0) := bc_ BK104 0 rfl; have hcz17_1 : w15.cell? ⟨gb104, 1, none⟩ = some (.bool false) := bc_ BK104 1 rfl; have hfz17_0 := blk_frozen BK104.out 0; have hfz17_1 := blk_frozen BK104.out 1))
  (try simp only [q_])
  go_cut [16] (fun v16 wc => ∃ (kq : Nat) (x16_11 : Bool), v16 = .bool x16_11 ∧ Aside0 (oculusref17_read.j0 kq a0 x16_11 = some (r1, r2, r3)) ∧ Aside0 (kq ≤ k) ∧ Aside0 (wc.heap[gb101]? = some (.cells #[.int .i64 0, .int .i64 0, .string (⟨#[]⟩ : ByteArray)] 23 (0, 0))) ∧ Aside0 (wc.heap[gb104]? = some (.cells #[.int .i64 t102, .bool false] 54 (0, 0))) ∧ Aside0 (Below w.heap.size w wc))
  case first =>
   have H := HC12.out; clear HC12
   by_cases c18 : a0.toList = ([84, 82, 85, 69] : List UInt8)
   ·rw [if_pos c18] at H; have c18b0 : (a0.toList == ([84, 82, 85, 69] : List UInt8)) = true := beq_iff_eq.mpr c18; have c18b1 : (a0.toList != ([84, 82, 85, 69] : List UInt8)) = false := bne_eq_false_iff_eq.mpr c18; clear c18; (first | rw [c18b0] | (simp only [i64_w, i32_w]; rw [c18b0]) | skip)
    have H' := Aside0.mk H
    clear H
    go_wp2
    go_meet
    case rel => exact ⟨_, (true), (by first | rfl | (simp; done) | (simp [*]; done)), H', ⟨by first | omega | exact Nat.le_refl _⟩, ⟨by (with_reducible repeat (first | refine blk_drewN ?_ _ | refine blk_drew ?_ | refine blk_alloc ?_ _)); refine blk_far ?_ NB101_104.out _; refine blk_far ?_ NB101_104.out _; (with_reducible repeat (first | refine blk_drewN ?_ _ | refine blk_drew ?_ | refine blk_alloc ?_ _)); exact BK101.out⟩, ⟨by (with_reducible repeat (first | refine blk_drewN ?_ _ | refine blk_drew ?_ | refine blk_alloc ?_ _)); refine blk_put (cs := #[.int .i64 t102, .bool false]) ?_ 1 _ rfl; refine blk_put (cs := #[.int .i64 0, .bool false]) ?_ 0 _ rfl; (with_reducible repeat (first | refine blk_drewN ?_ _ | refine blk_drew ?_ | refine blk_alloc ?_ _)); exact BK104.out⟩, ⟨by repeat (first | (with_reducible first | exact HB.out | apply below_alloc | apply pw_below_drewN | apply below_drew1 | refine below_set ?_ GE101.out | refine below_set ?_ GE104.out) | exact HB.out)⟩⟩
   ·rw [if_neg c18] at H; have c18b0 : (a0.toList == ([84, 82, 85, 69] : List UInt8)) = false := beq_eq_false_iff_ne.mpr c18; have c18b1 : (a0.toList != ([84, 82, 85, 69] : List UInt8)) = true := bne_iff_ne.mpr c18; (first | rw [c18b0] | (simp only [i64_w, i32_w]; rw [c18b0]) | skip)
    have H' := Aside0.mk H
    clear H
    go_wp2
    go_meet
    case rel => exact ⟨_, ((a0.toList == ([70, 65, 76, 83, 69] : List UInt8))), (by first | rfl | (simp; done) | (simp [*]; done)), H', ⟨by first | omega | exact Nat.le_refl _⟩, ⟨by (with_reducible repeat (first | refine blk_drewN ?_ _ | refine blk_drew ?_ | refine blk_alloc ?_ _)); refine blk_far ?_ NB101_104.out _; refine blk_far ?_ NB101_104.out _; (with_reducible repeat (first | refine blk_drewN ?_ _ | refine blk_drew ?_ | refine blk_alloc ?_ _)); exact BK101.out⟩, ⟨by (with_reducible repeat (first | refine blk_drewN ?_ _ | refine blk_drew ?_ | refine blk_alloc ?_ _)); refine blk_put (cs := #[.int .i64 t102, .bool false]) ?_ 1 _ rfl; refine blk_put (cs := #[.int .i64 0, .bool false]) ?_ 0 _ rfl; (with_reducible repeat (first | refine blk_drewN ?_ _ | refine blk_drew ?_ | refine blk_alloc ?_ _)); exact BK104.out⟩, ⟨by repeat (first | (with_reducible first | exact HB.out | apply below_alloc | apply pw_below_drewN | apply below_drew1 | refine below_set ?_ GE101.out | refine below_set ?_ GE104.out) | exact HB.out)⟩⟩
  case rest =>
   clear HC12; (try clear c1); (try clear c2); (try clear p2); (try clear c3); (try clear c8); (try clear c16); (try clear c18); (try clear c18b0); (try clear c18b1); (try clear hcz11_0); (try clear hcz11_1); (try clear hcz11_2); (try clear hcz17_0); (try clear hcz17_1); (try clear hcz9_0); (try clear hcz9_1); (try clear hfz11_0); (try clear hfz11_1); (try clear hfz11_2); (try clear hfz17_0); (try clear hfz17_1); (try clear hfz9_0); (try clear hfz9_1); obtain ⟨kq, x16_11, rfl, HA, HJ11, BK101, BK104, HB⟩ := hcut
   cases kq with
   | zero => exact absurd HA.out (by simp [oculusref17_read.j0])
   | succ kj11 =>
    have H := HA.out; clear HA
    simp only [oculusref17_read.j0] at H
    by_cases c19 : x16_11 = true
    ·subst c19
     have H1 : ((oculusref12_Bool.f (a0.toList == ([84, 82, 85, 69] : List UInt8))).bind fun bt108 => (some (bt108.1, bt108.2.1, bt108.2.2))) = some (r1, r2, r3) := by rw [if_pos rfl] at H; exact H
     clear H; have H := H1; clear H1; replace H := Option.bind_eq_some_iff.mp H; obtain ⟨⟨t108, t109, t110⟩, A200, H⟩ := H
     replace H : (some (t108, t109, t110)) = some (r1, r2, r3) := H
     have A20 := Aside0.mk A200; clear A200
     simp only [Option.some.injEq, Prod.mk.injEq] at H
     obtain ⟨rfl, rfl, rfl⟩ := H
     go_wp2_with (first | ((with_reducible refine gate_callee (f:=32) rfl ?_); refine goesL_ (some 19) rfl rfl Try.func32 (by kernel_rfl) rfl #[.bool (a0.toList == ([84, 82, 85, 69] : List UInt8))] rfl (by (try simp only [List.map_toArray, List.map_cons, List.map_nil]); first | done | rfl | (simp only [List.length_drop, List.length_take]; rfl)) ?_; (with_reducible refine (oculusref12_Bool.calls (a0.toList == ([84, 82, 85, 69] : List UInt8)) t108 t109 t110 _ A20.out).mono ?_); rintro e w21 ⟨rfl, hb⟩; refine ⟨_, rfl, ?_⟩; replace BK101 := bb_ BK101 hb; replace BK104 := bb_ BK104 hb; replace HB := bs_ HB hb; (try clear hb); (try clear hb2); (try clear hk); (try clear hi); have hnb22 := NB101_104.out; have hnc22 := NB104_101.out; have hcz23_0 : w21.cell? ⟨gb101, 0, none⟩ = some (.int .i64 0) := bc_ BK101 0 rfl; have hcz23_1 : w21.cell? ⟨gb101, 1, none⟩ = some (.int .i64 0) := bc_ BK101 1 rfl; have hcz23_2 : w21.cell? ⟨gb101, 2, none⟩ = some (.string (⟨#[]⟩ : ByteArray)) := bc_ BK101 2 rfl; have hfz23_0 := blk_frozen BK101.out 0; have hfz23_1 := blk_frozen BK101.out 1; have hfz23_2 := blk_frozen BK101.out 2))
     refine bodyPost_ret (results_cell_row rfl _ _ gb101 23 #[.int .i64 t108, .int .i64 t109, .string t110] (0, 0) _ rfl (by (with_reducible repeat (first | refine blk_drewN ?_ _ | refine blk_drew ?_ | refine blk_alloc ?_ _)); refine blk_put (cs := #[.int .i64 t108, .int .i64 t109, .string (⟨#[]⟩ : ByteArray)]) ?_ 2 _ rfl; (with_reducible repeat (first | refine blk_drewN ?_ _ | refine blk_drew ?_ | refine blk_alloc ?_ _)); refine blk_put (cs := #[.int .i64 t108, .int .i64 0, .string (⟨#[]⟩ : ByteArray)]) ?_ 1 _ rfl; (with_reducible repeat (first | refine blk_drewN ?_ _ | refine blk_drew ?_ | refine blk_alloc ?_ _)); refine blk_put (cs := #[.int .i64 0, .int .i64 0, .string (⟨#[]⟩ : ByteArray)]) ?_ 0 _ rfl; (with_reducible repeat (first | refine blk_drewN ?_ _ | refine blk_drew ?_ | refine blk_alloc ?_ _)); exact BK101.out) Try.underlying23 rfl (by kernel_rfl)) rfl ?_
     exact ⟨by first | rfl | (simp [errW_none, errW_some] <;> rfl) | (simp [*, errW_none, errW_some] <;> rfl), by repeat (first | (with_reducible first | exact HB.out | apply below_alloc | apply pw_below_drewN | apply below_drew1 | refine below_set ?_ GE101.out | refine below_set ?_ GE104.out) | exact HB.out)⟩
    ·replace c19 := Bool.eq_false_iff.mpr c19; subst c19
     have H1 : ((oculusref12_Str.f a0).bind fun bt111 => (some (bt111.1, bt111.2.1, bt111.2.2))) = some (r1, r2, r3) := by rw [if_neg (show ¬ (false = true) by decide)] at H; exact H
     clear H; have H := H1; clear H1; replace H := Option.bind_eq_some_iff.mp H; obtain ⟨⟨t111, t112, t113⟩, A240, H⟩ := H
     replace H : (some (t111, t112, t113)) = some (r1, r2, r3) := H
     have A24 := Aside0.mk A240; clear A240
     simp only [Option.some.injEq, Prod.mk.injEq] at H
     obtain ⟨rfl, rfl, rfl⟩ := H
     go_wp2_with (first | ((with_reducible refine gate_callee (f:=33) rfl ?_); refine goesL_ (some 21) rfl rfl Try.func33 (by kernel_rfl) rfl #[.string a0] rfl (by (try simp only [List.map_toArray, List.map_cons, List.map_nil]); first | done | rfl | (simp only [List.length_drop, List.length_take]; rfl)) ?_; (with_reducible refine (oculusref12_Str.calls a0 t111 t112 t113 _ A24.out).mono ?_); rintro e w25 ⟨rfl, hb⟩; refine ⟨_, rfl, ?_⟩; replace BK101 := bb_ BK101 hb; replace BK104 := bb_ BK104 hb; replace HB := bs_ HB hb; (try clear hb); (try clear hb2); (try clear hk); (try clear hi); have hnb26 := NB101_104.out; have hnc26 := NB104_101.out; have hcz27_0 : w25.cell? ⟨gb101, 0, none⟩ = some (.int .i64 0) := bc_ BK101 0 rfl; have hcz27_1 : w25.cell? ⟨gb101, 1, none⟩ = some (.int .i64 0) := bc_ BK101 1 rfl; have hcz27_2 : w25.cell? ⟨gb101, 2, none⟩ = some (.string (⟨#[]⟩ : ByteArray)) := bc_ BK101 2 rfl; have hfz27_0 := blk_frozen BK101.out 0; have hfz27_1 := blk_frozen BK101.out 1; have hfz27_2 := blk_frozen BK101.out 2))
     refine bodyPost_ret (results_cell_row rfl _ _ gb101 23 #[.int .i64 t111, .int .i64 t112, .string t113] (0, 0) _ rfl (by (with_reducible repeat (first | refine blk_drewN ?_ _ | refine blk_drew ?_ | refine blk_alloc ?_ _)); refine blk_put (cs := #[.int .i64 t111, .int .i64 t112, .string (⟨#[]⟩ : ByteArray)]) ?_ 2 _ rfl; (with_reducible repeat (first | refine blk_drewN ?_ _ | refine blk_drew ?_ | refine blk_alloc ?_ _)); refine blk_put (cs := #[.int .i64 t111, .int .i64 0, .string (⟨#[]⟩ : ByteArray)]) ?_ 1 _ rfl; (with_reducible repeat (first | refine blk_drewN ?_ _ | refine blk_drew ?_ | refine blk_alloc ?_ _)); refine blk_put (cs := #[.int .i64 0, .int .i64 0, .string (⟨#[]⟩ : ByteArray)]) ?_ 0 _ rfl; (with_reducible repeat (first | refine blk_drewN ?_ _ | refine blk_drew ?_ | refine blk_alloc ?_ _)); exact BK101.out) Try.underlying23 rfl (by kernel_rfl)) rfl ?_
     exact ⟨by first | rfl | (simp [errW_none, errW_some] <;> rfl) | (simp [*, errW_none, errW_some] <;> rfl), by repeat (first | (with_reducible first | exact HB.out | apply below_alloc | apply pw_below_drewN | apply below_drew1 | refine below_set ?_ GE101.out | refine below_set ?_ GE104.out) | exact HB.out)⟩

end Go.Proofs.Ytfcpkehldmehjaa.X
