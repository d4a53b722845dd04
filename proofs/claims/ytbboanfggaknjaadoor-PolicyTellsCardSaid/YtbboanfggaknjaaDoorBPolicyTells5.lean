/- Contracts of the functions that the law PolicyTells reaches, and what they answer (a session's own texts, joined; part 5). -/
import Derived.Lib.QuietBelow
import Derived.Deep.QuietTactic
import Derived.Test.YtbboanfggaknjaaDoorBPolicyTells4
namespace Go.Proofs.YtbboanfggaknjaaDoor.X
open Go.RowKit Go.Proofs.YtbboanfggaknjaaDoorW.PrintWords Go.Proofs.YtbboanfggaknjaaDoorW.PrintLast Go.Proofs.YtbboanfggaknjaaDoorW.PrintMore
attribute [local go_sem] max2_int min2_int max_two min_two max_three min_three max_four min_four
set_option linter.unusedVariables false
set_option linter.unusedSimpArgs false
def oculusref07_Wrong.j0 : Nat → Bool → Int → Int → List (S61) → List (S65) → List (S67) → Option (Int × Int)
 | 0, _, _, _, _, _, _ => none
 | k + 1, x31, x102000, x102001, x102002, x102003, x102004 => if x31 = true then (some (1, 2)) else ((oculusref05_Wrong.f k x102002 x102000 x102001).bind fun bt103 => ((oculusref06_Users.f k x102003).bind fun bt106 => ((oculusref06_Grants.f k x102004 x102003).bind fun bt109 => (if bt103.2 = 0 then (if bt106.2 = 0 then (if bt109.2 = 0 then (some (0, 0)) else (some (wrap64 ((wrap64 ((wrap64 (2 + (x102002.length : Int))) + (x102003.length : Int))) + bt109.1), bt109.2))) else (some (wrap64 ((wrap64 (2 + (x102002.length : Int))) + bt106.1), bt106.2))) else (some (wrap64 (2 + bt103.1), bt103.2))))))
def oculusref07_Wrong.f (k : Nat) (a0_0 : Int) (a0_1 : Int) (l0_2 : List (S61)) (l0_3 : List (S65)) (l0_4 : List (S67)) : Option (Int × Int) := if a0_0 < 1 then (oculusref07_Wrong.j0 k true a0_0 a0_1 l0_2 l0_3 l0_4) else (if a0_0 > 999 then (oculusref07_Wrong.j0 k true a0_0 a0_1 l0_2 l0_3 l0_4) else (if a0_1 < 1 then (oculusref07_Wrong.j0 k true a0_0 a0_1 l0_2 l0_3 l0_4) else (if a0_1 > 702 then (oculusref07_Wrong.j0 k true a0_0 a0_1 l0_2 l0_3 l0_4) else (oculusref07_Wrong.j0 k (decide ((wrap64 (a0_0 * a0_1)) > 400)) a0_0 a0_1 l0_2 l0_3 l0_4))))
set_option maxHeartbeats 8000000 in
set_option maxRecDepth 100000 in
theorem oculusref07_Wrong.calls (k : Nat) (a0_0 : Int) (a0_1 : Int) (A0_2 : Option Addr) (c0_2 : Nat) (l0_2 : List (S61)) (A0_3 : Option Addr) (c0_3 : Nat) (l0_3 : List (S65)) (A0_4 : Option Addr) (c0_4 : Nat) (l0_4 : List (S67)) (r1 : Int) (r2 : Int) (w : World) (hr0_2 : Kd.C k61 w A0_2 l0_2.length l0_2) (hc0_2 : l0_2.length ≤ c0_2) (hr0_3 : Kd.C k65 w A0_3 l0_3.length l0_3) (hc0_3 : l0_3.length ≤ c0_3) (hr0_4 : Kd.C k67 w A0_4 l0_4.length l0_4) (hc0_4 : l0_4.length ≤ c0_4) (h : oculusref07_Wrong.f k a0_0 a0_1 l0_2 l0_3 l0_4 = some (r1, r2)) :
  Calls Tryd.prog 10 #[.agg #[.int .i64 a0_0, .int .i64 a0_1, .slice A0_2 l0_2.length c0_2, .slice A0_3 l0_3.length c0_3, .slice A0_4 l0_4.length c0_4]] w fun e w' => e = .returned (.agg #[.int .i64 r1, .int .i64 r2]) ∧ Below w.heap.size w w' := by
 have hu26 := Tryd.underlying26; have hu34 := Tryd.underlying34; have HR0_2 := Aside0.mk hr0_2; have HC0_2 := Aside0.mk hc0_2; clear hr0_2 hc0_2; have HR0_3 := Aside0.mk hr0_3; have HC0_3 := Aside0.mk hc0_3; clear hr0_3 hc0_3; have HR0_4 := Aside0.mk hr0_4; have HC0_4 := Aside0.mk hc0_4; clear hr0_4 hc0_4; have HB := Aside0.mk (Below.refl w.heap.size w)
 have H : (if a0_0 < 1 then (oculusref07_Wrong.j0 k true a0_0 a0_1 l0_2 l0_3 l0_4) else (if a0_0 > 999 then (oculusref07_Wrong.j0 k true a0_0 a0_1 l0_2 l0_3 l0_4) else (if a0_1 < 1 then (oculusref07_Wrong.j0 k true a0_0 a0_1 l0_2 l0_3 l0_4) else (if a0_1 > 702 then (oculusref07_Wrong.j0 k true a0_0 a0_1 l0_2 l0_3 l0_4) else (oculusref07_Wrong.j0 k (decide ((wrap64 (a0_0 * a0_1)) > 400)) a0_0 a0_1 l0_2 l0_3 l0_4))))) = some (r1, r2) := h
 clear h; have HC2 := Aside0.mk H; clear H
 go_enter Tryd.func10, Tryd.ntmps10
 go_upto_region 1 with (first | ((with_reducible refine gate_dst (N:=1) rfl ?_); refine be_ (N:=1) (cs := #[.int .i64 a0_0, .int .i64 a0_1, .slice A0_2 l0_2.length c0_2, .slice A0_3 l0_3.length c0_3, .slice A0_4 l0_4.length c0_4]) (t:=26) ?_; intro gb101 hg w3 hbox hb; have BK101 := Aside0.mk (hbox); have GW101 := hs_ HB hg; have GE101 := hs_ HB hg; replace HB := bs_ HB hb; clear hb hbox hg) | ((with_reducible refine gate_dst (N:=2) rfl ?_); refine be_ (N:=2) (cs := #[.int .i64 0, .int .i64 0]) (t:=34) ?_; intro gb102 hg w4 hbox hb; have BK102 := Aside0.mk (hbox); have GW102 := hs_ HB hg; have GE102 := hs_ HB hg; have NB101_102 := hl_ BK101 hg; have NB102_101 := hr_ BK101 hg; replace BK101 := bb_ BK101 hb; replace HB := bs_ HB hb; clear hb hbox hg))
 (try simp only [q_])
 go_cut [31] (fun v31 wc => ∃ (kq : Nat) (x31_1 : Bool), v31 = .bool x31_1 ∧ Aside0 (oculusref07_Wrong.j0 kq x31_1 a0_0 a0_1 l0_2 l0_3 l0_4 = some (r1, r2)) ∧ Aside0 (kq ≤ k) ∧ Aside0 (wc.heap[gb101]? = some (.cells #[.int .i64 a0_0, .int .i64 a0_1, (.slice A0_2 l0_2.length c0_2), (.slice A0_3 l0_3.length c0_3), (.slice A0_4 l0_4.length c0_4)] 26 (0, 0))) ∧ Aside0 (wc.heap[gb102]? = some (.cells #[.int .i64 0, .int .i64 0] 34 (0, 0))) ∧ Aside0 (Below w.heap.size w wc))
 case first =>
  have H := HC2.out; clear HC2
  by_cases c5 : a0_0 < 1
  ·rw [if_pos c5] at H; have c5b0 : decide (a0_0 < 1) = true := decide_eq_true c5; clear c5; (first | rw [c5b0] | (simp only [i64_w, i32_w]; rw [c5b0]) | skip)
   have H' := Aside0.mk H
   clear H; have hnb6 := NB101_102.out; have hnc6 := NB102_101.out
   have hcz7_0 : w4.cell? ⟨gb101, 0, none⟩ = some (.int .i64 a0_0) := bc_ BK101 0 rfl
   have hcz7_1 : w4.cell? ⟨gb101, 1, none⟩ = some (.int .i64 a0_1) := bc_ BK101 1 rfl
   have hcz7_2 : w4.cell? ⟨gb101, 2, none⟩ = some (.slice A0_2 l0_2.length c0_2) := bc_ BK101 2 rfl
   have hcz7_3 : w4.cell? ⟨gb101, 3, none⟩ = some (.slice A0_3 l0_3.length c0_3) := bc_ BK101 3 rfl
   have hcz7_4 : w4.cell? ⟨gb101, 4, none⟩ = some (.slice A0_4 l0_4.length c0_4) := bc_ BK101 4 rfl
   have hfz7_0 := blk_frozen BK101.out 0; have hfz7_1 := blk_frozen BK101.out 1; have hfz7_2 := blk_frozen BK101.out 2; have hfz7_3 := blk_frozen BK101.out 3; have hfz7_4 := blk_frozen BK101.out 4
   go_wp2
   go_meet
   case rel => exact ⟨_, (true), (by first | rfl | (simp; done) | (simp [*]; done)), H', ⟨by first | omega | exact Nat.le_refl _⟩, ⟨pkx BK101⟩, ⟨pkx BK102⟩, ⟨pbx HB⟩⟩
  ·rw [if_neg c5] at H; have c5b0 : decide (a0_0 < 1) = false := decide_eq_false c5; clear c5; (first | rw [c5b0] | (simp only [i64_w, i32_w]; rw [c5b0]) | skip)
   by_cases c8 : a0_0 > 999
   ·rw [if_pos c8] at H; have c8b0 : decide (999 < a0_0) = true := decide_eq_true c8; clear c8
    have H' := Aside0.mk H
    clear H; have hnb9 := NB101_102.out; have hnc9 := NB102_101.out
    have hcz10_0 : w4.cell? ⟨gb101, 0, none⟩ = some (.int .i64 a0_0) := bc_ BK101 0 rfl
    have hcz10_1 : w4.cell? ⟨gb101, 1, none⟩ = some (.int .i64 a0_1) := bc_ BK101 1 rfl
    have hcz10_2 : w4.cell? ⟨gb101, 2, none⟩ = some (.slice A0_2 l0_2.length c0_2) := bc_ BK101 2 rfl
    have hcz10_3 : w4.cell? ⟨gb101, 3, none⟩ = some (.slice A0_3 l0_3.length c0_3) := bc_ BK101 3 rfl
    have hcz10_4 : w4.cell? ⟨gb101, 4, none⟩ = some (.slice A0_4 l0_4.length c0_4) := bc_ BK101 4 rfl
    have hfz10_0 := blk_frozen BK101.out 0; have hfz10_1 := blk_frozen BK101.out 1; have hfz10_2 := blk_frozen BK101.out 2; have hfz10_3 := blk_frozen BK101.out 3; have hfz10_4 := blk_frozen BK101.out 4
    go_wp2
    go_meet
    case rel => exact ⟨_, (true), (by first | rfl | (simp; done) | (simp [*]; done)), H', ⟨by first | omega | exact Nat.le_refl _⟩, ⟨pkx BK101⟩, ⟨pkx BK102⟩, ⟨pbx HB⟩⟩
   ·rw [if_neg c8] at H; have c8b0 : decide (999 < a0_0) = false := decide_eq_false c8; clear c8
    by_cases c11 : a0_1 < 1
    ·rw [if_pos c11] at H; have c11b0 : decide (a0_1 < 1) = true := decide_eq_true c11; clear c11
     have H' := Aside0.mk H
     clear H; have hnb12 := NB101_102.out; have hnc12 := NB102_101.out
     have hcz13_0 : w4.cell? ⟨gb101, 0, none⟩ = some (.int .i64 a0_0) := bc_ BK101 0 rfl
     have hcz13_1 : w4.cell? ⟨gb101, 1, none⟩ = some (.int .i64 a0_1) := bc_ BK101 1 rfl
     have hcz13_2 : w4.cell? ⟨gb101, 2, none⟩ = some (.slice A0_2 l0_2.length c0_2) := bc_ BK101 2 rfl
     have hcz13_3 : w4.cell? ⟨gb101, 3, none⟩ = some (.slice A0_3 l0_3.length c0_3) := bc_ BK101 3 rfl
     have hcz13_4 : w4.cell? ⟨gb101, 4, none⟩ = some (.slice A0_4 l0_4.length c0_4) := bc_ BK101 4 rfl
     have hfz13_0 := blk_frozen BK101.out 0; have hfz13_1 := blk_frozen BK101.out 1; have hfz13_2 := blk_frozen BK101.out 2; have hfz13_3 := blk_frozen BK101.out 3; have hfz13_4 := blk_frozen BK101.out 4
     go_wp2
     go_meet
     case rel => exact ⟨_, (true), (by first | rfl | (simp; done) | (simp [*]; done)), H', ⟨by first | omega | exact Nat.le_refl _⟩, ⟨pkx BK101⟩, ⟨pkx BK102⟩, ⟨pbx HB⟩⟩
    ·rw [if_neg c11] at H; have c11b0 : decide (a0_1 < 1) = false := decide_eq_false c11; clear c11
     by_cases c14 : a0_1 > 702
     ·rw [if_pos c14] at H; have c14b0 : decide (702 < a0_1) = true := decide_eq_true c14; clear c14
      have H' := Aside0.mk H
      clear H; have hnb15 := NB101_102.out; have hnc15 := NB102_101.out
      have hcz16_0 : w4.cell? ⟨gb101, 0, none⟩ = some (.int .i64 a0_0) := bc_ BK101 0 rfl
      have hcz16_1 : w4.cell? ⟨gb101, 1, none⟩ = some (.int .i64 a0_1) := bc_ BK101 1 rfl
      have hcz16_2 : w4.cell? ⟨gb101, 2, none⟩ = some (.slice A0_2 l0_2.length c0_2) := bc_ BK101 2 rfl
      have hcz16_3 : w4.cell? ⟨gb101, 3, none⟩ = some (.slice A0_3 l0_3.length c0_3) := bc_ BK101 3 rfl
      have hcz16_4 : w4.cell? ⟨gb101, 4, none⟩ = some (.slice A0_4 l0_4.length c0_4) := bc_ BK101 4 rfl
      have hfz16_0 := blk_frozen BK101.out 0; have hfz16_1 := blk_frozen BK101.out 1; have hfz16_2 := blk_frozen BK101.out 2; have hfz16_3 := blk_frozen BK101.out 3; have hfz16_4 := blk_frozen BK101.out 4
      go_wp2
      go_meet
      case rel => exact ⟨_, (true), (by first | rfl | (simp; done) | (simp [*]; done)), H', ⟨by first | omega | exact Nat.le_refl _⟩, ⟨pkx BK101⟩, ⟨pkx BK102⟩, ⟨pbx HB⟩⟩
     ·rw [if_neg c14] at H; have c14b0 : decide (702 < a0_1) = false := decide_eq_false c14; clear c14
      have H' := Aside0.mk H
      clear H; have hnb17 := NB101_102.out; have hnc17 := NB102_101.out
      have hcz18_0 : w4.cell? ⟨gb101, 0, none⟩ = some (.int .i64 a0_0) := bc_ BK101 0 rfl
      have hcz18_1 : w4.cell? ⟨gb101, 1, none⟩ = some (.int .i64 a0_1) := bc_ BK101 1 rfl
      have hcz18_2 : w4.cell? ⟨gb101, 2, none⟩ = some (.slice A0_2 l0_2.length c0_2) := bc_ BK101 2 rfl
      have hcz18_3 : w4.cell? ⟨gb101, 3, none⟩ = some (.slice A0_3 l0_3.length c0_3) := bc_ BK101 3 rfl
      have hcz18_4 : w4.cell? ⟨gb101, 4, none⟩ = some (.slice A0_4 l0_4.length c0_4) := bc_ BK101 4 rfl
      have hfz18_0 := blk_frozen BK101.out 0; have hfz18_1 := blk_frozen BK101.out 1; have hfz18_2 := blk_frozen BK101.out 2; have hfz18_3 := blk_frozen BK101.out 3; have hfz18_4 := blk_frozen BK101.out 4
      go_wp2
      go_meet
      case rel => exact ⟨_, (decide ((wrap64 (a0_0 * a0_1)) > 400)), (by first | rfl | (simp; done) | (simp [*]; done)), H', ⟨by first | omega | exact Nat.le_refl _⟩, ⟨pkx BK101⟩, ⟨pkx BK102⟩, ⟨pbx HB⟩⟩
 case rest =>
  clear HC2; (try clear c1); (try clear p2); (try clear c5); (try clear c5b0); (try clear c6); (try clear p6); (try clear c8); (try clear c8b0); (try clear c9); (try clear c10); (try clear c11); (try clear c11b0); (try clear c12); (try clear c14); (try clear c14b0); (try clear c15); (try clear c17); (try clear hcz10_0); (try clear hcz10_1); (try clear hcz10_2); (try clear hcz10_3); (try clear hcz10_4); (try clear hcz13_0); (try clear hcz13_1); (try clear hcz13_2); (try clear hcz13_3); (try clear hcz13_4); (try clear hcz16_0); (try clear hcz16_1); (try clear hcz16_2); (try clear hcz16_3); (try clear hcz16_4); (try clear hcz18_0); (try clear hcz18_1); (try clear hcz18_2); (try clear hcz18_3); (try clear hcz18_4); (try clear hcz7_0); (try clear hcz7_1); (try clear hcz7_2); (try clear hcz7_3); (try clear hcz7_4); (try clear hfz10_0); (try clear hfz10_1); (try clear hfz10_2); (try clear hfz10_3)
  (try clear hfz10_4); (try clear hfz13_0); (try clear hfz13_1); (try clear hfz13_2); (try clear hfz13_3); (try clear hfz13_4); (try clear hfz16_0); (try clear hfz16_1); (try clear hfz16_2); (try clear hfz16_3); (try clear hfz16_4); (try clear hfz18_0); (try clear hfz18_1); (try clear hfz18_2); (try clear hfz18_3); (try clear hfz18_4); (try clear hfz7_0); (try clear hfz7_1); (try clear hfz7_2); (try clear hfz7_3); (try clear hfz7_4); obtain ⟨kq, x31_1, rfl, HA, HJ1, BK101, BK102, HB⟩ := hcut
  cases kq with
  | zero => exact absurd HA.out (by simp [oculusref07_Wrong.j0])
  | succ kj1 =>
   have H := HA.out; clear HA
   simp only [oculusref07_Wrong.j0] at H
   by_cases c19 : x31_1 = true
   ·subst c19
    have H1 : (some (1, 2)) = some (r1, r2) := by rw [if_pos rfl] at H; exact H
    clear H; have H := H1; clear H1
    simp only [Option.some.injEq, Prod.mk.injEq] at H
    obtain ⟨rfl, rfl⟩ := H; have hnb20 := NB102_101.out; have hnc20 := NB101_102.out
    have hcz21_0 : wc.cell? ⟨gb102, 0, none⟩ = some (.int .i64 0) := bc_ BK102 0 rfl
    have hcz21_1 : wc.cell? ⟨gb102, 1, none⟩ = some (.int .i64 0) := bc_ BK102 1 rfl
    have hfz21_0 := blk_frozen BK102.out 0; have hfz21_1 := blk_frozen BK102.out 1
    go_wp2
    refine bodyPost_ret (results_cell_row rfl _ _ gb102 34 #[.int .i64 1, .int .i64 2] (0, 0) _ rfl (by refine pp_ (cs := #[.int .i64 1, .int .i64 0]) 1 ?_ rfl; refine blk_put (cs := #[.int .i64 0, .int .i64 0]) ?_ 0 _ rfl; exact pkx BK102) Tryd.underlying34 rfl (by kernel_rfl)) rfl ?_
    exact ⟨by first | rfl | (simp [errW_none, errW_some] <;> rfl) | (simp [*, errW_none, errW_some] <;> rfl), by repeat (first | (with_reducible first | exact HB.out | apply below_alloc | apply pw_below_drewN | apply below_drew1 | refine below_set ?_ GE101.out | refine below_set ?_ GE102.out) | exact HB.out)⟩
   ·replace c19 := Bool.eq_false_iff.mpr c19; subst c19
    have H1 : ((oculusref05_Wrong.f kj1 l0_2 a0_0 a0_1).bind fun bt103 => ((oculusref06_Users.f kj1 l0_3).bind fun bt106 => ((oculusref06_Grants.f kj1 l0_4 l0_3).bind fun bt109 => (if bt103.2 = 0 then (if bt106.2 = 0 then (if bt109.2 = 0 then (some (0, 0)) else (some (wrap64 ((wrap64 ((wrap64 (2 + (l0_2.length : Int))) + (l0_3.length : Int))) + bt109.1), bt109.2))) else (some (wrap64 ((wrap64 (2 + (l0_2.length : Int))) + bt106.1), bt106.2))) else (some (wrap64 (2 + bt103.1), bt103.2)))))) = some (r1, r2) := by rw [if_neg (show ¬ (false = true) by decide)] at H; exact H
    clear H; have H := H1; clear H1; replace H := Option.bind_eq_some_iff.mp H; obtain ⟨⟨t103, t104⟩, A220, H⟩ := H
    replace H : ((oculusref06_Users.f kj1 l0_3).bind fun bt106 => ((oculusref06_Grants.f kj1 l0_4 l0_3).bind fun bt109 => (if t104 = 0 then (if bt106.2 = 0 then (if bt109.2 = 0 then (some (0, 0)) else (some (wrap64 ((wrap64 ((wrap64 (2 + (l0_2.length : Int))) + (l0_3.length : Int))) + bt109.1), bt109.2))) else (some (wrap64 ((wrap64 (2 + (l0_2.length : Int))) + bt106.1), bt106.2))) else (some (wrap64 (2 + t103), t104))))) = some (r1, r2) := H
    have A22 := Aside0.mk A220; clear A220; replace H := Option.bind_eq_some_iff.mp H; obtain ⟨⟨t106, t107⟩, A230, H⟩ := H
    replace H : ((oculusref06_Grants.f kj1 l0_4 l0_3).bind fun bt109 => (if t104 = 0 then (if t107 = 0 then (if bt109.2 = 0 then (some (0, 0)) else (some (wrap64 ((wrap64 ((wrap64 (2 + (l0_2.length : Int))) + (l0_3.length : Int))) + bt109.1), bt109.2))) else (some (wrap64 ((wrap64 (2 + (l0_2.length : Int))) + t106), t107))) else (some (wrap64 (2 + t103), t104)))) = some (r1, r2) := H
    have A23 := Aside0.mk A230; clear A230; replace H := Option.bind_eq_some_iff.mp H; obtain ⟨⟨t109, t110⟩, A240, H⟩ := H
    replace H : (if t104 = 0 then (if t107 = 0 then (if t110 = 0 then (some (0, 0)) else (some (wrap64 ((wrap64 ((wrap64 (2 + (l0_2.length : Int))) + (l0_3.length : Int))) + t109), t110))) else (some (wrap64 ((wrap64 (2 + (l0_2.length : Int))) + t106), t107))) else (some (wrap64 (2 + t103), t104))) = some (r1, r2) := H
    have A24 := Aside0.mk A240; clear A240
    by_cases c25 : t104 = 0
    ·rw [if_pos c25] at H; have c25b0 : (t104 == 0) = true := beq_iff_eq.mpr c25; have c25b1 : (t104 != 0) = false := bne_eq_false_iff_eq.mpr c25; clear c25
     by_cases c26 : t107 = 0
     ·rw [if_pos c26] at H; have c26b0 : (t107 == 0) = true := beq_iff_eq.mpr c26; have c26b1 : (t107 != 0) = false := bne_eq_false_iff_eq.mpr c26; clear c26
      by_cases c27 : t110 = 0
      ·rw [if_pos c27] at H; have c27b0 : (t110 == 0) = true := beq_iff_eq.mpr c27; have c27b1 : (t110 != 0) = false := bne_eq_false_iff_eq.mpr c27; clear c27
       simp only [Option.some.injEq, Prod.mk.injEq] at H
       obtain ⟨rfl, rfl⟩ := H; have hnb28 := NB101_102.out; have hnc28 := NB102_101.out
       have hcz29_0 : wc.cell? ⟨gb101, 0, none⟩ = some (.int .i64 a0_0) := bc_ BK101 0 rfl
       have hcz29_1 : wc.cell? ⟨gb101, 1, none⟩ = some (.int .i64 a0_1) := bc_ BK101 1 rfl
       have hcz29_2 : wc.cell? ⟨gb101, 2, none⟩ = some (.slice A0_2 l0_2.length c0_2) := bc_ BK101 2 rfl
       have hcz29_3 : wc.cell? ⟨gb101, 3, none⟩ = some (.slice A0_3 l0_3.length c0_3) := bc_ BK101 3 rfl
       have hcz29_4 : wc.cell? ⟨gb101, 4, none⟩ = some (.slice A0_4 l0_4.length c0_4) := bc_ BK101 4 rfl
       have hfz29_0 := blk_frozen BK101.out 0; have hfz29_1 := blk_frozen BK101.out 1; have hfz29_2 := blk_frozen BK101.out 2; have hfz29_3 := blk_frozen BK101.out 3; have hfz29_4 := blk_frozen BK101.out 4
       go_wp2_with (first | ((with_reducible refine gate_callee (f:=29) rfl ?_); refine gL_ (some 39) rfl rfl Tryd.func29 rfl #[.slice A0_2 l0_2.length c0_2, .int .i64 a0_0, .int .i64 a0_1] rfl ?_; (with_reducible refine (oculusref05_Wrong.calls kj1 _ _ l0_2 a0_0 a0_1 t103 t104 _ ?side1 ?side2 A22.out).mono ?_); (case side1 => repeat (first | exact (Kd.C_below HR0_2.out HB.out) | (with_reducible refine Kd.C_alloc ?_ _) | (with_reducible refine Kd.C_drewN ?_ _) | (with_reducible refine Kd.C_drew ?_))); (case side2 => exact HC0_2.out); rintro e w30 ⟨rfl, hb⟩; refine ⟨_, rfl, ?_⟩; replace BK101 := bb_ BK101 hb; replace BK102 := bb_ BK102 hb; replace HB := bs_ HB hb; (try clear hb); (try clear hb2); (try clear hk); (try clear hi)) | ((with_reducible refine gate_dst (N:=3) rfl ?_); refine be_ (N:=3) (cs := #[.int .i64 0, .int .i64 0]) (t:=34) ?_; intro gb105 hg w31 hbox hb; have BK105 := Aside0.mk (hbox); have GW105 := hs_ HB hg; have GE105 := hs_ HB hg; have NB101_105 := hl_ BK101 hg; have NB105_101 := hr_ BK101 hg; have NB102_105 := hl_ BK102 hg; have NB105_102 := hr_ BK102 hg; replace BK101 := bb_ BK101 hb; replace BK102 := bb_ BK102 hb; replace HB := bs_ HB hb; clear hb hbox hg; have hnb32 := NB105_101.out; have hnc32 := NB101_105.out; have hnb33 := NB105_102.out; have hnc33 := NB102_105.out; have hcz34_0 : w31.cell? ⟨gb105, 0, none⟩ = some (.int .i64 0) := bc_ BK105 0 rfl; have hcz34_1 : w31.cell? ⟨gb105, 1, none⟩ = some (.int .i64 0) := bc_ BK105 1 rfl; have hfz34_0 := blk_frozen BK105.out 0; have hfz34_1 := blk_frozen BK105.out 1; have hcz35_0 : w31.cell? ⟨gb101, 0, none⟩ = some (.int .i64 a0_0) := bc_ BK101 0 rfl; have hcz35_1 : w31.cell? ⟨gb101, 1, none⟩ = some (.int .i64 a0_1) := bc_ BK101 1 rfl; have hcz35_2 : w31.cell? ⟨gb101, 2, none⟩ = some (.slice A0_2 l0_2.length c0_2) := bc_ BK101 2 rfl; have hcz35_3 : w31.cell? ⟨gb101, 3, none⟩ = some (.slice A0_3 l0_3.length c0_3) := bc_ BK101 3 rfl; have hcz35_4 : w31.cell? ⟨gb101, 4, none⟩ = some (.slice A0_4 l0_4.length c0_4) := bc_ BK101 4 rfl; have hfz35_0 := blk_frozen BK101.out 0; have hfz35_1 := blk_frozen BK101.out 1; have hfz35_2 := blk_frozen BK101.out 2; have hfz35_3 := blk_frozen BK101.out 3; have hfz35_4 := blk_frozen BK101.out 4) | ((with_reducible refine gate_callee (f:=30) rfl ?_); refine gL_ (some 42) rfl rfl Tryd.func30 rfl #[.slice A0_3 l0_3.length c0_3] rfl ?_; (with_reducible refine (oculusref06_Users.calls kj1 _ _ l0_3 t106 t107 _ ?side1 ?side2 A23.out).mono ?_); (case side1 => exact Kd.C_below HR0_3.out (by repeat (first | (with_reducible first | exact HB.out | apply below_alloc | apply pw_below_drewN | apply below_drew1 | refine below_set ?_ GE101.out | refine below_set ?_ GE102.out | refine below_set ?_ GE105.out) | exact HB.out))); (case side2 => exact HC0_3.out); rintro e w36 ⟨rfl, hb⟩; refine ⟨_, rfl, ?_⟩; replace BK101 := Aside0.mk (blk_below (g:=gb101) (o := .cells #[.int .i64 a0_0, .int .i64 a0_1, .slice A0_2 l0_2.length c0_2, .slice A0_3 l0_3.length c0_3, .slice A0_4 l0_4.length c0_4] 26 (0, 0)) (by refine pf_ ?_ NB101_105.out; refine blk_far ?_ NB101_105.out _; exact pkx BK101) hb); replace BK102 := Aside0.mk (blk_below (g:=gb102) (o := .cells #[.int .i64 0, .int .i64 0] 34 (0, 0)) (by refine pf_ ?_ NB102_105.out; refine blk_far ?_ NB102_105.out _; exact pkx BK102) hb); replace BK105 := Aside0.mk (blk_below (g:=gb105) (o := .cells #[.int .i64 t103, .int .i64 t104] 34 (0, 0)) (by refine pp_ (cs := #[.int .i64 t103, .int .i64 0]) 1 ?_ rfl; refine blk_put (cs := #[.int .i64 0, .int .i64 0]) ?_ 0 _ rfl; exact pkx BK105) hb); replace HB := Aside0.mk (below_step (by repeat (first | (with_reducible first | exact HB.out | apply below_alloc | apply pw_below_drewN | apply below_drew1 | refine below_set ?_ GE101.out | refine below_set ?_ GE102.out | refine below_set ?_ GE105.out) | exact HB.out)) hb); (try clear hb); (try clear hb2); (try clear hk); (try clear hi)) | ((with_reducible refine gate_dst (N:=4) rfl ?_); refine be_ (N:=4) (cs := #[.int .i64 0, .int .i64 0]) (t:=34) ?_; intro gb108 hg w37 hbox hb; have BK108 := Aside0.mk (hbox); have GW108 := hs_ HB hg; have GE108 := hs_ HB hg; have NB101_108 := hl_ BK101 hg; have NB108_101 := hr_ BK101 hg; have NB102_108 := hl_ BK102 hg; have NB108_102 := hr_ BK102 hg; have NB105_108 := hl_ BK105 hg; have NB108_105 := hr_ BK105 hg; replace BK101 := bb_ BK101 hb; replace BK102 := bb_ BK102 hb; replace BK105 := bb_ BK105 hb; replace HB := bs_ HB hb; clear hb hbox hg; have hnb38 := NB108_101.out; have hnc38 := NB101_108.out; have hnb39 := NB108_102.out; have hnc39 := NB102_108.out; have hnb40 := NB108_105.out; have hnc40 := NB105_108.out; have hcz41_0 : w37.cell? ⟨gb108, 0, none⟩ = some (.int .i64 0) := bc_ BK108 0 rfl; have hcz41_1 : w37.cell? ⟨gb108, 1, none⟩ = some (.int .i64 0) := bc_ BK108 1 rfl; have hfz41_0 := blk_frozen BK108.out 0; have hfz41_1 := blk_frozen BK108.out 1; have hcz42_0 : w37.cell? ⟨gb101, 0, none⟩ = some (.int .i64 a0_0) := bc_ BK101 0 rfl; have hcz42_1 : w37.cell? ⟨gb101, 1, none⟩ = some (.int .i64 a0_1) := bc_ BK101 1 rfl; have hcz42_2 : w37.cell? ⟨gb101, 2, none⟩ = some (.slice A0_2 l0_2.length c0_2) := bc_ BK101 2 rfl; have hcz42_3 : w37.cell? ⟨gb101, 3, none⟩ = some (.slice A0_3 l0_3.length c0_3) := bc_ BK101 3 rfl; have hcz42_4 : w37.cell? ⟨gb101, 4, none⟩ = some (.slice A0_4 l0_4.length c0_4) := bc_ BK101 4 rfl; have hfz42_0 := blk_frozen BK101.out 0; have hfz42_1 := blk_frozen BK101.out 1; have hfz42_2 := blk_frozen BK101.out 2; have hfz42_3 := blk_frozen BK101.out 3; have hfz42_4 := blk_frozen BK101.out 4) | ((with_reducible refine gate_callee (f:=31) rfl ?_); refine gL_ (some 47) rfl rfl Tryd.func31 rfl #[.slice A0_4 l0_4.length c0_4, .slice A0_3 l0_3.length c0_3] rfl ?_; (with_reducible refine (oculusref06_Grants.calls kj1 _ _ l0_4 _ _ l0_3 t109 t110 _ ?side1 ?side2 ?side3 ?side4 A24.out).mono ?_); (case side1 => exact Kd.C_below HR0_4.out (by repeat (first | (with_reducible first | exact HB.out | apply below_alloc | apply pw_below_drewN | apply below_drew1 | refine below_set ?_ GE101.out | refine below_set ?_ GE102.out | refine below_set ?_ GE105.out | refine below_set ?_ GE108.out) | exact HB.out))); (case side2 => exact HC0_4.out); (case side3 => exact Kd.C_below HR0_3.out (by repeat (first | (with_reducible first | exact HB.out | apply below_alloc | apply pw_below_drewN | apply below_drew1 | refine below_set ?_ GE101.out | refine below_set ?_ GE102.out | refine below_set ?_ GE105.out | refine below_set ?_ GE108.out) | exact HB.out))); (case side4 => exact HC0_3.out); rintro e w43 ⟨rfl, hb⟩; refine ⟨_, rfl, ?_⟩; replace BK101 := Aside0.mk (blk_below (g:=gb101) (o := .cells #[.int .i64 a0_0, .int .i64 a0_1, .slice A0_2 l0_2.length c0_2, .slice A0_3 l0_3.length c0_3, .slice A0_4 l0_4.length c0_4] 26 (0, 0)) (by refine pf_ ?_ NB101_108.out; refine blk_far ?_ NB101_108.out _; exact pkx BK101) hb); replace BK102 := Aside0.mk (blk_below (g:=gb102) (o := .cells #[.int .i64 0, .int .i64 0] 34 (0, 0)) (by refine pf_ ?_ NB102_108.out; refine blk_far ?_ NB102_108.out _; exact pkx BK102) hb); replace BK105 := Aside0.mk (blk_below (g:=gb105) (o := .cells #[.int .i64 t103, .int .i64 t104] 34 (0, 0)) (by refine pf_ ?_ NB105_108.out; refine blk_far ?_ NB105_108.out _; exact pkx BK105) hb); replace BK108 := Aside0.mk (blk_below (g:=gb108) (o := .cells #[.int .i64 t106, .int .i64 t107] 34 (0, 0)) (by refine pp_ (cs := #[.int .i64 t106, .int .i64 0]) 1 ?_ rfl; refine blk_put (cs := #[.int .i64 0, .int .i64 0]) ?_ 0 _ rfl; exact pkx BK108) hb); replace HB := Aside0.mk (below_step (by repeat (first | (with_reducible first | exact HB.out | apply below_alloc | apply pw_below_drewN | apply below_drew1 | refine below_set ?_ GE101.out | refine below_set ?_ GE102.out | refine below_set ?_ GE105.out | refine below_set ?_ GE108.out) | exact HB.out)) hb); (try clear hb); (try clear hb2); (try clear hk); (try clear hi)) | ((with_reducible refine gate_dst (N:=5) rfl ?_); refine be_ (N:=5) (cs := #[.int .i64 0, .int .i64 0]) (t:=34) ?_; intro gb111 hg w44 hbox hb; have BK111 := Aside0.mk (hbox); have GW111 := hs_ HB hg; have GE111 := hs_ HB hg; have NB101_111 := hl_ BK101 hg; have NB111_101 := hr_ BK101 hg; have NB102_111 := hl_ BK102 hg; have NB111_102 := hr_ BK102 hg; have NB105_111 := hl_ BK105 hg; have NB111_105 := hr_ BK105 hg; have NB108_111 := hl_ BK108 hg; have NB111_108 := hr_ BK108 hg; replace BK101 := bb_ BK101 hb; replace BK102 := bb_ BK102 hb; replace BK105 := bb_ BK105 hb; replace BK108 := bb_ BK108 hb; replace HB := bs_ HB hb; clear hb hbox hg; have hnb45 := NB111_101.out; have hnc45 := NB101_111.out; have hnb46 := NB111_102.out; have hnc46 := NB102_111.out; have hnb47 := NB111_105.out; have hnc47 := NB105_111.out; have hnb48 := NB111_108.out; have hnc48 := NB108_111.out; have hcz49_0 : w44.cell? ⟨gb111, 0, none⟩ = some (.int .i64 0) := bc_ BK111 0 rfl; have hcz49_1 : w44.cell? ⟨gb111, 1, none⟩ = some (.int .i64 0) := bc_ BK111 1 rfl; have hfz49_0 := blk_frozen BK111.out 0; have hfz49_1 := blk_frozen BK111.out 1; have hcz50_0 : w44.cell? ⟨gb105, 0, none⟩ = some (.int .i64 t103) := bc_ BK105 0 rfl; have hcz50_1 : w44.cell? ⟨gb105, 1, none⟩ = some (.int .i64 t104) := bc_ BK105 1 rfl; have hfz50_0 := blk_frozen BK105.out 0; have hfz50_1 := blk_frozen BK105.out 1; have hcz51_0 : w44.cell? ⟨gb108, 0, none⟩ = some (.int .i64 t106) := bc_ BK108 0 rfl; have hcz51_1 : w44.cell? ⟨gb108, 1, none⟩ = some (.int .i64 t107) := bc_ BK108 1 rfl; have hfz51_0 := blk_frozen BK108.out 0; have hfz51_1 := blk_frozen BK108.out 1; have hcz52_0 : w44.cell? ⟨gb102, 0, none⟩ = some (.int .i64 0) := bc_ BK102 0 rfl; have hcz52_1 : w44.cell? ⟨gb102, 1, none⟩ = some (.int .i64 0) := bc_ BK102 1 rfl; have hfz52_0 := blk_frozen BK102.out 0; have hfz52_1 := blk_frozen BK102.out 1))
       refine bodyPost_ret (results_cell_row rfl _ _ gb102 34 #[.int .i64 0, .int .i64 0] (0, 0) _ rfl (by refine pp_ (cs := #[.int .i64 0, .int .i64 0]) 1 ?_ rfl; refine blk_put (cs := #[.int .i64 0, .int .i64 0]) ?_ 0 _ rfl; refine pf_ ?_ NB102_111.out; refine blk_far ?_ NB102_111.out _; exact pkx BK102) Tryd.underlying34 rfl (by kernel_rfl)) rfl ?_
       exact ⟨by first | rfl | (simp [errW_none, errW_some] <;> rfl) | (simp [*, errW_none, errW_some] <;> rfl), by repeat (first | (with_reducible first | exact HB.out | apply below_alloc | apply pw_below_drewN | apply below_drew1 | refine below_set ?_ GE101.out | refine below_set ?_ GE102.out | refine below_set ?_ GE105.out | refine below_set ?_ GE108.out | refine below_set ?_ GE111.out) | exact HB.out)⟩
      ·rw [if_neg c27] at H; have c27b0 : (t110 == 0) = false := beq_eq_false_iff_ne.mpr c27; have c27b1 : (t110 != 0) = true := bne_iff_ne.mpr c27
       simp only [Option.some.injEq, Prod.mk.injEq] at H
       obtain ⟨rfl, rfl⟩ := H; have hnb53 := NB101_102.out; have hnc53 := NB102_101.out
       have hcz54_0 : wc.cell? ⟨gb101, 0, none⟩ = some (.int .i64 a0_0) := bc_ BK101 0 rfl
       have hcz54_1 : wc.cell? ⟨gb101, 1, none⟩ = some (.int .i64 a0_1) := bc_ BK101 1 rfl
       have hcz54_2 : wc.cell? ⟨gb101, 2, none⟩ = some (.slice A0_2 l0_2.length c0_2) := bc_ BK101 2 rfl
       have hcz54_3 : wc.cell? ⟨gb101, 3, none⟩ = some (.slice A0_3 l0_3.length c0_3) := bc_ BK101 3 rfl
       have hcz54_4 : wc.cell? ⟨gb101, 4, none⟩ = some (.slice A0_4 l0_4.length c0_4) := bc_ BK101 4 rfl
       have hfz54_0 := blk_frozen BK101.out 0; have hfz54_1 := blk_frozen BK101.out 1; have hfz54_2 := blk_frozen BK101.out 2; have hfz54_3 := blk_frozen BK101.out 3; have hfz54_4 := blk_frozen BK101.out 4
       go_wp2_with (first | ((with_reducible refine gate_callee (f:=29) rfl ?_); refine gL_ (some 39) rfl rfl Tryd.func29 rfl #[.slice A0_2 l0_2.length c0_2, .int .i64 a0_0, .int .i64 a0_1] rfl ?_; (with_reducible refine (oculusref05_Wrong.calls kj1 _ _ l0_2 a0_0 a0_1 t103 t104 _ ?side1 ?side2 A22.out).mono ?_); (case side1 => repeat (first | exact (Kd.C_below HR0_2.out HB.out) | (with_reducible refine Kd.C_alloc ?_ _) | (with_reducible refine Kd.C_drewN ?_ _) | (with_reducible refine Kd.C_drew ?_))); (case side2 => exact HC0_2.out); rintro e w55 ⟨rfl, hb⟩; refine ⟨_, rfl, ?_⟩; replace BK101 := bb_ BK101 hb; replace BK102 := bb_ BK102 hb; replace HB := bs_ HB hb; (try clear hb); (try clear hb2); (try clear hk); (try clear hi)) | ((with_reducible refine gate_dst (N:=3) rfl ?_); refine be_ (N:=3) (cs := #[.int .i64 0, .int .i64 0]) (t:=34) ?_; intro gb105 hg w56 hbox hb; have BK105 := Aside0.mk (hbox); have GW105 := hs_ HB hg; have GE105 := hs_ HB hg; have NB101_105 := hl_ BK101 hg; have NB105_101 := hr_ BK101 hg; have NB102_105 := hl_ BK102 hg; have NB105_102 := hr_ BK102 hg; replace BK101 := bb_ BK101 hb; replace BK102 := bb_ BK102 hb; replace HB := bs_ HB hb; clear hb hbox hg; have hnb57 := NB105_101.out; have hnc57 := NB101_105.out; have hnb58 := NB105_102.out; have hnc58 := NB102_105.out; have hcz59_0 : w56.cell? ⟨gb105, 0, none⟩ = some (.int .i64 0) := bc_ BK105 0 rfl; have hcz59_1 : w56.cell? ⟨gb105, 1, none⟩ = some (.int .i64 0) := bc_ BK105 1 rfl; have hfz59_0 := blk_frozen BK105.out 0; have hfz59_1 := blk_frozen BK105.out 1; have hcz60_0 : w56.cell? ⟨gb101, 0, none⟩ = some (.int .i64 a0_0) := bc_ BK101 0 rfl; have hcz60_1 : w56.cell? ⟨gb101, 1, none⟩ = some (.int .i64 a0_1) := bc_ BK101 1 rfl; have hcz60_2 : w56.cell? ⟨gb101, 2, none⟩ = some (.slice A0_2 l0_2.length c0_2) := bc_ BK101 2 rfl; have hcz60_3 : w56.cell? ⟨gb101, 3, none⟩ = some (.slice A0_3 l0_3.length c0_3) := bc_ BK101 3 rfl; have hcz60_4 : w56.cell? ⟨gb101, 4, none⟩ = some (.slice A0_4 l0_4.length c0_4) := bc_ BK101 4 rfl; have hfz60_0 := blk_frozen BK101.out 0; have hfz60_1 := blk_frozen BK101.out 1; have hfz60_2 := blk_frozen BK101.out 2; have hfz60_3 := blk_frozen BK101.out 3; have hfz60_4 := blk_frozen BK101.out 4) | ((with_reducible refine gate_callee (f:=30) rfl ?_); refine gL_ (some 42) rfl rfl Tryd.func30 rfl #[.slice A0_3 l0_3.length c0_3] rfl ?_; (with_reducible refine (oculusref06_Users.calls kj1 _ _ l0_3 t106 t107 _ ?side1 ?side2 A23.out).mono ?_); (case side1 => exact Kd.C_below HR0_3.out (by repeat (first | (with_reducible first | exact HB.out | apply below_alloc | apply pw_below_drewN | apply below_drew1 | refine below_set ?_ GE101.out | refine below_set ?_ GE102.out | refine below_set ?_ GE105.out) | exact HB.out))); (case side2 => exact HC0_3.out); rintro e w61 ⟨rfl, hb⟩; refine ⟨_, rfl, ?_⟩; replace BK101 := Aside0.mk (blk_below (g:=gb101) (o := .cells #[.int .i64 a0_0, .int .i64 a0_1, .slice A0_2 l0_2.length c0_2, .slice A0_3 l0_3.length c0_3, .slice A0_4 l0_4.length c0_4] 26 (0, 0)) (by refine pf_ ?_ NB101_105.out; refine blk_far ?_ NB101_105.out _; exact pkx BK101) hb); replace BK102 := Aside0.mk (blk_below (g:=gb102) (o := .cells #[.int .i64 0, .int .i64 0] 34 (0, 0)) (by refine pf_ ?_ NB102_105.out; refine blk_far ?_ NB102_105.out _; exact pkx BK102) hb); replace BK105 := Aside0.mk (blk_below (g:=gb105) (o := .cells #[.int .i64 t103, .int .i64 t104] 34 (0, 0)) (by refine pp_ (cs := #[.int .i64 t103, .int .i64 0]) 1 ?_ rfl; refine blk_put (cs := #[.int .i64 0, .int .i64 0]) ?_ 0 _ rfl; exact pkx BK105) hb); replace HB := Aside0.mk (below_step (by repeat (first | (with_reducible first | exact HB.out | apply below_alloc | apply pw_below_drewN | apply below_drew1 | refine below_set ?_ GE101.out | refine below_set ?_ GE102.out | refine below_set ?_ GE105.out) | exact HB.out)) hb); (try clear hb); (try clear hb2); (try clear hk); (try clear hi)) | ((with_reducible refine gate_dst (N:=4) rfl ?_); refine be_ (N:=4) (cs := #[.int .i64 0, .int .i64 0]) (t:=34) ?_; intro gb108 hg w62 hbox hb; have BK108 := Aside0.mk (hbox); have GW108 := hs_ HB hg; have GE108 := hs_ HB hg; have NB101_108 := hl_ BK101 hg; have NB108_101 := hr_ BK101 hg; have NB102_108 := hl_ BK102 hg; have NB108_102 := hr_ BK102 hg; have NB105_108 := hl_ BK105 hg; have NB108_105 := hr_ BK105 hg; replace BK101 := bb_ BK101 hb; replace BK102 := bb_ BK102 hb; replace BK105 := bb_ BK105 hb; replace HB := bs_ HB hb; clear hb hbox hg; have hnb63 := NB108_101.out; have hnc63 := NB101_108.out; have hnb64 := NB108_102.out; have hnc64 := NB102_108.out; have hnb65 := NB108_105.out; have hnc65 := NB105_108.out; have hcz66_0 : w62.cell? ⟨gb108, 0, none⟩ = some (.int .i64 0) := bc_ BK108 0 rfl; have hcz66_1 : w62.cell? ⟨gb108, 1, none⟩ = some (.int .i64 0) := bc_ BK108 1 rfl; have hfz66_0 := blk_frozen BK108.out 0; have hfz66_1 := blk_frozen BK108.out 1; have hcz67_0 : w62.cell? ⟨gb101, 0, none⟩ = some (.int .i64 a0_0) := bc_ BK101 0 rfl; have hcz67_1 : w62.cell? ⟨gb101, 1, none⟩ = some (.int .i64 a0_1) := bc_ BK101 1 rfl; have hcz67_2 : w62.cell? ⟨gb101, 2, none⟩ = some (.slice A0_2 l0_2.length c0_2) := bc_ BK101 2 rfl; have hcz67_3 : w62.cell? ⟨gb101, 3, none⟩ = some (.slice A0_3 l0_3.length c0_3) := bc_ BK101 3 rfl; have hcz67_4 : w62.cell? ⟨gb101, 4, none⟩ = some (.slice A0_4 l0_4.length c0_4) := bc_ BK101 4 rfl; have hfz67_0 := blk_frozen BK101.out 0; have hfz67_1 := blk_frozen BK101.out 1; have hfz67_2 := blk_frozen BK101.out 2; have hfz67_3 := blk_frozen BK101.out 3; have hfz67_4 := blk_frozen BK101.out 4) | ((with_reducible refine gate_callee (f:=31) rfl ?_); refine gL_ (some 47) rfl rfl Tryd.func31 rfl #[.slice A0_4 l0_4.length c0_4, .slice A0_3 l0_3.length c0_3] rfl ?_; (with_reducible refine (oculusref06_Grants.calls kj1 _ _ l0_4 _ _ l0_3 t109 t110 _ ?side1 ?side2 ?side3 ?side4 A24.out).mono ?_); (case side1 => exact Kd.C_below HR0_4.out (by repeat (first | (with_reducible first | exact HB.out | apply below_alloc | apply pw_below_drewN | apply below_drew1 | refine below_set ?_ GE101.out | refine below_set ?_ GE102.out | refine below_set ?_ GE105.out | refine below_set ?_ GE108.out) | exact HB.out))); (case side2 => exact HC0_4.out); (case side3 => exact Kd.C_below HR0_3.out (by repeat (first | (with_reducible first | exact HB.out | apply below_alloc | apply pw_below_drewN | apply below_drew1 | refine below_set ?_ GE101.out | refine below_set ?_ GE102.out | refine below_set ?_ GE105.out | refine below_set ?_ GE108.out) | exact HB.out))); (case side4 => exact HC0_3.out); rintro e w68 ⟨rfl, hb⟩; refine ⟨_, rfl, ?_⟩; replace BK101 := Aside0.mk (blk_below (g:=gb101) (o := .cells #[.int .i64 a0_0, .int .i64 a0_1, .slice A0_2 l0_2.length c0_2, .slice A0_3 l0_3.length c0_3, .slice A0_4 l0_4.length c0_4] 26 (0, 0)) (by refine pf_ ?_ NB101_108.out; refine blk_far ?_ NB101_108.out _; exact pkx BK101) hb); replace BK102 := Aside0.mk (blk_below (g:=gb102) (o := .cells #[.int .i64 0, .int .i64 0] 34 (0, 0)) (by refine pf_ ?_ NB102_108.out; refine blk_far ?_ NB102_108.out _; exact pkx BK102) hb); replace BK105 := Aside0.mk (blk_below (g:=gb105) (o := .cells #[.int .i64 t103, .int .i64 t104] 34 (0, 0)) (by refine pf_ ?_ NB105_108.out; refine blk_far ?_ NB105_108.out _; exact pkx BK105) hb); replace BK108 := Aside0.mk (blk_below (g:=gb108) (o := .cells #[.int .i64 t106, .int .i64 t107] 34 (0, 0)) (by refine pp_ (cs := #[.int .i64 t106, .int .i64 0]) 1 ?_ rfl; refine blk_put (cs := #[.int .i64 0, .int .i64 0]) ?_ 0 _ rfl; exact pkx BK108) hb); replace HB := Aside0.mk (below_step (by repeat (first | (with_reducible first | exact HB.out | apply below_alloc | apply pw_below_drewN | apply below_drew1 | refine below_set ?_ GE101.out | refine below_set ?_ GE102.out | refine below_set ?_ GE105.out | refine below_set ?_ GE108.out) | exact HB.out)) hb); (try clear hb); (try clear hb2); (try clear hk); (try clear hi)) | ((with_reducible refine gate_dst (N:=5) rfl ?_); refine be_ (N:=5) (cs := #[.int .i64 0, .int .i64 0]) (t:=34) ?_; intro gb111 hg w69 hbox hb; have BK111 := Aside0.mk (hbox); have GW111 := hs_ HB hg; have GE111 := hs_ HB hg; have NB101_111 := hl_ BK101 hg; have NB111_101 := hr_ BK101 hg; have NB102_111 := hl_ BK102 hg; have NB111_102 := hr_ BK102 hg; have NB105_111 := hl_ BK105 hg; have NB111_105 := hr_ BK105 hg; have NB108_111 := hl_ BK108 hg; have NB111_108 := hr_ BK108 hg; replace BK101 := bb_ BK101 hb; replace BK102 := bb_ BK102 hb; replace BK105 := bb_ BK105 hb; replace BK108 := bb_ BK108 hb; replace HB := bs_ HB hb; clear hb hbox hg; have hnb70 := NB111_101.out; have hnc70 := NB101_111.out; have hnb71 := NB111_102.out; have hnc71 := NB102_111.out; have hnb72 := NB111_105.out; have hnc72 := NB105_111.out; have hnb73 := NB111_108.out; have hnc73 := NB108_111.out; have hcz74_0 : w69.cell? ⟨gb111, 0, none⟩ = some (.int .i64 0) := bc_ BK111 0 rfl; have hcz74_1 : w69.cell? ⟨gb111, 1, none⟩ = some (.int .i64 0) := bc_ BK111 1 rfl; have hfz74_0 := blk_frozen BK111.out 0; have hfz74_1 := blk_frozen BK111.out 1; have hcz75_0 : w69.cell? ⟨gb105, 0, none⟩ = some (.int .i64 t103) := bc_ BK105 0 rfl; have hcz75_1 : w69.cell? ⟨gb105, 1, none⟩ = some (.int .i64 t104) := bc_ BK105 1 rfl; have hfz75_0 := blk_frozen BK105.out 0; have hfz75_1 := blk_frozen BK105.out 1; have hcz76_0 : w69.cell? ⟨gb108, 0, none⟩ = some (.int .i64 t106) := bc_ BK108 0 rfl; have hcz76_1 : w69.cell? ⟨gb108, 1, none⟩ = some (.int .i64 t107) := bc_ BK108 1 rfl; have hfz76_0 := blk_frozen BK108.out 0; have hfz76_1 := blk_frozen BK108.out 1; have hcz77_0 : w69.cell? ⟨gb101, 0, none⟩ = some (.int .i64 a0_0) := bc_ BK101 0 rfl; have hcz77_1 : w69.cell? ⟨gb101, 1, none⟩ = some (.int .i64 a0_1) := bc_ BK101 1 rfl; have hcz77_2 : w69.cell? ⟨gb101, 2, none⟩ = some (.slice A0_2 l0_2.length c0_2) := bc_ BK101 2 rfl; have hcz77_3 : w69.cell? ⟨gb101, 3, none⟩ = some (.slice A0_3 l0_3.length c0_3) := bc_ BK101 3 rfl; have hcz77_4 : w69.cell? ⟨gb101, 4, none⟩ = some (.slice A0_4 l0_4.length c0_4) := bc_ BK101 4 rfl; have hfz77_0 := blk_frozen BK101.out 0; have hfz77_1 := blk_frozen BK101.out 1; have hfz77_2 := blk_frozen BK101.out 2; have hfz77_3 := blk_frozen BK101.out 3; have hfz77_4 := blk_frozen BK101.out 4; have hcz78_0 : w69.cell? ⟨gb102, 0, none⟩ = some (.int .i64 0) := bc_ BK102 0 rfl; have hcz78_1 : w69.cell? ⟨gb102, 1, none⟩ = some (.int .i64 0) := bc_ BK102 1 rfl; have hfz78_0 := blk_frozen BK102.out 0; have hfz78_1 := blk_frozen BK102.out 1))
       refine bodyPost_ret (results_cell_row rfl _ _ gb102 34 #[.int .i64 (wrap64 ((wrap64 ((wrap64 (2 + (l0_2.length : Int))) + (l0_3.length : Int))) + t109)), .int .i64 t110] (0, 0) _ rfl (by refine pp_ (cs := #[.int .i64 (wrap64 ((wrap64 ((wrap64 (2 + (l0_2.length : Int))) + (l0_3.length : Int))) + t109)), .int .i64 0]) 1 ?_ rfl; refine blk_put (cs := #[.int .i64 0, .int .i64 0]) ?_ 0 _ rfl; refine pf_ ?_ NB102_111.out; refine blk_far ?_ NB102_111.out _; exact pkx BK102) Tryd.underlying34 rfl (by kernel_rfl)) rfl ?_
       exact ⟨by first | rfl | (simp [errW_none, errW_some] <;> rfl) | (simp [*, errW_none, errW_some] <;> rfl), by repeat (first | (with_reducible first | exact HB.out | apply below_alloc | apply pw_below_drewN | apply below_drew1 | refine below_set ?_ GE101.out | refine below_set ?_ GE102.out | refine below_set ?_ GE105.out | refine below_set ?_ GE108.out | refine below_set ?_ GE111.out) | exact HB.out)⟩
     ·rw [if_neg c26] at H; have c26b0 : (t107 == 0) = false := beq_eq_false_iff_ne.mpr c26; have c26b1 : (t107 != 0) = true := bne_iff_ne.mpr c26
      simp only [Option.some.injEq, Prod.mk.injEq] at H
      obtain ⟨rfl, rfl⟩ := H; have hnb79 := NB101_102.out; have hnc79 := NB102_101.out
      have hcz80_0 : wc.cell? ⟨gb101, 0, none⟩ = some (.int .i64 a0_0) := bc_ BK101 0 rfl
      have hcz80_1 : wc.cell? ⟨gb101, 1, none⟩ = some (.int .i64 a0_1) := bc_ BK101 1 rfl
      have hcz80_2 : wc.cell? ⟨gb101, 2, none⟩ = some (.slice A0_2 l0_2.length c0_2) := bc_ BK101 2 rfl
      have hcz80_3 : wc.cell? ⟨gb101, 3, none⟩ = some (.slice A0_3 l0_3.length c0_3) := bc_ BK101 3 rfl
      have hcz80_4 : wc.cell? ⟨gb101, 4, none⟩ = some (.slice A0_4 l0_4.length c0_4) := bc_ BK101 4 rfl
      have hfz80_0 := blk_frozen BK101.out 0; have hfz80_1 := blk_frozen BK101.out 1; have hfz80_2 := blk_frozen BK101.out 2; have hfz80_3 := blk_frozen BK101.out 3; have hfz80_4 := blk_frozen BK101.out 4
      go_wp2_with (first | ((with_reducible refine gate_callee (f:=29) rfl ?_); refine gL_ (some 39) rfl rfl Tryd.func29 rfl #[.slice A0_2 l0_2.length c0_2, .int .i64 a0_0, .int .i64 a0_1] rfl ?_; (with_reducible refine (oculusref05_Wrong.calls kj1 _ _ l0_2 a0_0 a0_1 t103 t104 _ ?side1 ?side2 A22.out).mono ?_); (case side1 => repeat (first | exact (Kd.C_below HR0_2.out HB.out) | (with_reducible refine Kd.C_alloc ?_ _) | (with_reducible refine Kd.C_drewN ?_ _) | (with_reducible refine Kd.C_drew ?_))); (case side2 => exact HC0_2.out); rintro e w81 ⟨rfl, hb⟩; refine ⟨_, rfl, ?_⟩; replace BK101 := bb_ BK101 hb; replace BK102 := bb_ BK102 hb; replace HB := bs_ HB hb; (try clear hb); (try clear hb2); (try clear hk); (try clear hi)) | ((with_reducible refine gate_dst (N:=3) rfl ?_); refine be_ (N:=3) (cs := #[.int .i64 0, .int .i64 0]) (t:=34) ?_; intro gb105 hg w82 hbox hb; have BK105 := Aside0.mk (hbox); have GW105 := hs_ HB hg; have GE105 := hs_ HB hg; have NB101_105 := hl_ BK101 hg; have NB105_101 := hr_ BK101 hg; have NB102_105 := hl_ BK102 hg; have NB105_102 := hr_ BK102 hg; replace BK101 := bb_ BK101 hb; replace BK102 := bb_ BK102 hb; replace HB := bs_ HB hb; clear hb hbox hg; have hnb83 := NB105_101.out; have hnc83 := NB101_105.out; have hnb84 := NB105_102.out; have hnc84 := NB102_105.out; have hcz85_0 : w82.cell? ⟨gb105, 0, none⟩ = some (.int .i64 0) := bc_ BK105 0 rfl; have hcz85_1 : w82.cell? ⟨gb105, 1, none⟩ = some (.int .i64 0) := bc_ BK105 1 rfl; have hfz85_0 := blk_frozen BK105.out 0; have hfz85_1 := blk_frozen BK105.out 1; have hcz86_0 : w82.cell? ⟨gb101, 0, none⟩ = some (.int .i64 a0_0) := bc_ BK101 0 rfl; have hcz86_1 : w82.cell? ⟨gb101, 1, none⟩ = some (.int .i64 a0_1) := bc_ BK101 1 rfl; have hcz86_2 : w82.cell? ⟨gb101, 2, none⟩ = some (.slice A0_2 l0_2.length c0_2) := bc_ BK101 2 rfl; have hcz86_3 : w82.cell? ⟨gb101, 3, none⟩ = some (.slice A0_3 l0_3.length c0_3) := bc_ BK101 3 rfl; have hcz86_4 : w82.cell? ⟨gb101, 4, none⟩ = some (.slice A0_4 l0_4.length c0_4) := bc_ BK101 4 rfl; have hfz86_0 := blk_frozen BK101.out 0; have hfz86_1 := blk_frozen BK101.out 1; have hfz86_2 := blk_frozen BK101.out 2; have hfz86_3 := blk_frozen BK101.out 3; have hfz86_4 := blk_frozen BK101.out 4) | ((with_reducible refine gate_callee (f:=30) rfl ?_); refine gL_ (some 42) rfl rfl Tryd.func30 rfl #[.slice A0_3 l0_3.length c0_3] rfl ?_; (with_reducible refine (oculusref06_Users.calls kj1 _ _ l0_3 t106 t107 _ ?side1 ?side2 A23.out).mono ?_); (case side1 => exact Kd.C_below HR0_3.out (by repeat (first | (with_reducible first | exact HB.out | apply below_alloc | apply pw_below_drewN | apply below_drew1 | refine below_set ?_ GE101.out | refine below_set ?_ GE102.out | refine below_set ?_ GE105.out) | exact HB.out))); (case side2 => exact HC0_3.out); rintro e w87 ⟨rfl, hb⟩; refine ⟨_, rfl, ?_⟩; replace BK101 := Aside0.mk (blk_below (g:=gb101) (o := .cells #[.int .i64 a0_0, .int .i64 a0_1, .slice A0_2 l0_2.length c0_2, .slice A0_3 l0_3.length c0_3, .slice A0_4 l0_4.length c0_4] 26 (0, 0)) (by refine pf_ ?_ NB101_105.out; refine blk_far ?_ NB101_105.out _; exact pkx BK101) hb); replace BK102 := Aside0.mk (blk_below (g:=gb102) (o := .cells #[.int .i64 0, .int .i64 0] 34 (0, 0)) (by refine pf_ ?_ NB102_105.out; refine blk_far ?_ NB102_105.out _; exact pkx BK102) hb); replace BK105 := Aside0.mk (blk_below (g:=gb105) (o := .cells #[.int .i64 t103, .int .i64 t104] 34 (0, 0)) (by refine pp_ (cs := #[.int .i64 t103, .int .i64 0]) 1 ?_ rfl; refine blk_put (cs := #[.int .i64 0, .int .i64 0]) ?_ 0 _ rfl; exact pkx BK105) hb); replace HB := Aside0.mk (below_step (by repeat (first | (with_reducible first | exact HB.out | apply below_alloc | apply pw_below_drewN | apply below_drew1 | refine below_set ?_ GE101.out | refine below_set ?_ GE102.out | refine below_set ?_ GE105.out) | exact HB.out)) hb); (try clear hb); (try clear hb2); (try clear hk); (try clear hi)) | ((with_reducible refine gate_dst (N:=4) rfl ?_); refine be_ (N:=4) (cs := #[.int .i64 0, .int .i64 0]) (t:=34) ?_; intro gb108 hg w88 hbox hb; have BK108 := Aside0.mk (hbox); have GW108 := hs_ HB hg; have GE108 := hs_ HB hg; have NB101_108 := hl_ BK101 hg; have NB108_101 := hr_ BK101 hg; have NB102_108 := hl_ BK102 hg; have NB108_102 := hr_ BK102 hg; have NB105_108 := hl_ BK105 hg; have NB108_105 := hr_ BK105 hg; replace BK101 := bb_ BK101 hb; replace BK102 := bb_ BK102 hb; replace BK105 := bb_ BK105 hb; replace HB := bs_ HB hb; clear hb hbox hg; have hnb89 := NB108_101.out; have hnc89 := NB101_108.out; have hnb90 := NB108_102.out; have hnc90 := NB102_108.out; have hnb91 := NB108_105.out; have hnc91 := NB105_108.out; have hcz92_0 : w88.cell? ⟨gb108, 0, none⟩ = some (.int .i64 0) := bc_ BK108 0 rfl; have hcz92_1 : w88.cell? ⟨gb108, 1, none⟩ = some (.int .i64 0) := bc_ BK108 1 rfl; have hfz92_0 := blk_frozen BK108.out 0; have hfz92_1 := blk_frozen BK108.out 1; have hcz93_0 : w88.cell? ⟨gb101, 0, none⟩ = some (.int .i64 a0_0) := bc_ BK101 0 rfl; have hcz93_1 : w88.cell? ⟨gb101, 1, none⟩ = some (.int .i64 a0_1) := bc_ BK101 1 rfl; have hcz93_2 : w88.cell? ⟨gb101, 2, none⟩ = some (.slice A0_2 l0_2.length c0_2) := bc_ BK101 2 rfl; have hcz93_3 : w88.cell? ⟨gb101, 3, none⟩ = some (.slice A0_3 l0_3.length c0_3) := bc_ BK101 3 rfl; have hcz93_4 : w88.cell? ⟨gb101, 4, none⟩ = some (.slice A0_4 l0_4.length c0_4) := bc_ BK101 4 rfl; have hfz93_0 := blk_frozen BK101.out 0; have hfz93_1 := blk_frozen BK101.out 1; have hfz93_2 := blk_frozen BK101.out 2; have hfz93_3 := blk_frozen BK101.out 3; have hfz93_4 := blk_frozen BK101.out 4) | ((with_reducible refine gate_callee (f:=31) rfl ?_); refine gL_ (some 47) rfl rfl Tryd.func31 rfl #[.slice A0_4 l0_4.length c0_4, .slice A0_3 l0_3.length c0_3] rfl ?_; (with_reducible refine (oculusref06_Grants.calls kj1 _ _ l0_4 _ _ l0_3 t109 t110 _ ?side1 ?side2 ?side3 ?side4 A24.out).mono ?_); (case side1 => exact Kd.C_below HR0_4.out (by repeat (first | (with_reducible first | exact HB.out | apply below_alloc | apply pw_below_drewN | apply below_drew1 | refine below_set ?_ GE101.out | refine below_set ?_ GE102.out | refine below_set ?_ GE105.out | refine below_set ?_ GE108.out) | exact HB.out))); (case side2 => exact HC0_4.out); (case side3 => exact Kd.C_below HR0_3.out (by repeat (first | (with_reducible first | exact HB.out | apply below_alloc | apply pw_below_drewN | apply below_drew1 | refine below_set ?_ GE101.out | refine below_set ?_ GE102.out | refine below_set ?_ GE105.out | refine below_set ?_ GE108.out) | exact HB.out))); (case side4 => exact HC0_3.out); rintro e w94 ⟨rfl, hb⟩; refine ⟨_, rfl, ?_⟩; replace BK101 := Aside0.mk (blk_below (g:=gb101) (o := .cells #[.int .i64 a0_0, .int .i64 a0_1, .slice A0_2 l0_2.length c0_2, .slice A0_3 l0_3.length c0_3, .slice A0_4 l0_4.length c0_4] 26 (0, 0)) (by refine pf_ ?_ NB101_108.out; refine blk_far ?_ NB101_108.out _; exact pkx BK101) hb); replace BK102 := Aside0.mk (blk_below (g:=gb102) (o := .cells #[.int .i64 0, .int .i64 0] 34 (0, 0)) (by refine pf_ ?_ NB102_108.out; refine blk_far ?_ NB102_108.out _; exact pkx BK102) hb); replace BK105 := Aside0.mk (blk_below (g:=gb105) (o := .cells #[.int .i64 t103, .int .i64 t104] 34 (0, 0)) (by refine pf_ ?_ NB105_108.out; refine blk_far ?_ NB105_108.out _; exact pkx BK105) hb); replace BK108 := Aside0.mk (blk_below (g:=gb108) (o := .cells #[.int .i64 t106, .int .i64 t107] 34 (0, 0)) (by refine pp_ (cs := #[.int .i64 t106, .int .i64 0]) 1 ?_ rfl; refine blk_put (cs := #[.int .i64 0, .int .i64 0]) ?_ 0 _ rfl; exact pkx BK108) hb); replace HB := Aside0.mk (below_step (by repeat (first | (with_reducible first | exact HB.out | apply below_alloc | apply pw_below_drewN | apply below_drew1 | refine below_set ?_ GE101.out | refine below_set ?_ GE102.out | refine below_set ?_ GE105.out | refine below_set ?_ GE108.out) | exact HB.out)) hb); (try clear hb); (try clear hb2); (try clear hk); (try clear hi)) | ((with_reducible refine gate_dst (N:=5) rfl ?_); refine be_ (N:=5) (cs := #[.int .i64 0, .int .i64 0]) (t:=34) ?_; intro gb111 hg w95 hbox hb; have BK111 := Aside0.mk (hbox); have GW111 := hs_ HB hg; have GE111 := hs_ HB hg; have NB101_111 := hl_ BK101 hg; have NB111_101 := hr_ BK101 hg; have NB102_111 := hl_ BK102 hg; have NB111_102 := hr_ BK102 hg; have NB105_111 := hl_ BK105 hg; have NB111_105 := hr_ BK105 hg; have NB108_111 := hl_ BK108 hg; have NB111_108 := hr_ BK108 hg; replace BK101 := bb_ BK101 hb; replace BK102 := bb_ BK102 hb; replace BK105 := bb_ BK105 hb; replace BK108 := bb_ BK108 hb; replace HB := bs_ HB hb; clear hb hbox hg; have hnb96 := NB111_101.out; have hnc96 := NB101_111.out; have hnb97 := NB111_102.out; have hnc97 := NB102_111.out; have hnb98 := NB111_105.out; have hnc98 := NB105_111.out; have hnb99 := NB111_108.out; have hnc99 := NB108_111.out; have hcz100_0 : w95.cell? ⟨gb111, 0, none⟩ = some (.int .i64 0) := bc_ BK111 0 rfl; have hcz100_1 : w95.cell? ⟨gb111, 1, none⟩ = some (.int .i64 0) := bc_ BK111 1 rfl; have hfz100_0 := blk_frozen BK111.out 0; have hfz100_1 := blk_frozen BK111.out 1; have hcz101_0 : w95.cell? ⟨gb105, 0, none⟩ = some (.int .i64 t103) := bc_ BK105 0 rfl; have hcz101_1 : w95.cell? ⟨gb105, 1, none⟩ = some (.int .i64 t104) := bc_ BK105 1 rfl; have hfz101_0 := blk_frozen BK105.out 0; have hfz101_1 := blk_frozen BK105.out 1; have hcz102_0 : w95.cell? ⟨gb108, 0, none⟩ = some (.int .i64 t106) := bc_ BK108 0 rfl; have hcz102_1 : w95.cell? ⟨gb108, 1, none⟩ = some (.int .i64 t107) := bc_ BK108 1 rfl; have hfz102_0 := blk_frozen BK108.out 0; have hfz102_1 := blk_frozen BK108.out 1; have hcz103_0 : w95.cell? ⟨gb101, 0, none⟩ = some (.int .i64 a0_0) := bc_ BK101 0 rfl; have hcz103_1 : w95.cell? ⟨gb101, 1, none⟩ = some (.int .i64 a0_1) := bc_ BK101 1 rfl; have hcz103_2 : w95.cell? ⟨gb101, 2, none⟩ = some (.slice A0_2 l0_2.length c0_2) := bc_ BK101 2 rfl; have hcz103_3 : w95.cell? ⟨gb101, 3, none⟩ = some (.slice A0_3 l0_3.length c0_3) := bc_ BK101 3 rfl; have hcz103_4 : w95.cell? ⟨gb101, 4, none⟩ = some (.slice A0_4 l0_4.length c0_4) := bc_ BK101 4 rfl; have hfz103_0 := blk_frozen BK101.out 0; have hfz103_1 := blk_frozen BK101.out 1; have hfz103_2 := blk_frozen BK101.out 2; have hfz103_3 := blk_frozen BK101.out 3; have hfz103_4 := blk_frozen BK101.out 4; have hcz104_0 : w95.cell? ⟨gb102, 0, none⟩ = some (.int .i64 0) := bc_ BK102 0 rfl; have hcz104_1 : w95.cell? ⟨gb102, 1, none⟩ = some (.int .i64 0) := bc_ BK102 1 rfl; have hfz104_0 := blk_frozen BK102.out 0; have hfz104_1 := blk_frozen BK102.out 1))
      refine bodyPost_ret (results_cell_row rfl _ _ gb102 34 #[.int .i64 (wrap64 ((wrap64 (2 + (l0_2.length : Int))) + t106)), .int .i64 t107] (0, 0) _ rfl (by refine pp_ (cs := #[.int .i64 (wrap64 ((wrap64 (2 + (l0_2.length : Int))) + t106)), .int .i64 0]) 1 ?_ rfl; refine blk_put (cs := #[.int .i64 0, .int .i64 0]) ?_ 0 _ rfl; refine pf_ ?_ NB102_111.out; refine blk_far ?_ NB102_111.out _; exact pkx BK102) Tryd.underlying34 rfl (by kernel_rfl)) rfl ?_
      exact ⟨by first | rfl | (simp [errW_none, errW_some] <;> rfl) | (simp [*, errW_none, errW_some] <;> rfl), by repeat (first | (with_reducible first | exact HB.out | apply below_alloc | apply pw_below_drewN | apply below_drew1 | refine below_set ?_ GE101.out | refine below_set ?_ GE102.out | refine below_set ?_ GE105.out | refine below_set ?_ GE108.out | refine below_set ?_ GE111.out) | exact HB.out)⟩
    ·rw [if_neg c25] at H; have c25b0 : (t104 == 0) = false := beq_eq_false_iff_ne.mpr c25; have c25b1 : (t104 != 0) = true := bne_iff_ne.mpr c25
     simp only [Option.some.injEq, Prod.mk.injEq] at H
     obtain ⟨rfl, rfl⟩ := H; have hnb105 := NB101_102.out; have hnc105 := NB102_101.out
     have hcz106_0 : wc.cell? ⟨gb101, 0, none⟩ = some (.int .i64 a0_0) := bc_ BK101 0 rfl
     have hcz106_1 : wc.cell? ⟨gb101, 1, none⟩ = some (.int .i64 a0_1) := bc_ BK101 1 rfl
     have hcz106_2 : wc.cell? ⟨gb101, 2, none⟩ = some (.slice A0_2 l0_2.length c0_2) := bc_ BK101 2 rfl
     have hcz106_3 : wc.cell? ⟨gb101, 3, none⟩ = some (.slice A0_3 l0_3.length c0_3) := bc_ BK101 3 rfl
     have hcz106_4 : wc.cell? ⟨gb101, 4, none⟩ = some (.slice A0_4 l0_4.length c0_4) := bc_ BK101 4 rfl
     have hfz106_0 := blk_frozen BK101.out 0; have hfz106_1 := blk_frozen BK101.out 1; have hfz106_2 := blk_frozen BK101.out 2; have hfz106_3 := blk_frozen BK101.out 3; have hfz106_4 := blk_frozen BK101.out 4
     go_wp2_with (first | ((with_reducible refine gate_callee (f:=29) rfl ?_); refine gL_ (some 39) rfl rfl Tryd.func29 rfl #[.slice A0_2 l0_2.length c0_2, .int .i64 a0_0, .int .i64 a0_1] rfl ?_; (with_reducible refine (oculusref05_Wrong.calls kj1 _ _ l0_2 a0_0 a0_1 t103 t104 _ ?side1 ?side2 A22.out).mono ?_); (case side1 => repeat (first | exact (Kd.C_below HR0_2.out HB.out) | (with_reducible refine Kd.C_alloc ?_ _) | (with_reducible refine Kd.C_drewN ?_ _) | (with_reducible refine Kd.C_drew ?_))); (case side2 => exact HC0_2.out); rintro e w107 ⟨rfl, hb⟩; refine ⟨_, rfl, ?_⟩; replace BK101 := bb_ BK101 hb; replace BK102 := bb_ BK102 hb; replace HB := bs_ HB hb; (try clear hb); (try clear hb2); (try clear hk); (try clear hi)) | ((with_reducible refine gate_dst (N:=3) rfl ?_); refine be_ (N:=3) (cs := #[.int .i64 0, .int .i64 0]) (t:=34) ?_; intro gb105 hg w108 hbox hb; have BK105 := Aside0.mk (hbox); have GW105 := hs_ HB hg; have GE105 := hs_ HB hg; have NB101_105 := hl_ BK101 hg; have NB105_101 := hr_ BK101 hg; have NB102_105 := hl_ BK102 hg; have NB105_102 := hr_ BK102 hg; replace BK101 := bb_ BK101 hb; replace BK102 := bb_ BK102 hb; replace HB := bs_ HB hb; clear hb hbox hg; have hnb109 := NB105_101.out; have hnc109 := NB101_105.out; have hnb110 := NB105_102.out; have hnc110 := NB102_105.out; have hcz111_0 : w108.cell? ⟨gb105, 0, none⟩ = some (.int .i64 0) := bc_ BK105 0 rfl; have hcz111_1 : w108.cell? ⟨gb105, 1, none⟩ = some (.int .i64 0) := bc_ BK105 1 rfl; have hfz111_0 := blk_frozen BK105.out 0; have hfz111_1 := blk_frozen BK105.out 1; have hcz112_0 : w108.cell? ⟨gb101, 0, none⟩ = some (.int .i64 a0_0) := bc_ BK101 0 rfl; have hcz112_1 : w108.cell? ⟨gb101, 1, none⟩ = some (.int .i64 a0_1) := bc_ BK101 1 rfl; have hcz112_2 : w108.cell? ⟨gb101, 2, none⟩ = some (.slice A0_2 l0_2.length c0_2) := bc_ BK101 2 rfl; have hcz112_3 : w108.cell? ⟨gb101, 3, none⟩ = some (.slice A0_3 l0_3.length c0_3) := bc_ BK101 3 rfl; have hcz112_4 : w108.cell? ⟨gb101, 4, none⟩ = some (.slice A0_4 l0_4.length c0_4) := bc_ BK101 4 rfl; have hfz112_0 := blk_frozen BK101.out 0; have hfz112_1 := blk_frozen BK101.out 1; have hfz112_2 := blk_frozen BK101.out 2; have hfz112_3 := blk_frozen BK101.out 3; have hfz112_4 := blk_frozen BK101.out 4) | ((with_reducible refine gate_callee (f:=30) rfl ?_); refine gL_ (some 42) rfl rfl Tryd.func30 rfl #[.slice A0_3 l0_3.length c0_3] rfl ?_; (with_reducible refine (oculusref06_Users.calls kj1 _ _ l0_3 t106 t107 _ ?side1 ?side2 A23.out).mono ?_); (case side1 => exact Kd.C_below HR0_3.out (by repeat (first | (with_reducible first | exact HB.out | apply below_alloc | apply pw_below_drewN | apply below_drew1 | refine below_set ?_ GE101.out | refine below_set ?_ GE102.out | refine below_set ?_ GE105.out) | exact HB.out))); (case side2 => exact HC0_3.out); rintro e w113 ⟨rfl, hb⟩; refine ⟨_, rfl, ?_⟩; replace BK101 := Aside0.mk (blk_below (g:=gb101) (o := .cells #[.int .i64 a0_0, .int .i64 a0_1, .slice A0_2 l0_2.length c0_2, .slice A0_3 l0_3.length c0_3, .slice A0_4 l0_4.length c0_4] 26 (0, 0)) (by refine pf_ ?_ NB101_105.out; refine blk_far ?_ NB101_105.out _; exact pkx BK101) hb); replace BK102 := Aside0.mk (blk_below (g:=gb102) (o := .cells #[.int .i64 0, .int .i64 0] 34 (0, 0)) (by refine pf_ ?_ NB102_105.out; refine blk_far ?_ NB102_105.out _; exact pkx BK102) hb); replace BK105 := Aside0.mk (blk_below (g:=gb105) (o := .cells #[.int .i64 t103, .int .i64 t104] 34 (0, 0)) (by refine pp_ (cs := #[.int .i64 t103, .int .i64 0]) 1 ?_ rfl; refine blk_put (cs := #[.int .i64 0, .int .i64 0]) ?_ 0 _ rfl; exact pkx BK105) hb); replace HB := Aside0.mk (below_step (by repeat (first | (with_reducible first | exact HB.out | apply below_alloc | apply pw_below_drewN | apply below_drew1 | refine below_set ?_ GE101.out | refine below_set ?_ GE102.out | refine below_set ?_ GE105.out) | exact HB.out)) hb); (try clear hb); (try clear hb2); (try clear hk); (try clear hi)) | ((with_reducible refine gate_dst (N:=4) rfl ?_); refine be_ (N:=4) (cs := #[.int .i64 0, .int .i64 0]) (t:=34) ?_; intro gb108 hg w114 hbox hb; have BK108 := Aside0.mk (hbox); have GW108 := hs_ HB hg; have GE108 := hs_ HB hg; have NB101_108 := hl_ BK101 hg; have NB108_101 := hr_ BK101 hg; have NB102_108 := hl_ BK102 hg; have NB108_102 := hr_ BK102 hg; have NB105_108 := hl_ BK105 hg; have NB108_105 := hr_ BK105 hg; replace BK101 := bb_ BK101 hb; replace BK102 := bb_ BK102 hb; replace BK105 := bb_ BK105 hb; replace HB := bs_ HB hb; clear hb hbox hg; have hnb115 := NB108_101.out; have hnc115 := NB101_108.out; have hnb116 := NB108_102.out; have hnc116 := NB102_108.out; have hnb117 := NB108_105.out; have hnc117 := NB105_108.out; have hcz118_0 : w114.cell? ⟨gb108, 0, none⟩ = some (.int .i64 0) := bc_ BK108 0 rfl; have hcz118_1 : w114.cell? ⟨gb108, 1, none⟩ = some (.int .i64 0) := bc_ BK108 1 rfl; have hfz118_0 := blk_frozen BK108.out 0; have hfz118_1 := blk_frozen BK108.out 1; have hcz119_0 : w114.cell? ⟨gb101, 0, none⟩ = some (.int .i64 a0_0) := bc_ BK101 0 rfl; have hcz119_1 : w114.cell? ⟨gb101, 1, none⟩ = some (.int .i64 a0_1) := bc_ BK101 1 rfl; have hcz119_2 : w114.cell? ⟨gb101, 2, none⟩ = some (.slice A0_2 l0_2.length c0_2) := bc_ BK101 2 rfl; have hcz119_3 : w114.cell? ⟨gb101, 3, none⟩ = some (.slice A0_3 l0_3.length c0_3) := bc_ BK101 3 rfl; have hcz119_4 : w114.cell? ⟨gb101, 4, none⟩ = some (.slice A0_4 l0_4.length c0_4) := bc_ BK101 4 rfl; have hfz119_0 := blk_frozen BK101.out 0; have hfz119_1 := blk_frozen BK101.out 1; have hfz119_2 := blk_frozen BK101.out 2; have hfz119_3 := blk_frozen BK101.out 3; have hfz119_4 := blk_frozen BK101.out 4) | ((with_reducible refine gate_callee (f:=31) rfl ?_); refine gL_ (some 47) rfl rfl Tryd.func31 rfl #[.slice A0_4 l0_4.length c0_4, .slice A0_3 l0_3.length c0_3] rfl ?_; (with_reducible refine (oculusref06_Grants.calls kj1 _ _ l0_4 _ _ l0_3 t109 t110 _ ?side1 ?side2 ?side3 ?side4 A24.out).mono ?_); (case side1 => exact Kd.C_below HR0_4.out (by repeat (first | (with_reducible first | exact HB.out | apply below_alloc | apply pw_below_drewN | apply below_drew1 | refine below_set ?_ GE101.out | refine below_set ?_ GE102.out | refine below_set ?_ GE105.out | refine below_set ?_ GE108.out) | exact HB.out))); (case side2 => exact HC0_4.out); (case side3 => exact Kd.C_below HR0_3.out (by repeat (first | (with_reducible first | exact HB.out | apply below_alloc | apply pw_below_drewN | apply below_drew1 | refine below_set ?_ GE101.out | refine below_set ?_ GE102.out | refine below_set ?_ GE105.out | refine below_set ?_ GE108.out) | exact HB.out))); (case side4 => exact HC0_3.out); rintro e w120 ⟨rfl, hb⟩; refine ⟨_, rfl, ?_⟩; replace BK101 := Aside0.mk (blk_below (g:=gb101) (o := .cells #[.int .i64 a0_0, .int .i64 a0_1, .slice A0_2 l0_2.length c0_2, .slice A0_3 l0_3.length c0_3, .slice A0_4 l0_4.length c0_4] 26 (0, 0)) (by refine pf_ ?_ NB101_108.out; refine blk_far ?_ NB101_108.out _; exact pkx BK101) hb); replace BK102 := Aside0.mk (blk_below (g:=gb102) (o := .cells #[.int .i64 0, .int .i64 0] 34 (0, 0)) (by refine pf_ ?_ NB102_108.out; refine blk_far ?_ NB102_108.out _; exact pkx BK102) hb); replace BK105 := Aside0.mk (blk_below (g:=gb105) (o := .cells #[.int .i64 t103, .int .i64 t104] 34 (0, 0)) (by refine pf_ ?_ NB105_108.out; refine blk_far ?_ NB105_108.out _; exact pkx BK105) hb); replace BK108 := Aside0.mk (blk_below (g:=gb108) (o := .cells #[.int .i64 t106, .int .i64 t107] 34 (0, 0)) (by refine pp_ (cs := #[.int .i64 t106, .int .i64 0]) 1 ?_ rfl; refine blk_put (cs := #[.int .i64 0, .int .i64 0]) ?_ 0 _ rfl; exact pkx BK108) hb); replace HB := Aside0.mk (below_step (by repeat (first | (with_reducible first | exact HB.out | apply below_alloc | apply pw_below_drewN | apply below_drew1 | refine below_set ?_ GE101.out | refine below_set ?_ GE102.out | refine below_set ?_ GE105.out | refine below_set ?_ GE108.out) | exact HB.out)) hb); (try clear hb); (try clear hb2); (try clear hk); (try clear hi)) | ((with_reducible refine gate_dst (N:=5) rfl ?_); refine be_ (N:=5) (cs := #[.int .i64 0, .int .i64 0]) (t:=34) ?_; intro gb111 hg w121 hbox hb; have BK111 := Aside0.mk (hbox); have GW111 := hs_ HB hg; have GE111 := hs_ HB hg; have NB101_111 := hl_ BK101 hg; have NB111_101 := hr_ BK101 hg; have NB102_111 := hl_ BK102 hg; have NB111_102 := hr_ BK102 hg; have NB105_111 := hl_ BK105 hg; have NB111_105 := hr_ BK105 hg; have NB108_111 := hl_ BK108 hg; have NB111_108 := hr_ BK108 hg; replace BK101 := bb_ BK101 hb; replace BK102 := bb_ BK102 hb; replace BK105 := bb_ BK105 hb; replace BK108 := bb_ BK108 hb; replace HB := bs_ HB hb; clear hb hbox hg; have hnb122 := NB111_101.out; have hnc122 := NB101_111.out; have hnb123 := NB111_102.out; have hnc123 := NB102_111.out; have hnb124 := NB111_105.out; have hnc124 := NB105_111.out; have hnb125 := NB111_108.out; have hnc125 := NB108_111.out; have hcz126_0 : w121.cell? ⟨gb111, 0, none⟩ = some (.int .i64 0) := bc_ BK111 0 rfl; have hcz126_1 : w121.cell? ⟨gb111, 1, none⟩ = some (.int .i64 0) := bc_ BK111 1 rfl; have hfz126_0 := blk_frozen BK111.out 0; have hfz126_1 := blk_frozen BK111.out 1; have hcz127_0 : w121.cell? ⟨gb105, 0, none⟩ = some (.int .i64 t103) := bc_ BK105 0 rfl; have hcz127_1 : w121.cell? ⟨gb105, 1, none⟩ = some (.int .i64 t104) := bc_ BK105 1 rfl; have hfz127_0 := blk_frozen BK105.out 0; have hfz127_1 := blk_frozen BK105.out 1; have hcz128_0 : w121.cell? ⟨gb102, 0, none⟩ = some (.int .i64 0) := bc_ BK102 0 rfl; have hcz128_1 : w121.cell? ⟨gb102, 1, none⟩ = some (.int .i64 0) := bc_ BK102 1 rfl; have hfz128_0 := blk_frozen BK102.out 0; have hfz128_1 := blk_frozen BK102.out 1))
     refine bodyPost_ret (results_cell_row rfl _ _ gb102 34 #[.int .i64 (wrap64 (2 + t103)), .int .i64 t104] (0, 0) _ rfl (by refine pp_ (cs := #[.int .i64 (wrap64 (2 + t103)), .int .i64 0]) 1 ?_ rfl; refine blk_put (cs := #[.int .i64 0, .int .i64 0]) ?_ 0 _ rfl; refine pf_ ?_ NB102_111.out; refine blk_far ?_ NB102_111.out _; exact pkx BK102) Tryd.underlying34 rfl (by kernel_rfl)) rfl ?_
     exact ⟨by first | rfl | (simp [errW_none, errW_some] <;> rfl) | (simp [*, errW_none, errW_some] <;> rfl), by repeat (first | (with_reducible first | exact HB.out | apply below_alloc | apply pw_below_drewN | apply below_drew1 | refine below_set ?_ GE101.out | refine below_set ?_ GE102.out | refine below_set ?_ GE105.out | refine below_set ?_ GE108.out | refine below_set ?_ GE111.out) | exact HB.out)⟩

end Go.Proofs.YtbboanfggaknjaaDoor.X
/- The law PolicyWrong as a function of numbers and rows, and its contract. -/
set_option linter.unusedVariables false
set_option linter.unusedSimpArgs false
namespace Go.Proofs.YtbboanfggaknjaaDoor.X
open Go.Sort Go.RowKit Go.Proofs.YtbboanfggaknjaaDoorW.PrintWords Go.Proofs.YtbboanfggaknjaaDoorW.PrintLast Go.Proofs.YtbboanfggaknjaaDoorW.PrintMore
structure Rows7 (w : World) (A2 : Option Addr) (c2 : Nat) (zs : List S61) (A3 : Option Addr) (c3 : Nat) (us : List S65) (A4 : Option Addr) (c4 : Nat) (gs : List S67) : Prop where
  z : Kd.C k61 w A2 zs.length zs
  zl : zs.length ≤ c2
  u : Kd.C k65 w A3 us.length us
  ul : us.length ≤ c3
  g : Kd.C k67 w A4 gs.length gs
  gl : gs.length ≤ c4
theorem Rows7.below {w w1 : World} {A2 A3 A4 : Option Addr} {c2 c3 c4 : Nat} {zs : List S61} {us : List S65} {gs : List S67} (h : Aside0 (Rows7 w A2 c2 zs A3 c3 us A4 c4 gs)) (hb : Below w.heap.size w w1) : Aside0 (Rows7 w1 A2 c2 zs A3 c3 us A4 c4 gs) :=
  ⟨⟨Kd.C_below h.out.z hb, h.out.zl, Kd.C_below h.out.u hb, h.out.ul, Kd.C_below h.out.g hb, h.out.gl⟩⟩
end Go.Proofs.YtbboanfggaknjaaDoor.X
/- policy.Text, walked. -/
set_option linter.unusedVariables false
set_option linter.unusedSimpArgs false
namespace Go.Proofs.YtbboanfggaknjaaDoor.X
open Go.RowKit Go.Shelf Go.Proofs.YtbboanfggaknjaaDoorW.PrintWords Go.Proofs.YtbboanfggaknjaaDoorW.PrintLast Go.Proofs.YtbboanfggaknjaaDoorW.PrintMore
structure AtB (b : Nat) (w0 w : World) (acc : List UInt8) : Prop where
  bl : Lib.IsBuilderF 45 5 b b (Lib.byteCells acc) w
  be : Below w0.heap.size w0 w
  eb : b = w0.heap.size
theorem AtB.step {b : Nat} {w0 w w1 : World} {acc : List UInt8} (h : AtB b w0 w acc) (hb : Below w.heap.size w w1) : AtB b w0 w1 acc := ⟨isbld_below h.bl hb, below_step h.be hb, h.eb⟩
theorem AtB.sz {b : Nat} {w0 w : World} {acc : List UInt8} (h : AtB b w0 w acc) : b ≤ w.heap.size := by rw [h.eb]; exact h.be.size
theorem AtB.line {b : Nat} {w0 w w1 : World} {acc o : List UInt8} (h : AtB b w0 w acc) (hl : Lib.IsBuilderF 45 5 b b (Lib.byteCells o) w1) (hb : Below b w w1) : AtB b w0 w1 o := ⟨hl, h.be.trans (by rw [← h.eb]; exact hb), h.eb⟩
theorem AtB.new (w0 : World) : AtB w0.heap.size w0 (w0.alloc (.cells #[.pointer none, .slice none 0 0] 45)) [] := ⟨Or.inl ⟨Nat.le_refl _, .slice none 0 0, blk_new w0 _, ⟨rfl, Or.inl ⟨rfl, rfl⟩⟩, by simp [Value.ownBlock]⟩, new_below w0 _, rfl⟩
theorem rd_get61 (xs : List S61) (i : Nat) (h : i < xs.length) : rd_T61 xs (i : Int) = xs[i] := by
  simp [rd_T61, List.getD_eq_getElem?_getD, h]
theorem rd_get65 (xs : List S65) (i : Nat) (h : i < xs.length) : rd_T65 xs (i : Int) = xs[i] := by
  simp [rd_T65, List.getD_eq_getElem?_getD, h]
theorem rd_get67 (xs : List S67) (i : Nat) (h : i < xs.length) : rd_T67 xs (i : Int) = xs[i] := by
  simp [rd_T67, List.getD_eq_getElem?_getD, h]
theorem cells6Z {W : World} {g : Nat} {t : TypeId} {a0 a1 a2 a3 a4 a5 : Value} (h : W.heap[g]? = some (.cells #[a0, a1, a2, a3, a4, a5] t (0, 0))) : W.cell? ⟨g, 0, none⟩ = some a0 ∧ W.cell? ⟨g, 1, none⟩ = some a1 ∧ W.cell? ⟨g, 2, none⟩ = some a2 ∧ W.cell? ⟨g, 3, none⟩ = some a3 ∧ W.cell? ⟨g, 4, none⟩ = some a4 ∧ W.cell? ⟨g, 5, none⟩ = some a5 := ⟨(blk_cell h 0).trans rfl, (blk_cell h 1).trans rfl, (blk_cell h 2).trans rfl, (blk_cell h 3).trans rfl, (blk_cell h 4).trans rfl, (blk_cell h 5).trans rfl⟩
theorem cells3Z {W : World} {g : Nat} {t : TypeId} {a0 a1 a2 : Value} (h : W.heap[g]? = some (.cells #[a0, a1, a2] t (0, 0))) : W.cell? ⟨g, 0, none⟩ = some a0 ∧ W.cell? ⟨g, 1, none⟩ = some a1 ∧ W.cell? ⟨g, 2, none⟩ = some a2 := ⟨(blk_cell h 0).trans rfl, (blk_cell h 1).trans rfl, (blk_cell h 2).trans rfl⟩
theorem cells5Z {W : World} {g : Nat} {t : TypeId} {a0 a1 a2 a3 a4 : Value} (h : W.heap[g]? = some (.cells #[a0, a1, a2, a3, a4] t (0, 0))) : W.cell? ⟨g, 0, none⟩ = some a0 ∧ W.cell? ⟨g, 1, none⟩ = some a1 ∧ W.cell? ⟨g, 2, none⟩ = some a2 ∧ W.cell? ⟨g, 3, none⟩ = some a3 ∧ W.cell? ⟨g, 4, none⟩ = some a4 := ⟨(blk_cell h 0).trans rfl, (blk_cell h 1).trans rfl, (blk_cell h 2).trans rfl, (blk_cell h 3).trans rfl, (blk_cell h 4).trans rfl⟩
theorem goesV_ {P : Program} {ops : Array Oper} {Q : Exit → Act → World → Prop} {oi : Oper} {N : Option Tmp} {a : Act} {w : World} {K : Act → World → Prop} {f : FuncId} {fn : Func} {t : Tmp} {aa : Array Operand} {ts : Array TypeId} (hf : P.funcs[f]? = some fn) (hname : (fn.name == "runtime.NumGoroutine") = false) (hb : fn.body.isSome = true) (args captured : Array Value)
    (hw : Region.wanted oi (yielded ops a.tmps) = true) (hN : oi.dst = N) (hop : oi.op = .call { callee := .value (.tmp t), args := aa, argTypes := ts }) (hv : a.eval (.tmp t) = .func (.func f) #[] captured) (hargs : aa.map a.eval ++ captured = args)
    (h : Calls P f args w fun e w' => ∃ v, e = .returned v ∧ K (a.put N v) w') : if Region.wanted oi (yielded ops a.tmps) = true then Oper.wp P oi a w K Q else K (a.put N undef) w := by
  refine call_ f args hw hN ?_ h
  have he := enters_ hf hname hb args w
  unfold execOp
  simp only [Act.eval] at hv hargs
  simp [hop, resolve, Deferred.ofValue, invoke, Act.eval, hv, hargs, he]
set_option maxHeartbeats 4000000 in
set_option maxRecDepth 100000 in
theorem policy_Text.calls (k : Nat) (a0_0 : Int) (a0_1 : Int) (A0_2 : Option Addr) (c0_2 : Nat) (l0_2 : List (S61)) (A0_3 : Option Addr) (c0_3 : Nat) (l0_3 : List (S65)) (A0_4 : Option Addr) (c0_4 : Nat) (l0_4 : List (S67)) (r : ByteArray) (w : World) (hT : Aside0 (Tab w)) (hr0_2 : Kd.C k61 w A0_2 l0_2.length l0_2) (hc0_2 : l0_2.length ≤ c0_2) (hr0_3 : Kd.C k65 w A0_3 l0_3.length l0_3) (hc0_3 : l0_3.length ≤ c0_3) (hr0_4 : Kd.C k67 w A0_4 l0_4.length l0_4) (hc0_4 : l0_4.length ≤ c0_4) (h : policy_Text.f k a0_0 a0_1 l0_2 l0_3 l0_4 = some r) :
    Calls Tryd.prog 7 #[.agg #[.int .i64 a0_0, .int .i64 a0_1, .slice A0_2 l0_2.length c0_2, .slice A0_3 l0_3.length c0_3, .slice A0_4 l0_4.length c0_4]] w fun e w' => e = .returned (.string r) ∧ Below w.heap.size w w' := by
  have hu26 := Tryd.underlying26
  have hu61 := Tryd.underlying61
  have hu65 := Tryd.underlying65
  have hu67 := Tryd.underlying67
  have hu56 := Tryd.underlying56
  have hu59 := Tryd.underlying59
  have HR : Aside0 (Rows7 w A0_2 c0_2 l0_2 A0_3 c0_3 l0_3 A0_4 c0_4 l0_4) := ⟨⟨hr0_2, hc0_2, hr0_3, hc0_3, hr0_4, hc0_4⟩⟩
  clear hr0_2 hc0_2 hr0_3 hc0_3 hr0_4 hc0_4
  obtain ⟨⟨e1, e2⟩, E1, H⟩ := Option.bind_eq_some_iff.mp h
  have HE := Aside0.mk E1
  have HH := Aside0.mk H
  clear h E1 H
  go_enter Tryd.func7, Tryd.ntmps7
  go_upto_region 1 with fail
  have HP := Aside0.mk (blk_new w (.cells #[.int .i64 a0_0, .int .i64 a0_1, .slice A0_2 l0_2.length c0_2, .slice A0_3 l0_3.length c0_3, .slice A0_4 l0_4.length c0_4] 26))
  have HB := Aside0.mk (new_below w (.cells #[.int .i64 a0_0, .int .i64 a0_1, .slice A0_2 l0_2.length c0_2, .slice A0_3 l0_3.length c0_3, .slice A0_4 l0_4.length c0_4] 26))
  replace HR := Rows7.below HR HB.out
  replace hT := tb_ HB.out hT
  generalize w.alloc (.cells #[.int .i64 a0_0, .int .i64 a0_1, .slice A0_2 l0_2.length c0_2, .slice A0_3 l0_3.length c0_3, .slice A0_4 l0_4.length c0_4] 26) = w1 at HP HB HR hT ⊢
  generalize w.heap.size = g at HP ⊢
  obtain ⟨y0, y1, y2, y3, y4⟩ := cells5_ HP.out
  by_cases he : e2 = 0
  case neg =>
    have H := HH.out
    rw [if_neg he] at H
    obtain rfl := Option.some.inj H
    have d0 : (e2 == 0) = false := beq_eq_false_iff_ne.mpr he
    have d1 : (e2 != 0) = true := bne_iff_ne.mpr he
    clear he HH H
    go_wp2_with (go_at_call 12; (with_reducible refine (policy_Wrong.calls k a0_0 a0_1 A0_2 c0_2 l0_2 A0_3 c0_3 l0_3 A0_4 c0_4 l0_4 e1 e2 _ HR.out.z HR.out.zl HR.out.u HR.out.ul HR.out.g HR.out.gl HE.out).mono ?_); rintro e w6 ⟨rfl, hb⟩; replace HB := Aside0.mk (below_step HB.out hb); clear hb)
    go_ret
    exact ⟨rfl, HB.out⟩
  have H := HH.out
  rw [if_pos he] at H
  have d0 : (e2 == 0) = true := beq_iff_eq.mpr he
  have d1 : (e2 != 0) = false := bne_eq_false_iff_eq.mpr he
  obtain ⟨ta, T1, H⟩ := Option.bind_eq_some_iff.mp H
  obtain ⟨tb, T2, H⟩ := Option.bind_eq_some_iff.mp H
  obtain ⟨o0, O0, H⟩ := Option.bind_eq_some_iff.mp H
  obtain ⟨o1, O1, H⟩ := Option.bind_eq_some_iff.mp H
  obtain ⟨o2, O2, H⟩ := Option.bind_eq_some_iff.mp H
  obtain ⟨o3, O3, H⟩ := Option.bind_eq_some_iff.mp H
  obtain rfl := Option.some.inj H
  have HTA := Aside0.mk T1
  have HTB := Aside0.mk T2
  have HO0 := Aside0.mk O0
  have HO1 := Aside0.mk O1
  have HO2 := Aside0.mk O2
  have HO3 := Aside0.mk O3
  clear H HH T1 T2 O0 O1 O2 O3 he
  go_upto_region 4 with (go_at_call 12; (with_reducible refine (policy_Wrong.calls k a0_0 a0_1 A0_2 c0_2 l0_2 A0_3 c0_3 l0_3 A0_4 c0_4 l0_4 e1 e2 _ HR.out.z HR.out.zl HR.out.u HR.out.ul HR.out.g HR.out.gl HE.out).mono ?_); rintro e w6 ⟨rfl, hb⟩; replace HB := Aside0.mk (below_step HB.out hb); replace hT := tb_ hb hT; replace HP := Aside0.mk (blk_below HP.out hb); replace HR := Rows7.below HR hb; clear hb y0 y1 y2 y3 y4)
  go_upto_region 6 with fail
  clear d0 d1 HE
  have HT5 := hT
  have HAB := Aside0.mk (AtB.new w6)
  clear hT
  generalize w6.alloc (.cells #[.pointer none, .slice none 0 0] 45) = w2 at HAB ⊢
  generalize w6.heap.size = b at HAB ⊢
  generalize w6 = w5 at HAB HB HP HR HT5
  have HELD := HP.out.trans rfl
  replace HELD := cells5_ (blk_below HELD HAB.out.be)
  obtain ⟨y0, y1, _⟩ := HELD
  have HELD := And.intro y0 y1
  clear y0 y1
  have HAD : AtB b w5 w2.drew _ := HAB.out.step (pw_below_drewN (Below.refl _ w2) 1)
  replace HAB := Aside0.mk HAD
  clear HAD
  have hb0 : Below w2.heap.size w2 w2.drew := pw_below_drewN (Below.refl _ w2) 1
  refine start_ (n := 9) (S := fun w' => w'.cell? ⟨g, 0, none⟩ = some (.int .i64 a0_0) ∧ w'.cell? ⟨g, 1, none⟩ = some (.int .i64 a0_1)) (ds := [8]) #[false, false, false, false, false, false, false, false, false] (by kernel_rfl) rfl rfl (by have hHeld := HELD; exact ⟨cell_below hHeld.1 hb0, cell_below hHeld.2 hb0⟩) (fun hHeld => ?_)
  clear HELD hb0
  generalize w2.drew = w60 at HAB hHeld ⊢
  refine pure_ (i := 0) (N := some 21) (v := ?_) (a' := ?_) #[true, false, false, false, false, false, false, false, false] rfl rfl (by kernel_rfl) (fun _ _ _ h => h) (Or.inl ⟨by rfl, ?_⟩) ?_ ?_
  rotate_left
  · intro w'; go_simp; with_reducible rfl
  rotate_left
  · simp only [Act.put, List.setIfInBounds_toArray, List.set_cons_zero, List.set_cons_succ, i64_w, i32_w]; rfl
  refine pure_ (i := 1) (N := some 22) (v := ?_) (a' := ?_) #[true, true, false, false, false, false, false, false, false] rfl rfl (by kernel_rfl) (fun _ _ _ h => h) (Or.inl ⟨by rfl, ?_⟩) ?_ ?_
  rotate_left
  · intro w'; go_simp; with_reducible rfl
  rotate_left
  · simp only [Act.put, List.setIfInBounds_toArray, List.set_cons_zero, List.set_cons_succ, i64_w, i32_w]; rfl
  refine take_ (i := 2) (N := some 23) (v := ?_) (a' := ?_) #[true, true, true, false, false, false, false, false, false] rfl rfl (by kernel_rfl) (fun _ _ _ h => h) (Or.inl ⟨by rfl, ?_⟩) hHeld ?_ ?_
  rotate_left
  · rintro w' ⟨s0_, s1_⟩; go_simp; with_reducible rfl
  rotate_left
  · simp only [Act.put, List.setIfInBounds_toArray, List.set_cons_zero, List.set_cons_succ, i64_w, i32_w]; rfl
  refine pure_ (i := 4) (N := some 25) (v := ?_) (a' := ?_) #[true, true, true, false, true, false, false, false, false] rfl rfl (by kernel_rfl) (fun _ _ _ h => h) (Or.inl ⟨by rfl, ?_⟩) ?_ ?_
  rotate_left
  · intro w'; go_simp; with_reducible rfl
  rotate_left
  · simp only [Act.put, List.setIfInBounds_toArray, List.set_cons_zero, List.set_cons_succ, i64_w, i32_w]; rfl
  refine take_ (i := 5) (N := some 26) (v := ?_) (a' := ?_) #[true, true, true, false, true, true, false, false, false] rfl rfl (by kernel_rfl) (fun _ _ _ h => h) (Or.inl ⟨by rfl, ?_⟩) hHeld ?_ ?_
  rotate_left
  · rintro w' ⟨s0_, s1_⟩; go_simp; with_reducible rfl
  rotate_left
  · simp only [Act.put, List.setIfInBounds_toArray, List.set_cons_zero, List.set_cons_succ, i64_w, i32_w]; rfl
  refine one_ (i := 3) (N := some 24) #[true, true, true, true, true, true, false, false, false] rfl rfl (by kernel_rfl) (by decide) (fun K hK => ?_)
  refine goes_ Tryd.func19 (by kernel_rfl) rfl #[.int .i64 a0_0] (by rfl) rfl rfl (by (try simp only [List.map_toArray, List.map_cons, List.map_nil]); first | done | rfl) ?_
  have HTW := tb_ HAB.out.be HT5
  with_reducible refine (strconv_Itoa.calls a0_0 ta _ HTW HTA.out).mono ?_
  rintro e w61 ⟨rfl, hb⟩
  refine ⟨_, rfl, ?_⟩
  replace HAB := Aside0.mk (HAB.out.step hb)
  clear HTW
  refine hK.out _ _ ⟨cell_below hHeld.1 hb, cell_below hHeld.2 hb⟩ (fun hHeld => ?_)
  clear hK K hb
  refine norm_ (a' := ?_) ?_ ?_
  rotate_left
  · show Act.put _ (some 24) _ = _
    simp only [Act.put, List.setIfInBounds_toArray, List.set_cons_zero, List.set_cons_succ, i64_w, i32_w]
    rfl
  refine one_ (i := 6) (N := some 27) #[true, true, true, true, true, true, true, false, false] rfl rfl (by kernel_rfl) (by decide) (fun K hK => ?_)
  refine goes_ Tryd.func19 (by kernel_rfl) rfl #[.int .i64 a0_1] (by rfl) rfl rfl (by (try simp only [List.map_toArray, List.map_cons, List.map_nil]); first | done | rfl) ?_
  have HTW := tb_ HAB.out.be HT5
  with_reducible refine (strconv_Itoa.calls a0_1 tb _ HTW HTB.out).mono ?_
  rintro e w62 ⟨rfl, hb⟩
  refine ⟨_, rfl, ?_⟩
  replace HAB := Aside0.mk (HAB.out.step hb)
  clear HTW
  refine hK.out _ _ ⟨cell_below hHeld.1 hb, cell_below hHeld.2 hb⟩ (fun hHeld => ?_)
  clear hK K hb
  refine norm_ (a' := ?_) ?_ ?_
  rotate_left
  · show Act.put _ (some 27) _ = _
    simp only [Act.put, List.setIfInBounds_toArray, List.set_cons_zero, List.set_cons_succ, i64_w, i32_w]
    rfl
  refine one_ (i := 7) (N := some 28) #[true, true, true, true, true, true, true, true, false] rfl rfl (by kernel_rfl) (by decide) (fun K hK => ?_)
  refine value_ (w1 := w62.alloc (.cells #[.string ⟨#[103, 114, 105, 100]⟩, .string ta, .string tb] 9)) (v := .slice (some ⟨w62.heap.size, 0, none⟩) 3 3) (by rfl) rfl (by go_simp) ?_
  have hnb := new_below w62 (.cells #[.string ⟨#[103, 114, 105, 100]⟩, .string ta, .string tb] 9)
  have HWS : Aside0 (Kd.C Kd.string (w62.alloc (.cells #[.string ⟨#[103, 114, 105, 100]⟩, .string ta, .string tb] 9)) (some ⟨w62.heap.size, 0, none⟩) [⟨#[103, 114, 105, 100]⟩, ta, tb].length [⟨#[103, 114, 105, 100]⟩, ta, tb]) := ⟨words_of (strs_own w62 [⟨#[103, 114, 105, 100]⟩, ta, tb] (by simp))⟩
  replace HAB := Aside0.mk (HAB.out.step hnb)
  refine hK.out _ _ ⟨cell_below hHeld.1 hnb, cell_below hHeld.2 hnb⟩ (fun hHeld => ?_)
  clear hK K hnb hHeld
  generalize w62.alloc (.cells #[.string ⟨#[103, 114, 105, 100]⟩, .string ta, .string tb] 9) = w6b at HAB HWS ⊢
  generalize w62.heap.size = g6b at HWS ⊢
  refine norm_ (a' := ?_) ?_ ?_
  rotate_left
  · show Act.put _ (some 28) _ = _
    simp only [Act.put, List.setIfInBounds_toArray, List.set_cons_zero, List.set_cons_succ, i64_w, i32_w]
    rfl
  refine last_ (i := 8) (N := some 29) #[true, true, true, true, true, true, true, true, true] rfl rfl (by kernel_rfl) (by decide) (fun K hK => ?_)
  refine goesV_ Tryd.func15 (by kernel_rfl) rfl #[.slice (some ⟨g6b, 0, none⟩) 3 3, .pointer (some ⟨b, 0, none⟩)] #[.pointer (some ⟨b, 0, none⟩)] (by rfl) rfl rfl (by rfl) (by simp only [List.map_toArray, List.map_cons, List.map_nil, List.append_toArray, List.cons_append, List.nil_append]; rfl) ?_
  have hL := line_calls b b [] o0 (some ⟨g6b, 0, none⟩) 3 [⟨#[103, 114, 105, 100]⟩, ta, tb] w6b ⟨HAB.out.bl⟩ ⟨HAB.out.sz⟩ HWS (Nat.le_refl _) HO0.out
  refine (show Calls Tryd.prog 15 #[.slice (some ⟨g6b, 0, none⟩) 3 3, .pointer (some ⟨b, 0, none⟩)] w6b _ from hL).mono ?_
  rintro e w6z ⟨rfl, hbl, hbb⟩
  refine ⟨_, rfl, ?_⟩
  replace HAB := Aside0.mk (HAB.out.line hbl hbb)
  clear hL hbl hbb HWS
  refine hK.out _ _ ?_
  clear hK K
  refine done_ (by kernel_rfl) ?_
  clear HTA HTB HO0
  obtain ⟨_, _, y2, _, _⟩ := cells5_ (blk_below HP.out HAB.out.be)
  go_upto_block 0 with fail
  go_cut [33] (fun v33 wc => Aside0 (AtB b w5 wc o1))
  case first =>
    clear y2
    go_wp2_with fail
    go_loopw [33] (fun v w' => ∃ (j : Nat) (acc : List UInt8), v = .int .i64 (j : Int) ∧ Aside0 (j ≤ l0_2.length) ∧ Aside0 (AtB b w5 w' acc) ∧ Aside0 (ptz k acc (l0_2.drop j) = some o1)) (fun v _ => l0_2.length - (intOf v).toNat)
    case atStart => exact ⟨0, _, rfl, ⟨Nat.zero_le _⟩, HAB, HO1⟩
    case round =>
      clear HAB
      obtain ⟨j, acc, rfl, HJ, HAB, HO⟩ := hrel
      by_cases hlt : j < l0_2.length
      · have hd1 : decide (j < l0_2.length) = true := decide_eq_true hlt
        have hd2 : decide ((j : Int) < (l0_2.length : Int)) = true := decide_eq_true (by omega)
        have e1 : l0_2.drop j = rd_T61 l0_2 (j : Int) :: l0_2.drop (j + 1) := by
          rw [List.drop_eq_getElem_cons hlt, rd_get61 l0_2 j hlt]
        have H := HO.out
        rw [e1] at H
        clear e1 HO
        simp only [ptz] at H
        obtain ⟨ta, T1, H⟩ := Option.bind_eq_some_iff.mp H
        obtain ⟨tb, T2, H⟩ := Option.bind_eq_some_iff.mp H
        obtain ⟨oo, O0, H⟩ := Option.bind_eq_some_iff.mp H
        have HTA := Aside0.mk T1
        have HTB := Aside0.mk T2
        have HOO := Aside0.mk O0
        have HO := Aside0.mk H
        clear H T1 T2 O0
        obtain ⟨ad, rfl, q0, q1, q2, q3, q4, q5⟩ := at_T61 (Kd.C_below HR.out.z HAB.out.be) (j : Int) (by omega) (by omega)
        rw [Int.toNat_natCast] at q0 q1 q2 q3 q4 q5
        obtain ⟨z, hz⟩ : ∃ z, rd_T61 l0_2 (j : Int) = z := ⟨_, rfl⟩
        rw [hz] at q0 q1 q2 q3 q4 q5 HTA HTB
        clear hz
        have hj := HJ.out
        have hlen := (HR.out.z).2.1
        go_upto_region 10 with fail
        have HZ := Aside0.mk (blk_new wr (.cells #[.int .i64 z.f0.f0.f0, .int .i64 z.f0.f0.f1, .int .i64 z.f0.f1.f0, .int .i64 z.f0.f1.f1, .int .i64 z.f1.f0, .int .u64 z.f1.f1] 61))
        have hb := new_below wr (.cells #[.int .i64 z.f0.f0.f0, .int .i64 z.f0.f0.f1, .int .i64 z.f0.f1.f0, .int .i64 z.f0.f1.f1, .int .i64 z.f1.f0, .int .u64 z.f1.f1] 61)
        replace HAB := Aside0.mk (HAB.out.step hb)
        clear hb hlen hj hd1 hd2 q0 q1 q2 q3 q4 q5
        generalize wr.alloc (.cells #[.int .i64 z.f0.f0.f0, .int .i64 z.f0.f0.f1, .int .i64 z.f0.f1.f0, .int .i64 z.f0.f1.f1, .int .i64 z.f1.f0, .int .u64 z.f1.f1] 61) = w2 at HAB HZ ⊢
        generalize wr.heap.size = gz at HZ ⊢
        have HELD := cells6Z HZ.out
        clear HZ
        have HAD : AtB b w5 w2.drew _ := HAB.out.step (pw_below_drewN (Below.refl _ w2) 1)
        replace HAB := Aside0.mk HAD
        clear HAD
        have hb0 : Below w2.heap.size w2 w2.drew := pw_below_drewN (Below.refl _ w2) 1
        refine start_ (n := 9) (S := fun w' => w'.cell? ⟨gz, 0, none⟩ = some (.int .i64 z.f0.f0.f0) ∧ w'.cell? ⟨gz, 1, none⟩ = some (.int .i64 z.f0.f0.f1) ∧ w'.cell? ⟨gz, 2, none⟩ = some (.int .i64 z.f0.f1.f0) ∧ w'.cell? ⟨gz, 3, none⟩ = some (.int .i64 z.f0.f1.f1) ∧ w'.cell? ⟨gz, 4, none⟩ = some (.int .i64 z.f1.f0) ∧ w'.cell? ⟨gz, 5, none⟩ = some (.int .u64 z.f1.f1)) (ds := [8]) #[false, false, false, false, false, false, false, false, false] (by kernel_rfl) rfl rfl (by have hHeld := HELD; exact ⟨cell_below hHeld.1 hb0, cell_below hHeld.2.1 hb0, cell_below hHeld.2.2.1 hb0, cell_below hHeld.2.2.2.1 hb0, cell_below hHeld.2.2.2.2.1 hb0, cell_below hHeld.2.2.2.2.2 hb0⟩) (fun hHeld => ?_)
        clear HELD hb0
        generalize w2.drew = wz0 at HAB hHeld ⊢
        refine pure_ (i := 0) (N := some 37) (v := ?_) (a' := ?_) #[true, false, false, false, false, false, false, false, false] rfl rfl (by kernel_rfl) (fun _ _ _ h => h) (Or.inl ⟨by rfl, ?_⟩) ?_ ?_
        rotate_left
        · intro w'; go_simp; with_reducible rfl
        rotate_left
        · simp only [Act.put, List.setIfInBounds_toArray, List.set_cons_zero, List.set_cons_succ, i64_w, i32_w]; rfl
        refine pure_ (i := 1) (N := some 38) (v := ?_) (a' := ?_) #[true, true, false, false, false, false, false, false, false] rfl rfl (by kernel_rfl) (fun _ _ _ h => h) (Or.inl ⟨by rfl, ?_⟩) ?_ ?_
        rotate_left
        · intro w'; go_simp; with_reducible rfl
        rotate_left
        · simp only [Act.put, List.setIfInBounds_toArray, List.set_cons_zero, List.set_cons_succ, i64_w, i32_w]; rfl
        refine take_ (i := 2) (N := some 39) (v := ?_) (a' := ?_) #[true, true, true, false, false, false, false, false, false] rfl rfl (by kernel_rfl) (fun _ _ _ h => h) (Or.inl ⟨by rfl, ?_⟩) hHeld ?_ ?_
        rotate_left
        · rintro w' ⟨s0_, s1_, s2_, s3_, s4_, s5_⟩; go_simp; with_reducible rfl
        rotate_left
        · simp only [Act.put, List.setIfInBounds_toArray, List.set_cons_zero, List.set_cons_succ, i64_w, i32_w]; rfl
        refine pure_ (i := 4) (N := some 41) (v := ?_) (a' := ?_) #[true, true, true, false, true, false, false, false, false] rfl rfl (by kernel_rfl) (fun _ _ _ h => h) (Or.inl ⟨by rfl, ?_⟩) ?_ ?_
        rotate_left
        · intro w'; go_simp; with_reducible rfl
        rotate_left
        · simp only [Act.put, List.setIfInBounds_toArray, List.set_cons_zero, List.set_cons_succ, i64_w, i32_w]; rfl
        refine take_ (i := 5) (N := some 42) (v := ?_) (a' := ?_) #[true, true, true, false, true, true, false, false, false] rfl rfl (by kernel_rfl) (fun _ _ _ h => h) (Or.inl ⟨by rfl, ?_⟩) hHeld ?_ ?_
        rotate_left
        · rintro w' ⟨s0_, s1_, s2_, s3_, s4_, s5_⟩; go_simp; with_reducible rfl
        rotate_left
        · simp only [Act.put, List.setIfInBounds_toArray, List.set_cons_zero, List.set_cons_succ, i64_w, i32_w]; rfl
        refine one_ (i := 3) (N := some 40) #[true, true, true, true, true, true, false, false, false] rfl rfl (by kernel_rfl) (by decide) (fun K hK => ?_)
        refine goes_ Tryd.func20 (by kernel_rfl) rfl #[.agg #[.int .i64 z.f0.f0.f0, .int .i64 z.f0.f0.f1, .int .i64 z.f0.f1.f0, .int .i64 z.f0.f1.f1]] (by rfl) rfl rfl (by (try simp only [List.map_toArray, List.map_cons, List.map_nil]); first | done | rfl) ?_
        have HTW := tb_ HAB.out.be HT5
        with_reducible refine (span_Text.calls k z.f0.f0.f0 z.f0.f0.f1 z.f0.f1.f0 z.f0.f1.f1 ta _ HTW HTA.out).mono ?_
        rintro e wz1 ⟨rfl, hb⟩
        refine ⟨_, rfl, ?_⟩
        replace HAB := Aside0.mk (HAB.out.step hb)
        clear HTW
        refine hK.out _ _ ⟨cell_below hHeld.1 hb, cell_below hHeld.2.1 hb, cell_below hHeld.2.2.1 hb, cell_below hHeld.2.2.2.1 hb, cell_below hHeld.2.2.2.2.1 hb, cell_below hHeld.2.2.2.2.2 hb⟩ (fun hHeld => ?_)
        clear hK K hb
        refine norm_ (a' := ?_) ?_ ?_
        rotate_left
        · show Act.put _ (some 40) _ = _
          simp only [Act.put, List.setIfInBounds_toArray, List.set_cons_zero, List.set_cons_succ, i64_w, i32_w]
          rfl
        refine one_ (i := 6) (N := some 43) #[true, true, true, true, true, true, true, false, false] rfl rfl (by kernel_rfl) (by decide) (fun K hK => ?_)
        refine goes_ Tryd.func21 (by kernel_rfl) rfl #[.agg #[.int .i64 z.f1.f0, .int .u64 z.f1.f1]] (by rfl) rfl rfl (by (try simp only [List.map_toArray, List.map_cons, List.map_nil]); first | done | rfl) ?_
        have HTW := tb_ HAB.out.be HT5
        with_reducible refine (label_Text.calls k z.f1.f0 z.f1.f1 tb _ HTW HTB.out).mono ?_
        rintro e wz2 ⟨rfl, hb⟩
        refine ⟨_, rfl, ?_⟩
        replace HAB := Aside0.mk (HAB.out.step hb)
        clear HTW
        refine hK.out _ _ ⟨cell_below hHeld.1 hb, cell_below hHeld.2.1 hb, cell_below hHeld.2.2.1 hb, cell_below hHeld.2.2.2.1 hb, cell_below hHeld.2.2.2.2.1 hb, cell_below hHeld.2.2.2.2.2 hb⟩ (fun hHeld => ?_)
        clear hK K hb
        refine norm_ (a' := ?_) ?_ ?_
        rotate_left
        · show Act.put _ (some 43) _ = _
          simp only [Act.put, List.setIfInBounds_toArray, List.set_cons_zero, List.set_cons_succ, i64_w, i32_w]
          rfl
        refine one_ (i := 7) (N := some 44) #[true, true, true, true, true, true, true, true, false] rfl rfl (by kernel_rfl) (by decide) (fun K hK => ?_)
        refine value_ (w1 := wz2.alloc (.cells #[.string ⟨#[122, 111, 110, 101]⟩, .string ta, .string tb] 9)) (v := .slice (some ⟨wz2.heap.size, 0, none⟩) 3 3) (by rfl) rfl (by go_simp) ?_
        have hnb := new_below wz2 (.cells #[.string ⟨#[122, 111, 110, 101]⟩, .string ta, .string tb] 9)
        have HWS : Aside0 (Kd.C Kd.string (wz2.alloc (.cells #[.string ⟨#[122, 111, 110, 101]⟩, .string ta, .string tb] 9)) (some ⟨wz2.heap.size, 0, none⟩) [⟨#[122, 111, 110, 101]⟩, ta, tb].length [⟨#[122, 111, 110, 101]⟩, ta, tb]) := ⟨words_of (strs_own wz2 [⟨#[122, 111, 110, 101]⟩, ta, tb] (by simp))⟩
        replace HAB := Aside0.mk (HAB.out.step hnb)
        refine hK.out _ _ ⟨cell_below hHeld.1 hnb, cell_below hHeld.2.1 hnb, cell_below hHeld.2.2.1 hnb, cell_below hHeld.2.2.2.1 hnb, cell_below hHeld.2.2.2.2.1 hnb, cell_below hHeld.2.2.2.2.2 hnb⟩ (fun hHeld => ?_)
        clear hK K hnb hHeld
        generalize wz2.alloc (.cells #[.string ⟨#[122, 111, 110, 101]⟩, .string ta, .string tb] 9) = wzb at HAB HWS ⊢
        generalize wz2.heap.size = gzb at HWS ⊢
        refine norm_ (a' := ?_) ?_ ?_
        rotate_left
        · show Act.put _ (some 44) _ = _
          simp only [Act.put, List.setIfInBounds_toArray, List.set_cons_zero, List.set_cons_succ, i64_w, i32_w]
          rfl
        refine last_ (i := 8) (N := some 45) #[true, true, true, true, true, true, true, true, true] rfl rfl (by kernel_rfl) (by decide) (fun K hK => ?_)
        refine goesV_ Tryd.func15 (by kernel_rfl) rfl #[.slice (some ⟨gzb, 0, none⟩) 3 3, .pointer (some ⟨b, 0, none⟩)] #[.pointer (some ⟨b, 0, none⟩)] (by rfl) rfl rfl (by rfl) (by simp only [List.map_toArray, List.map_cons, List.map_nil, List.append_toArray, List.cons_append, List.nil_append]; rfl) ?_
        have hL := line_calls b b acc oo (some ⟨gzb, 0, none⟩) 3 [⟨#[122, 111, 110, 101]⟩, ta, tb] wzb ⟨HAB.out.bl⟩ ⟨HAB.out.sz⟩ HWS (Nat.le_refl _) HOO.out
        refine (show Calls Tryd.prog 15 #[.slice (some ⟨gzb, 0, none⟩) 3 3, .pointer (some ⟨b, 0, none⟩)] wzb _ from hL).mono ?_
        rintro e wzz ⟨rfl, hbl, hbb⟩
        refine ⟨_, rfl, ?_⟩
        replace HAB := Aside0.mk (HAB.out.line hbl hbb)
        clear hL hbl hbb HWS
        refine hK.out _ _ ?_
        clear hK K
        refine done_ (by kernel_rfl) ?_
        have hlen := (HR.out.z).2.1
        go_wp2
        go_roundw
        case rel => exact ⟨j + 1, _, by go_num, ⟨by omega⟩, HAB, HO⟩
        case measure => simp [intOf]; omega
      · have hd1 : decide (j < l0_2.length) = false := decide_eq_false hlt
        have hd2 : decide ((j : Int) < (l0_2.length : Int)) = false := decide_eq_false (by omega)
        have e1 : l0_2.drop j = [] := List.drop_eq_nil_of_le (by omega)
        have H := HO.out
        rw [e1] at H
        clear e1 HO
        simp only [ptz, Option.some.injEq] at H
        subst H
        go_wp2
        go_meet
        exact HAB
  case rest =>
    replace HAB := hcut
    clear hcut y2
    clear HO1
    obtain ⟨_, _, _, y2, _⟩ := cells5_ (blk_below HP.out HAB.out.be)
    go_upto_block 2 with fail
    go_cut [50] (fun v33 wc => Aside0 (AtB b w5 wc o2))
    case first =>
      clear y2
      go_wp2_with fail
      go_loopw [50] (fun v w' => ∃ (j : Nat) (acc : List UInt8), v = .int .i64 (j : Int) ∧ Aside0 (j ≤ l0_3.length) ∧ Aside0 (AtB b w5 w' acc) ∧ Aside0 (ptu k acc (l0_3.drop j) = some o2)) (fun v _ => l0_3.length - (intOf v).toNat)
      case atStart => exact ⟨0, _, rfl, ⟨Nat.zero_le _⟩, HAB, HO2⟩
      case round =>
        clear HAB
        obtain ⟨j, acc, rfl, HJ, HAB, HO⟩ := hrel
        by_cases hlt : j < l0_3.length
        · have hd1 : decide (j < l0_3.length) = true := decide_eq_true hlt
          have hd2 : decide ((j : Int) < (l0_3.length : Int)) = true := decide_eq_true (by omega)
          have e1 : l0_3.drop j = rd_T65 l0_3 (j : Int) :: l0_3.drop (j + 1) := by
            rw [List.drop_eq_getElem_cons hlt, rd_get65 l0_3 j hlt]
          have H := HO.out
          rw [e1] at H
          clear e1 HO
          simp only [ptu] at H
          obtain ⟨tb, T2, H⟩ := Option.bind_eq_some_iff.mp H
          obtain ⟨oo, O0, H⟩ := Option.bind_eq_some_iff.mp H
          have HTB := Aside0.mk T2
          have HOO := Aside0.mk O0
          have HO := Aside0.mk H
          clear H T2 O0
          obtain ⟨ad, rfl, q0, q1, q2⟩ := at_T65 (Kd.C_below HR.out.u HAB.out.be) (j : Int) (by omega) (by omega)
          rw [Int.toNat_natCast] at q0 q1 q2
          obtain ⟨z, hz⟩ : ∃ z, rd_T65 l0_3 (j : Int) = z := ⟨_, rfl⟩
          rw [hz] at q0 q1 q2 HTB HOO
          clear hz
          have hj := HJ.out
          have hlen := (HR.out.u).2.1
          go_upto_region 15 with fail
          have HZ := Aside0.mk (blk_new wr (.cells #[.string z.f0, .int .i64 z.f1.f0, .int .u64 z.f1.f1] 65))
          have hb := new_below wr (.cells #[.string z.f0, .int .i64 z.f1.f0, .int .u64 z.f1.f1] 65)
          replace HAB := Aside0.mk (HAB.out.step hb)
          clear hb hlen hj hd1 hd2 q0 q1 q2
          generalize wr.alloc (.cells #[.string z.f0, .int .i64 z.f1.f0, .int .u64 z.f1.f1] 65) = w2 at HAB HZ ⊢
          generalize wr.heap.size = gz at HZ ⊢
          have HELD := cells3Z HZ.out
          clear HZ
          have HAD : AtB b w5 w2.drew _ := HAB.out.step (pw_below_drewN (Below.refl _ w2) 1)
          replace HAB := Aside0.mk HAD
          clear HAD
          have hb0 : Below w2.heap.size w2 w2.drew := pw_below_drewN (Below.refl _ w2) 1
          refine start_ (n := 8) (S := fun w' => w'.cell? ⟨gz, 0, none⟩ = some (.string z.f0) ∧ w'.cell? ⟨gz, 1, none⟩ = some (.int .i64 z.f1.f0) ∧ w'.cell? ⟨gz, 2, none⟩ = some (.int .u64 z.f1.f1)) (ds := [7]) #[false, false, false, false, false, false, false, false] (by kernel_rfl) rfl rfl (by have hHeld := HELD; exact ⟨cell_below hHeld.1 hb0, cell_below hHeld.2.1 hb0, cell_below hHeld.2.2 hb0⟩) (fun hHeld => ?_)
          clear HELD hb0
          generalize w2.drew = wu0 at HAB hHeld ⊢
          refine pure_ (i := 0) (N := some 54) (v := ?_) (a' := ?_) #[true, false, false, false, false, false, false, false] rfl rfl (by kernel_rfl) (fun _ _ _ h => h) (Or.inl ⟨by rfl, ?_⟩) ?_ ?_
          rotate_left
          · intro w'; go_simp; with_reducible rfl
          rotate_left
          · simp only [Act.put, List.setIfInBounds_toArray, List.set_cons_zero, List.set_cons_succ, i64_w, i32_w]; rfl
          refine pure_ (i := 1) (N := some 55) (v := ?_) (a' := ?_) #[true, true, false, false, false, false, false, false] rfl rfl (by kernel_rfl) (fun _ _ _ h => h) (Or.inl ⟨by rfl, ?_⟩) ?_ ?_
          rotate_left
          · intro w'; go_simp; with_reducible rfl
          rotate_left
          · simp only [Act.put, List.setIfInBounds_toArray, List.set_cons_zero, List.set_cons_succ, i64_w, i32_w]; rfl
          refine take_ (i := 2) (N := some 56) (v := ?_) (a' := ?_) #[true, true, true, false, false, false, false, false] rfl rfl (by kernel_rfl) (fun _ _ _ h => h) (Or.inl ⟨by rfl, ?_⟩) hHeld ?_ ?_
          rotate_left
          · rintro w' ⟨s0_, s1_, s2_⟩; go_simp; with_reducible rfl
          rotate_left
          · simp only [Act.put, List.setIfInBounds_toArray, List.set_cons_zero, List.set_cons_succ, i64_w, i32_w]; rfl
          refine pure_ (i := 3) (N := some 57) (v := ?_) (a' := ?_) #[true, true, true, true, false, false, false, false] rfl rfl (by kernel_rfl) (fun _ _ _ h => h) (Or.inl ⟨by rfl, ?_⟩) ?_ ?_
          rotate_left
          · intro w'; go_simp; with_reducible rfl
          rotate_left
          · simp only [Act.put, List.setIfInBounds_toArray, List.set_cons_zero, List.set_cons_succ, i64_w, i32_w]; rfl
          refine take_ (i := 4) (N := some 58) (v := ?_) (a' := ?_) #[true, true, true, true, true, false, false, false] rfl rfl (by kernel_rfl) (fun _ _ _ h => h) (Or.inl ⟨by rfl, ?_⟩) hHeld ?_ ?_
          rotate_left
          · rintro w' ⟨s0_, s1_, s2_⟩; go_simp; with_reducible rfl
          rotate_left
          · simp only [Act.put, List.setIfInBounds_toArray, List.set_cons_zero, List.set_cons_succ, i64_w, i32_w]; rfl
          refine one_ (i := 5) (N := some 59) #[true, true, true, true, true, true, false, false] rfl rfl (by kernel_rfl) (by decide) (fun K hK => ?_)
          refine goes_ Tryd.func21 (by kernel_rfl) rfl #[.agg #[.int .i64 z.f1.f0, .int .u64 z.f1.f1]] (by rfl) rfl rfl (by (try simp only [List.map_toArray, List.map_cons, List.map_nil]); first | done | rfl) ?_
          have HTW := tb_ HAB.out.be HT5
          with_reducible refine (label_Text.calls k z.f1.f0 z.f1.f1 tb _ HTW HTB.out).mono ?_
          rintro e wu1 ⟨rfl, hb⟩
          refine ⟨_, rfl, ?_⟩
          replace HAB := Aside0.mk (HAB.out.step hb)
          clear HTW
          refine hK.out _ _ ⟨cell_below hHeld.1 hb, cell_below hHeld.2.1 hb, cell_below hHeld.2.2 hb⟩ (fun hHeld => ?_)
          clear hK K hb
          refine norm_ (a' := ?_) ?_ ?_
          rotate_left
          · show Act.put _ (some 59) _ = _
            simp only [Act.put, List.setIfInBounds_toArray, List.set_cons_zero, List.set_cons_succ, i64_w, i32_w]
            rfl
          refine one_ (i := 6) (N := some 60) #[true, true, true, true, true, true, true, false] rfl rfl (by kernel_rfl) (by decide) (fun K hK => ?_)
          refine value_ (w1 := wu1.alloc (.cells #[.string ⟨#[117, 115, 101, 114]⟩, .string z.f0, .string tb] 9)) (v := .slice (some ⟨wu1.heap.size, 0, none⟩) 3 3) (by rfl) rfl (by go_simp) ?_
          have hnb := new_below wu1 (.cells #[.string ⟨#[117, 115, 101, 114]⟩, .string z.f0, .string tb] 9)
          have HWS : Aside0 (Kd.C Kd.string (wu1.alloc (.cells #[.string ⟨#[117, 115, 101, 114]⟩, .string z.f0, .string tb] 9)) (some ⟨wu1.heap.size, 0, none⟩) [⟨#[117, 115, 101, 114]⟩, z.f0, tb].length [⟨#[117, 115, 101, 114]⟩, z.f0, tb]) := ⟨words_of (strs_own wu1 [⟨#[117, 115, 101, 114]⟩, z.f0, tb] (by simp))⟩
          replace HAB := Aside0.mk (HAB.out.step hnb)
          refine hK.out _ _ ⟨cell_below hHeld.1 hnb, cell_below hHeld.2.1 hnb, cell_below hHeld.2.2 hnb⟩ (fun hHeld => ?_)
          clear hK K hnb hHeld
          generalize wu1.alloc (.cells #[.string ⟨#[117, 115, 101, 114]⟩, .string z.f0, .string tb] 9) = wub at HAB HWS ⊢
          generalize wu1.heap.size = gub at HWS ⊢
          refine norm_ (a' := ?_) ?_ ?_
          rotate_left
          · show Act.put _ (some 60) _ = _
            simp only [Act.put, List.setIfInBounds_toArray, List.set_cons_zero, List.set_cons_succ, i64_w, i32_w]
            rfl
          refine last_ (i := 7) (N := some 61) #[true, true, true, true, true, true, true, true] rfl rfl (by kernel_rfl) (by decide) (fun K hK => ?_)
          refine goesV_ Tryd.func15 (by kernel_rfl) rfl #[.slice (some ⟨gub, 0, none⟩) 3 3, .pointer (some ⟨b, 0, none⟩)] #[.pointer (some ⟨b, 0, none⟩)] (by rfl) rfl rfl (by rfl) (by simp only [List.map_toArray, List.map_cons, List.map_nil, List.append_toArray, List.cons_append, List.nil_append]; rfl) ?_
          have hL := line_calls b b acc oo (some ⟨gub, 0, none⟩) 3 [⟨#[117, 115, 101, 114]⟩, z.f0, tb] wub ⟨HAB.out.bl⟩ ⟨HAB.out.sz⟩ HWS (Nat.le_refl _) HOO.out
          refine (show Calls Tryd.prog 15 #[.slice (some ⟨gub, 0, none⟩) 3 3, .pointer (some ⟨b, 0, none⟩)] wub _ from hL).mono ?_
          rintro e wuz ⟨rfl, hbl, hbb⟩
          refine ⟨_, rfl, ?_⟩
          replace HAB := Aside0.mk (HAB.out.line hbl hbb)
          clear hL hbl hbb HWS
          refine hK.out _ _ ?_
          clear hK K
          refine done_ (by kernel_rfl) ?_
          have hlen := (HR.out.u).2.1
          go_wp2
          go_roundw
          case rel => exact ⟨j + 1, _, by go_num, ⟨by omega⟩, HAB, HO⟩
          case measure => simp [intOf]; omega
        · have hd1 : decide (j < l0_3.length) = false := decide_eq_false hlt
          have hd2 : decide ((j : Int) < (l0_3.length : Int)) = false := decide_eq_false (by omega)
          have e1 : l0_3.drop j = [] := List.drop_eq_nil_of_le (by omega)
          have H := HO.out
          rw [e1] at H
          clear e1 HO
          simp only [ptu, Option.some.injEq] at H
          subst H
          go_wp2
          go_meet
          exact HAB
    case rest =>
      replace HAB := hcut
      clear hcut y2
      clear HO2
      obtain ⟨_, _, _, _, y2⟩ := cells5_ (blk_below HP.out HAB.out.be)
      go_upto_block 4 with fail
      go_cut [66] (fun v33 wc => Aside0 (AtB b w5 wc o3))
      case first =>
        clear y2
        go_wp2_with fail
        go_loopw [66] (fun v w' => ∃ (j : Nat) (acc : List UInt8), v = .int .i64 (j : Int) ∧ Aside0 (j ≤ l0_4.length) ∧ Aside0 (AtB b w5 w' acc) ∧ Aside0 (ptg k acc (l0_4.drop j) = some o3)) (fun v _ => l0_4.length - (intOf v).toNat)
        case atStart => exact ⟨0, _, rfl, ⟨Nat.zero_le _⟩, HAB, HO3⟩
        case round =>
          clear HAB
          obtain ⟨j, acc, rfl, HJ, HAB, HO⟩ := hrel
          by_cases hlt : j < l0_4.length
          · have hd1 : decide (j < l0_4.length) = true := decide_eq_true hlt
            have hd2 : decide ((j : Int) < (l0_4.length : Int)) = true := decide_eq_true (by omega)
            have e1 : l0_4.drop j = rd_T67 l0_4 (j : Int) :: l0_4.drop (j + 1) := by
              rw [List.drop_eq_getElem_cons hlt, rd_get67 l0_4 j hlt]
            have H := HO.out
            rw [e1] at H
            clear e1 HO
            simp only [ptg] at H
            obtain ⟨ta, T1, H⟩ := Option.bind_eq_some_iff.mp H
            obtain ⟨tb, T2, H⟩ := Option.bind_eq_some_iff.mp H
            obtain ⟨oo, O0, H⟩ := Option.bind_eq_some_iff.mp H
            have HTA := Aside0.mk T1
            have HTB := Aside0.mk T2
            have HOO := Aside0.mk O0
            have HO := Aside0.mk H
            clear H T1 T2 O0
            obtain ⟨ad, rfl, q0, q1, q2, q3, q4⟩ := at_T67 (Kd.C_below HR.out.g HAB.out.be) (j : Int) (by omega) (by omega)
            rw [Int.toNat_natCast] at q0 q1 q2 q3 q4
            obtain ⟨z, hz⟩ : ∃ z, rd_T67 l0_4 (j : Int) = z := ⟨_, rfl⟩
            rw [hz] at q0 q1 q2 q3 q4 HTA HTB HOO
            clear hz
            have hj := HJ.out
            have hlen := (HR.out.g).2.1
            go_upto_region 20 with fail
            have HZ := Aside0.mk (blk_new wr (.cells #[.string z.f0, .int .i64 z.f1.f0, .int .u64 z.f1.f1, .int .i64 z.f2.f0, .int .u64 z.f2.f1] 67))
            have hb := new_below wr (.cells #[.string z.f0, .int .i64 z.f1.f0, .int .u64 z.f1.f1, .int .i64 z.f2.f0, .int .u64 z.f2.f1] 67)
            replace HAB := Aside0.mk (HAB.out.step hb)
            clear hb hlen hj hd1 hd2 q0 q1 q2 q3 q4
            generalize wr.alloc (.cells #[.string z.f0, .int .i64 z.f1.f0, .int .u64 z.f1.f1, .int .i64 z.f2.f0, .int .u64 z.f2.f1] 67) = w2 at HAB HZ ⊢
            generalize wr.heap.size = gz at HZ ⊢
            have HELD := cells5Z HZ.out
            clear HZ
            have HAD : AtB b w5 w2.drew _ := HAB.out.step (pw_below_drewN (Below.refl _ w2) 1)
            replace HAB := Aside0.mk HAD
            clear HAD
            have hb0 : Below w2.heap.size w2 w2.drew := pw_below_drewN (Below.refl _ w2) 1
            refine start_ (n := 11) (S := fun w' => w'.cell? ⟨gz, 0, none⟩ = some (.string z.f0) ∧ w'.cell? ⟨gz, 1, none⟩ = some (.int .i64 z.f1.f0) ∧ w'.cell? ⟨gz, 2, none⟩ = some (.int .u64 z.f1.f1) ∧ w'.cell? ⟨gz, 3, none⟩ = some (.int .i64 z.f2.f0) ∧ w'.cell? ⟨gz, 4, none⟩ = some (.int .u64 z.f2.f1)) (ds := [10]) #[false, false, false, false, false, false, false, false, false, false, false] (by kernel_rfl) rfl rfl (by have hHeld := HELD; exact ⟨cell_below hHeld.1 hb0, cell_below hHeld.2.1 hb0, cell_below hHeld.2.2.1 hb0, cell_below hHeld.2.2.2.1 hb0, cell_below hHeld.2.2.2.2 hb0⟩) (fun hHeld => ?_)
            clear HELD hb0
            generalize w2.drew = wg0 at HAB hHeld ⊢
            refine pure_ (i := 0) (N := some 70) (v := ?_) (a' := ?_) #[true, false, false, false, false, false, false, false, false, false, false] rfl rfl (by kernel_rfl) (fun _ _ _ h => h) (Or.inl ⟨by rfl, ?_⟩) ?_ ?_
            rotate_left
            · intro w'; go_simp; with_reducible rfl
            rotate_left
            · simp only [Act.put, List.setIfInBounds_toArray, List.set_cons_zero, List.set_cons_succ, i64_w, i32_w]; rfl
            refine pure_ (i := 1) (N := some 71) (v := ?_) (a' := ?_) #[true, true, false, false, false, false, false, false, false, false, false] rfl rfl (by kernel_rfl) (fun _ _ _ h => h) (Or.inl ⟨by rfl, ?_⟩) ?_ ?_
            rotate_left
            · intro w'; go_simp; with_reducible rfl
            rotate_left
            · simp only [Act.put, List.setIfInBounds_toArray, List.set_cons_zero, List.set_cons_succ, i64_w, i32_w]; rfl
            refine take_ (i := 2) (N := some 72) (v := ?_) (a' := ?_) #[true, true, true, false, false, false, false, false, false, false, false] rfl rfl (by kernel_rfl) (fun _ _ _ h => h) (Or.inl ⟨by rfl, ?_⟩) hHeld ?_ ?_
            rotate_left
            · rintro w' ⟨s0_, s1_, s2_, s3_, s4_⟩; go_simp; with_reducible rfl
            rotate_left
            · simp only [Act.put, List.setIfInBounds_toArray, List.set_cons_zero, List.set_cons_succ, i64_w, i32_w]; rfl
            refine pure_ (i := 3) (N := some 73) (v := ?_) (a' := ?_) #[true, true, true, true, false, false, false, false, false, false, false] rfl rfl (by kernel_rfl) (fun _ _ _ h => h) (Or.inl ⟨by rfl, ?_⟩) ?_ ?_
            rotate_left
            · intro w'; go_simp; with_reducible rfl
            rotate_left
            · simp only [Act.put, List.setIfInBounds_toArray, List.set_cons_zero, List.set_cons_succ, i64_w, i32_w]; rfl
            refine take_ (i := 4) (N := some 74) (v := ?_) (a' := ?_) #[true, true, true, true, true, false, false, false, false, false, false] rfl rfl (by kernel_rfl) (fun _ _ _ h => h) (Or.inl ⟨by rfl, ?_⟩) hHeld ?_ ?_
            rotate_left
            · rintro w' ⟨s0_, s1_, s2_, s3_, s4_⟩; go_simp; with_reducible rfl
            rotate_left
            · simp only [Act.put, List.setIfInBounds_toArray, List.set_cons_zero, List.set_cons_succ, i64_w, i32_w]; rfl
            refine pure_ (i := 6) (N := some 76) (v := ?_) (a' := ?_) #[true, true, true, true, true, false, true, false, false, false, false] rfl rfl (by kernel_rfl) (fun _ _ _ h => h) (Or.inl ⟨by rfl, ?_⟩) ?_ ?_
            rotate_left
            · intro w'; go_simp; with_reducible rfl
            rotate_left
            · simp only [Act.put, List.setIfInBounds_toArray, List.set_cons_zero, List.set_cons_succ, i64_w, i32_w]; rfl
            refine take_ (i := 7) (N := some 77) (v := ?_) (a' := ?_) #[true, true, true, true, true, false, true, true, false, false, false] rfl rfl (by kernel_rfl) (fun _ _ _ h => h) (Or.inl ⟨by rfl, ?_⟩) hHeld ?_ ?_
            rotate_left
            · rintro w' ⟨s0_, s1_, s2_, s3_, s4_⟩; go_simp; with_reducible rfl
            rotate_left
            · simp only [Act.put, List.setIfInBounds_toArray, List.set_cons_zero, List.set_cons_succ, i64_w, i32_w]; rfl
            refine one_ (i := 5) (N := some 75) #[true, true, true, true, true, true, true, true, false, false, false] rfl rfl (by kernel_rfl) (by decide) (fun K hK => ?_)
            refine goes_ Tryd.func21 (by kernel_rfl) rfl #[.agg #[.int .i64 z.f1.f0, .int .u64 z.f1.f1]] (by rfl) rfl rfl (by (try simp only [List.map_toArray, List.map_cons, List.map_nil]); first | done | rfl) ?_
            have HTW := tb_ HAB.out.be HT5
            with_reducible refine (label_Text.calls k z.f1.f0 z.f1.f1 ta _ HTW HTA.out).mono ?_
            rintro e wg1 ⟨rfl, hb⟩
            refine ⟨_, rfl, ?_⟩
            replace HAB := Aside0.mk (HAB.out.step hb)
            clear HTW
            refine hK.out _ _ ⟨cell_below hHeld.1 hb, cell_below hHeld.2.1 hb, cell_below hHeld.2.2.1 hb, cell_below hHeld.2.2.2.1 hb, cell_below hHeld.2.2.2.2 hb⟩ (fun hHeld => ?_)
            clear hK K hb
            refine norm_ (a' := ?_) ?_ ?_
            rotate_left
            · show Act.put _ (some 75) _ = _
              simp only [Act.put, List.setIfInBounds_toArray, List.set_cons_zero, List.set_cons_succ, i64_w, i32_w]
              rfl
            refine one_ (i := 8) (N := some 78) #[true, true, true, true, true, true, true, true, true, false, false] rfl rfl (by kernel_rfl) (by decide) (fun K hK => ?_)
            refine goes_ Tryd.func21 (by kernel_rfl) rfl #[.agg #[.int .i64 z.f2.f0, .int .u64 z.f2.f1]] (by rfl) rfl rfl (by (try simp only [List.map_toArray, List.map_cons, List.map_nil]); first | done | rfl) ?_
            have HTW := tb_ HAB.out.be HT5
            with_reducible refine (label_Text.calls k z.f2.f0 z.f2.f1 tb _ HTW HTB.out).mono ?_
            rintro e wg2 ⟨rfl, hb⟩
            refine ⟨_, rfl, ?_⟩
            replace HAB := Aside0.mk (HAB.out.step hb)
            clear HTW
            refine hK.out _ _ ⟨cell_below hHeld.1 hb, cell_below hHeld.2.1 hb, cell_below hHeld.2.2.1 hb, cell_below hHeld.2.2.2.1 hb, cell_below hHeld.2.2.2.2 hb⟩ (fun hHeld => ?_)
            clear hK K hb
            refine norm_ (a' := ?_) ?_ ?_
            rotate_left
            · show Act.put _ (some 78) _ = _
              simp only [Act.put, List.setIfInBounds_toArray, List.set_cons_zero, List.set_cons_succ, i64_w, i32_w]
              rfl
            refine one_ (i := 9) (N := some 79) #[true, true, true, true, true, true, true, true, true, true, false] rfl rfl (by kernel_rfl) (by decide) (fun K hK => ?_)
            refine value_ (w1 := wg2.alloc (.cells #[.string ⟨#[103, 114, 97, 110, 116]⟩, .string z.f0, .string ta, .string tb] 9)) (v := .slice (some ⟨wg2.heap.size, 0, none⟩) 4 4) (by rfl) rfl (by go_simp) ?_
            have hnb := new_below wg2 (.cells #[.string ⟨#[103, 114, 97, 110, 116]⟩, .string z.f0, .string ta, .string tb] 9)
            have HWS : Aside0 (Kd.C Kd.string (wg2.alloc (.cells #[.string ⟨#[103, 114, 97, 110, 116]⟩, .string z.f0, .string ta, .string tb] 9)) (some ⟨wg2.heap.size, 0, none⟩) [⟨#[103, 114, 97, 110, 116]⟩, z.f0, ta, tb].length [⟨#[103, 114, 97, 110, 116]⟩, z.f0, ta, tb]) := ⟨words_of (strs_own wg2 [⟨#[103, 114, 97, 110, 116]⟩, z.f0, ta, tb] (by simp))⟩
            replace HAB := Aside0.mk (HAB.out.step hnb)
            refine hK.out _ _ ⟨cell_below hHeld.1 hnb, cell_below hHeld.2.1 hnb, cell_below hHeld.2.2.1 hnb, cell_below hHeld.2.2.2.1 hnb, cell_below hHeld.2.2.2.2 hnb⟩ (fun hHeld => ?_)
            clear hK K hnb hHeld
            generalize wg2.alloc (.cells #[.string ⟨#[103, 114, 97, 110, 116]⟩, .string z.f0, .string ta, .string tb] 9) = wgb at HAB HWS ⊢
            generalize wg2.heap.size = ggb at HWS ⊢
            refine norm_ (a' := ?_) ?_ ?_
            rotate_left
            · show Act.put _ (some 79) _ = _
              simp only [Act.put, List.setIfInBounds_toArray, List.set_cons_zero, List.set_cons_succ, i64_w, i32_w]
              rfl
            refine last_ (i := 10) (N := some 80) #[true, true, true, true, true, true, true, true, true, true, true] rfl rfl (by kernel_rfl) (by decide) (fun K hK => ?_)
            refine goesV_ Tryd.func15 (by kernel_rfl) rfl #[.slice (some ⟨ggb, 0, none⟩) 4 4, .pointer (some ⟨b, 0, none⟩)] #[.pointer (some ⟨b, 0, none⟩)] (by rfl) rfl rfl (by rfl) (by simp only [List.map_toArray, List.map_cons, List.map_nil, List.append_toArray, List.cons_append, List.nil_append]; rfl) ?_
            have hL := line_calls b b acc oo (some ⟨ggb, 0, none⟩) 4 [⟨#[103, 114, 97, 110, 116]⟩, z.f0, ta, tb] wgb ⟨HAB.out.bl⟩ ⟨HAB.out.sz⟩ HWS (Nat.le_refl _) HOO.out
            refine (show Calls Tryd.prog 15 #[.slice (some ⟨ggb, 0, none⟩) 4 4, .pointer (some ⟨b, 0, none⟩)] wgb _ from hL).mono ?_
            rintro e wgz ⟨rfl, hbl, hbb⟩
            refine ⟨_, rfl, ?_⟩
            replace HAB := Aside0.mk (HAB.out.line hbl hbb)
            clear hL hbl hbb HWS
            refine hK.out _ _ ?_
            clear hK K
            refine done_ (by kernel_rfl) ?_
            have hlen := (HR.out.g).2.1
            go_wp2
            go_roundw
            case rel => exact ⟨j + 1, _, by go_num, ⟨by omega⟩, HAB, HO⟩
            case measure => simp [intOf]; omega
          · have hd1 : decide (j < l0_4.length) = false := decide_eq_false hlt
            have hd2 : decide ((j : Int) < (l0_4.length : Int)) = false := decide_eq_false (by omega)
            have e1 : l0_4.drop j = [] := List.drop_eq_nil_of_le (by omega)
            have H := HO.out
            rw [e1] at H
            clear e1 HO
            simp only [ptg, Option.some.injEq] at H
            subst H
            go_wp2
            go_meet
            exact HAB
      case rest =>
        replace HAB := hcut
        clear hcut y2
        clear HO3 HP HR HT5
        go_wp2_with (go_at_call 22; refine (Tryd.Builder_String_any_k b b o3 _ HAB.out.bl HAB.out.sz).mono ?_; rintro e w9 ⟨rfl, hbl, hbb, _⟩)
        go_ret
        exact ⟨rfl, below_step HB.out (HAB.out.line hbl hbb).be⟩
end Go.Proofs.YtbboanfggaknjaaDoor.X
namespace Go.Proofs.YtbboanfggaknjaaDoor.X
open Go.RowKit Go.Proofs.YtbboanfggaknjaaDoorW.PrintWords Go.Proofs.YtbboanfggaknjaaDoorW.PrintLast Go.Proofs.YtbboanfggaknjaaDoorW.PrintMore
attribute [local go_sem] max2_int min2_int max_two min_two max_three min_three max_four min_four
set_option linter.unusedVariables false
set_option linter.unusedSimpArgs false
def oculusref01_Digits.l0 : Nat → Int → ByteArray → Option (ByteArray)
 | 0, _, _ => none
 | k + 1, x0, x3 => if x0 > 0 then ((some (([(wrap64 (48 + (Int.tmod x0 10))) % 256] : List Int) : List Int)).bind fun y104 => (if (strOfNums y104).size + x3.size ≤ 9223372036854775807 then (oculusref01_Digits.l0 k (wrap64 (Int.tdiv x0 10)) ((strOfNums y104) ++ x3)) else (none))) else (some x3)
def oculusref01_Digits.f (k : Nat) (a0 : Int) : Option (ByteArray) := oculusref01_Digits.l0 k (wrap64 (Int.tdiv a0 10)) (strOfNums (([(wrap64 (48 + (Int.tmod a0 10))) % 256] : List Int)))
theorem oculusref01_Digits.mono_l : ∀ k, (∀ y0 y1, LeO (oculusref01_Digits.l0 k y0 y1) (oculusref01_Digits.l0 (k + 1) y0 y1))
 | 0 => fun _ _ r h => by simp [oculusref01_Digits.l0] at h
 | k + 1 => by
  have ih0 := oculusref01_Digits.mono_l k
  ·intro y0 y1
   unfold oculusref01_Digits.l0
   repeat' first
   | (with_reducible exact ih0 _ _)
   | (with_reducible exact LeO.refl _)
   | (with_reducible exact LeO.none _)
   | (with_reducible refine LeO.ite ?_ ?_)
   | (with_reducible refine LeO.bind ?_ (fun _ => ?_))
theorem oculusref01_Digits.mono : ∀ a0 k, LeO (oculusref01_Digits.f k a0) (oculusref01_Digits.f (k + 1) a0) := by
 intro a0 k; have ih0 := oculusref01_Digits.mono_l k
 unfold oculusref01_Digits.f
 repeat' first
   | (with_reducible exact ih0 _ _)
   | (with_reducible exact LeO.refl _)
   | (with_reducible exact LeO.none _)
   | (with_reducible refine LeO.ite ?_ ?_)
   | (with_reducible refine LeO.bind ?_ (fun _ => ?_))
set_option maxHeartbeats 8000000 in
set_option maxRecDepth 100000 in
theorem oculusref01_Digits.calls (k : Nat) (a0 : Int) (r : ByteArray) (w : World) (h : oculusref01_Digits.f k a0 = some r) :
  Calls Tryd.prog 23 #[.int .i64 a0] w fun e w' => e = .returned (.string r) ∧ Below w.heap.size w w' := by
 have HB := Aside0.mk (Below.refl w.heap.size w)
 have H : (oculusref01_Digits.l0 k (wrap64 (Int.tdiv a0 10)) (strOfNums (([(wrap64 (48 + (Int.tmod a0 10))) % 256] : List Int)))) = some r := h
 clear h; obtain ⟨y101, hy101⟩ : ∃ y_ : List Int, y_ = (([(wrap64 (48 + (Int.tmod a0 10))) % 256] : List Int)) := ⟨_, rfl⟩
 replace H : (oculusref01_Digits.l0 k (wrap64 (Int.tdiv a0 10)) (strOfNums y101)) = some r := by first | (rw [hy101]; with_reducible exact H) | (have H2_ := (Option.bind_some _ _).symm.trans H; rw [hy101]; with_reducible exact H2_) | (have H2_ := (Option.bind_some _ _).symm.trans H; with_reducible exact H2_) | with_reducible exact H | (rw [hy101]; exact H) | exact H
 have Ny101 := Aside0.mk hy101; clear hy101
 have H' := Aside0.mk H
 clear H
 go_enter Tryd.func23, Tryd.ntmps23
 go_wp2_with (first | ((with_reducible refine gate_dst (N:=8) rfl ?_); refine Kd.R_lit (Kd.int .u8) _ 5 ?hg (N:=8) ?hd (xs := ([(wrap64 (48 + (Int.tmod a0 10))) % 256] : List Int)) (inner := [.int .u8 ((wrap64 (48 + (Int.tmod a0 10))) % 256)]) (ok := fun _ => True) (okp := fun _ => True) ?hr ?hp (fun _ hk => hk) trivial (Below.refl _ _) (Nat.le_refl _) (by simp) ?_; (case hd => rfl); (case hg => rfl); (case hr => first | (go_simp; done) | (go_simp; rfl)); (case hp => exact (Reps.one (show Kd.M (Kd.int .u8) _ _ _ ((wrap64 (48 + (Int.tmod a0 10))) % 256) [.int .u8 ((wrap64 (48 + (Int.tmod a0 10))) % 256)] from rfl) (Reps.none _ _))); intro v102 w2 ho3 hb hg_ hnew_; clear hg_ hnew_; (first | rw [← Ny101.out] at ho3 | (simp only [Int.reduceToNat] at ho3; rw [← Ny101.out] at ho3)); have HO103 := Aside0.mk (Kd.R_lower ho3 (below_size (pbx HB))); replace HB := bs_ HB hb; clear hb ho3; have hcv4 := own_string (P := Tryd.prog) Tryd.underlying43 Tryd.underlying5 Tryd.underlying9 (Kd.own_of_R HO103.out)))
 go_loopg [0, 3] k (fun kq v0 v3 w' => ∃ (x0_1 : Int) (x3_1 : ByteArray), v0 = .int .i64 x0_1 ∧ v3 = .string x3_1 ∧ Aside0 (oculusref01_Digits.l0 kq x0_1 x3_1 = some r) ∧ Aside0 (kq ≤ k) ∧ Aside0 (Below w.heap.size w w'))
 case atStart => exact ⟨(wrap64 (Int.tdiv a0 10)), (strOfNums y101), (by first | rfl | (simp; done) | (simp [*]; done)), (by first | rfl | (simp; done) | (simp [*]; done)), H', ⟨Nat.le_refl _⟩, ⟨pbx HB⟩⟩
 case round =>
  clear H'; (try clear c2); (try clear p2); (try clear hcv4); obtain ⟨x0_1, x3_1, rfl, rfl, HA, HK1, HB⟩ := hrel
  cases gk with
  | zero => exact absurd HA.out (by simp [oculusref01_Digits.l0])
  | succ k1 =>
   have H := HA.out; clear HA
   simp only [oculusref01_Digits.l0] at H
   by_cases c5 : x0_1 > 0
   ·rw [if_pos c5] at H; have c5b0 : decide (0 < x0_1) = true := decide_eq_true c5; clear c5; obtain ⟨y104, hy104⟩ : ∃ y_ : List Int, y_ = (([(wrap64 (48 + (Int.tmod x0_1 10))) % 256] : List Int)) := ⟨_, rfl⟩
    replace H : (if (strOfNums y104).size + x3_1.size ≤ 9223372036854775807 then (oculusref01_Digits.l0 k1 (wrap64 (Int.tdiv x0_1 10)) ((strOfNums y104) ++ x3_1)) else (none)) = some r := by first | (rw [hy104]; with_reducible exact H) | (have H2_ := (Option.bind_some _ _).symm.trans H; rw [hy104]; with_reducible exact H2_) | (have H2_ := (Option.bind_some _ _).symm.trans H; with_reducible exact H2_) | with_reducible exact H | (rw [hy104]; exact H) | exact H
    have Ny104 := Aside0.mk hy104; clear hy104
    by_cases c6 : (strOfNums y104).size + x3_1.size ≤ 9223372036854775807
    ·rw [if_pos c6] at H; have c6b0 := eq_true c6; have c6b1 : decide ((strOfNums y104).size + x3_1.size ≤ 9223372036854775807) = true := decide_eq_true c6
     try have c6b2 : (9223372036854775807 < (strOfNums y104).size + x3_1.size) = False := eq_false (Nat.not_lt.2 c6)
     have H' := Aside0.mk H
     clear H
     go_wp2_with (first | ((with_reducible refine gate_dst (N:=20) rfl ?_); refine Kd.R_lit (Kd.int .u8) _ 5 ?hg (N:=20) ?hd (xs := ([(wrap64 (48 + (Int.tmod x0_1 10))) % 256] : List Int)) (inner := [.int .u8 ((wrap64 (48 + (Int.tmod x0_1 10))) % 256)]) (ok := fun _ => True) (okp := fun _ => True) ?hr ?hp (fun _ hk => hk) trivial (Below.refl _ _) (Nat.le_refl _) (by simp) ?_; (case hd => rfl); (case hg => rfl); (case hr => first | (go_simp; done) | (go_simp; rfl)); (case hp => exact (Reps.one (show Kd.M (Kd.int .u8) _ _ _ ((wrap64 (48 + (Int.tmod x0_1 10))) % 256) [.int .u8 ((wrap64 (48 + (Int.tmod x0_1 10))) % 256)] from rfl) (Reps.none _ _))); intro v105 w7 ho8 hb hg_ hnew_; clear hg_ hnew_; (first | rw [← Ny104.out] at ho8 | (simp only [Int.reduceToNat] at ho8; rw [← Ny104.out] at ho8)); have HO106 := Aside0.mk (Kd.R_lower ho8 (below_size (pbx HB))); replace HB := bs_ HB hb; clear hb ho8; have hcv9 := own_string (P := Tryd.prog) Tryd.underlying43 Tryd.underlying5 Tryd.underlying9 (Kd.own_of_R HO106.out)))
     go_roundg k1
     case measure => have := HK1.out; omega
     case rel => exact ⟨(wrap64 (Int.tdiv x0_1 10)), ((strOfNums y104) ++ x3_1), (by first | rfl | (simp; done) | (simp [*]; done)), (by first | rfl | (simp; done) | (simp [*]; done)), H', ⟨by have := HK1.out; omega⟩, ⟨pbx HB⟩⟩
    ·rw [if_neg c6] at H
     exact absurd H (by simp)
   ·rw [if_neg c5] at H; have c5b0 : decide (0 < x0_1) = false := decide_eq_false c5; clear c5; obtain rfl := Option.some.inj H
    go_wp2
    go_ret
    exact ⟨by first | rfl | (simp [errW_none, errW_some] <;> rfl) | (simp [*, errW_none, errW_some] <;> rfl), pbx HB⟩

def oculusref03_Letters.j0 : Nat → Int → Bool → Option (ByteArray)
 | 0, _, _ => none
 | k + 1, x0, x8 => if x8 = true then (some (⟨#[]⟩ : ByteArray)) else (if x0 < 26 then (some (strOfNums (([(wrap64 (65 + x0)) % 256] : List Int)))) else (some (strOfNums (([(wrap64 (64 + (wrap64 (Int.tdiv x0 26)))) % 256, (wrap64 (65 + (Int.tmod x0 26))) % 256] : List Int)))))
def oculusref03_Letters.f (k : Nat) (a0 : Int) : Option (ByteArray) := if a0 < 0 then (oculusref03_Letters.j0 k a0 true) else (oculusref03_Letters.j0 k a0 (decide (a0 > 701)))
theorem oculusref03_Letters.mono_l : ∀ k, (∀ y0 y1, LeO (oculusref03_Letters.j0 k y0 y1) (oculusref03_Letters.j0 (k + 1) y0 y1))
 | 0 => fun _ _ r h => by simp [oculusref03_Letters.j0] at h
 | k + 1 => by
  have ih0 := oculusref03_Letters.mono_l k
  ·intro y0 y1
   unfold oculusref03_Letters.j0
   repeat' first
   | (with_reducible exact ih0 _ _)
   | (with_reducible exact LeO.refl _)
   | (with_reducible exact LeO.none _)
   | (with_reducible refine LeO.ite ?_ ?_)
   | (with_reducible refine LeO.bind ?_ (fun _ => ?_))
theorem oculusref03_Letters.mono : ∀ a0 k, LeO (oculusref03_Letters.f k a0) (oculusref03_Letters.f (k + 1) a0) := by
 intro a0 k; have ih0 := oculusref03_Letters.mono_l k
 unfold oculusref03_Letters.f
 repeat' first
   | (with_reducible exact ih0 _ _)
   | (with_reducible exact LeO.refl _)
   | (with_reducible exact LeO.none _)
   | (with_reducible refine LeO.ite ?_ ?_)
   | (with_reducible refine LeO.bind ?_ (fun _ => ?_))
set_option maxHeartbeats 8000000 in
set_option maxRecDepth 100000 in
theorem oculusref03_Letters.calls (k : Nat) (a0 : Int) (r : ByteArray) (w : World) (h : oculusref03_Letters.f k a0 = some r) :
  Calls Tryd.prog 65 #[.int .i64 a0] w fun e w' => e = .returned (.string r) ∧ Below w.heap.size w w' := by
 have HB := Aside0.mk (Below.refl w.heap.size w)
 have H : (if a0 < 0 then (oculusref03_Letters.j0 k a0 true) else (oculusref03_Letters.j0 k a0 (decide (a0 > 701)))) = some r := h
 clear h; have HC2 := Aside0.mk H; clear H
 go_enter Tryd.func65, Tryd.ntmps65
 go_upto_region 1 with (fail)
 go_cut [8] (fun v8 wc => ∃ (kq : Nat) (x8_1 : Bool), v8 = .bool x8_1 ∧ Aside0 (oculusref03_Letters.j0 kq a0 x8_1 = some r) ∧ Aside0 (kq ≤ k) ∧ Aside0 (Below w.heap.size w wc))
 case first =>
  have H := HC2.out; clear HC2
  by_cases c3 : a0 < 0
  ·rw [if_pos c3] at H; have c3b0 : decide (a0 < 0) = true := decide_eq_true c3; clear c3; (first | rw [c3b0] | (simp only [i64_w, i32_w]; rw [c3b0]) | skip)
   have H' := Aside0.mk H
   clear H
   go_wp2
   go_meet
   case rel => exact ⟨_, (true), (by first | rfl | (simp; done) | (simp [*]; done)), H', ⟨by first | omega | exact Nat.le_refl _⟩, ⟨pbx HB⟩⟩
  ·rw [if_neg c3] at H; have c3b0 : decide (a0 < 0) = false := decide_eq_false c3; clear c3; (first | rw [c3b0] | (simp only [i64_w, i32_w]; rw [c3b0]) | skip)
   have H' := Aside0.mk H
   clear H
   go_wp2
   go_meet
   case rel => exact ⟨_, (decide (a0 > 701)), (by first | rfl | (simp; done) | (simp [*]; done)), H', ⟨by first | omega | exact Nat.le_refl _⟩, ⟨pbx HB⟩⟩
 case rest =>
  clear HC2; (try clear p2); (try clear c3); (try clear c3b0); obtain ⟨kq, x8_1, rfl, HA, HJ1, HB⟩ := hcut
  cases kq with
  | zero => exact absurd HA.out (by simp [oculusref03_Letters.j0])
  | succ kj1 =>
   have H := HA.out; clear HA
   simp only [oculusref03_Letters.j0] at H
   by_cases c4 : x8_1 = true
   ·subst c4
    have H1 : (some (⟨#[]⟩ : ByteArray)) = some r := by rw [if_pos rfl] at H; exact H
    clear H; have H := H1; clear H1; obtain rfl := Option.some.inj H
    go_wp2
    go_ret
    exact ⟨by first | rfl | (simp [errW_none, errW_some] <;> rfl) | (simp [*, errW_none, errW_some] <;> rfl), pbx HB⟩
   ·replace c4 := Bool.eq_false_iff.mpr c4; subst c4
    have H1 : (if a0 < 26 then (some (strOfNums (([(wrap64 (65 + a0)) % 256] : List Int)))) else (some (strOfNums (([(wrap64 (64 + (wrap64 (Int.tdiv a0 26)))) % 256, (wrap64 (65 + (Int.tmod a0 26))) % 256] : List Int))))) = some r := by rw [if_neg (show ¬ (false = true) by decide)] at H; exact H
    clear H; have H := H1; clear H1
    by_cases c5 : a0 < 26
    ·rw [if_pos c5] at H; have c5b0 : decide (a0 < 26) = true := decide_eq_true c5; clear c5; obtain ⟨y101, hy101⟩ : ∃ y_ : List Int, y_ = (([(wrap64 (65 + a0)) % 256] : List Int)) := ⟨_, rfl⟩
     replace H : (some (strOfNums y101)) = some r := by first | (rw [hy101]; with_reducible exact H) | (have H2_ := (Option.bind_some _ _).symm.trans H; rw [hy101]; with_reducible exact H2_) | (have H2_ := (Option.bind_some _ _).symm.trans H; with_reducible exact H2_) | with_reducible exact H | (rw [hy101]; exact H) | exact H
     have Ny101 := Aside0.mk hy101; clear hy101; obtain rfl := Option.some.inj H
     go_wp2_with (first | ((with_reducible refine gate_dst (N:=14) rfl ?_); refine Kd.R_lit (Kd.int .u8) _ 5 ?hg (N:=14) ?hd (xs := ([(wrap64 (65 + a0)) % 256] : List Int)) (inner := [.int .u8 ((wrap64 (65 + a0)) % 256)]) (ok := fun _ => True) (okp := fun _ => True) ?hr ?hp (fun _ hk => hk) trivial (Below.refl _ _) (Nat.le_refl _) (by simp) ?_; (case hd => rfl); (case hg => rfl); (case hr => first | (go_simp; done) | (go_simp; rfl)); (case hp => exact (Reps.one (show Kd.M (Kd.int .u8) _ _ _ ((wrap64 (65 + a0)) % 256) [.int .u8 ((wrap64 (65 + a0)) % 256)] from rfl) (Reps.none _ _))); intro v102 w6 ho7 hb hg_ hnew_; clear hg_ hnew_; (first | rw [← Ny101.out] at ho7 | (simp only [Int.reduceToNat] at ho7; rw [← Ny101.out] at ho7)); have HO103 := Aside0.mk (Kd.R_lower ho7 (below_size (pbx HB))); replace HB := bs_ HB hb; clear hb ho7; have hcv8 := own_string (P := Tryd.prog) Tryd.underlying43 Tryd.underlying5 Tryd.underlying9 (Kd.own_of_R HO103.out)))
     go_ret
     exact ⟨by first | rfl | (simp [errW_none, errW_some] <;> rfl) | (simp [*, errW_none, errW_some] <;> rfl), pbx HB⟩
    ·rw [if_neg c5] at H; have c5b0 : decide (a0 < 26) = false := decide_eq_false c5; clear c5; obtain ⟨y104, hy104⟩ : ∃ y_ : List Int, y_ = (([(wrap64 (64 + (wrap64 (Int.tdiv a0 26)))) % 256, (wrap64 (65 + (Int.tmod a0 26))) % 256] : List Int)) := ⟨_, rfl⟩
     replace H : (some (strOfNums y104)) = some r := by first | (rw [hy104]; with_reducible exact H) | (have H2_ := (Option.bind_some _ _).symm.trans H; rw [hy104]; with_reducible exact H2_) | (have H2_ := (Option.bind_some _ _).symm.trans H; with_reducible exact H2_) | with_reducible exact H | (rw [hy104]; exact H) | exact H
     have Ny104 := Aside0.mk hy104; clear hy104; obtain rfl := Option.some.inj H
     go_wp2_with (first | ((with_reducible refine gate_dst (N:=24) rfl ?_); refine Kd.R_lit (Kd.int .u8) _ 5 ?hg (N:=24) ?hd (xs := ([(wrap64 (64 + (wrap64 (Int.tdiv a0 26)))) % 256, (wrap64 (65 + (Int.tmod a0 26))) % 256] : List Int)) (inner := [.int .u8 ((wrap64 (64 + (wrap64 (Int.tdiv a0 26)))) % 256), .int .u8 ((wrap64 (65 + (Int.tmod a0 26))) % 256)]) (ok := fun _ => True) (okp := fun _ => True) ?hr ?hp (fun _ hk => hk) trivial (Below.refl _ _) (Nat.le_refl _) (by simp) ?_; (case hd => rfl); (case hg => rfl); (case hr => first | (go_simp; done) | (go_simp; rfl)); (case hp => exact (Reps.one (show Kd.M (Kd.int .u8) _ _ _ ((wrap64 (64 + (wrap64 (Int.tdiv a0 26)))) % 256) [.int .u8 ((wrap64 (64 + (wrap64 (Int.tdiv a0 26)))) % 256)] from rfl) (Reps.one (show Kd.M (Kd.int .u8) _ _ _ ((wrap64 (65 + (Int.tmod a0 26))) % 256) [.int .u8 ((wrap64 (65 + (Int.tmod a0 26))) % 256)] from rfl) (Reps.none _ _)))); intro v105 w9 ho10 hb hg_ hnew_; clear hg_ hnew_; (first | rw [← Ny104.out] at ho10 | (simp only [Int.reduceToNat] at ho10; rw [← Ny104.out] at ho10)); have HO106 := Aside0.mk (Kd.R_lower ho10 (below_size (pbx HB))); replace HB := bs_ HB hb; clear hb ho10; have hcv11 := own_string (P := Tryd.prog) Tryd.underlying43 Tryd.underlying5 Tryd.underlying9 (Kd.own_of_R HO106.out)))
     go_ret
     exact ⟨by first | rfl | (simp [errW_none, errW_some] <;> rfl) | (simp [*, errW_none, errW_some] <;> rfl), pbx HB⟩

def oculusref03_Name.f (k : Nat) (a0_0 : Int) (a0_1 : Int) : Option (ByteArray) := (oculusref03_May.f a0_0 a0_1).bind fun t102 => (if t102 = true then ((oculusref03_Letters.f k a0_1).bind fun t103 => ((oculusref01_Digits.f k (wrap64 (a0_0 + 1))).bind fun t104 => (if t103.size + t104.size ≤ 9223372036854775807 then (some (t103 ++ t104)) else (none)))) else (some (⟨#[]⟩ : ByteArray)))
theorem oculusref03_Name.mono : ∀ a0 a1 k, LeO (oculusref03_Name.f k a0 a1) (oculusref03_Name.f (k + 1) a0 a1) := by
 intro a0 a1 k
 unfold oculusref03_Name.f
 repeat' first
   | (with_reducible exact oculusref01_Digits.mono _ _)
   | (with_reducible exact oculusref03_Letters.mono _ _)
   | (with_reducible exact LeO.refl _)
   | (with_reducible exact LeO.none _)
   | (with_reducible refine LeO.ite ?_ ?_)
   | (with_reducible refine LeO.bind ?_ (fun _ => ?_))
def oculusref03_Name.T3 : Bool × List (List Nat × List Nat) := (true, [([], []), ([0], [0]), ([1], [1]), ([], []), ([3], [3]), ([4], [4]), ([5, 2], [5]), ([2, 6], [2, 6]), ([7, 6, 0, 1, 2, 3, 4, 5, 6, 7], [7])])
def oculusref03_Name.B3 : List Nat := [0, 1, 3, 0, 8, 24, 63, 127, 255]
theorem oculusref03_Name.tab3 : rtab .any (opsOf Tryd.f44 3) = oculusref03_Name.T3 := by kernel_rfl
theorem oculusref03_Name.bits3 : waitsOk oculusref03_Name.T3.2 oculusref03_Name.B3 = true := by kernel_rfl
set_option maxHeartbeats 8000000 in
set_option maxRecDepth 100000 in
theorem oculusref03_Name.calls (k : Nat) (a0_0 : Int) (a0_1 : Int) (r : ByteArray) (w : World) (h : oculusref03_Name.f k a0_0 a0_1 = some r) :
  Calls Tryd.prog 44 #[.agg #[.int .i64 a0_0, .int .i64 a0_1]] w fun e w' => e = .returned (.string r) ∧ Below w.heap.size w w' := by
 have hu38 := Tryd.underlying38; have HB := Aside0.mk (Below.refl w.heap.size w)
 have H : ((oculusref03_May.f a0_0 a0_1).bind fun t102 => (if t102 = true then ((oculusref03_Letters.f k a0_1).bind fun t103 => ((oculusref01_Digits.f k (wrap64 (a0_0 + 1))).bind fun t104 => (if t103.size + t104.size ≤ 9223372036854775807 then (some (t103 ++ t104)) else (none)))) else (some (⟨#[]⟩ : ByteArray)))) = some r := h
 clear h; replace H := Option.bind_eq_some_iff.mp H; obtain ⟨t102, A20, H⟩ := H
 replace H : (if t102 = true then ((oculusref03_Letters.f k a0_1).bind fun t103 => ((oculusref01_Digits.f k (wrap64 (a0_0 + 1))).bind fun t104 => (if t103.size + t104.size ≤ 9223372036854775807 then (some (t103 ++ t104)) else (none)))) else (some (⟨#[]⟩ : ByteArray))) = some r := H
 have A2 := Aside0.mk A20; clear A20
 by_cases c3 : t102 = true
 ·subst c3
  have H1 : ((oculusref03_Letters.f k a0_1).bind fun t103 => ((oculusref01_Digits.f k (wrap64 (a0_0 + 1))).bind fun t104 => (if t103.size + t104.size ≤ 9223372036854775807 then (some (t103 ++ t104)) else (none)))) = some r := by rw [if_pos rfl] at H; exact H
  clear H; have H := H1; clear H1; replace H := Option.bind_eq_some_iff.mp H; obtain ⟨t103, A40, H⟩ := H
  replace H : ((oculusref01_Digits.f k (wrap64 (a0_0 + 1))).bind fun t104 => (if t103.size + t104.size ≤ 9223372036854775807 then (some (t103 ++ t104)) else (none))) = some r := H
  have A4 := Aside0.mk A40; clear A40; replace H := Option.bind_eq_some_iff.mp H; obtain ⟨t104, A50, H⟩ := H
  replace H : (if t103.size + t104.size ≤ 9223372036854775807 then (some (t103 ++ t104)) else (none)) = some r := H
  have A5 := Aside0.mk A50; clear A50
  by_cases c6 : t103.size + t104.size ≤ 9223372036854775807
  ·rw [if_pos c6] at H; have c6b0 := eq_true c6; have c6b1 : decide (t103.size + t104.size ≤ 9223372036854775807) = true := decide_eq_true c6
   try have c6b2 : (9223372036854775807 < t103.size + t104.size) = False := eq_false (Nat.not_lt.2 c6)
   obtain rfl := Option.some.inj H
   go_enter Tryd.func44, Tryd.ntmps44
   try go_wp2_with (first | ((with_reducible refine gate_dst (N:=1) rfl ?_); refine be_ (N:=1) (cs := #[.int .i64 a0_0, .int .i64 a0_1]) (t:=38) ?_; intro gb101 hg w7 hbox hb; have BK101 := Aside0.mk (hbox); have GW101 := hs_ HB hg; have GE101 := hs_ HB hg; replace HB := bs_ HB hb; clear hb hbox hg; have hcz8_0 : w7.cell? ⟨gb101, 0, none⟩ = some (.int .i64 a0_0) := bc_ BK101 0 rfl; have hcz8_1 : w7.cell? ⟨gb101, 1, none⟩ = some (.int .i64 a0_1) := bc_ BK101 1 rfl; have hfz8_0 := blk_frozen BK101.out 0; have hfz8_1 := blk_frozen BK101.out 1) | ((with_reducible refine gate_callee (f:=64) rfl ?_); refine gL_ (some 4) rfl rfl Tryd.func64 rfl #[.agg #[.int .i64 a0_0, .int .i64 a0_1]] rfl ?_; (with_reducible refine (oculusref03_May.calls a0_0 a0_1 true _ A2.out).mono ?_); rintro e w9 ⟨rfl, hb⟩; refine ⟨_, rfl, ?_⟩; replace BK101 := bb_ BK101 hb; replace HB := bs_ HB hb; (try clear hb); (try clear hb2); (try clear hk); (try clear hi)))
   (try (rw [drewN_self w9]; generalize hq_ : World.drewN w9 _ = w9; have n0_ : Aside0 (w9.heap[gb101]? = some (.cells #[.int .i64 a0_0, .int .i64 a0_1] 38 (0, 0))) := ⟨by rw [← hq_]; exact (pkx BK101)⟩; have n1_ : Aside0 (Below w.heap.size w w9) := ⟨by rw [← hq_]; exact (pbx HB)⟩; clear BK101 HB hq_; have BK101 := n0_; have HB := n1_; clear n0_ n1_))
   replace BK101 := Aside0.mk (blk_drew BK101.out); replace HB := Aside0.mk (below_drew1 HB.out)
   refine start_ (n:=9) (S := fun w' => w'.cell? ⟨gb101, 0, none⟩ = some (.int .i64 a0_0) ∧ w'.cell? ⟨gb101, 1, none⟩ = some (.int .i64 a0_1)) (ds := []) #[F,F,F,F,F,F,F,F,F] (by kernel_rfl) rfl rfl ⟨bc_ BK101 0 rfl, bc_ BK101 1 rfl⟩ (fun hHeld => ?_); refine with_tabW oculusref03_Name.tab3 oculusref03_Name.bits3 (fun HT_ HW_ => ?_)
   generalize w9.drew = w10 at BK101 HB hHeld ⊢; refine pure_ (i:=0) (N:=some 6) (v:=?_) (a':=?_) ⟨m_ 9 1⟩ rfl rfl (any_of HT_.out (by kernel_rfl)) (fun _ _ _ h=>h) (Or.inl ⟨rfl, ?_⟩) ?_ ?_; rotate_left
   ·intro w'; go_simp; with_reducible rfl
   rotate_left
   ·simp only [q_, i64_w, i32_w]; rfl
   refine pure_ (i:=3) (N:=some 9) (v:=?_) (a':=?_) ⟨m_ 9 9⟩ rfl rfl (any_of HT_.out (by kernel_rfl)) (fun _ _ _ h=>h) (Or.inl ⟨rfl, ?_⟩) ?_ ?_; rotate_left
   ·intro w'; go_simp; with_reducible rfl
   rotate_left
   ·simp only [q_, i64_w, i32_w]; rfl
   refine take_ (i:=1) (N:=some 7) (v:=?_) (a':=?_) ⟨m_ 9 11⟩ rfl rfl (take_ofW HT_.out HW_.out (by kernel_rfl)) (fun _ _ _ h=>h) (Or.inl ⟨rfl, ?_⟩) hHeld ?_ ?_; rotate_left
   ·rintro w' ⟨s0, s1⟩; go_simp; with_reducible rfl
   rotate_left
   ·simp only [q_, i64_w, i32_w]; rfl
   refine take_ (i:=4) (N:=some 10) (v:=?_) (a':=?_) ⟨m_ 9 27⟩ rfl rfl (take_ofW HT_.out HW_.out (by kernel_rfl)) (fun _ _ _ h=>h) (Or.inl ⟨rfl, ?_⟩) hHeld ?_ ?_; rotate_left
   ·rintro w' ⟨s0, s1⟩; go_simp; with_reducible rfl
   rotate_left
   ·simp only [q_, i64_w, i32_w]; rfl
   refine pure_ (i:=5) (N:=some 11) (v:=?_) (a':=?_) ⟨m_ 9 59⟩ rfl rfl (any_of HT_.out (by kernel_rfl)) (fun _ _ _ h=>h) (Or.inl ⟨rfl, ?_⟩) ?_ ?_; rotate_left
   ·intro w'; go_simp; with_reducible rfl
   rotate_left
   ·simp only [q_, i64_w, i32_w]; rfl
   refine one_ (i:=2) (N:=some 8) ⟨m_ 9 63⟩ rfl rfl (one_of HT_.out (by kernel_rfl)) (by decide) (fun K hK => ?_); refine goes_ Tryd.func65 (by kernel_rfl) rfl #[.int .i64 a0_1] (by rfl) rfl rfl (by (try simp only [List.map_toArray, List.map_cons, List.map_nil]); first | done | rfl | (simp only [List.length_drop, List.length_take]; rfl)) ?_; with_reducible refine (oculusref03_Letters.calls k a0_1 t103 _ A4.out).mono ?_; rintro e w11 ⟨rfl, hb⟩; refine ⟨_, rfl, ?_⟩
   replace BK101 := bb_ BK101 hb; replace HB := bs_ HB hb; (try clear hb); (try clear hb2); (try clear hk); (try clear hi); refine hK.out _ _ ⟨bc_ BK101 0 rfl, bc_ BK101 1 rfl⟩ (fun hHeld => ?_); clear hK K; refine norm_ (a':=?_) ?_ ?_; rotate_left
   ·show Act.put _ (some 8) _ = _; simp only [q_, i64_w, i32_w]; rfl
   refine one_ (i:=6) (N:=some 12) ⟨m_ 9 127⟩ rfl rfl (one_of HT_.out (by kernel_rfl)) (by decide) (fun K hK => ?_); refine goes_ Tryd.func23 (by kernel_rfl) rfl #[.int .i64 (wrap64 (a0_0 + 1))] (by rfl) rfl rfl (by (try simp only [List.map_toArray, List.map_cons, List.map_nil]); first | done | rfl | (simp only [List.length_drop, List.length_take]; rfl)) ?_; with_reducible refine (oculusref01_Digits.calls k (wrap64 (a0_0 + 1)) t104 _ A5.out).mono ?_; rintro e w12 ⟨rfl, hb⟩; refine ⟨_, rfl, ?_⟩
   replace BK101 := bb_ BK101 hb; replace HB := bs_ HB hb; (try clear hb); (try clear hb2); (try clear hk); (try clear hi); refine hK.out _ _ ⟨bc_ BK101 0 rfl, bc_ BK101 1 rfl⟩ (fun hHeld => ?_); clear hK K; refine norm_ (a':=?_) ?_ ?_; rotate_left
   ·show Act.put _ (some 12) _ = _; simp only [q_, i64_w, i32_w]; rfl
   refine pure_ (i:=7) (N:=some 13) (v:=?_) (a':=?_) ⟨m_ 9 255⟩ rfl rfl (any_of HT_.out (by kernel_rfl)) (fun _ _ _ h=>h) (Or.inl ⟨rfl, ?_⟩) ?_ ?_; rotate_left
   ·intro w'; go_simp; with_reducible rfl
   rotate_left
   ·simp only [q_, i64_w, i32_w]; rfl
   refine pure_ (i:=8) (N:=some 2) (v:=?_) (a':=?_) ⟨m_ 9 511⟩ rfl rfl (any_of HT_.out (by kernel_rfl)) (fun _ _ _ h=>h) (Or.inl ⟨rfl, ?_⟩) ?_ ?_; rotate_left
   ·intro w'; go_simp; with_reducible rfl
   rotate_left
   ·simp only [q_, i64_w, i32_w]; rfl
   refine done_ (done_of HT_.out (by kernel_rfl)) ?_
   try go_wp2
   go_ret
   exact ⟨by first | rfl | (simp [errW_none, errW_some] <;> rfl) | (simp [*, errW_none, errW_some] <;> rfl), pbx HB⟩
  ·rw [if_neg c6] at H
   exact absurd H (by simp)
 ·replace c3 := Bool.eq_false_iff.mpr c3; subst c3
  have H1 : (some (⟨#[]⟩ : ByteArray)) = some r := by rw [if_neg (show ¬ (false = true) by decide)] at H; exact H
  clear H; have H := H1; clear H1; obtain rfl := Option.some.inj H
  go_enter Tryd.func44, Tryd.ntmps44
  go_wp2_with (first | ((with_reducible refine gate_dst (N:=1) rfl ?_); refine be_ (N:=1) (cs := #[.int .i64 a0_0, .int .i64 a0_1]) (t:=38) ?_; intro gb101 hg w13 hbox hb; have BK101 := Aside0.mk (hbox); have GW101 := hs_ HB hg; have GE101 := hs_ HB hg; replace HB := bs_ HB hb; clear hb hbox hg; have hcz14_0 : w13.cell? ⟨gb101, 0, none⟩ = some (.int .i64 a0_0) := bc_ BK101 0 rfl; have hcz14_1 : w13.cell? ⟨gb101, 1, none⟩ = some (.int .i64 a0_1) := bc_ BK101 1 rfl; have hfz14_0 := blk_frozen BK101.out 0; have hfz14_1 := blk_frozen BK101.out 1) | ((with_reducible refine gate_callee (f:=64) rfl ?_); refine gL_ (some 4) rfl rfl Tryd.func64 rfl #[.agg #[.int .i64 a0_0, .int .i64 a0_1]] rfl ?_; (with_reducible refine (oculusref03_May.calls a0_0 a0_1 false _ A2.out).mono ?_); rintro e w15 ⟨rfl, hb⟩; refine ⟨_, rfl, ?_⟩; replace BK101 := bb_ BK101 hb; replace HB := bs_ HB hb; (try clear hb); (try clear hb2); (try clear hk); (try clear hi)))
  go_ret
  exact ⟨by first | rfl | (simp [errW_none, errW_some] <;> rfl) | (simp [*, errW_none, errW_some] <;> rfl), pbx HB⟩

end Go.Proofs.YtbboanfggaknjaaDoor.X
namespace Go.Proofs.YtbboanfggaknjaaDoor.X
open Go.RowKit Go.Proofs.YtbboanfggaknjaaDoorW.PrintWords Go.Proofs.YtbboanfggaknjaaDoorW.PrintLast Go.Proofs.YtbboanfggaknjaaDoorW.PrintMore
attribute [local go_sem] max2_int min2_int max_two min_two max_three min_three max_four min_four
set_option linter.unusedVariables false
set_option linter.unusedSimpArgs false
attribute [local go_sem high] eqA38
def oculusref04_Text.f (k : Nat) (a0_0 : Int) (a0_1 : Int) (a0_2 : Int) (a0_3 : Int) : Option (ByteArray) := (oculusref04_May.f a0_0 a0_1 a0_2 a0_3).bind fun t102 => (if t102 = true then ((oculusref03_Name.f k a0_0 a0_1).bind fun t103 => (if (!(a0_2 == a0_0) || (!(a0_3 == a0_1))) = true then (if t103.size + 1 ≤ 9223372036854775807 then ((oculusref03_Name.f k a0_2 a0_3).bind fun t104 => (if (t103 ++ (⟨#[58]⟩ : ByteArray)).size + t104.size ≤ 9223372036854775807 then (some ((t103 ++ (⟨#[58]⟩ : ByteArray)) ++ t104)) else (none))) else (none)) else (some t103))) else (some (⟨#[]⟩ : ByteArray)))
theorem oculusref04_Text.mono : ∀ a0 a1 a2 a3 k, LeO (oculusref04_Text.f k a0 a1 a2 a3) (oculusref04_Text.f (k + 1) a0 a1 a2 a3) := by
 intro a0 a1 a2 a3 k
 unfold oculusref04_Text.f
 repeat' first
   | (with_reducible exact oculusref03_Name.mono _ _ _)
   | (with_reducible exact LeO.refl _)
   | (with_reducible exact LeO.none _)
   | (with_reducible refine LeO.ite ?_ ?_)
   | (with_reducible refine LeO.bind ?_ (fun _ => ?_))
set_option maxHeartbeats 8000000 in
set_option maxRecDepth 100000 in
theorem oculusref04_Text.calls (k : Nat) (a0_0 : Int) (a0_1 : Int) (a0_2 : Int) (a0_3 : Int) (r : ByteArray) (w : World) (h : oculusref04_Text.f k a0_0 a0_1 a0_2 a0_3 = some r) :
  Calls Tryd.prog 24 #[.agg #[.int .i64 a0_0, .int .i64 a0_1, .int .i64 a0_2, .int .i64 a0_3]] w fun e w' => e = .returned (.string r) ∧ Below w.heap.size w w' := by
 have hu56 := Tryd.underlying56; have hu38 := Tryd.underlying38; have HB := Aside0.mk (Below.refl w.heap.size w)
 have H : ((oculusref04_May.f a0_0 a0_1 a0_2 a0_3).bind fun t102 => (if t102 = true then ((oculusref03_Name.f k a0_0 a0_1).bind fun t103 => (if (!(a0_2 == a0_0) || (!(a0_3 == a0_1))) = true then (if t103.size + 1 ≤ 9223372036854775807 then ((oculusref03_Name.f k a0_2 a0_3).bind fun t104 => (if (t103 ++ (⟨#[58]⟩ : ByteArray)).size + t104.size ≤ 9223372036854775807 then (some ((t103 ++ (⟨#[58]⟩ : ByteArray)) ++ t104)) else (none))) else (none)) else (some t103))) else (some (⟨#[]⟩ : ByteArray)))) = some r := h
 clear h; replace H := Option.bind_eq_some_iff.mp H; obtain ⟨t102, A20, H⟩ := H
 replace H : (if t102 = true then ((oculusref03_Name.f k a0_0 a0_1).bind fun t103 => (if (!(a0_2 == a0_0) || (!(a0_3 == a0_1))) = true then (if t103.size + 1 ≤ 9223372036854775807 then ((oculusref03_Name.f k a0_2 a0_3).bind fun t104 => (if (t103 ++ (⟨#[58]⟩ : ByteArray)).size + t104.size ≤ 9223372036854775807 then (some ((t103 ++ (⟨#[58]⟩ : ByteArray)) ++ t104)) else (none))) else (none)) else (some t103))) else (some (⟨#[]⟩ : ByteArray))) = some r := H
 have A2 := Aside0.mk A20; clear A20
 by_cases c3 : t102 = true
 ·subst c3
  have H1 : ((oculusref03_Name.f k a0_0 a0_1).bind fun t103 => (if (!(a0_2 == a0_0) || (!(a0_3 == a0_1))) = true then (if t103.size + 1 ≤ 9223372036854775807 then ((oculusref03_Name.f k a0_2 a0_3).bind fun t104 => (if (t103 ++ (⟨#[58]⟩ : ByteArray)).size + t104.size ≤ 9223372036854775807 then (some ((t103 ++ (⟨#[58]⟩ : ByteArray)) ++ t104)) else (none))) else (none)) else (some t103))) = some r := by rw [if_pos rfl] at H; exact H
  clear H; have H := H1; clear H1; replace H := Option.bind_eq_some_iff.mp H; obtain ⟨t103, A40, H⟩ := H
  replace H : (if (!(a0_2 == a0_0) || (!(a0_3 == a0_1))) = true then (if t103.size + 1 ≤ 9223372036854775807 then ((oculusref03_Name.f k a0_2 a0_3).bind fun t104 => (if (t103 ++ (⟨#[58]⟩ : ByteArray)).size + t104.size ≤ 9223372036854775807 then (some ((t103 ++ (⟨#[58]⟩ : ByteArray)) ++ t104)) else (none))) else (none)) else (some t103)) = some r := H
  have A4 := Aside0.mk A40; clear A40
  by_cases c5 : (!(a0_2 == a0_0) || (!(a0_3 == a0_1))) = true
  ·rw [if_pos c5] at H
   have c5b0 : (!(a0_2 == a0_0) || (!(a0_3 == a0_1))) = true := c5
   clear c5
   by_cases c6 : t103.size + 1 ≤ 9223372036854775807
   ·rw [if_pos c6] at H; have c6b0 := eq_true c6; have c6b1 : decide (t103.size + 1 ≤ 9223372036854775807) = true := decide_eq_true c6
    try have c6b2 : (9223372036854775807 < t103.size + 1) = False := eq_false (Nat.not_lt.2 c6)
    replace H := Option.bind_eq_some_iff.mp H; obtain ⟨t104, A70, H⟩ := H
    replace H : (if (t103 ++ (⟨#[58]⟩ : ByteArray)).size + t104.size ≤ 9223372036854775807 then (some ((t103 ++ (⟨#[58]⟩ : ByteArray)) ++ t104)) else (none)) = some r := H
    have A7 := Aside0.mk A70; clear A70
    by_cases c8 : (t103 ++ (⟨#[58]⟩ : ByteArray)).size + t104.size ≤ 9223372036854775807
    ·rw [if_pos c8] at H; have c8b0 := eq_true c8; have c8b1 : decide ((t103 ++ (⟨#[58]⟩ : ByteArray)).size + t104.size ≤ 9223372036854775807) = true := decide_eq_true c8
     try have c8b2 : (9223372036854775807 < (t103 ++ (⟨#[58]⟩ : ByteArray)).size + t104.size) = False := eq_false (Nat.not_lt.2 c8)
     try have c8b2z : (9223372036854775807 < t103.size + 1 + t104.size) = False := by have h9_ := c8b2; rw [ByteArray.size_append] at h9_; exact h9_
     obtain rfl := Option.some.inj H
     go_enter Tryd.func24, Tryd.ntmps24
     go_wp2_with (first | ((with_reducible refine gate_dst (N:=1) rfl ?_); refine be_ (N:=1) (cs := #[.int .i64 a0_0, .int .i64 a0_1, .int .i64 a0_2, .int .i64 a0_3]) (t:=56) ?_; intro gb101 hg w9 hbox hb; have BK101 := Aside0.mk (hbox); replace HB := bs_ HB hb; clear hb hbox hg; have hcz10_0 : w9.cell? ⟨gb101, 0, none⟩ = some (.int .i64 a0_0) := bc_ BK101 0 rfl; have hcz10_1 : w9.cell? ⟨gb101, 1, none⟩ = some (.int .i64 a0_1) := bc_ BK101 1 rfl; have hcz10_2 : w9.cell? ⟨gb101, 2, none⟩ = some (.int .i64 a0_2) := bc_ BK101 2 rfl; have hcz10_3 : w9.cell? ⟨gb101, 3, none⟩ = some (.int .i64 a0_3) := bc_ BK101 3 rfl) | ((with_reducible refine gate_callee (f:=43) rfl ?_); refine gL_ (some 5) rfl rfl Tryd.func43 rfl #[.agg #[.int .i64 a0_0, .int .i64 a0_1, .int .i64 a0_2, .int .i64 a0_3]] rfl ?_; (with_reducible refine (oculusref04_May.calls a0_0 a0_1 a0_2 a0_3 true _ A2.out).mono ?_); rintro e w11 ⟨rfl, hb⟩; refine ⟨_, rfl, ?_⟩; replace BK101 := bb_ BK101 hb; replace HB := bs_ HB hb; (try clear hb); (try clear hb2); (try clear hk); (try clear hi); have hcz12_0 : w11.cell? ⟨gb101, 0, none⟩ = some (.int .i64 a0_0) := bc_ BK101 0 rfl; have hcz12_1 : w11.cell? ⟨gb101, 1, none⟩ = some (.int .i64 a0_1) := bc_ BK101 1 rfl; have hcz12_2 : w11.cell? ⟨gb101, 2, none⟩ = some (.int .i64 a0_2) := bc_ BK101 2 rfl; have hcz12_3 : w11.cell? ⟨gb101, 3, none⟩ = some (.int .i64 a0_3) := bc_ BK101 3 rfl) | ((with_reducible refine gate_callee (f:=44) rfl ?_); refine gL_ (some 9) rfl rfl Tryd.func44 rfl #[.agg #[.int .i64 a0_0, .int .i64 a0_1]] rfl ?_; (with_reducible refine (oculusref03_Name.calls k a0_0 a0_1 t103 _ A4.out).mono ?_); rintro e w13 ⟨rfl, hb⟩; refine ⟨_, rfl, ?_⟩; replace BK101 := bb_ BK101 hb; replace HB := bs_ HB hb; (try clear hb); (try clear hb2); (try clear hk); (try clear hi); have hcz14_0 : w13.cell? ⟨gb101, 0, none⟩ = some (.int .i64 a0_0) := bc_ BK101 0 rfl; have hcz14_1 : w13.cell? ⟨gb101, 1, none⟩ = some (.int .i64 a0_1) := bc_ BK101 1 rfl; have hcz14_2 : w13.cell? ⟨gb101, 2, none⟩ = some (.int .i64 a0_2) := bc_ BK101 2 rfl; have hcz14_3 : w13.cell? ⟨gb101, 3, none⟩ = some (.int .i64 a0_3) := bc_ BK101 3 rfl) | ((with_reducible refine gate_callee (f:=44) rfl ?_); refine gL_ (some 19) rfl rfl Tryd.func44 rfl #[.agg #[.int .i64 a0_2, .int .i64 a0_3]] rfl ?_; (with_reducible refine (oculusref03_Name.calls k a0_2 a0_3 t104 _ A7.out).mono ?_); rintro e w15 ⟨rfl, hb⟩; refine ⟨_, rfl, ?_⟩; replace BK101 := bb_ BK101 hb; replace HB := bs_ HB hb; (try clear hb); (try clear hb2); (try clear hk); (try clear hi)))
     go_ret
     exact ⟨by first | rfl | (simp [errW_none, errW_some] <;> rfl) | (simp [*, errW_none, errW_some] <;> rfl), pbx HB⟩
    ·rw [if_neg c8] at H
     exact absurd H (by simp)
   ·rw [if_neg c6] at H
    exact absurd H (by simp)
  ·rw [if_neg c5] at H
   have c5b0 : (!(a0_2 == a0_0) || (!(a0_3 == a0_1))) = false := by simpa using c5
   clear c5; obtain rfl := Option.some.inj H
   go_enter Tryd.func24, Tryd.ntmps24
   go_wp2_with (first | ((with_reducible refine gate_dst (N:=1) rfl ?_); refine be_ (N:=1) (cs := #[.int .i64 a0_0, .int .i64 a0_1, .int .i64 a0_2, .int .i64 a0_3]) (t:=56) ?_; intro gb101 hg w16 hbox hb; have BK101 := Aside0.mk (hbox); replace HB := bs_ HB hb; clear hb hbox hg; have hcz17_0 : w16.cell? ⟨gb101, 0, none⟩ = some (.int .i64 a0_0) := bc_ BK101 0 rfl; have hcz17_1 : w16.cell? ⟨gb101, 1, none⟩ = some (.int .i64 a0_1) := bc_ BK101 1 rfl; have hcz17_2 : w16.cell? ⟨gb101, 2, none⟩ = some (.int .i64 a0_2) := bc_ BK101 2 rfl; have hcz17_3 : w16.cell? ⟨gb101, 3, none⟩ = some (.int .i64 a0_3) := bc_ BK101 3 rfl) | ((with_reducible refine gate_callee (f:=43) rfl ?_); refine gL_ (some 5) rfl rfl Tryd.func43 rfl #[.agg #[.int .i64 a0_0, .int .i64 a0_1, .int .i64 a0_2, .int .i64 a0_3]] rfl ?_; (with_reducible refine (oculusref04_May.calls a0_0 a0_1 a0_2 a0_3 true _ A2.out).mono ?_); rintro e w18 ⟨rfl, hb⟩; refine ⟨_, rfl, ?_⟩; replace BK101 := bb_ BK101 hb; replace HB := bs_ HB hb; (try clear hb); (try clear hb2); (try clear hk); (try clear hi); have hcz19_0 : w18.cell? ⟨gb101, 0, none⟩ = some (.int .i64 a0_0) := bc_ BK101 0 rfl; have hcz19_1 : w18.cell? ⟨gb101, 1, none⟩ = some (.int .i64 a0_1) := bc_ BK101 1 rfl; have hcz19_2 : w18.cell? ⟨gb101, 2, none⟩ = some (.int .i64 a0_2) := bc_ BK101 2 rfl; have hcz19_3 : w18.cell? ⟨gb101, 3, none⟩ = some (.int .i64 a0_3) := bc_ BK101 3 rfl) | ((with_reducible refine gate_callee (f:=44) rfl ?_); refine gL_ (some 9) rfl rfl Tryd.func44 rfl #[.agg #[.int .i64 a0_0, .int .i64 a0_1]] rfl ?_; (with_reducible refine (oculusref03_Name.calls k a0_0 a0_1 t103 _ A4.out).mono ?_); rintro e w20 ⟨rfl, hb⟩; refine ⟨_, rfl, ?_⟩; replace BK101 := bb_ BK101 hb; replace HB := bs_ HB hb; (try clear hb); (try clear hb2); (try clear hk); (try clear hi); have hcz21_0 : w20.cell? ⟨gb101, 0, none⟩ = some (.int .i64 a0_0) := bc_ BK101 0 rfl; have hcz21_1 : w20.cell? ⟨gb101, 1, none⟩ = some (.int .i64 a0_1) := bc_ BK101 1 rfl; have hcz21_2 : w20.cell? ⟨gb101, 2, none⟩ = some (.int .i64 a0_2) := bc_ BK101 2 rfl; have hcz21_3 : w20.cell? ⟨gb101, 3, none⟩ = some (.int .i64 a0_3) := bc_ BK101 3 rfl))
   go_ret
   exact ⟨by first | rfl | (simp [errW_none, errW_some] <;> rfl) | (simp [*, errW_none, errW_some] <;> rfl), pbx HB⟩
 ·replace c3 := Bool.eq_false_iff.mpr c3; subst c3
  have H1 : (some (⟨#[]⟩ : ByteArray)) = some r := by rw [if_neg (show ¬ (false = true) by decide)] at H; exact H
  clear H; have H := H1; clear H1; obtain rfl := Option.some.inj H
  go_enter Tryd.func24, Tryd.ntmps24
  go_wp2_with (first | ((with_reducible refine gate_dst (N:=1) rfl ?_); refine be_ (N:=1) (cs := #[.int .i64 a0_0, .int .i64 a0_1, .int .i64 a0_2, .int .i64 a0_3]) (t:=56) ?_; intro gb101 hg w22 hbox hb; have BK101 := Aside0.mk (hbox); replace HB := bs_ HB hb; clear hb hbox hg; have hcz23_0 : w22.cell? ⟨gb101, 0, none⟩ = some (.int .i64 a0_0) := bc_ BK101 0 rfl; have hcz23_1 : w22.cell? ⟨gb101, 1, none⟩ = some (.int .i64 a0_1) := bc_ BK101 1 rfl; have hcz23_2 : w22.cell? ⟨gb101, 2, none⟩ = some (.int .i64 a0_2) := bc_ BK101 2 rfl; have hcz23_3 : w22.cell? ⟨gb101, 3, none⟩ = some (.int .i64 a0_3) := bc_ BK101 3 rfl) | ((with_reducible refine gate_callee (f:=43) rfl ?_); refine gL_ (some 5) rfl rfl Tryd.func43 rfl #[.agg #[.int .i64 a0_0, .int .i64 a0_1, .int .i64 a0_2, .int .i64 a0_3]] rfl ?_; (with_reducible refine (oculusref04_May.calls a0_0 a0_1 a0_2 a0_3 false _ A2.out).mono ?_); rintro e w24 ⟨rfl, hb⟩; refine ⟨_, rfl, ?_⟩; replace BK101 := bb_ BK101 hb; replace HB := bs_ HB hb; (try clear hb); (try clear hb2); (try clear hk); (try clear hi)))
  go_ret
  exact ⟨by first | rfl | (simp [errW_none, errW_some] <;> rfl) | (simp [*, errW_none, errW_some] <;> rfl), pbx HB⟩

end Go.Proofs.YtbboanfggaknjaaDoor.X
namespace Go.Proofs.YtbboanfggaknjaaDoor.X
open Go.RowKit Go.Proofs.YtbboanfggaknjaaDoorW.PrintWords Go.Proofs.YtbboanfggaknjaaDoorW.PrintLast Go.Proofs.YtbboanfggaknjaaDoorW.PrintMore
attribute [local go_sem] max2_int min2_int max_two min_two max_three min_three max_four min_four
set_option linter.unusedVariables false
set_option linter.unusedSimpArgs false
def oculusref02_Every.l0 : Nat → Int → Int → Option (Int)
 | 0, _, _ => none
 | k + 1, x1, x2 => if x2 < 64 then (oculusref02_Every.l0 k (IntKind.u64.wrap ((IntKind.u64.wrap (x1 * 2)) + 1)) (wrap64 (x2 + 1))) else (some x1)
def oculusref02_Every.f (k : Nat)  : Option (Int) := oculusref02_Every.l0 k 0 0
theorem oculusref02_Every.mono_l : ∀ k, (∀ y0 y1, LeO (oculusref02_Every.l0 k y0 y1) (oculusref02_Every.l0 (k + 1) y0 y1))
 | 0 => fun _ _ r h => by simp [oculusref02_Every.l0] at h
 | k + 1 => by
  have ih0 := oculusref02_Every.mono_l k
  ·intro y0 y1
   unfold oculusref02_Every.l0
   repeat' first
   | (with_reducible exact ih0 _ _)
   | (with_reducible exact LeO.refl _)
   | (with_reducible exact LeO.none _)
   | (with_reducible refine LeO.ite ?_ ?_)
   | (with_reducible refine LeO.bind ?_ (fun _ => ?_))
theorem oculusref02_Every.mono : ∀ k, LeO (oculusref02_Every.f k ) (oculusref02_Every.f (k + 1) ) := by
 intro  k; have ih0 := oculusref02_Every.mono_l k
 unfold oculusref02_Every.f
 repeat' first
   | (with_reducible exact ih0 _ _)
   | (with_reducible exact LeO.refl _)
   | (with_reducible exact LeO.none _)
   | (with_reducible refine LeO.ite ?_ ?_)
   | (with_reducible refine LeO.bind ?_ (fun _ => ?_))
set_option maxHeartbeats 8000000 in
set_option maxRecDepth 100000 in
theorem oculusref02_Every.calls (k : Nat)  (r : Int) (w : World) (h : oculusref02_Every.f k  = some r) :
  Calls Tryd.prog 66 #[] w fun e w' => e = .returned (.int .u64 r) ∧ Drawn0 w w' := by
 have H : (oculusref02_Every.l0 k 0 0) = some r := h
 clear h
 have H' := Aside0.mk H
 clear H
 go_enter Tryd.func66, Tryd.ntmps66
 go_wp2
 go_loopg [1, 2] k (fun kq v1 v2 w' => ∃ (x1_1 : Int) (x2_1 : Int), v1 = .int .u64 x1_1 ∧ v2 = .int .i64 x2_1 ∧ Aside0 (oculusref02_Every.l0 kq x1_1 x2_1 = some r) ∧ Aside0 (kq ≤ k) ∧ Drawn0 w w')
 case atStart => exact ⟨(0), (0), (by first | rfl | (simp; done) | (simp [*]; done)), (by first | rfl | (simp; done) | (simp [*]; done)), H', ⟨Nat.le_refl _⟩, by repeat (first | exact Drawn0.refl _ | apply Drawn0.step)⟩
 case round =>
  clear H'; obtain ⟨x1_1, x2_1, rfl, rfl, HA, HK1, ⟨m1, rfl⟩⟩ := hrel
  cases gk with
  | zero => exact absurd HA.out (by simp [oculusref02_Every.l0])
  | succ k1 =>
   have H := HA.out; clear HA
   simp only [oculusref02_Every.l0] at H
   by_cases c1 : x2_1 < 64
   ·rw [if_pos c1] at H; have c1b0 : decide (x2_1 < 64) = true := decide_eq_true c1; clear c1
    have H' := Aside0.mk H
    clear H
    go_wp2
    go_roundg k1
    case measure => have := HK1.out; omega
    case rel => exact ⟨(IntKind.u64.wrap ((IntKind.u64.wrap (x1_1 * 2)) + 1)), (wrap64 (x2_1 + 1)), (by first | rfl | (simp; done) | (simp [*]; done)), (by first | rfl | (simp; done) | (simp [*]; done)), H', ⟨by have := HK1.out; omega⟩, by repeat (first | exact Drawn0.refl _ | apply Drawn0.step)⟩
   ·rw [if_neg c1] at H; have c1b0 : decide (x2_1 < 64) = false := decide_eq_false c1; clear c1; obtain rfl := Option.some.inj H
    go_wp2
    go_ret
    exact ⟨by first | rfl | (simp; done) | (simp [*]; done), by repeat (first | exact Drawn0.refl _ | apply Drawn0.step)⟩

def oculusref02_Top.f (k : Nat)  : Option (Int × Int) := (oculusref02_Every.f k).bind fun t102 => (some (15, t102))
theorem oculusref02_Top.mono : ∀ k, LeO (oculusref02_Top.f k ) (oculusref02_Top.f (k + 1) ) := by
 intro  k
 unfold oculusref02_Top.f
 repeat' first
   | (with_reducible exact oculusref02_Every.mono _)
   | (with_reducible exact LeO.refl _)
   | (with_reducible exact LeO.none _)
   | (with_reducible refine LeO.ite ?_ ?_)
   | (with_reducible refine LeO.bind ?_ (fun _ => ?_))
set_option maxHeartbeats 8000000 in
set_option maxRecDepth 100000 in
theorem oculusref02_Top.calls (k : Nat)  (r1 : Int) (r2 : Int) (w : World) (h : oculusref02_Top.f k  = some (r1, r2)) :
  Calls Tryd.prog 45 #[] w fun e w' => e = .returned (.agg #[.int .i64 r1, .int .u64 r2]) ∧ Below w.heap.size w w' := by
 have hu59 := Tryd.underlying59; have HB := Aside0.mk (Below.refl w.heap.size w)
 have H : ((oculusref02_Every.f k).bind fun t102 => (some (15, t102))) = some (r1, r2) := h
 clear h; replace H := Option.bind_eq_some_iff.mp H; obtain ⟨t102, A10, H⟩ := H
 replace H : (some (15, t102)) = some (r1, r2) := H
 have A1 := Aside0.mk A10; clear A10
 simp only [Option.some.injEq, Prod.mk.injEq] at H
 obtain ⟨rfl, rfl⟩ := H
 go_enter Tryd.func45, Tryd.ntmps45
 go_wp2_with (first | ((with_reducible refine gate_dst (N:=0) rfl ?_); refine be_ (N:=0) (cs := #[.int .i64 0, .int .u64 0]) (t:=59) ?_; intro gb101 hg w2 hbox hb; have BK101 := Aside0.mk (hbox); have GW101 := hs_ HB hg; have GE101 := hs_ HB hg; replace HB := bs_ HB hb; clear hb hbox hg) | ((with_reducible refine gate_callee (f:=66) rfl ?_); refine gL_ (some 1) rfl rfl Tryd.func66 rfl #[] rfl ?_; (with_reducible refine (oculusref02_Every.calls k  t102 _ A1.out).mono ?_); rintro e w' ⟨rfl, ⟨nd, rfl⟩⟩; refine ⟨_, rfl, ?_⟩; (try (rw [drewN_self w2]; generalize hq_ : World.drewN w2 _ = w2; have n0_ : Aside0 (w2.heap[gb101]? = some (.cells #[.int .i64 0, .int .u64 0] 59 (0, 0))) := ⟨by rw [← hq_]; exact (pkx BK101)⟩; have n1_ : Aside0 (Below w.heap.size w w2) := ⟨by rw [← hq_]; exact (pbx HB)⟩; clear BK101 HB hq_; have BK101 := n0_; have HB := n1_; clear n0_ n1_)); have hcz3_0 : w2.cell? ⟨gb101, 0, none⟩ = some (.int .i64 0) := bc_ BK101 0 rfl; have hcz3_1 : w2.cell? ⟨gb101, 1, none⟩ = some (.int .u64 0) := bc_ BK101 1 rfl; have hfz3_0 := blk_frozen BK101.out 0; have hfz3_1 := blk_frozen BK101.out 1))
 refine bodyPost_ret (results_cell_row rfl _ _ gb101 59 #[.int .i64 15, .int .u64 t102] (0, 0) _ rfl (by refine pp_ (cs := #[.int .i64 15, .int .u64 0]) 1 ?_ rfl; refine blk_put (cs := #[.int .i64 0, .int .u64 0]) ?_ 0 _ rfl; exact pkx BK101) Tryd.underlying59 rfl (by kernel_rfl)) rfl ?_
 exact ⟨by first | rfl | (simp [errW_none, errW_some] <;> rfl) | (simp [*, errW_none, errW_some] <;> rfl), by repeat (first | (with_reducible first | exact HB.out | apply below_alloc | apply pw_below_drewN | apply below_drew1 | refine below_set ?_ GE101.out) | exact HB.out)⟩

mutual
def oculusref01_Bit.j0 : Nat → Int → Int → Bool → Option (Bool)
 | 0, _, _, _ => none
 | k + 1, x0, x1, x11 => if x11 = true then (some false) else (oculusref01_Bit.l0 k x0 x1 0)
def oculusref01_Bit.l0 : Nat → Int → Int → Int → Option (Bool)
 | 0, _, _, _ => none
 | k + 1, x0, x1, x5 => if x5 < x1 then (oculusref01_Bit.l0 k (IntKind.u64.wrap (Int.tdiv x0 2)) x1 (wrap64 (x5 + 1))) else (some ((Int.tmod x0 2) == 1))
end
def oculusref01_Bit.f (k : Nat) (a0 : Int) (a1 : Int) : Option (Bool) := if a1 < 0 then (oculusref01_Bit.j0 k a0 a1 true) else (oculusref01_Bit.j0 k a0 a1 (decide (a1 > 63)))
theorem oculusref01_Bit.mono_l : ∀ k, (∀ y0 y1 y2, LeO (oculusref01_Bit.j0 k y0 y1 y2) (oculusref01_Bit.j0 (k + 1) y0 y1 y2)) ∧ (∀ y0 y1 y2, LeO (oculusref01_Bit.l0 k y0 y1 y2) (oculusref01_Bit.l0 (k + 1) y0 y1 y2))
 | 0 => ⟨fun _ _ _ r h => by simp [oculusref01_Bit.j0] at h, fun _ _ _ r h => by simp [oculusref01_Bit.l0] at h⟩
 | k + 1 => by
  obtain ⟨ih0, ih1⟩ := oculusref01_Bit.mono_l k
  refine ⟨?_, ?_⟩
  ·intro y0 y1 y2
   unfold oculusref01_Bit.j0
   repeat' first
   | (with_reducible exact ih0 _ _ _)
   | (with_reducible exact ih1 _ _ _)
   | (with_reducible exact LeO.refl _)
   | (with_reducible exact LeO.none _)
   | (with_reducible refine LeO.ite ?_ ?_)
   | (with_reducible refine LeO.bind ?_ (fun _ => ?_))
  ·intro y0 y1 y2
   unfold oculusref01_Bit.l0
   repeat' first
   | (with_reducible exact ih0 _ _ _)
   | (with_reducible exact ih1 _ _ _)
   | (with_reducible exact LeO.refl _)
   | (with_reducible exact LeO.none _)
   | (with_reducible refine LeO.ite ?_ ?_)
   | (with_reducible refine LeO.bind ?_ (fun _ => ?_))
theorem oculusref01_Bit.mono : ∀ a0 a1 k, LeO (oculusref01_Bit.f k a0 a1) (oculusref01_Bit.f (k + 1) a0 a1) := by
 intro a0 a1 k; obtain ⟨ih0, ih1⟩ := oculusref01_Bit.mono_l k
 unfold oculusref01_Bit.f
 repeat' first
   | (with_reducible exact ih0 _ _ _)
   | (with_reducible exact ih1 _ _ _)
   | (with_reducible exact LeO.refl _)
   | (with_reducible exact LeO.none _)
   | (with_reducible refine LeO.ite ?_ ?_)
   | (with_reducible refine LeO.bind ?_ (fun _ => ?_))
set_option maxHeartbeats 8000000 in
set_option maxRecDepth 100000 in
theorem oculusref01_Bit.calls (k : Nat) (a0 : Int) (a1 : Int) (r : Bool) (w : World) (h : oculusref01_Bit.f k a0 a1 = some r) :
  Calls Tryd.prog 81 #[.int .u64 a0, .int .i64 a1] w fun e w' => e = .returned (.bool r) ∧ Drawn0 w w' := by
 have H : (if a1 < 0 then (oculusref01_Bit.j0 k a0 a1 true) else (oculusref01_Bit.j0 k a0 a1 (decide (a1 > 63)))) = some r := h
 clear h; have HC3 := Aside0.mk H; clear H
 go_enter Tryd.func81, Tryd.ntmps81
 go_upto_region 1 with (fail)
 go_cut [11] (fun v11 wc => ∃ (kq : Nat) (x11_2 : Bool), v11 = .bool x11_2 ∧ Aside0 (oculusref01_Bit.j0 kq a0 a1 x11_2 = some r) ∧ Aside0 (kq ≤ k) ∧ Drawn0 w wc)
 case first =>
  have H := HC3.out; clear HC3
  by_cases c4 : a1 < 0
  ·rw [if_pos c4] at H; have c4b0 : decide (a1 < 0) = true := decide_eq_true c4; clear c4; (first | rw [c4b0] | (simp only [i64_w, i32_w]; rw [c4b0]) | skip)
   have H' := Aside0.mk H
   clear H
   go_wp2
   go_meet
   case rel => exact ⟨_, (true), (by first | rfl | (simp; done) | (simp [*]; done)), H', ⟨by first | omega | exact Nat.le_refl _⟩, by repeat (first | exact Drawn0.refl _ | apply Drawn0.step)⟩
  ·rw [if_neg c4] at H; have c4b0 : decide (a1 < 0) = false := decide_eq_false c4; clear c4; (first | rw [c4b0] | (simp only [i64_w, i32_w]; rw [c4b0]) | skip)
   have H' := Aside0.mk H
   clear H
   go_wp2
   go_meet
   case rel => exact ⟨_, (decide (a1 > 63)), (by first | rfl | (simp; done) | (simp [*]; done)), H', ⟨by first | omega | exact Nat.le_refl _⟩, by repeat (first | exact Drawn0.refl _ | apply Drawn0.step)⟩
 case rest =>
  clear HC3; (try clear p2); (try clear c4); (try clear c4b0); obtain ⟨kq, x11_2, rfl, HA, HJ2, ⟨mc2, rfl⟩⟩ := hcut
  cases kq with
  | zero => exact absurd HA.out (by simp [oculusref01_Bit.j0])
  | succ kj2 =>
   have H := HA.out; clear HA
   simp only [oculusref01_Bit.j0] at H
   by_cases c5 : x11_2 = true
   ·subst c5
    have H1 : (some false) = some r := by rw [if_pos rfl] at H; exact H
    clear H; have H := H1; clear H1; obtain rfl := Option.some.inj H
    go_wp2
    go_ret
    exact ⟨by first | rfl | (simp; done) | (simp [*]; done), by repeat (first | exact Drawn0.refl _ | apply Drawn0.step)⟩
   ·replace c5 := Bool.eq_false_iff.mpr c5; subst c5
    have H1 : (oculusref01_Bit.l0 kj2 a0 a1 0) = some r := by rw [if_neg (show ¬ (false = true) by decide)] at H; exact H
    clear H; have H := H1; clear H1
    have H' := Aside0.mk H
    clear H
    go_wp2
    go_loopg [0, 5] kj2 (fun kq v0 v5 w' => ∃ (x0_2 : Int) (x5_2 : Int), v0 = .int .u64 x0_2 ∧ v5 = .int .i64 x5_2 ∧ Aside0 (oculusref01_Bit.l0 kq x0_2 a1 x5_2 = some r) ∧ Aside0 (kq ≤ kj2) ∧ Drawn0 w w')
    case atStart => exact ⟨(a0), (0), (by first | rfl | (simp; done) | (simp [*]; done)), (by first | rfl | (simp; done) | (simp [*]; done)), H', ⟨Nat.le_refl _⟩, by repeat (first | exact Drawn0.refl _ | apply Drawn0.step)⟩
    case round =>
     clear H'; (try clear c2); (try clear p2); (try clear c4); (try clear c4b0); (try clear c5); (try clear p2); obtain ⟨x0_2, x5_2, rfl, rfl, HA, HK2, ⟨m2, rfl⟩⟩ := hrel
     cases gk with
     | zero => exact absurd HA.out (by simp [oculusref01_Bit.l0])
     | succ k2 =>
      have H := HA.out; clear HA
      simp only [oculusref01_Bit.l0] at H
      by_cases c6 : x5_2 < a1
      ·rw [if_pos c6] at H; have c6b0 : decide (x5_2 < a1) = true := decide_eq_true c6; clear c6
       have H' := Aside0.mk H
       clear H
       go_wp2
       go_roundg k2
       case measure => have := HJ2.out; have := HK2.out; omega
       case rel => exact ⟨(IntKind.u64.wrap (Int.tdiv x0_2 2)), (wrap64 (x5_2 + 1)), (by first | rfl | (simp; done) | (simp [*]; done)), (by first | rfl | (simp; done) | (simp [*]; done)), H', ⟨by have := HJ2.out; have := HK2.out; omega⟩, by repeat (first | exact Drawn0.refl _ | apply Drawn0.step)⟩
      ·rw [if_neg c6] at H; have c6b0 : decide (x5_2 < a1) = false := decide_eq_false c6; clear c6; obtain rfl := Option.some.inj H
       go_wp2
       go_ret
       exact ⟨by first | rfl | (simp; done) | (simp [*]; done), by repeat (first | exact Drawn0.refl _ | apply Drawn0.step)⟩

def oculusref01_List.l0 : Nat → Int → List Int → Int → Option (List Int)
 | 0, _, _, _ => none
 | k + 1, x0, x3, x4 => if x4 < 64 then ((oculusref01_Bit.f k x0 x4).bind fun t101 => (if t101 = true then (if x3.length < 17592186044416 then (oculusref01_List.l0 k x0 (x3 ++ [x4]) (wrap64 (x4 + 1))) else (none)) else (oculusref01_List.l0 k x0 x3 (wrap64 (x4 + 1))))) else (some x3)
def oculusref01_List.f (k : Nat) (a0 : Int) : Option (List Int) := oculusref01_List.l0 k a0 ([] : List Int) 0
theorem oculusref01_List.mono_l : ∀ k, (∀ y0 y1 y2, LeO (oculusref01_List.l0 k y0 y1 y2) (oculusref01_List.l0 (k + 1) y0 y1 y2))
 | 0 => fun _ _ _ r h => by simp [oculusref01_List.l0] at h
 | k + 1 => by
  have ih0 := oculusref01_List.mono_l k
  ·intro y0 y1 y2
   unfold oculusref01_List.l0
   repeat' first
   | (with_reducible exact ih0 _ _ _)
   | (with_reducible exact oculusref01_Bit.mono _ _ _)
   | (with_reducible exact LeO.refl _)
   | (with_reducible exact LeO.none _)
   | (with_reducible refine LeO.ite ?_ ?_)
   | (with_reducible refine LeO.bind ?_ (fun _ => ?_))
theorem oculusref01_List.mono : ∀ a0 k, LeO (oculusref01_List.f k a0) (oculusref01_List.f (k + 1) a0) := by
 intro a0 k; have ih0 := oculusref01_List.mono_l k
 unfold oculusref01_List.f
 repeat' first
   | (with_reducible exact ih0 _ _ _)
   | (with_reducible exact oculusref01_Bit.mono _ _ _)
   | (with_reducible exact LeO.refl _)
   | (with_reducible exact LeO.none _)
   | (with_reducible refine LeO.ite ?_ ?_)
   | (with_reducible refine LeO.bind ?_ (fun _ => ?_))
set_option maxHeartbeats 8000000 in
set_option maxRecDepth 100000 in
theorem oculusref01_List.calls (k : Nat) (a0 : Int) (r : List Int) (w : World) (h : oculusref01_List.f k a0 = some r) :
  Calls Tryd.prog 67 #[.int .u64 a0] w fun e w' => ∃ v0_ : Value, e = .returned (v0_) ∧ Kd.R (Kd.int .i64) 3 w' w.heap.size (fun _ => True) v0_ r ∧ Below w.heap.size w w' := by
 have HB := Aside0.mk (Below.refl w.heap.size w)
 have H : (oculusref01_List.l0 k a0 ([] : List Int) 0) = some r := h
 clear h
 have H' := Aside0.mk H
 clear H
 go_enter Tryd.func67, Tryd.ntmps67
 go_wp2
 go_loopg [3, 4] k (fun kq v3 v4 w' => ∃ (x3_1 : List Int) (x4_1 : Int), v4 = .int .i64 x4_1 ∧ Aside0 (oculusref01_List.l0 kq a0 x3_1 x4_1 = some r) ∧ Aside0 (kq ≤ k) ∧ Aside0 (Kd.R (Kd.int .i64) 3 w' w.heap.size (fun _ => True) v3 x3_1) ∧ Aside0 (Below w.heap.size w w'))
 case atStart => exact ⟨(([] : List Int)), (0), (by first | rfl | (simp; done) | (simp [*]; done)), H', ⟨Nat.le_refl _⟩, ⟨by first | exact Kd.R_nil _ _ _ _ _ | exact Kd.N_nil _ _ _ _ _ | exact Kd.V_nil _ _ _ _ _ | exact Kd.Q_nil _ _ _ _ _ | exact Kd.S_nil _ _ _ _ _⟩, ⟨pbx HB⟩⟩
 case round =>
  clear H'; obtain ⟨x3_1, x4_1, rfl, HA, HK1, HO_3, HB⟩ := hrel
  cases gk with
  | zero => exact absurd HA.out (by simp [oculusref01_List.l0])
  | succ k1 =>
   have H := HA.out; clear HA
   simp only [oculusref01_List.l0] at H
   by_cases c2 : x4_1 < 64
   ·rw [if_pos c2] at H; have c2b0 : decide (x4_1 < 64) = true := decide_eq_true c2; clear c2; replace H := Option.bind_eq_some_iff.mp H; obtain ⟨t101, A30, H⟩ := H
    replace H : (if t101 = true then (if x3_1.length < 17592186044416 then (oculusref01_List.l0 k1 a0 (x3_1 ++ [x4_1]) (wrap64 (x4_1 + 1))) else (none)) else (oculusref01_List.l0 k1 a0 x3_1 (wrap64 (x4_1 + 1)))) = some r := H
    have A3 := Aside0.mk A30; clear A30
    by_cases c4 : t101 = true
    ·subst c4
     have H1 : (if x3_1.length < 17592186044416 then (oculusref01_List.l0 k1 a0 (x3_1 ++ [x4_1]) (wrap64 (x4_1 + 1))) else (none)) = some r := by rw [if_pos rfl] at H; exact H
     clear H; have H := H1; clear H1
     by_cases c5 : x3_1.length < 17592186044416
     ·rw [if_pos c5] at H; have LMc5 := Aside0.mk c5; clear c5; obtain ⟨y102, hy102⟩ : ∃ y_ : List Int, y_ = (x3_1 ++ [x4_1]) := ⟨_, rfl⟩
      replace H : (oculusref01_List.l0 k1 a0 y102 (wrap64 (x4_1 + 1))) = some r := by first | (rw [hy102]; with_reducible exact H) | (have H2_ := (Option.bind_some _ _).symm.trans H; rw [hy102]; with_reducible exact H2_) | (have H2_ := (Option.bind_some _ _).symm.trans H; with_reducible exact H2_) | with_reducible exact H | (rw [hy102]; exact H) | exact H
      have Ny102 := Aside0.mk hy102; clear hy102
      have H' := Aside0.mk H
      clear H
      go_wp2_with (first | ((with_reducible refine gate_callee (f:=81) rfl ?_); refine gL_ (some 11) rfl rfl Tryd.func81 rfl #[.int .u64 a0, .int .i64 x4_1] rfl ?_; (with_reducible refine (oculusref01_Bit.calls k1 a0 x4_1 true _ A3.out).mono ?_); rintro e w' ⟨rfl, ⟨nd, rfl⟩⟩; refine ⟨_, rfl, ?_⟩) | ((with_reducible refine gate_builtin (b := .append) (xs := #[.tmp 12, .tmp 14]) rfl ?_); at_builtin; refine Kd.R_append (Kd.int .i64) (w0 := w) w.heap.size rfl (.tmp 12) (.tmp 14) 102 3 (.int .i64 0) 8 rfl Tryd.underlying102 info3 rfl (by decide) (by omega) u3 x3_1 x4_1 [.int .i64 x4_1] (fun _ => True) (fun _ => False) rfl rfl ?aP (fun _ hk => hk.elim) ?aF ?aO ?aB ?aS ?aL ?_; (case aP => exact rfl); (case aB => exact (pbx HB)); (case aF => exact (fun _ _ => trivial)); (case aO => exact (by (with_reducible repeat (first | apply Kd.R_alloc | apply Kd.R_drewN | apply Kd.R_drew)); exact HO_3.out)); (case aS => exact (below_size (pbx HB))); (case aL => have := LMc5.out; omega); intro v103 w6 ho hb hg hat; rw [← Ny102.out] at ho; have HO104 := Aside0.mk (ho); replace HB := Aside0.mk (hb); clear HO_3; clear ho hb hg hat))
      go_roundg k1
      case measure => have := HK1.out; omega
      case rel => exact ⟨(y102), (wrap64 (x4_1 + 1)), (by first | rfl | (simp; done) | (simp [*]; done)), H', ⟨by have := HK1.out; omega⟩, ⟨by (with_reducible repeat (first | apply Kd.R_alloc | apply Kd.R_drewN | apply Kd.R_drew)); exact HO104.out⟩, ⟨pbx HB⟩⟩
     ·rw [if_neg c5] at H
      exact absurd H (by simp)
    ·replace c4 := Bool.eq_false_iff.mpr c4; subst c4
     have H1 : (oculusref01_List.l0 k1 a0 x3_1 (wrap64 (x4_1 + 1))) = some r := by rw [if_neg (show ¬ (false = true) by decide)] at H; exact H
     clear H; have H := H1; clear H1
     have H' := Aside0.mk H
     clear H
     go_wp2_with (first | ((with_reducible refine gate_callee (f:=81) rfl ?_); refine gL_ (some 11) rfl rfl Tryd.func81 rfl #[.int .u64 a0, .int .i64 x4_1] rfl ?_; (with_reducible refine (oculusref01_Bit.calls k1 a0 x4_1 false _ A3.out).mono ?_); rintro e w' ⟨rfl, ⟨nd, rfl⟩⟩; refine ⟨_, rfl, ?_⟩))
     go_roundg k1
     case measure => have := HK1.out; omega
     case rel => exact ⟨(x3_1), (wrap64 (x4_1 + 1)), (by first | rfl | (simp; done) | (simp [*]; done)), H', ⟨by have := HK1.out; omega⟩, ⟨by (with_reducible repeat (first | apply Kd.R_alloc | apply Kd.R_drewN | apply Kd.R_drew)); exact HO_3.out⟩, ⟨pbx HB⟩⟩
   ·rw [if_neg c2] at H; have c2b0 : decide (x4_1 < 64) = false := decide_eq_false c2; clear c2; obtain rfl := Option.some.inj H
    go_wp2
    go_ret
    exact ⟨_, by first | rfl | (simp [errW_none, errW_some] <;> rfl) | (simp [*, errW_none, errW_some] <;> rfl), by (with_reducible repeat (first | apply Kd.R_alloc | apply Kd.R_drewN | apply Kd.R_drew)); exact HO_3.out, pbx HB⟩

def oculusref01_Text.l0 : Nat → ByteArray → List Int → Int → Option (ByteArray)
 | 0, _, _, _ => none
 | k + 1, x3, x4, x5 => if x5 < (x4.length : Int) then (if x5 > 0 then (if x3.size + 1 ≤ 9223372036854775807 then (if 0 ≤ x5 then ((oculusref01_Digits.f k (rd x4 x5)).bind fun t105 => (if (x3 ++ (⟨#[44]⟩ : ByteArray)).size + t105.size ≤ 9223372036854775807 then (oculusref01_Text.l0 k ((x3 ++ (⟨#[44]⟩ : ByteArray)) ++ t105) x4 (wrap64 (x5 + 1))) else (none))) else (none)) else (none)) else (if 0 ≤ x5 then ((oculusref01_Digits.f k (rd x4 x5)).bind fun t107 => (if x3.size + t107.size ≤ 9223372036854775807 then (oculusref01_Text.l0 k (x3 ++ t107) x4 (wrap64 (x5 + 1))) else (none))) else (none))) else (some x3)
def oculusref01_Text.f (k : Nat) (a0 : Int) : Option (ByteArray) := (oculusref01_List.f k a0).bind fun t101 => (oculusref01_Text.l0 k (⟨#[]⟩ : ByteArray) t101 0)
theorem oculusref01_Text.mono_l : ∀ k, (∀ y0 y1 y2, LeO (oculusref01_Text.l0 k y0 y1 y2) (oculusref01_Text.l0 (k + 1) y0 y1 y2))
 | 0 => fun _ _ _ r h => by simp [oculusref01_Text.l0] at h
 | k + 1 => by
  have ih0 := oculusref01_Text.mono_l k
  ·intro y0 y1 y2
   unfold oculusref01_Text.l0
   repeat' first
   | (with_reducible exact ih0 _ _ _)
   | (with_reducible exact oculusref01_Digits.mono _ _)
   | (with_reducible exact oculusref01_List.mono _ _)
   | (with_reducible exact LeO.refl _)
   | (with_reducible exact LeO.none _)
   | (with_reducible refine LeO.ite ?_ ?_)
   | (with_reducible refine LeO.bind ?_ (fun _ => ?_))
theorem oculusref01_Text.mono : ∀ a0 k, LeO (oculusref01_Text.f k a0) (oculusref01_Text.f (k + 1) a0) := by
 intro a0 k; have ih0 := oculusref01_Text.mono_l k
 unfold oculusref01_Text.f
 repeat' first
   | (with_reducible exact ih0 _ _ _)
   | (with_reducible exact oculusref01_Digits.mono _ _)
   | (with_reducible exact oculusref01_List.mono _ _)
   | (with_reducible exact LeO.refl _)
   | (with_reducible exact LeO.none _)
   | (with_reducible refine LeO.ite ?_ ?_)
   | (with_reducible refine LeO.bind ?_ (fun _ => ?_))
set_option maxHeartbeats 8000000 in
set_option maxRecDepth 100000 in
theorem oculusref01_Text.calls (k : Nat) (a0 : Int) (r : ByteArray) (w : World) (h : oculusref01_Text.f k a0 = some r) :
  Calls Tryd.prog 46 #[.int .u64 a0] w fun e w' => e = .returned (.string r) ∧ Below w.heap.size w w' := by
 have HB := Aside0.mk (Below.refl w.heap.size w)
 have H : ((oculusref01_List.f k a0).bind fun t101 => (oculusref01_Text.l0 k (⟨#[]⟩ : ByteArray) t101 0)) = some r := h
 clear h; replace H := Option.bind_eq_some_iff.mp H; obtain ⟨t101, A20, H⟩ := H
 replace H : (oculusref01_Text.l0 k (⟨#[]⟩ : ByteArray) t101 0) = some r := H
 have A2 := Aside0.mk A20; clear A20
 have H' := Aside0.mk H
 clear H
 go_enter Tryd.func46, Tryd.ntmps46
 go_wp2_with (first | ((with_reducible refine gate_callee (f:=67) rfl ?_); refine gL_ (some 7) rfl rfl Tryd.func67 rfl #[.int .u64 a0] rfl ?_; (with_reducible refine (oculusref01_List.calls k a0 t101 _ A2.out).mono ?_); rintro e w3 ⟨v102, rfl, ho0, hb⟩; refine ⟨_, rfl, ?_⟩; have HO103 := Aside0.mk (Kd.R_lower ho0 (below_size (pbx HB))); replace HB := bs_ HB hb; (try clear hb); (try clear hb2); (try clear hk); (try clear hi); (try clear ho0)))
 go_loopg [3, 5] k (fun kq v3 v5 w' => ∃ (x3_1 : ByteArray) (x5_1 : Int), v3 = .string x3_1 ∧ v5 = .int .i64 x5_1 ∧ Aside0 (oculusref01_Text.l0 kq x3_1 t101 x5_1 = some r) ∧ Aside0 (kq ≤ k) ∧ Aside0 (Kd.R (Kd.int .i64) 3 w' w.heap.size (fun _ => True) v102 t101) ∧ Aside0 (Below w.heap.size w w'))
 case atStart => exact ⟨((⟨#[]⟩ : ByteArray)), (0), (by first | rfl | (simp; done) | (simp [*]; done)), (by first | rfl | (simp; done) | (simp [*]; done)), H', ⟨Nat.le_refl _⟩, ⟨by (with_reducible repeat (first | apply Kd.R_alloc | apply Kd.R_drewN | apply Kd.R_drew)); exact HO103.out⟩, ⟨pbx HB⟩⟩
 case round =>
  clear H'; (try clear p2); obtain ⟨x3_1, x5_1, rfl, rfl, HA, HK1, HO_4, HB⟩ := hrel
  cases gk with
  | zero => exact absurd HA.out (by simp [oculusref01_Text.l0])
  | succ k1 =>
   have H := HA.out; clear HA
   simp only [oculusref01_Text.l0] at H
   by_cases c4 : x5_1 < (t101.length : Int)
   ·rw [if_pos c4] at H; have c4b0 : decide (x5_1 < (t101.length : Int)) = true := decide_eq_true c4; clear c4
    by_cases c5 : x5_1 > 0
    ·rw [if_pos c5] at H; have c5b0 : decide (0 < x5_1) = true := decide_eq_true c5; clear c5
     by_cases c6 : x3_1.size + 1 ≤ 9223372036854775807
     ·rw [if_pos c6] at H; have c6b0 := eq_true c6; have c6b1 : decide (x3_1.size + 1 ≤ 9223372036854775807) = true := decide_eq_true c6
      try have c6b2 : (9223372036854775807 < x3_1.size + 1) = False := eq_false (Nat.not_lt.2 c6)
      by_cases c7 : 0 ≤ x5_1
      ·rw [if_pos c7] at H; have c7b0 : decide (0 ≤ x5_1) = true := decide_eq_true c7; clear c7; replace H := Option.bind_eq_some_iff.mp H; obtain ⟨t105, A80, H⟩ := H
       replace H : (if (x3_1 ++ (⟨#[44]⟩ : ByteArray)).size + t105.size ≤ 9223372036854775807 then (oculusref01_Text.l0 k1 ((x3_1 ++ (⟨#[44]⟩ : ByteArray)) ++ t105) t101 (wrap64 (x5_1 + 1))) else (none)) = some r := H
       have A8 := Aside0.mk A80; clear A80
       by_cases c9 : (x3_1 ++ (⟨#[44]⟩ : ByteArray)).size + t105.size ≤ 9223372036854775807
       ·rw [if_pos c9] at H; have c9b0 := eq_true c9; have c9b1 : decide ((x3_1 ++ (⟨#[44]⟩ : ByteArray)).size + t105.size ≤ 9223372036854775807) = true := decide_eq_true c9
        try have c9b2 : (9223372036854775807 < (x3_1 ++ (⟨#[44]⟩ : ByteArray)).size + t105.size) = False := eq_false (Nat.not_lt.2 c9)
        try have c9b2z : (9223372036854775807 < x3_1.size + 1 + t105.size) = False := by have h9_ := c9b2; rw [ByteArray.size_append] at h9_; exact h9_
        have H' := Aside0.mk H
        clear H; obtain ⟨Ao10, co10, eo10⟩ := Kd.R_slice HO_4.out; subst eo10
        have p104 : 0 ≤ (x5_1 : Int) := of_decide_eq_true (by first | (with_reducible assumption) | assumption)
        have q104 : x5_1 < (t101.length : Int) := of_decide_eq_true (by first | (with_reducible assumption) | assumption)
        obtain ⟨ad104, e104, hx104_0⟩ := Kd.at_int (Kd.R_reads' HO_4.out).2.2 x5_1 p104 q104
        cases e104
        replace p104 := eq_true p104; replace q104 := eq_true q104
        go_wp2_with (first | ((with_reducible refine gate_callee (f:=23) rfl ?_); refine gL_ (some 23) rfl rfl Tryd.func23 rfl #[.int .i64 (rd t101 x5_1)] rfl ?_; (with_reducible refine (oculusref01_Digits.calls k1 (rd t101 x5_1) t105 _ A8.out).mono ?_); rintro e w11 ⟨rfl, hb⟩; refine ⟨_, rfl, ?_⟩; replace HO_4 := Aside0.mk (Kd.R_below (by (with_reducible repeat (first | apply Kd.R_alloc | apply Kd.R_drewN | apply Kd.R_drew)); exact HO_4.out) hb); replace HB := bs_ HB hb; (try clear hb); (try clear hb2); (try clear hk); (try clear hi)))
        go_roundg k1
        case measure => have := HK1.out; omega
        case rel => exact ⟨((x3_1 ++ (⟨#[44]⟩ : ByteArray)) ++ t105), (wrap64 (x5_1 + 1)), (by first | rfl | (simp; done) | (simp [*]; done) | (cases t105 <;> simp; done)), (by first | rfl | (simp; done) | (simp [*]; done)), H', ⟨by have := HK1.out; omega⟩, ⟨by (with_reducible repeat (first | apply Kd.R_alloc | apply Kd.R_drewN | apply Kd.R_drew)); exact HO_4.out⟩, ⟨pbx HB⟩⟩
       ·rw [if_neg c9] at H
        exact absurd H (by simp)
      ·rw [if_neg c7] at H
       exact absurd H (by simp)
     ·rw [if_neg c6] at H
      exact absurd H (by simp)
    ·rw [if_neg c5] at H; have c5b0 : decide (0 < x5_1) = false := decide_eq_false c5; clear c5
     by_cases c12 : 0 ≤ x5_1
     ·rw [if_pos c12] at H; have c12b0 : decide (0 ≤ x5_1) = true := decide_eq_true c12; clear c12; replace H := Option.bind_eq_some_iff.mp H; obtain ⟨t107, A130, H⟩ := H
      replace H : (if x3_1.size + t107.size ≤ 9223372036854775807 then (oculusref01_Text.l0 k1 (x3_1 ++ t107) t101 (wrap64 (x5_1 + 1))) else (none)) = some r := H
      have A13 := Aside0.mk A130; clear A130
      by_cases c14 : x3_1.size + t107.size ≤ 9223372036854775807
      ·rw [if_pos c14] at H; have c14b0 := eq_true c14; have c14b1 : decide (x3_1.size + t107.size ≤ 9223372036854775807) = true := decide_eq_true c14
       try have c14b2 : (9223372036854775807 < x3_1.size + t107.size) = False := eq_false (Nat.not_lt.2 c14)
       have H' := Aside0.mk H
       clear H; obtain ⟨Ao15, co15, eo15⟩ := Kd.R_slice HO_4.out; subst eo15
       have p106 : 0 ≤ (x5_1 : Int) := of_decide_eq_true (by first | (with_reducible assumption) | assumption)
       have q106 : x5_1 < (t101.length : Int) := of_decide_eq_true (by first | (with_reducible assumption) | assumption)
       obtain ⟨ad106, e106, hx106_0⟩ := Kd.at_int (Kd.R_reads' HO_4.out).2.2 x5_1 p106 q106
       cases e106
       replace p106 := eq_true p106; replace q106 := eq_true q106
       go_wp2_with (first | ((with_reducible refine gate_callee (f:=23) rfl ?_); refine gL_ (some 23) rfl rfl Tryd.func23 rfl #[.int .i64 (rd t101 x5_1)] rfl ?_; (with_reducible refine (oculusref01_Digits.calls k1 (rd t101 x5_1) t107 _ A13.out).mono ?_); rintro e w16 ⟨rfl, hb⟩; refine ⟨_, rfl, ?_⟩; replace HO_4 := Aside0.mk (Kd.R_below (by (with_reducible repeat (first | apply Kd.R_alloc | apply Kd.R_drewN | apply Kd.R_drew)); exact HO_4.out) hb); replace HB := bs_ HB hb; (try clear hb); (try clear hb2); (try clear hk); (try clear hi)))
       go_roundg k1
       case measure => have := HK1.out; omega
       case rel => exact ⟨(x3_1 ++ t107), (wrap64 (x5_1 + 1)), (by first | rfl | (simp; done) | (simp [*]; done) | (cases t107 <;> simp; done)), (by first | rfl | (simp; done) | (simp [*]; done)), H', ⟨by have := HK1.out; omega⟩, ⟨by (with_reducible repeat (first | apply Kd.R_alloc | apply Kd.R_drewN | apply Kd.R_drew)); exact HO_4.out⟩, ⟨pbx HB⟩⟩
      ·rw [if_neg c14] at H
       exact absurd H (by simp)
     ·rw [if_neg c12] at H
      exact absurd H (by simp)
   ·rw [if_neg c4] at H; have c4b0 : decide (x5_1 < (t101.length : Int)) = false := decide_eq_false c4; clear c4; obtain rfl := Option.some.inj H; obtain ⟨Ao17, co17, eo17⟩ := Kd.R_slice HO_4.out; subst eo17
    go_wp2
    go_ret
    exact ⟨by first | rfl | (simp [errW_none, errW_some] <;> rfl) | (simp [*, errW_none, errW_some] <;> rfl), pbx HB⟩

end Go.Proofs.YtbboanfggaknjaaDoor.X
