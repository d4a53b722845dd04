/- The law ChaseApart: for every input the call returns true, and each argument reads afterwards as it read before: the statement Rows.ChaseApartSaid, whole, with no condition of ours. -/
import Derived.Deep.Slices
import Derived.ChangeArms
import Derived.SizedLaws
import Derived.OpenShut
import Derived.Laws.BitsAllLaws
import Derived.Test.YtmpcphfgmpceiaaRows
import Derived.WalkKit
import Derived.ProofKit
import Derived.ShutString
import Derived.ChangeOld
import Derived.Below
import Derived.Carry
import Derived.Test.YtmpcphfgmpceiaaBChaseApart1
namespace Go.Proofs.Ytmpcphfgmpceiaa.X
open Go.RowKit Go.Proofs.YtmpcphfgmpceiaaW.PrintWords Go.Proofs.YtmpcphfgmpceiaaW.PrintLast Go.Proofs.YtmpcphfgmpceiaaW.PrintMore
attribute [local go_sem] max2_int min2_int max_two min_two max_three min_three max_four min_four
set_option linter.unusedVariables false
set_option linter.unusedSimpArgs false
attribute [local go_sem high] eqA26
def oculuslaw35_ChaseApart.j0 : Nat → List (S38) → Int → Int → Bool → Int → Int → Option (Bool)
 | 0, _, _, _, _, _, _ => none
 | k + 1, x0, x7, x8, x45, x103000, x103001 => if x45 = true then ((oculuslaw35_alive.f k).bind fun t107 => (some t107)) else ((oculuslaw35_mine.f k x0).bind fun t108 => ((chase_Close.f t108).bind fun t111 => (if 0 ≤ x8 then (if x8 < (t108.length : Int) then ((chase_Close.f (t108.set (x8 : Int).toNat (⟨(⟨x103000, x103001⟩ : S26), (rd_T36 t108 x8).f1⟩ : S36))).bind fun t115 => (if (t111.length : Int) = (x0.length : Int) then (if (t115.length : Int) = (x0.length : Int) then (if 0 ≤ x7 then (if x7 < (t111.length : Int) then (if x7 < (t115.length : Int) then (if (((rd_T26 t111 x7).f0) == ((rd_T26 t115 x7).f0) && (((rd_T26 t111 x7).f1) == ((rd_T26 t115 x7).f1))) = true then ((oculuslaw35_alive.f k).bind fun t120 => (some t120)) else (none)) else (none)) else (none)) else (none)) else (none)) else (none))) else (none)) else (none))))
def oculuslaw35_ChaseApart.f (k : Nat) (l0 : List (S38)) (a1_0 : Int) (a1_1 : Int) (a2_0 : Int) (a2_1 : Int) : Option (Bool) := if (l0.length : Int) > 100 then (oculuslaw35_ChaseApart.j0 k l0 a1_0 a1_1 true a2_0 a2_1) else (if a1_0 < 0 then (oculuslaw35_ChaseApart.j0 k l0 a1_0 a1_1 true a2_0 a2_1) else (if a1_0 ≥ (l0.length : Int) then (oculuslaw35_ChaseApart.j0 k l0 a1_0 a1_1 true a2_0 a2_1) else (if a1_1 < 0 then (oculuslaw35_ChaseApart.j0 k l0 a1_0 a1_1 true a2_0 a2_1) else (if a1_1 ≥ (l0.length : Int) then (oculuslaw35_ChaseApart.j0 k l0 a1_0 a1_1 true a2_0 a2_1) else ((oculusref35_Chain.f k l0 a1_0).bind fun t103 => ((oculusref35_Has.f k t103 a1_1).bind fun t106 => (oculuslaw35_ChaseApart.j0 k l0 a1_0 a1_1 t106 a2_0 a2_1)))))))
def oculuslaw35_ChaseApart.T8 : Bool × List (List Nat × List Nat) := (true, [([], []), ([0], [0]), ([], []), ([2], [2]), ([1, 3], [1, 3]), ([4], [4]), ([5], [5]), ([6, 5], [5, 6]), ([5], [5]), ([8, 5], [5, 8]), ([7, 9, 5], [5, 7, 9]), ([5, 10], [5, 10]), ([11, 5], [11]), ([12], [12]), ([12], [12]), ([13, 14, 12], [12, 13, 14]), ([15, 12], [12, 15]), ([12], [12]), ([12], [12]), ([17, 18, 12], [12, 17, 18]), ([19, 12], [12, 19]), ([16, 20, 12], [12, 16, 20]), ([12, 21], [12, 21]), ([22, 12], [22]), ([23, 23], [23]), ([23, 24], [23, 24]), ([25, 24, 0, 1, 2, 3, 4, 5, 6, 7, 8, 9, 10, 11, 12, 13, 14, 15, 16, 17, 18, 19, 20, 21, 22, 23, 24, 25], [25])])
def oculuslaw35_ChaseApart.B8 : List Nat := [0, 1, 0, 4, 15, 31, 63, 127, 63, 319, 1023, 2047, 4095, 8191, 8191, 32767, 65535, 8191, 8191, 401407, 925695, 2097151, 4194303, 8388607, 16777215, 33554431, 67108863]
theorem oculuslaw35_ChaseApart.tab8 : rtab .any (opsOf Try.f3 8) = oculuslaw35_ChaseApart.T8 := by kernel_rfl
theorem oculuslaw35_ChaseApart.bits8 : waitsOk oculuslaw35_ChaseApart.T8.2 oculuslaw35_ChaseApart.B8 = true := by kernel_rfl
set_option maxHeartbeats 8000000 in
set_option maxRecDepth 100000 in
theorem oculuslaw35_ChaseApart.calls (k : Nat) (A0 : Option Addr) (c0 : Nat) (l0 : List (S38)) (a1_0 : Int) (a1_1 : Int) (a2_0 : Int) (a2_1 : Int) (r : Bool) (w : World) (hr0 : Kd.C k38 w A0 l0.length l0) (hc0 : l0.length ≤ c0) (h : oculuslaw35_ChaseApart.f k l0 a1_0 a1_1 a2_0 a2_1 = some r) :
  Calls Try.prog 3 #[.slice A0 l0.length c0, .agg #[.int .i64 a1_0, .int .i64 a1_1], .agg #[.int .i64 a2_0, .int .u64 a2_1]] w fun e w' => e = .returned (.bool r) ∧ Below w.heap.size w w' := by
 have hu23 := Try.underlying23; have hu26 := Try.underlying26; have HR0 := Aside0.mk hr0; have HC0 := Aside0.mk hc0; clear hr0 hc0; have HB := Aside0.mk (Below.refl w.heap.size w)
 have H : (if (l0.length : Int) > 100 then (oculuslaw35_ChaseApart.j0 k l0 a1_0 a1_1 true a2_0 a2_1) else (if a1_0 < 0 then (oculuslaw35_ChaseApart.j0 k l0 a1_0 a1_1 true a2_0 a2_1) else (if a1_0 ≥ (l0.length : Int) then (oculuslaw35_ChaseApart.j0 k l0 a1_0 a1_1 true a2_0 a2_1) else (if a1_1 < 0 then (oculuslaw35_ChaseApart.j0 k l0 a1_0 a1_1 true a2_0 a2_1) else (if a1_1 ≥ (l0.length : Int) then (oculuslaw35_ChaseApart.j0 k l0 a1_0 a1_1 true a2_0 a2_1) else ((oculusref35_Chain.f k l0 a1_0).bind fun t103 => ((oculusref35_Has.f k t103 a1_1).bind fun t106 => (oculuslaw35_ChaseApart.j0 k l0 a1_0 a1_1 t106 a2_0 a2_1)))))))) = some r := h
 clear h; have HC4 := Aside0.mk H; clear H
 go_enter Try.func3, Try.ntmps3
 try go_wp2_with (first | ((with_reducible refine gate_dst (N:=4) rfl ?_); (try (refine gate_guard (by rfl) ?_; dsimp only)); refine be_ (N:=4) (cs := #[.int .i64 a1_0, .int .i64 a1_1]) (t:=23) ?_; intro gb101 hg w5 hbox hb; have BK101 := Aside0.mk (hbox); have GW101 := hs_ HB hg; have GE101 := hs_ HB hg; replace HB := bs_ HB hb; clear hb hbox hg) | ((with_reducible refine gate_dst (N:=5) rfl ?_); (try (refine gate_guard (by rfl) ?_; dsimp only)); refine be_ (N:=5) (cs := #[.int .i64 a2_0, .int .u64 a2_1]) (t:=26) ?_; intro gb102 hg w6 hbox hb; have BK102 := Aside0.mk (hbox); have GW102 := hs_ HB hg; have GE102 := hs_ HB hg; have NB101_102 := hl_ BK101 hg; have NB102_101 := hr_ BK101 hg; replace BK101 := bb_ BK101 hb; replace HB := bs_ HB hb; clear hb hbox hg))
 (try (rw [drewN_self w6]; generalize hq_ : World.drewN w6 _ = w6; have n0_ : Aside0 (w6.heap[gb101]? = some (.cells #[.int .i64 a1_0, .int .i64 a1_1] 23 (0, 0))) := ⟨by rw [← hq_]; exact (pkx BK101)⟩; have n1_ : Aside0 (w6.heap[gb102]? = some (.cells #[.int .i64 a2_0, .int .u64 a2_1] 26 (0, 0))) := ⟨by rw [← hq_]; exact (pkx BK102)⟩; have n2_ : Aside0 (Below w.heap.size w w6) := ⟨by rw [← hq_]; exact (pbx HB)⟩; clear BK101 BK102 HB hq_; have BK101 := n0_; have BK102 := n1_; have HB := n2_; clear n0_ n1_ n2_))
 replace BK101 := Aside0.mk (blk_drew BK101.out); replace BK102 := Aside0.mk (blk_drew BK102.out); replace HB := Aside0.mk (below_drew1 HB.out)
 refine start_ (n:=6) (S := fun w' => w'.cell? ⟨gb101, 0, none⟩ = some (.int .i64 a1_0) ∧ w'.cell? ⟨gb101, 1, none⟩ = some (.int .i64 a1_1)) (ds := []) #[F,F,F,F,F,F] (by kernel_rfl) rfl rfl ⟨bc_ BK101 0 rfl, bc_ BK101 1 rfl⟩ (fun hHeld => ?_)
 generalize w6.drew = w7 at BK101 BK102 HB hHeld ⊢; refine pure_ (i:=0) (N:=some 12) (v:=?_) (a':=?_) ⟨m_ 6 1⟩ rfl rfl (by kernel_rfl) (fun _ _ _ h=>h) (Or.inl ⟨rfl, ?_⟩) ?_ ?_; rotate_left
 ·intro w'; go_simp; with_reducible rfl
 rotate_left
 ·simp only [q_, i64_w, i32_w]; rfl
 refine pure_ (i:=2) (N:=some 14) (v:=?_) (a':=?_) ⟨m_ 6 5⟩ rfl rfl (by kernel_rfl) (fun _ _ _ h=>h) (Or.inl ⟨rfl, ?_⟩) ?_ ?_; rotate_left
 ·intro w'; go_simp; with_reducible rfl
 rotate_left
 ·simp only [q_, i64_w, i32_w]; rfl
 refine take_ (i:=1) (N:=some 13) (v:=?_) (a':=?_) ⟨m_ 6 7⟩ rfl rfl (by kernel_rfl) (fun _ _ _ h=>h) (Or.inl ⟨rfl, ?_⟩) hHeld ?_ ?_; rotate_left
 ·rintro w' ⟨s0, s1⟩; go_simp; with_reducible rfl
 rotate_left
 ·simp only [q_, i64_w, i32_w]; rfl
 refine pure_ (i:=4) (N:=some 7) (v:=?_) (a':=?_) ⟨m_ 6 23⟩ rfl rfl (by kernel_rfl) (fun _ _ _ h=>h) (Or.inl ⟨rfl, ?_⟩) ?_ ?_; rotate_left
 ·intro w'; go_simp; with_reducible rfl
 rotate_left
 ·simp only [q_, i64_w, i32_w]; rfl
 refine take_ (i:=3) (N:=some 15) (v:=?_) (a':=?_) ⟨m_ 6 31⟩ rfl rfl (by kernel_rfl) (fun _ _ _ h=>h) (Or.inl ⟨rfl, ?_⟩) hHeld ?_ ?_; rotate_left
 ·rintro w' ⟨s0, s1⟩; go_simp; with_reducible rfl
 rotate_left
 ·simp only [q_, i64_w, i32_w]; rfl
 refine pure_ (i:=5) (N:=some 8) (v:=?_) (a':=?_) ⟨m_ 6 63⟩ rfl rfl (by kernel_rfl) (fun _ _ _ h=>h) (Or.inl ⟨rfl, ?_⟩) ?_ ?_; rotate_left
 ·intro w'; go_simp; with_reducible rfl
 rotate_left
 ·simp only [q_, i64_w, i32_w]; rfl
 refine done_ (by kernel_rfl) ?_
 go_upto_region 2 with (fail)
 go_cut [45] (fun v45 wc => ∃ (kq : Nat) (x45_3 : Bool), v45 = .bool x45_3 ∧ Aside0 (oculuslaw35_ChaseApart.j0 kq l0 a1_0 a1_1 x45_3 a2_0 a2_1 = some r) ∧ Aside0 (kq ≤ k) ∧ Aside0 (wc.heap[gb101]? = some (.cells #[.int .i64 a1_0, .int .i64 a1_1] 23 (0, 0))) ∧ Aside0 (wc.heap[gb102]? = some (.cells #[.int .i64 a2_0, .int .u64 a2_1] 26 (0, 0))) ∧ Aside0 (Below w.heap.size w wc))
 case first =>
  have H := HC4.out; clear HC4
  by_cases c8 : (l0.length : Int) > 100
  ·rw [if_pos c8] at H; have c8b0 : decide (100 < (l0.length : Int)) = true := decide_eq_true c8; have c8b1 : decide (100 < l0.length) = true := decide_eq_true (by omega); clear c8; (first | rw [c8b0] | (simp only [i64_w, i32_w]; rw [c8b0]) | skip)
   have H' := Aside0.mk H
   clear H
   go_wp2
   go_meet
   case rel => exact ⟨_, (true), (by first | rfl | (simp; done) | (simp [*]; done)), H', ⟨by first | omega | exact Nat.le_refl _⟩, ⟨pkx BK101⟩, ⟨pkx BK102⟩, ⟨pbx HB⟩⟩
  ·rw [if_neg c8] at H; have c8b0 : decide (100 < (l0.length : Int)) = false := decide_eq_false c8; have c8b1 : decide (100 < l0.length) = false := decide_eq_false (by omega); clear c8; (first | rw [c8b0] | (simp only [i64_w, i32_w]; rw [c8b0]) | skip)
   by_cases c9 : a1_0 < 0
   ·rw [if_pos c9] at H; have c9b0 : decide (a1_0 < 0) = true := decide_eq_true c9; clear c9
    have H' := Aside0.mk H
    clear H
    go_wp2
    go_meet
    case rel => exact ⟨_, (true), (by first | rfl | (simp; done) | (simp [*]; done)), H', ⟨by first | omega | exact Nat.le_refl _⟩, ⟨pkx BK101⟩, ⟨pkx BK102⟩, ⟨pbx HB⟩⟩
   ·rw [if_neg c9] at H; have c9b0 : decide (a1_0 < 0) = false := decide_eq_false c9; clear c9
    by_cases c10 : a1_0 ≥ (l0.length : Int)
    ·rw [if_pos c10] at H; have c10b0 : decide ((l0.length : Int) ≤ a1_0) = true := decide_eq_true c10; clear c10
     have H' := Aside0.mk H
     clear H
     go_wp2
     go_meet
     case rel => exact ⟨_, (true), (by first | rfl | (simp; done) | (simp [*]; done)), H', ⟨by first | omega | exact Nat.le_refl _⟩, ⟨pkx BK101⟩, ⟨pkx BK102⟩, ⟨pbx HB⟩⟩
    ·rw [if_neg c10] at H; have c10b0 : decide ((l0.length : Int) ≤ a1_0) = false := decide_eq_false c10; clear c10
     by_cases c11 : a1_1 < 0
     ·rw [if_pos c11] at H; have c11b0 : decide (a1_1 < 0) = true := decide_eq_true c11; clear c11
      have H' := Aside0.mk H
      clear H
      go_wp2
      go_meet
      case rel => exact ⟨_, (true), (by first | rfl | (simp; done) | (simp [*]; done)), H', ⟨by first | omega | exact Nat.le_refl _⟩, ⟨pkx BK101⟩, ⟨pkx BK102⟩, ⟨pbx HB⟩⟩
     ·rw [if_neg c11] at H; have c11b0 : decide (a1_1 < 0) = false := decide_eq_false c11; clear c11
      by_cases c12 : a1_1 ≥ (l0.length : Int)
      ·rw [if_pos c12] at H; have c12b0 : decide ((l0.length : Int) ≤ a1_1) = true := decide_eq_true c12; clear c12
       have H' := Aside0.mk H
       clear H
       go_wp2
       go_meet
       case rel => exact ⟨_, (true), (by first | rfl | (simp; done) | (simp [*]; done)), H', ⟨by first | omega | exact Nat.le_refl _⟩, ⟨pkx BK101⟩, ⟨pkx BK102⟩, ⟨pbx HB⟩⟩
      ·rw [if_neg c12] at H; have c12b0 : decide ((l0.length : Int) ≤ a1_1) = false := decide_eq_false c12; clear c12; replace H := Option.bind_eq_some_iff.mp H; obtain ⟨t103, A130, H⟩ := H
       replace H : ((oculusref35_Has.f k t103 a1_1).bind fun t106 => (oculuslaw35_ChaseApart.j0 k l0 a1_0 a1_1 t106 a2_0 a2_1)) = some r := H
       have A13 := Aside0.mk A130; clear A130; replace H := Option.bind_eq_some_iff.mp H; obtain ⟨t106, A140, H⟩ := H
       replace H : (oculuslaw35_ChaseApart.j0 k l0 a1_0 a1_1 t106 a2_0 a2_1) = some r := H
       have A14 := Aside0.mk A140; clear A140
       have H' := Aside0.mk H
       clear H
       go_wp2_with (first | (go_at_call 5; (with_reducible refine (oculusref35_Chain.calls k _ _ l0 a1_0 t103 _ ?side1 ?side2 A13.out).mono ?_); (case side1 => repeat (first | exact (Kd.C_below HR0.out HB.out) | (with_reducible refine Kd.C_alloc ?_ _) | (with_reducible refine Kd.C_drewN ?_ _) | (with_reducible refine Kd.C_drew ?_))); (case side2 => exact HC0.out); rintro e w15 ⟨v104, rfl, ho0, hb⟩; have HO105 := Aside0.mk (Kd.R_lower ho0 (below_size (pbx HB))); replace BK101 := bb_ BK101 hb; replace BK102 := bb_ BK102 hb; replace HB := bs_ HB hb; (try clear hb); (try clear hb2); (try clear hk); (try clear hi); (try clear ho0); obtain ⟨Ao16, co16, eo16⟩ := Kd.R_slice HO105.out; subst eo16) | (go_at_call 4; (with_reducible refine (oculusref35_Has.calls k _ _ t103 a1_1 t106 _ ?side1 ?side2 A14.out).mono ?_); (case side1 => repeat (first | exact (Kd.R_reads' HO105.out).2.2 | (with_reducible refine Kd.C_alloc ?_ _) | (with_reducible refine Kd.C_drewN ?_ _) | (with_reducible refine Kd.C_drew ?_))); (case side2 => exact (Kd.R_reads' HO105.out).2.1); rintro e w' ⟨rfl, ⟨nd, rfl⟩⟩))
       go_meet
       case rel => exact ⟨_, (t106), (by first | rfl | (simp; done) | (simp [*]; done) | (cases t106 <;> simp; done)), H', ⟨by first | omega | exact Nat.le_refl _⟩, ⟨pkx BK101⟩, ⟨pkx BK102⟩, ⟨pbx HB⟩⟩
 case rest =>
  clear HC4; (try clear c1); (try clear p2); (try clear c3); (try clear c8); (try clear c8b0); (try clear c8b1); (try clear c9); (try clear c9b0); (try clear c10); (try clear c10b0); (try clear c11); (try clear c11b0); (try clear c12); (try clear c12b0); obtain ⟨kq, x45_3, rfl, HA, HJ3, BK101, BK102, HB⟩ := hcut
  cases kq with
  | zero => exact absurd HA.out (by simp [oculuslaw35_ChaseApart.j0])
  | succ kj3 =>
   have H := HA.out; clear HA
   simp only [oculuslaw35_ChaseApart.j0] at H
   by_cases c17 : x45_3 = true
   ·subst c17
    have H1 : ((oculuslaw35_alive.f kj3).bind fun t107 => (some t107)) = some r := by rw [if_pos rfl] at H; exact H
    clear H; have H := H1; clear H1; replace H := Option.bind_eq_some_iff.mp H; obtain ⟨t107, A180, H⟩ := H
    replace H : (some t107) = some r := H
    have A18 := Aside0.mk A180; clear A180; obtain rfl := Option.some.inj H
    go_wp2_with (first | ((with_reducible refine gate_callee (f:=6) rfl ?_); refine gL_ (some 46) rfl rfl Try.func6 rfl #[] rfl ?_; (with_reducible refine (oculuslaw35_alive.calls kj3  t107 _ A18.out).mono ?_); rintro e w19 ⟨rfl, hb⟩; refine ⟨_, rfl, ?_⟩; replace BK101 := bb_ BK101 hb; replace BK102 := bb_ BK102 hb; replace HB := bs_ HB hb; (try clear hb); (try clear hb2); (try clear hk); (try clear hi)))
    go_ret
    exact ⟨by first | rfl | (simp [errW_none, errW_some] <;> rfl) | (simp [*, errW_none, errW_some] <;> rfl), pbx HB⟩
   ·replace c17 := Bool.eq_false_iff.mpr c17; subst c17
    have H1 : ((oculuslaw35_mine.f kj3 l0).bind fun t108 => ((chase_Close.f t108).bind fun t111 => (if 0 ≤ a1_1 then (if a1_1 < (t108.length : Int) then ((chase_Close.f (t108.set (a1_1 : Int).toNat (⟨(⟨a2_0, a2_1⟩ : S26), (rd_T36 t108 a1_1).f1⟩ : S36))).bind fun t115 => (if (t111.length : Int) = (l0.length : Int) then (if (t115.length : Int) = (l0.length : Int) then (if 0 ≤ a1_0 then (if a1_0 < (t111.length : Int) then (if a1_0 < (t115.length : Int) then (if (((rd_T26 t111 a1_0).f0) == ((rd_T26 t115 a1_0).f0) && (((rd_T26 t111 a1_0).f1) == ((rd_T26 t115 a1_0).f1))) = true then ((oculuslaw35_alive.f kj3).bind fun t120 => (some t120)) else (none)) else (none)) else (none)) else (none)) else (none)) else (none))) else (none)) else (none)))) = some r := by rw [if_neg (show ¬ (false = true) by decide)] at H; exact H
    clear H; have H := H1; clear H1; replace H := Option.bind_eq_some_iff.mp H; obtain ⟨t108, A200, H⟩ := H
    replace H : ((chase_Close.f t108).bind fun t111 => (if 0 ≤ a1_1 then (if a1_1 < (t108.length : Int) then ((chase_Close.f (t108.set (a1_1 : Int).toNat (⟨(⟨a2_0, a2_1⟩ : S26), (rd_T36 t108 a1_1).f1⟩ : S36))).bind fun t115 => (if (t111.length : Int) = (l0.length : Int) then (if (t115.length : Int) = (l0.length : Int) then (if 0 ≤ a1_0 then (if a1_0 < (t111.length : Int) then (if a1_0 < (t115.length : Int) then (if (((rd_T26 t111 a1_0).f0) == ((rd_T26 t115 a1_0).f0) && (((rd_T26 t111 a1_0).f1) == ((rd_T26 t115 a1_0).f1))) = true then ((oculuslaw35_alive.f kj3).bind fun t120 => (some t120)) else (none)) else (none)) else (none)) else (none)) else (none)) else (none))) else (none)) else (none))) = some r := H
    have A20 := Aside0.mk A200; clear A200; replace H := Option.bind_eq_some_iff.mp H; obtain ⟨t111, A210, H⟩ := H
    replace H : (if 0 ≤ a1_1 then (if a1_1 < (t108.length : Int) then ((chase_Close.f (t108.set (a1_1 : Int).toNat (⟨(⟨a2_0, a2_1⟩ : S26), (rd_T36 t108 a1_1).f1⟩ : S36))).bind fun t115 => (if (t111.length : Int) = (l0.length : Int) then (if (t115.length : Int) = (l0.length : Int) then (if 0 ≤ a1_0 then (if a1_0 < (t111.length : Int) then (if a1_0 < (t115.length : Int) then (if (((rd_T26 t111 a1_0).f0) == ((rd_T26 t115 a1_0).f0) && (((rd_T26 t111 a1_0).f1) == ((rd_T26 t115 a1_0).f1))) = true then ((oculuslaw35_alive.f kj3).bind fun t120 => (some t120)) else (none)) else (none)) else (none)) else (none)) else (none)) else (none))) else (none)) else (none)) = some r := H
    have A21 := Aside0.mk A210; clear A210
    by_cases c22 : 0 ≤ a1_1
    ·rw [if_pos c22] at H; have c22b0 : decide (0 ≤ a1_1) = true := decide_eq_true c22; clear c22
     by_cases c23 : a1_1 < (t108.length : Int)
     ·rw [if_pos c23] at H; have c23b0 : decide (a1_1 < (t108.length : Int)) = true := decide_eq_true c23; clear c23; obtain ⟨y114, hy114⟩ : ∃ y_ : List (S36), y_ = (t108.set (a1_1 : Int).toNat (⟨(⟨a2_0, a2_1⟩ : S26), (rd_T36 t108 a1_1).f1⟩ : S36)) := ⟨_, rfl⟩
      replace H : ((chase_Close.f y114).bind fun t115 => (if (t111.length : Int) = (l0.length : Int) then (if (t115.length : Int) = (l0.length : Int) then (if 0 ≤ a1_0 then (if a1_0 < (t111.length : Int) then (if a1_0 < (t115.length : Int) then (if (((rd_T26 t111 a1_0).f0) == ((rd_T26 t115 a1_0).f0) && (((rd_T26 t111 a1_0).f1) == ((rd_T26 t115 a1_0).f1))) = true then ((oculuslaw35_alive.f kj3).bind fun t120 => (some t120)) else (none)) else (none)) else (none)) else (none)) else (none)) else (none))) = some r := by first | (rw [hy114]; with_reducible exact H) | (have H2_ := (Option.bind_some _ _).symm.trans H; rw [hy114]; with_reducible exact H2_) | (have H2_ := (Option.bind_some _ _).symm.trans H; with_reducible exact H2_) | with_reducible exact H | (rw [hy114]; exact H) | exact H
      have Ny114 := Aside0.mk hy114; clear hy114; replace H := Option.bind_eq_some_iff.mp H; obtain ⟨t115, A250, H⟩ := H
      replace H : (if (t111.length : Int) = (l0.length : Int) then (if (t115.length : Int) = (l0.length : Int) then (if 0 ≤ a1_0 then (if a1_0 < (t111.length : Int) then (if a1_0 < (t115.length : Int) then (if (((rd_T26 t111 a1_0).f0) == ((rd_T26 t115 a1_0).f0) && (((rd_T26 t111 a1_0).f1) == ((rd_T26 t115 a1_0).f1))) = true then ((oculuslaw35_alive.f kj3).bind fun t120 => (some t120)) else (none)) else (none)) else (none)) else (none)) else (none)) else (none)) = some r := H
      have A25 := Aside0.mk A250; clear A250
      by_cases c26 : (t111.length : Int) = (l0.length : Int)
      ·rw [if_pos c26] at H; have c26b0 : ((t111.length : Int) == (l0.length : Int)) = true := beq_iff_eq.mpr c26; have c26b1 : ((t111.length : Int) != (l0.length : Int)) = false := bne_eq_false_iff_eq.mpr c26
       have c26b2 : (t111.length == l0.length) = true := by first | simpa using c26 | (simp at c26 ⊢; omega)
       clear c26
       by_cases c27 : (t115.length : Int) = (l0.length : Int)
       ·rw [if_pos c27] at H; have c27b0 : ((t115.length : Int) == (l0.length : Int)) = true := beq_iff_eq.mpr c27; have c27b1 : ((t115.length : Int) != (l0.length : Int)) = false := bne_eq_false_iff_eq.mpr c27
        have c27b2 : (t115.length == l0.length) = true := by first | simpa using c27 | (simp at c27 ⊢; omega)
        clear c27
        by_cases c28 : 0 ≤ a1_0
        ·rw [if_pos c28] at H; have c28b0 : decide (0 ≤ a1_0) = true := decide_eq_true c28; clear c28
         by_cases c29 : a1_0 < (t111.length : Int)
         ·rw [if_pos c29] at H; have c29b0 : decide (a1_0 < (t111.length : Int)) = true := decide_eq_true c29; clear c29
          by_cases c30 : a1_0 < (t115.length : Int)
          ·rw [if_pos c30] at H; have c30b0 : decide (a1_0 < (t115.length : Int)) = true := decide_eq_true c30; clear c30
           by_cases c31 : (((rd_T26 t111 a1_0).f0) == ((rd_T26 t115 a1_0).f0) && (((rd_T26 t111 a1_0).f1) == ((rd_T26 t115 a1_0).f1))) = true
           ·rw [if_pos c31] at H
            have c31b0 : (((rd_T26 t111 a1_0).f0) == ((rd_T26 t115 a1_0).f0) && (((rd_T26 t111 a1_0).f1) == ((rd_T26 t115 a1_0).f1))) = true := c31
            (try (have c31b1 : decide (((rd_T26 t111 a1_0).f0) = ((rd_T26 t115 a1_0).f0) && (((rd_T26 t111 a1_0).f1) == ((rd_T26 t115 a1_0).f1))) = true := by simpa using c31)); (try (have c31b2 : (((rd_T26 t111 a1_0).f0) == ((rd_T26 t115 a1_0).f0) && (((rd_T26 t111 a1_0).f1) == ((rd_T26 t115 a1_0).f1))) = true := by simpa using c31))
            clear c31; replace H := Option.bind_eq_some_iff.mp H; obtain ⟨t120, A320, H⟩ := H
            replace H : (some t120) = some r := H
            have A32 := Aside0.mk A320; clear A320; obtain rfl := Option.some.inj H
            try go_wp2_with (first | ((with_reducible refine gate_callee (f:=7) rfl ?_); refine gL_ (some 48) rfl rfl Try.func7 rfl #[.slice A0 l0.length c0] rfl ?_; (with_reducible refine (oculuslaw35_mine.calls kj3 _ _ l0 t108 _ ?side1 ?side2 A20.out).mono ?_); (case side1 => repeat (first | exact (Kd.C_below HR0.out HB.out) | (with_reducible refine Kd.C_alloc ?_ _) | (with_reducible refine Kd.C_drewN ?_ _) | (with_reducible refine Kd.C_drew ?_))); (case side2 => exact HC0.out); rintro e w33 ⟨v109, rfl, ho0, hb⟩; refine ⟨_, rfl, ?_⟩; have HO110 := Aside0.mk (Kd.R_lower ho0 (below_size (pbx HB))); replace BK101 := bb_ BK101 hb; replace BK102 := bb_ BK102 hb; replace HB := bs_ HB hb; (try clear hb); (try clear hb2); (try clear hk); (try clear hi); (try clear ho0); obtain ⟨Ao34, co34, eo34⟩ := Kd.R_slice HO110.out; subst eo34) | ((with_reducible refine gate_callee (f:=8) rfl ?_); refine gL_ (some 50) rfl rfl Try.func8 rfl #[.slice Ao34 t108.length co34] rfl ?_; (with_reducible refine (chase_Close.calls _ _ t108 t111 _ ?side1 ?side2 A21.out).mono ?_); (case side1 => repeat (first | exact (Kd.R_reads' HO110.out).2.2 | (with_reducible refine Kd.C_alloc ?_ _) | (with_reducible refine Kd.C_drewN ?_ _) | (with_reducible refine Kd.C_drew ?_))); (case side2 => exact (Kd.R_reads' HO110.out).2.1); rintro e w35 ⟨v112, rfl, ho0, hb⟩; refine ⟨_, rfl, ?_⟩; have HO113 := Aside0.mk (Kd.R_lower (Kd.R_newB ho0 (pkx BK102)) (below_size (pbx HB))); replace HO110 := Aside0.mk (Kd.R_below (by (with_reducible repeat (first | apply Kd.R_alloc | apply Kd.R_drewN | apply Kd.R_drew)); exact HO110.out) hb); replace BK101 := bb_ BK101 hb; replace BK102 := bb_ BK102 hb; replace HB := bs_ HB hb; (try clear hb); (try clear hb2); (try clear hk); (try clear hi); (try clear ho0); have hnb36 := NB102_101.out; have hnc36 := NB101_102.out; have hcz37_0 : w35.cell? ⟨gb102, 0, none⟩ = some (.int .i64 a2_0) := bc_ BK102 0 rfl; have hcz37_1 : w35.cell? ⟨gb102, 1, none⟩ = some (.int .u64 a2_1) := bc_ BK102 1 rfl; have hfz37_0 := blk_frozen BK102.out 0; have hfz37_1 := blk_frozen BK102.out 1; have p24 : 0 ≤ (a1_1 : Int) := of_decide_eq_true (by first | (with_reducible assumption) | assumption); have q24 : (a1_1 : Int) < ((t108.length : Int) : Int) := of_decide_eq_true (by first | (with_reducible assumption) | assumption); obtain ⟨go24, co24, eo24, gb24, gl24, cl24, HG24⟩ := Kd.R_form HO110.out (by omega); (first | cases eo24 | (injection eo24 with ea_ en_ ec_; (first | subst ea_ | (injection ea_ with ea_; subst ea_)); subst ec_; clear en_)); have GB24 := Aside0.mk gb24; have GG24 := Aside0.mk HG24; clear gb24 gl24 HG24; obtain ⟨ce24, hcl24, hM24, hcc24, hfr24⟩ := Kd.R_elem HO110.out z36 (a1_1 : Int) p24 q24; obtain rfl := k36_openM hM24; have hx24_0 : w35.cell? ⟨go24, (a1_1 : Int).toNat * 3, none⟩ = some (.int .i64 ((rd_T36 t108 a1_1).f0.f0)) := hcc24 0 _ rfl; have hx24_1 : w35.cell? ⟨go24, (a1_1 : Int).toNat * 3 + 1, none⟩ = some (.int .u64 ((rd_T36 t108 a1_1).f0.f1)) := hcc24 1 _ rfl; have hx24_2 : w35.cell? ⟨go24, (a1_1 : Int).toNat * 3 + 2, none⟩ = some (.int .i64 ((rd_T36 t108 a1_1).f1)) := hcc24 2 _ rfl; have hf24_0 : w35.frozen? ⟨go24, (a1_1 : Int).toNat * 3, none⟩ = false := hfr24 0; have hf24_1 : w35.frozen? ⟨go24, (a1_1 : Int).toNat * 3 + 1, none⟩ = false := hfr24 1; have hf24_2 : w35.frozen? ⟨go24, (a1_1 : Int).toNat * 3 + 2, none⟩ = false := hfr24 2; clear hcl24 hcc24 hfr24 hM24; replace p24 := eq_true p24; replace q24 := eq_true q24; have HX38 := Aside0.mk (show Kd.R k36 36 w35 w.heap.size (fun _ => True) (.slice (some ⟨go24, 0, none⟩) t108.length co34) t108 from (by (with_reducible repeat (first | apply Kd.R_alloc | apply Kd.R_drewN | apply Kd.R_drew)); exact HO110.out)); obtain ⟨ce38, hcl38, hM38, hcc38, hfr38⟩ := Kd.R_elem HX38.out z36 (a1_1 : Int) (of_decide_eq_true (by first | (with_reducible assumption) | assumption)) (by have h_ : (a1_1 : Int) < ((t108.length : Int) : Int) := of_decide_eq_true (by first | (with_reducible assumption) | assumption); first | exact h_ | (have e_ := (Kd.R_reads' HO110.out).1; omega) | simpa using h_); obtain rfl := k36_openM hM38; have HP38 := Kd.R_seg HX38.out (a1_1 : Int) (of_decide_eq_true (by first | (with_reducible assumption) | assumption)) (by have h_ : (a1_1 : Int) < ((t108.length : Int) : Int) := of_decide_eq_true (by first | (with_reducible assumption) | assumption); first | exact h_ | (have e_ := (Kd.R_reads' HO110.out).1; omega) | simpa using h_) (seg := [.int .i64 a2_0, .int .u64 a2_1]) (j:=0) hcl38 hcc38 (show 2 ≤ 3 from by decide) (x' := (⟨(⟨a2_0, a2_1⟩ : S26), (rd_T36 t108 a1_1).f1⟩ : S36)) (k36_mkM _ _ _ (⟨(⟨a2_0, a2_1⟩ : S26), (rd_T36 t108 a1_1).f1⟩ : S36) ) (fun _ hk => hk); have hx38_0 := hcc38 0 _ rfl; (try simp only [show (k36).sz = 3 from rfl, Nat.mul_one, Nat.add_zero] at hx38_0); have hf38_0 := hfr38 0; (try simp only [show (k36).sz = 3 from rfl, Nat.mul_one, Nat.add_zero] at hf38_0); have hx38_1 := hcc38 1 _ rfl; (try simp only [show (k36).sz = 3 from rfl, Nat.mul_one, Nat.add_zero] at hx38_1); have hf38_1 := hfr38 1; (try simp only [show (k36).sz = 3 from rfl, Nat.mul_one, Nat.add_zero] at hf38_1); clear hcl38 hcc38 hfr38 hM38) | ((with_reducible refine gate_store (t:=26) (p:=55) rfl ?_); refine store_event (t:=26) (p:=55) (v:=?vo_w39) (w1 := ((w35.setCell ⟨go24, (a1_1 : Int).toNat * 3, none⟩ (.int .i64 a2_0)).setCell ⟨go24, (a1_1 : Int).toNat * 3 + 1, none⟩ (.int .u64 a2_1))) ?hg ?ho ?hn ?hr ?_; (case ho => rfl); (case hg => rfl); (case hn => rfl); (case hr => first | (go_simp; done) | (go_simp; rfl)); intro w39 hw; have hg : w35.grownBy w39 (some go24) := (by rw [hw]; exact HP38.2); have hp_ : Kd.R k36 36 w39 w.heap.size (fun _ => True) (.slice (some ⟨go24, 0, none⟩) t108.length co34) y114 := (by rw [hw, Ny114.out]; exact HP38.1); clear HP38; have n0_ := Aside0.mk (blk_grown (pkx BK101) hg (Kd.R_ne HO110.out BK101.out (by decide))); have n1_ := Aside0.mk (blk_grown (pkx BK102) hg (Kd.R_ne HO110.out BK102.out (by decide))); have n2_ := Aside0.mk (hp_); have n3_ := Aside0.mk (Kd.R_over' (v := (.slice (some ⟨go24, 0, none⟩) t108.length co34)) (by (with_reducible repeat (first | apply Kd.R_alloc | apply Kd.R_drewN | apply Kd.R_drew)); exact HO113.out) (Kd.R_typed HO110.out) (by decide) hg); have n4_ := Aside0.mk ((by rw [hw]; exact below_set (below_set (HB.out) GB24.out) GB24.out : Below w.heap.size w w39)); clear BK101; clear BK102; clear HO110; clear HO113; clear HB; have BK101 := n0_; have BK102 := n1_; have HO110 := n2_; have HO113 := n3_; have HB := n4_; clear n0_ n1_ n2_ n3_ n4_; clear hg hw hp_) | ((with_reducible refine gate_callee (f:=8) rfl ?_); refine goesL_ (some 57) rfl rfl Try.func8 (by kernel_rfl) rfl #[.slice (some ⟨go24, 0, none⟩) y114.length co34] rfl (by (try simp only [List.map_toArray, List.map_cons, List.map_nil]); first | done | (rw [show y114.length = t108.length from (Kd.R_reads' HO110.out).1.symm] <;> rfl) | rfl | (simp only [List.length_drop, List.length_take]; rfl)) ?_; (with_reducible refine (chase_Close.calls _ _ y114 t115 _ ?side1 ?side2 A25.out).mono ?_); (case side1 => repeat (first | exact (Kd.R_reads' HO110.out).2.2 | (with_reducible refine Kd.C_alloc ?_ _) | (with_reducible refine Kd.C_drewN ?_ _) | (with_reducible refine Kd.C_drew ?_))); (case side2 => rw [show y114.length = t108.length from (Kd.R_reads' HO110.out).1.symm]; exact (Kd.R_reads' HO110.out).2.1); rintro e w40 ⟨v116, rfl, ho0, hb⟩; refine ⟨_, rfl, ?_⟩; have HO117 := Aside0.mk (Kd.R_lower (Kd.R_newB (Kd.R_new' ho0 (Kd.R_lt (by (with_reducible repeat (first | apply Kd.R_alloc | apply Kd.R_drewN | apply Kd.R_drew)); exact HO113.out))) (pkx BK102)) (below_size (pbx HB))); replace HO110 := Aside0.mk (Kd.R_below (by (with_reducible repeat (first | apply Kd.R_alloc | apply Kd.R_drewN | apply Kd.R_drew)); exact HO110.out) hb); replace HO113 := Aside0.mk (Kd.R_elder' (by (with_reducible repeat (first | apply Kd.R_alloc | apply Kd.R_drewN | apply Kd.R_drew)); exact HO113.out) (Kd.R_base ho0) hb); replace BK101 := bb_ BK101 hb; replace BK102 := bb_ BK102 hb; replace HB := bs_ HB hb; (try clear hb); (try clear hb2); (try clear hk); (try clear hi); (try clear ho0)))
            (try (rw [drewN_self w40]; generalize hq_ : World.drewN w40 _ = w40; have n0_ : Aside0 (Kd.R k36 36 w40 w.heap.size (fun _ => True) (.slice (some ⟨go24, 0, none⟩) t108.length co34) y114) := ⟨by rw [← hq_]; exact (by (with_reducible repeat (first | apply Kd.R_alloc | apply Kd.R_drewN | apply Kd.R_drew)); exact HO110.out)⟩; have n1_ : Aside0 (Kd.R k26 26 w40 w.heap.size (fun k_ => some k_ ≠ (v116 : Value).ownBlock ∧ k_ ≠ gb102) v112 t111) := ⟨by rw [← hq_]; exact (by (with_reducible repeat (first | apply Kd.R_alloc | apply Kd.R_drewN | apply Kd.R_drew)); exact Kd.R_mono HO113.out (fun _ hk => ⟨hk.2, hk.1.2⟩))⟩; have n2_ : Aside0 (Kd.R k26 26 w40 w.heap.size (fun k_ => some k_ ≠ (v112 : Value).ownBlock ∧ k_ ≠ gb102) v116 t115) := ⟨by rw [← hq_]; exact (by (with_reducible repeat (first | apply Kd.R_alloc | apply Kd.R_drewN | apply Kd.R_drew)); exact Kd.R_mono HO117.out (fun _ hk => ⟨hk.1.2, hk.2⟩))⟩; have n3_ : Aside0 (w40.heap[gb101]? = some (.cells #[.int .i64 a1_0, .int .i64 a1_1] 23 (0, 0))) := ⟨by rw [← hq_]; exact (pkx BK101)⟩; have n4_ : Aside0 (w40.heap[gb102]? = some (.cells #[.int .i64 a2_0, .int .u64 a2_1] 26 (0, 0))) := ⟨by rw [← hq_]; exact (pkx BK102)⟩; have n5_ : Aside0 (Below w.heap.size w w40) := ⟨by rw [← hq_]; exact (pbx HB)⟩; clear HO110 HO113 HO117 BK101 BK102 HB hq_; have HO110 := n0_; have HO113 := n1_; have HO117 := n2_; have BK101 := n3_; have BK102 := n4_; have HB := n5_; clear n0_ n1_ n2_ n3_ n4_ n5_))
            replace HO110 := Aside0.mk (Kd.R_drew HO110.out); replace HO113 := Aside0.mk (Kd.R_drew HO113.out); replace HO117 := Aside0.mk (Kd.R_drew HO117.out); replace BK101 := Aside0.mk (blk_drew BK101.out); replace BK102 := Aside0.mk (blk_drew BK102.out); replace HB := Aside0.mk (below_drew1 HB.out); obtain ⟨Ao42, co42, eo42⟩ := Kd.R_slice HO113.out; (first | subst eo42 | (injection eo42 with f1_ f2_ f3_; have f4_ := f1_.symm; have f5_ := f3_.symm; clear f1_ f2_ f3_; subst f4_; subst f5_)); obtain ⟨Ao43, co43, eo43⟩ := Kd.R_slice HO117.out; (first | subst eo43 | (injection eo43 with f1_ f2_ f3_; have f4_ := f1_.symm; have f5_ := f3_.symm; clear f1_ f2_ f3_; subst f4_; subst f5_))
            have p118 : 0 ≤ (a1_0 : Int) := of_decide_eq_true (by first | (with_reducible assumption) | assumption)
            have q118 : a1_0 < (t111.length : Int) := of_decide_eq_true (by first | (with_reducible assumption) | assumption)
            obtain ⟨ad118, e118, hx118_0, hx118_1⟩ := at_T26 (Kd.R_reads' HO113.out).2.2 a1_0 p118 q118
            cases e118
            replace p118 := eq_true p118; replace q118 := eq_true q118
            have p119 : 0 ≤ (a1_0 : Int) := of_decide_eq_true (by first | (with_reducible assumption) | assumption)
            have q119 : a1_0 < (t115.length : Int) := of_decide_eq_true (by first | (with_reducible assumption) | assumption)
            obtain ⟨ad119, e119, hx119_0, hx119_1⟩ := at_T26 (Kd.R_reads' HO117.out).2.2 a1_0 p119 q119
            cases e119
            replace p119 := eq_true p119; replace q119 := eq_true q119
            refine start_ (n:=27) (S := fun w' => w'.cell? (ad118.add ((a1_0).toNat * 2)) = some (.int .i64 ((rd_T26 t111 a1_0).f0)) ∧ w'.cell? ⟨(ad118.add ((a1_0).toNat * 2)).block, (ad118.add ((a1_0).toNat * 2)).off + 1, none⟩ = some (.int .u64 ((rd_T26 t111 a1_0).f1)) ∧ w'.cell? (ad119.add ((a1_0).toNat * 2)) = some (.int .i64 ((rd_T26 t115 a1_0).f0)) ∧ w'.cell? ⟨(ad119.add ((a1_0).toNat * 2)).block, (ad119.add ((a1_0).toNat * 2)).off + 1, none⟩ = some (.int .u64 ((rd_T26 t115 a1_0).f1))) (ds := []) #[F,F,F,F,F,F,F,F,F,F,F,F,F,F,F,F,F,F,F,F,F,F,F,F,F,F,F] (by kernel_rfl) rfl rfl ⟨hx118_0, hx118_1, hx119_0, hx119_1⟩ (fun hHeld => ?_); refine with_tabW oculuslaw35_ChaseApart.tab8 oculuslaw35_ChaseApart.bits8 (fun HT_ HW_ => ?_)
            generalize w40.drew = w41 at HO110 HO113 HO117 BK101 BK102 HB hx118_0 hx118_1 hx119_0 hx119_1 hHeld ⊢; refine pure_ (i:=0) (N:=some 58) (v:=?_) (a':=?_) ⟨m_ 27 1⟩ rfl rfl (any_of HT_.out (by kernel_rfl)) (fun _ _ _ h=>h) (Or.inl ⟨rfl, ?_⟩) ?_ ?_; rotate_left
            ·intro w'; go_simp; with_reducible rfl
            rotate_left
            ·simp only [q_, i64_w, i32_w]; rfl
            refine pure_ (i:=1) (N:=some 59) (v:=?_) (a':=?_) ⟨m_ 27 3⟩ rfl rfl (any_of HT_.out (by kernel_rfl)) (fun _ _ _ h=>h) (Or.inl ⟨rfl, ?_⟩) ?_ ?_; rotate_left
            ·intro w'; go_simp; with_reducible rfl
            rotate_left
            ·simp only [q_, i64_w, i32_w]; rfl
            refine pure_ (i:=2) (N:=some 60) (v:=?_) (a':=?_) ⟨m_ 27 7⟩ rfl rfl (any_of HT_.out (by kernel_rfl)) (fun _ _ _ h=>h) (Or.inl ⟨rfl, ?_⟩) ?_ ?_; rotate_left
            ·intro w'; go_simp; with_reducible rfl
            rotate_left
            ·simp only [q_, i64_w, i32_w]; rfl
            refine pure_ (i:=3) (N:=some 61) (v:=?_) (a':=?_) ⟨m_ 27 15⟩ rfl rfl (any_of HT_.out (by kernel_rfl)) (fun _ _ _ h=>h) (Or.inl ⟨rfl, ?_⟩) ?_ ?_; rotate_left
            ·intro w'; go_simp; with_reducible rfl
            rotate_left
            ·simp only [q_, i64_w, i32_w]; rfl
            refine pure_ (i:=4) (N:=some 62) (v:=?_) (a':=?_) ⟨m_ 27 31⟩ rfl rfl (any_of HT_.out (by kernel_rfl)) (fun _ _ _ h=>h) (Or.inl ⟨rfl, ?_⟩) ?_ ?_; rotate_left
            ·intro w'; go_simp; with_reducible rfl
            rotate_left
            ·simp only [q_, i64_w, i32_w]; rfl
            refine pure_ (i:=5) (N:=some 63) (v:=?_) (a':=?_) ⟨m_ 27 63⟩ rfl rfl (any_of HT_.out (by kernel_rfl)) (fun _ _ _ h=>h) (Or.inl ⟨rfl, ?_⟩) ?_ ?_; rotate_left
            ·intro w'; go_simp; with_reducible rfl
            rotate_left
            ·simp only [q_, i64_w, i32_w]; rfl
            refine pure_ (i:=6) (N:=some 64) (v:=?_) (a':=?_) ⟨m_ 27 127⟩ rfl rfl (any_of HT_.out (by kernel_rfl)) (fun _ _ _ h=>h) (Or.inl ⟨rfl, ?_⟩) ?_ ?_; rotate_left
            ·intro w'; go_simp; with_reducible rfl
            rotate_left
            ·simp only [q_, i64_w, i32_w]; rfl
            refine pure_ (i:=7) (N:=some 65) (v:=?_) (a':=?_) ⟨m_ 27 255⟩ rfl rfl (any_of HT_.out (by kernel_rfl)) (fun _ _ _ h=>h) (Or.inl ⟨rfl, ?_⟩) ?_ ?_; rotate_left
            ·intro w'; go_simp; with_reducible rfl
            rotate_left
            ·simp only [q_, i64_w, i32_w]; rfl
            refine pure_ (i:=8) (N:=some 66) (v:=?_) (a':=?_) ⟨m_ 27 511⟩ rfl rfl (any_of HT_.out (by kernel_rfl)) (fun _ _ _ h=>h) (Or.inl ⟨rfl, ?_⟩) ?_ ?_; rotate_left
            ·intro w'; go_simp; with_reducible rfl
            rotate_left
            ·simp only [q_, i64_w, i32_w]; rfl
            refine pure_ (i:=9) (N:=some 67) (v:=?_) (a':=?_) ⟨m_ 27 1023⟩ rfl rfl (any_of HT_.out (by kernel_rfl)) (fun _ _ _ h=>h) (Or.inl ⟨rfl, ?_⟩) ?_ ?_; rotate_left
            ·intro w'; go_simp; with_reducible rfl
            rotate_left
            ·simp only [q_, i64_w, i32_w]; rfl
            refine pure_ (i:=10) (N:=some 68) (v:=?_) (a':=?_) ⟨m_ 27 2047⟩ rfl rfl (any_of HT_.out (by kernel_rfl)) (fun _ _ _ h=>h) (Or.inl ⟨rfl, ?_⟩) ?_ ?_; rotate_left
            ·intro w'; go_simp; with_reducible rfl
            rotate_left
            ·simp only [q_, i64_w, i32_w]; rfl
            refine pure_ (i:=11) (N:=some 69) (v:=?_) (a':=?_) ⟨m_ 27 4095⟩ rfl rfl (any_of HT_.out (by kernel_rfl)) (fun _ _ _ h=>h) (Or.inl ⟨rfl, ?_⟩) ?_ ?_; rotate_left
            ·intro w'; go_simp; with_reducible rfl
            rotate_left
            ·simp only [q_, i64_w, i32_w]; rfl
            refine pure_ (i:=12) (N:=some 70) (v:=?_) (a':=?_) ⟨m_ 27 8191⟩ rfl rfl (any_of HT_.out (by kernel_rfl)) (fun _ _ _ h=>h) (Or.inl ⟨rfl, ?_⟩) ?_ ?_; rotate_left
            ·intro w'; go_simp; with_reducible rfl
            rotate_left
            ·simp only [q_, i64_w, i32_w]; rfl
            refine pure_ (i:=13) (N:=some 71) (v:=?_) (a':=?_) ⟨m_ 27 16383⟩ rfl rfl (any_of HT_.out (by kernel_rfl)) (fun _ _ _ h=>h) (Or.inl ⟨rfl, ?_⟩) ?_ ?_; rotate_left
            ·intro w'; go_simp; with_reducible rfl
            rotate_left
            ·simp only [q_, i64_w, i32_w]; rfl
            refine pure_ (i:=14) (N:=some 72) (v:=?_) (a':=?_) ⟨m_ 27 32767⟩ rfl rfl (any_of HT_.out (by kernel_rfl)) (fun _ _ _ h=>h) (Or.inl ⟨rfl, ?_⟩) ?_ ?_; rotate_left
            ·intro w'; go_simp; with_reducible rfl
            rotate_left
            ·simp only [q_, i64_w, i32_w]; rfl
            refine pure_ (i:=15) (N:=some 73) (v:=?_) (a':=?_) ⟨m_ 27 65535⟩ rfl rfl (any_of HT_.out (by kernel_rfl)) (fun _ _ _ h=>h) (Or.inl ⟨rfl, ?_⟩) ?_ ?_; rotate_left
            ·intro w'; go_simp; with_reducible rfl
            rotate_left
            ·simp only [q_, i64_w, i32_w]; rfl
            refine pure_ (i:=17) (N:=some 75) (v:=?_) (a':=?_) ⟨m_ 27 196607⟩ rfl rfl (any_of HT_.out (by kernel_rfl)) (fun _ _ _ h=>h) (Or.inl ⟨rfl, ?_⟩) ?_ ?_; rotate_left
            ·intro w'; go_simp; with_reducible rfl
            rotate_left
            ·simp only [q_, i64_w, i32_w]; rfl
            refine pure_ (i:=18) (N:=some 76) (v:=?_) (a':=?_) ⟨m_ 27 458751⟩ rfl rfl (any_of HT_.out (by kernel_rfl)) (fun _ _ _ h=>h) (Or.inl ⟨rfl, ?_⟩) ?_ ?_; rotate_left
            ·intro w'; go_simp; with_reducible rfl
            rotate_left
            ·simp only [q_, i64_w, i32_w]; rfl
            refine pure_ (i:=19) (N:=some 77) (v:=?_) (a':=?_) ⟨m_ 27 983039⟩ rfl rfl (any_of HT_.out (by kernel_rfl)) (fun _ _ _ h=>h) (Or.inl ⟨rfl, ?_⟩) ?_ ?_; rotate_left
            ·intro w'; go_simp; with_reducible rfl
            rotate_left
            ·simp only [q_, i64_w, i32_w]; rfl
            refine take_ (i:=16) (N:=some 74) (v:=?_) (a':=?_) ⟨m_ 27 1048575⟩ rfl rfl (take_ofW HT_.out HW_.out (by kernel_rfl)) (fun _ _ _ h=>h) (Or.inl ⟨rfl, ?_⟩) hHeld ?_ ?_; rotate_left
            ·rintro w' ⟨s0, s1, s2, s3⟩; go_simp; with_reducible rfl
            rotate_left
            ·simp only [q_, i64_w, i32_w]; rfl
            refine take_ (i:=20) (N:=some 78) (v:=?_) (a':=?_) ⟨m_ 27 2097151⟩ rfl rfl (take_ofW HT_.out HW_.out (by kernel_rfl)) (fun _ _ _ h=>h) (Or.inl ⟨rfl, ?_⟩) hHeld ?_ ?_; rotate_left
            ·rintro w' ⟨s0, s1, s2, s3⟩; go_simp; with_reducible rfl
            rotate_left
            ·simp only [q_, i64_w, i32_w]; rfl
            refine pure_ (i:=21) (N:=some 79) (v:=?_) (a':=?_) ⟨m_ 27 4194303⟩ rfl rfl (any_of HT_.out (by kernel_rfl)) (fun _ _ _ h=>h) (Or.inl ⟨rfl, ?_⟩) ?_ ?_; rotate_left
            ·intro w'; go_simp; with_reducible rfl
            rotate_left
            ·simp only [q_, i64_w, i32_w]; rfl
            refine pure_ (i:=22) (N:=some 80) (v:=?_) (a':=?_) ⟨m_ 27 8388607⟩ rfl rfl (any_of HT_.out (by kernel_rfl)) (fun _ _ _ h=>h) (Or.inl ⟨rfl, ?_⟩) ?_ ?_; rotate_left
            ·intro w'; go_simp; with_reducible rfl
            rotate_left
            ·simp only [q_, i64_w, i32_w]; rfl
            refine pure_ (i:=23) (N:=some 81) (v:=?_) (a':=?_) ⟨m_ 27 16777215⟩ rfl rfl (any_of HT_.out (by kernel_rfl)) (fun _ _ _ h=>h) (Or.inl ⟨rfl, ?_⟩) ?_ ?_; rotate_left
            ·intro w'; go_simp; with_reducible rfl
            rotate_left
            ·simp only [q_, i64_w, i32_w]; rfl
            refine one_ (i:=24) (N:=some 82) ⟨m_ 27 33554431⟩ rfl rfl (one_of HT_.out (by kernel_rfl)) (by decide) (fun K hK => ?_); refine goes_ Try.func6 (by kernel_rfl) rfl #[] (by rfl) rfl rfl (by (try simp only [List.map_toArray, List.map_cons, List.map_nil]); first | done | rfl | (simp only [List.length_drop, List.length_take]; rfl)) ?_; with_reducible refine (oculuslaw35_alive.calls kj3  t120 _ A32.out).mono ?_; rintro e w44 ⟨rfl, hb⟩
            have HS0_ := (hb.cell (World.block_lt_of_cell? _ _ (hHeld.1))).trans (hHeld.1); have HS1_ := (hb.cell (World.block_lt_of_cell? _ _ (hHeld.2.1))).trans (hHeld.2.1); have HS2_ := (hb.cell (World.block_lt_of_cell? _ _ (hHeld.2.2.1))).trans (hHeld.2.2.1); have HS3_ := (hb.cell (World.block_lt_of_cell? _ _ (hHeld.2.2.2))).trans (hHeld.2.2.2); refine ⟨_, rfl, ?_⟩
            replace HO110 := Aside0.mk (Kd.R_below (by (with_reducible repeat (first | apply Kd.R_alloc | apply Kd.R_drewN | apply Kd.R_drew)); exact HO110.out) hb); replace HO113 := Aside0.mk (Kd.R_below (by (with_reducible repeat (first | apply Kd.R_alloc | apply Kd.R_drewN | apply Kd.R_drew)); exact HO113.out) hb); replace HO117 := Aside0.mk (Kd.R_below (by (with_reducible repeat (first | apply Kd.R_alloc | apply Kd.R_drewN | apply Kd.R_drew)); exact HO117.out) hb); replace BK101 := bb_ BK101 hb; replace BK102 := bb_ BK102 hb; replace HB := bs_ HB hb
            (try clear hb); (try clear hb2); (try clear hk); (try clear hi); refine hK.out _ _ ⟨HS0_, HS1_, HS2_, HS3_⟩ (fun hHeld => ?_); clear hK K; refine norm_ (a':=?_) ?_ ?_; rotate_left
            ·show Act.put _ (some 82) _ = _; simp only [q_, i64_w, i32_w]; rfl
            refine pure_ (i:=25) (N:=some 83) (v:=?_) (a':=?_) ⟨m_ 27 67108863⟩ rfl rfl (any_of HT_.out (by kernel_rfl)) (fun _ _ _ h=>h) (Or.inl ⟨rfl, ?_⟩) ?_ ?_; rotate_left
            ·intro w'; go_simp; with_reducible rfl
            rotate_left
            ·simp only [q_, i64_w, i32_w]; rfl
            refine pure_ (i:=26) (N:=some 6) (v:=?_) (a':=?_) ⟨m_ 27 134217727⟩ rfl rfl (any_of HT_.out (by kernel_rfl)) (fun _ _ _ h=>h) (Or.inl ⟨rfl, ?_⟩) ?_ ?_; rotate_left
            ·intro w'; go_simp; with_reducible rfl
            rotate_left
            ·simp only [q_, i64_w, i32_w]; rfl
            refine done_ (done_of HT_.out (by kernel_rfl)) ?_
            try go_wp2
            go_ret
            exact ⟨by first | rfl | (simp [errW_none, errW_some] <;> rfl) | (simp [*, errW_none, errW_some] <;> rfl), pbx HB⟩
           ·rw [if_neg c31] at H
            have c31b0 : (((rd_T26 t111 a1_0).f0) == ((rd_T26 t115 a1_0).f0) && (((rd_T26 t111 a1_0).f1) == ((rd_T26 t115 a1_0).f1))) = false := by simpa using c31
            (try (have c31b1 : decide (((rd_T26 t111 a1_0).f0) = ((rd_T26 t115 a1_0).f0) && (((rd_T26 t111 a1_0).f1) == ((rd_T26 t115 a1_0).f1))) = false := by simpa using c31)); (try (have c31b2 : (((rd_T26 t111 a1_0).f0) == ((rd_T26 t115 a1_0).f0) && (((rd_T26 t111 a1_0).f1) == ((rd_T26 t115 a1_0).f1))) = false := by simpa using c31)); (try (have c31b3 : ¬ (((rd_T26 t111 a1_0).f0) = ((rd_T26 t115 a1_0).f0) && (((rd_T26 t111 a1_0).f1) == ((rd_T26 t115 a1_0).f1))) := by simpa using c31)); clear c31
            exact absurd H (by simp)
          ·rw [if_neg c30] at H
           exact absurd H (by simp)
         ·rw [if_neg c29] at H
          exact absurd H (by simp)
        ·rw [if_neg c28] at H
         exact absurd H (by simp)
       ·rw [if_neg c27] at H; have c27b0 : ((t115.length : Int) == (l0.length : Int)) = false := beq_eq_false_iff_ne.mpr c27; have c27b1 : ((t115.length : Int) != (l0.length : Int)) = true := bne_iff_ne.mpr c27
        have c27b2 : (t115.length == l0.length) = false := by first | simpa using c27 | (simp at c27 ⊢; omega)
        exact absurd H (by simp)
      ·rw [if_neg c26] at H; have c26b0 : ((t111.length : Int) == (l0.length : Int)) = false := beq_eq_false_iff_ne.mpr c26; have c26b1 : ((t111.length : Int) != (l0.length : Int)) = true := bne_iff_ne.mpr c26
       have c26b2 : (t111.length == l0.length) = false := by first | simpa using c26 | (simp at c26 ⊢; omega)
       exact absurd H (by simp)
     ·rw [if_neg c23] at H
      exact absurd H (by simp)
    ·rw [if_neg c22] at H
     exact absurd H (by simp)

end Go.Proofs.Ytmpcphfgmpceiaa.X
/- A general opening of a row's arguments: what a value of a type reads as, as a term of a kind 'Kd', with the bounds that the row's reach gives. -/
set_option linter.unusedVariables false
set_option linter.unusedSimpArgs false
namespace Go.Proofs.Ytmpcphfgmpceiaa.Opn
open Go.ChangeShapes Go.WideShapes Go.RowKit Go.Proofs.YtmpcphfgmpceiaaW.PrintWords

def Opens {α : Type} (P : Program) (t : TypeId) (d : Kd α) (good : α → Prop) : Prop :=
  ∀ {H : Type} {enc : TypeId × Value → H} {w : World} {base : Nat} {spare : Nat → Bool} {held : Bool} {fuel : Nat} {cs : List Value} {x : DataW H × List MemPlace},
    DataW.trod enc P w base spare held fuel t cs = some x → (∀ m ∈ x.1.weights P t, m ≤ reachBytes) → ∃ a, d.K w a cs ∧ good a

theorem opens_int {P : Program} {t : TypeId} {k : IntKind} (ht : P.underlying t = some (.int k)) : Opens P t (Kd.int k) (fun n => (Lit.int k n).wf = true) := by
  intro H enc w base spare held fuel cs x hx _
  obtain ⟨n, rfl, rfl, hn⟩ := DataW.trod_int ht hx
  exact ⟨n, rfl, hn⟩
theorem weightsAll_mem {H : Type} {P : Program} {e : TypeId} : ∀ {l : List (DataW H)} {d : DataW H}, d ∈ l → ∀ m ∈ d.weights P e, m ∈ DataW.weightsAll P e l
  | d0 :: l, d, hd, m, hm => by
    simp only [DataW.weightsAll, List.mem_append]
    rcases List.mem_cons.1 hd with rfl | hd
    · exact Or.inl hm
    · exact Or.inr (weightsAll_mem hd m hm)
  | [], _, hd, _, _ => by simp at hd

theorem opens_slice {α : Type} {P : Program} {t e : TypeId} {d : Kd α} {good : α → Prop} (ht : P.underlying t = some (.slice e)) (hc : P.cellsOf e = d.sz) {B : Nat} (hB : P.bytesOf e = B) (z : α) (h : Opens P e d good) :
    Opens P t (Kd.slice e d) (fun xs => (∀ x ∈ xs, good x) ∧ xs.length * B ≤ reachBytes) := by
  intro H enc w base spare held fuel cs x hx hw
  rcases Go.Deep.open_slice ht hx with ⟨rfl, rfl⟩ | ⟨a, len, cap, m, n, D, Pl, rfl, hb, hl, hm, hmm, rfl, hel⟩
  · exact ⟨[], ⟨none, 0, rfl, Nat.le_refl _, rfl, by simp, fun h0 => absurd h0 (by simp)⟩, by simp, by simp⟩
  · have hlm : len ≤ m := by rw [hmm]; split <;> omega
    have hmx : len ≤ 9223372036854775807 := by unfold maxLen at hm; omega
    have hw' : ∀ i, i < len → ∀ q ∈ (D i).weights P e, q ≤ reachBytes := by
      intro i hi q hq
      refine hw q ?_
      simp only [DataW.weights, ht]
      refine List.mem_cons_of_mem _ (List.mem_append.2 (Or.inl ?_))
      exact weightsAll_mem (d := D i) (List.mem_map.2 ⟨i, List.mem_range.2 hi, rfl⟩) q hq
    have hB' : len * B ≤ reachBytes := by
      have h0 := hw ((((List.range len).map D).length + ((List.range (m - len)).map fun j => D (len + j)).length) * P.bytesOf e) (by simp only [DataW.weights, ht]; exact List.mem_cons_self ..)
      rw [hB] at h0
      simp only [List.length_map, List.length_range] at h0
      exact Nat.le_trans (Nat.mul_le_mul_right B (by omega)) h0
    have key : ∀ i, i < len → ∃ y : α × List Value, d.K w y.1 y.2 ∧ good y.1 ∧ w.cells? base (a.add (i * P.cellsOf e)) (P.cellsOf e) = some y.2 := by
      intro i hi
      obtain ⟨cs', h1, h2⟩ := hel i (by omega)
      obtain ⟨y, h3, h4⟩ := h h2 (hw' i hi)
      exact ⟨(y, cs'), h3, h4, h1⟩
    haveI : Inhabited (α × List Value) := ⟨(z, [])⟩
    obtain ⟨F, hF⟩ := Go.Deep.choose_lt key
    refine ⟨(List.range len).map fun i => (F i).1, ⟨some a, cap, by simp, by simpa using hl, by simp, by simpa using hmx, fun h0 => ⟨a, rfl, ?_⟩⟩, ?_, by simpa using hB'⟩
    · intro j p hj
      have hjl : j < len := by
        have := (List.getElem?_eq_some_iff.1 hj).1
        simpa using this
      have hp : p = (F j).1 := by
        rw [List.getElem?_map, List.getElem?_range hjl] at hj
        simpa using hj.symm
      subst hp
      obtain ⟨h1, h2, h3⟩ := hF j hjl
      obtain ⟨_, hlen, hcell⟩ := World.cells?_some h3
      refine ⟨(F j).2, by rw [hlen, hc], h1, fun i u hu => ?_⟩
      have hi : i < P.cellsOf e := by
        have := (List.getElem?_eq_some_iff.1 hu).1
        omega
      have := hcell i hi
      rw [Go.Deep.add_add] at this
      rw [← hc, this, hu]
    · intro x hx
      obtain ⟨i, hi, rfl⟩ := List.mem_map.1 hx
      exact (hF i (List.mem_range.1 hi)).2.1

def OpensTail {α : Type} (P : Program) (fs : List Field) (o len : Nat) (d : Kd α) (good : α → Prop) : Prop :=
  ∀ {H : Type} {enc : TypeId × Value → H} {w : World} {base : Nat} {spare : Nat → Bool} {held : Bool} {n : Nat} {cs : List Value} {xs : List (DataW H × List MemPlace)},
    cs.length = len → xs.length = fs.length →
    (∀ (i : Nat) (f : Field), fs[i]? = some f → DataW.trod enc P w base spare held n f.type ((cs.drop f.offset).take (P.cellsOf f.type)) = xs[i]?) →
    (∀ m ∈ DataW.weightsEach P (fs.map (·.type)) (xs.map (·.1)), m ≤ reachBytes) → ∃ a, d.K w a (cs.drop o) ∧ good a

theorem tail_one {α : Type} {P : Program} {f : Field} {o len : Nat} {d : Kd α} {good : α → Prop} (ho : f.offset = o) (hl : len ≤ o + P.cellsOf f.type) (h : Opens P f.type d good) : OpensTail P [f] o len d good := by
  intro H enc w base spare held n cs xs hcs hxs hall hw
  obtain ⟨x, rfl⟩ : ∃ x, xs = [x] := by
    match xs, hxs with
    | [x], _ => exact ⟨x, rfl⟩
  have h0 := hall 0 f rfl
  rw [ho, List.take_of_length_le (by rw [List.length_drop]; omega)] at h0
  exact h h0 (fun m hm => hw m (by simp only [List.map_cons, List.map_nil, DataW.weightsEach, List.mem_append]; exact Or.inl hm))
theorem tail_cons {α β : Type} {P : Program} {f : Field} {fs : List Field} {o o' len : Nat} {a : Kd α} {b : Kd β} {ga : α → Prop} {gb : β → Prop} (ho : f.offset = o) (ho' : o' = o + P.cellsOf f.type)
    (h : Opens P f.type a ga) (ht : OpensTail P fs o' len b gb) : OpensTail P (f :: fs) o len (Kd.pair a b) (fun x => ga x.1 ∧ gb x.2) := by
  intro H enc w base spare held n cs xs hcs hxs hall hw
  obtain ⟨x, xs, rfl⟩ : ∃ x r, xs = x :: r := by
    match xs, hxs with
    | x :: r, _ => exact ⟨x, r, rfl⟩
  have h0 := hall 0 f rfl
  rw [ho] at h0
  obtain ⟨y, hy, hgy⟩ := h h0 (fun m hm => hw m (by simp only [List.map_cons, DataW.weightsEach, List.mem_append]; exact Or.inl hm))
  obtain ⟨z, hz, hgz⟩ := ht (xs := xs) hcs (by simpa using hxs) (fun i g hg => by simpa using hall (i + 1) g (by simpa using hg))
    (fun m hm => hw m (by simp only [List.map_cons, DataW.weightsEach, List.mem_append]; exact Or.inr hm))
  refine ⟨(y, z), ⟨(cs.drop o).take (P.cellsOf f.type), cs.drop o', ?_, hy, hz⟩, hgy, hgz⟩
  rw [ho', ← List.drop_drop, List.take_append_drop]
theorem opens_struct {α β : Type} {P : Program} {t : TypeId} {fs : Array Field} {len : Nat} {d : Kd α} {good : α → Prop} (ht : P.underlying t = some (.struct fs)) (hl : P.cellsOf t = len) (h : OpensTail P fs.toList 0 len d good) (f : β → α) (g : α → β) (hfg : ∀ a, f (g a) = a) :
    Opens P t (Kd.iso d f) (fun x => good (f x)) := by
  intro H enc w base spare held fuel cs x hx hw
  obtain ⟨xs, n, rfl, rfl, hcs, hxs, hall⟩ := DataW.trod_struct ht hx
  obtain ⟨a, ha, hga⟩ := h (xs := xs) (hcs.trans hl) (by simpa using hxs) (fun i f hf => hall i f (by simpa using hf)) (fun m hm => hw m (by simp only [DataW.weights, ht]; exact hm))
  refine ⟨g a, ?_, by show good (f (g a)); rw [hfg]; exact hga⟩
  show d.K w (f (g a)) cs
  rw [hfg]
  simpa using ha
theorem Opens.iso {α β : Type} {P : Program} {t : TypeId} {d : Kd α} {good : α → Prop} (h : Opens P t d good) (f : β → α) (g : α → β) (hfg : ∀ a, f (g a) = a) : Opens P t (Kd.iso d f) (fun x => good (f x)) := by
  intro H enc w base spare held fuel cs x hx hw
  obtain ⟨a, ha, hga⟩ := h hx hw
  refine ⟨g a, ?_, by show good (f (g a)); rw [hfg]; exact hga⟩
  show d.K w (f (g a)) cs
  rw [hfg]
  exact ha
theorem opens_array2 {α β : Type} {P : Program} {t e : TypeId} {d : Kd α} {good : α → Prop} (ht : P.underlying t = some (.array 2 e)) {len c : Nat} (hl : P.cellsOf t = len) (hc : P.cellsOf e = c) (hlen : len = 2 * c) (h : Opens P e d good) (f : β → α × α) (g : α × α → β) (hfg : ∀ a, f (g a) = a) :
    Opens P t (Kd.iso (Kd.pair d d) f) (fun x => good (f x).1 ∧ good (f x).2) := by
  intro H enc w base spare held fuel cs x hx hw
  obtain ⟨xs, n, rfl, rfl, hcs, hxs, hall⟩ := DataW.trod_array ht hx
  obtain ⟨x0, x1, rfl⟩ : ∃ a b, xs = [a, b] := by
    match xs, hxs with
    | [a, b], _ => exact ⟨a, b, rfl⟩
  have hw' : ∀ m ∈ DataW.weightsAll P e [x0.1, x1.1], m ≤ reachBytes := fun m hm => hw m (by simp only [DataW.weights, ht]; exact hm)
  have h0 := hall 0 (by omega)
  have h1 := hall 1 (by omega)
  rw [hc] at h0 h1
  obtain ⟨a0, k0, g0⟩ := h h0 (fun m hm => hw' m (weightsAll_mem (by simp) m hm))
  obtain ⟨a1, k1, g1⟩ := h h1 (fun m hm => hw' m (weightsAll_mem (by simp) m hm))
  refine ⟨g (a0, a1), ?_, by show good (f (g (a0, a1))).1 ∧ good (f (g (a0, a1))).2; rw [hfg]; exact ⟨g0, g1⟩⟩
  show (Kd.pair d d).K w (f (g (a0, a1))) cs
  rw [hfg]
  refine ⟨_, _, ?_, k0, k1⟩
  rw [Nat.zero_mul, List.drop_zero, Nat.one_mul, List.take_of_length_le (l := cs.drop c) (by rw [List.length_drop]; omega), List.take_append_drop]
theorem okWide_array {P : Program} {w : World} {r : Reach} {b0 : Nat} {t e : TypeId} {n : Nat} {v : Value} (hs : P.underlying t = some (.array n e)) (hv : Value.okWide P w r b0 t v) : ∃ cs, v = .agg cs ∧ cs.size = P.cellsOf t := by
  unfold Value.okWide at hv
  rw [hs] at hv
  obtain ⟨cs, h1, h2, _⟩ := hv
  exact ⟨cs, h1, h2⟩
end Go.Proofs.Ytmpcphfgmpceiaa.Opn
/- The openings of the arguments of the law ChaseApart, and its pure statement. -/
set_option linter.unusedVariables false
namespace Go.Proofs.Ytmpcphfgmpceiaa.X
open Go.RowKit Go.Proofs.YtmpcphfgmpceiaaW.PrintWords Go.Proofs.YtmpcphfgmpceiaaW.PrintLast Go.Proofs.YtmpcphfgmpceiaaW.PrintMore Go.Proofs.Ytmpcphfgmpceiaa.Opn
def good26 (x : S26) : Prop := ((Lit.int .i64 x.f0).wf = true) ∧ ((Lit.int .u64 x.f1).wf = true)
theorem opens26 : Opens Try.prog 26 k26 good26 := opens_struct Try.underlying26 (len := 2) (by kernel_rfl) (tail_cons rfl (by kernel_rfl) (opens_int Try.underlying3) (tail_one rfl (Nat.le_of_eq (by kernel_rfl)) (opens_int Try.underlying24))) (fun x : S26 => (x.f0, x.f1)) (fun a => ⟨a.1, a.2⟩) (fun _ => rfl)
def good38 (x : S38) : Prop := (good26 x.f0) ∧ ((Lit.int .i64 x.f1).wf = true)
theorem opens38 : Opens Try.prog 38 k38 good38 := opens_struct Try.underlying38 (len := 3) (by kernel_rfl) (tail_cons rfl (by kernel_rfl) opens26 (tail_one rfl (Nat.le_of_eq (by kernel_rfl)) (opens_int Try.underlying3))) (fun x : S38 => (x.f0, x.f1)) (fun a => ⟨a.1, a.2⟩) (fun _ => rfl)
def good23 (x : S23) : Prop := ((Lit.int .i64 x.f0).wf = true) ∧ ((Lit.int .i64 x.f1).wf = true)
theorem opens23 : Opens Try.prog 23 k23 good23 := opens_array2 Try.underlying23 (len := 2) (c := 1) (by kernel_rfl) (by kernel_rfl) rfl (opens_int Try.underlying3) (fun x : S23 => (x.f0, x.f1)) (fun a => ⟨a.1, a.2⟩) (fun _ => rfl)
def oculuslaw35_ChaseApart.PureX : Prop := ∀ (a0 : (List S38)) (a1 : S23) (a2 : S26), ((∀ y ∈ a0, good38 y) ∧ a0.length * 24 ≤ reachBytes) → (good23 a1) → (good26 a2) → ∃ k, oculuslaw35_ChaseApart.f k a0 (a1.f0) (a1.f1) (a2.f0) (a2.f1) = some true
end Go.Proofs.Ytmpcphfgmpceiaa.X
/- Plain facts on whole numbers, bits and lists that the pure statements use. -/
set_option linter.unusedVariables false
set_option linter.unusedSimpArgs false
namespace Go.Proofs.Ytmpcphfgmpceiaa.X
open Go.RowKit Go.Proofs.YtmpcphfgmpceiaaW.PrintWords Go.Proofs.YtmpcphfgmpceiaaW.PrintLast Go.Proofs.YtmpcphfgmpceiaaW.PrintMore

theorem w64s {i n : Nat} (h : i < n) (hn : n ≤ 9223372036854775807) : wrap64 ((i : Int) + 1) = ((i + 1 : Nat) : Int) := by unfold wrap64; omega

theorem ev_ite {α : Type} {c : Prop} [Decidable c] {f g : Nat → Option α} {r : α} (h1 : c → Ev f r) (h2 : ¬ c → Ev g r) : Ev (fun k => if c then f k else g k) r := by
  by_cases h : c
  · simp only [if_pos h]; exact h1 h
  · simp only [if_neg h]; exact h2 h
theorem ev_pos {α : Type} {c : Prop} [Decidable c] {f g : Nat → Option α} {r : α} (h : c) (h1 : Ev f r) : Ev (fun k => if c then f k else g k) r := by simp only [if_pos h]; exact h1
theorem ev_neg {α : Type} {c : Prop} [Decidable c] {f g : Nat → Option α} {r : α} (h : ¬ c) (h1 : Ev g r) : Ev (fun k => if c then f k else g k) r := by simp only [if_neg h]; exact h1
theorem ev_bind {α β : Type} {g : Nat → Option α} {f : Nat → α → Option β} {a : α} {r : β} (h : Ev g a) (k : Ev (fun n => f n a) r) : Ev (fun n => (g n).bind (f n)) r := Ev.bind h k
theorem ev_bsome {α β : Type} {x : α} {f : Nat → α → Option β} {r : β} (k : Ev (fun n => f n x) r) : Ev (fun n => (some x).bind (f n)) r := k

end Go.Proofs.Ytmpcphfgmpceiaa.X
/- Two closings of chains that differ in one label are alike where that one is not reached. -/
set_option linter.unusedVariables false
set_option linter.unusedSimpArgs false
namespace Go.Proofs.Ytmpcphfgmpceiaa.X
open Go.RowKit Go.Proofs.YtmpcphfgmpceiaaW.PrintWords Go.Proofs.YtmpcphfgmpceiaaW.PrintLast Go.Proofs.YtmpcphfgmpceiaaW.PrintMore
def inr (n : Nat) (j : Int) : Prop := 0 ≤ j ∧ j < (n : Int)
instance (n : Nat) (j : Int) : Decidable (inr n j) := inferInstanceAs (Decidable (0 ≤ j ∧ j < (n : Int)))
inductive Re (n : Nat) (N : Int → Int) : Int → Int → Prop
  | refl (j : Int) : Re n N j j
  | step {j x : Int} (h : inr n j) (k : Re n N (N j) x) : Re n N j x
theorem rd_get (l : List Int) (p : Nat) (h : p < l.length) : rd l (p : Int) = l[p] := by
  unfold rd
  simp [List.getD_eq_getElem?_getD, List.getElem?_eq_getElem h]
theorem rd_mem (l : List Int) (p : Nat) (h : p < l.length) : rd l (p : Int) ∈ l := by rw [rd_get l p h]; exact List.getElem_mem h
theorem rd_append_left (l r : List Int) (p : Nat) (h : p < l.length) : rd (l ++ r) (p : Int) = rd l (p : Int) := by
  rw [rd_get _ _ (by simp; omega), rd_get l p h, List.getElem_append_left h]
theorem rd_append_last (l : List Int) (e : Int) : rd (l ++ [e]) (l.length : Int) = e := by
  rw [rd_get _ _ (by simp)]; simp
theorem rd_set (l : List Int) (i j : Nat) (x : Int) (hj : j < l.length) : rd (l.set i x) (j : Int) = if i = j then x else rd l (j : Int) := by
  rw [rd_get _ _ (by simpa using hj), rd_get l j hj, List.getElem_set]
theorem pig : ∀ (n : Nat) (c : List Int), c.Nodup → (∀ x ∈ c, inr n x) → c.length ≤ n
  | 0, c, _, h => by
    cases c with
    | nil => simp
    | cons x c => have := h x (by simp); unfold inr at this; omega
  | n + 1, c, hd, h => by
    have h1 := pig n (c.erase (n : Int)) (hd.erase _) (fun x hx => by
      rw [hd.mem_erase_iff] at hx
      have := h x hx.2
      unfold inr at this ⊢
      have := hx.1
      omega)
    rw [List.length_erase] at h1
    split at h1 <;> omega
structure Twin (m m' : List S36) (kk : Int) : Prop where
  len : m'.length = m.length
  on : ∀ j, (rd_T36 m' j).f1 = (rd_T36 m j).f1
  part : ∀ j, inr m.length j → j ≠ kk → (rd_T36 m' j).f0 = (rd_T36 m j).f0
def nx (m : List S36) (j : Int) : Int := (rd_T36 m j).f1
def Gd (m : List S36) (kk : Int) (j : Int) : Prop := ¬ Re m.length (nx m) j kk
theorem Gd.ne {m : List S36} {kk j : Int} (h : Gd m kk j) : j ≠ kk := fun e => h (e ▸ Re.refl _)
theorem Gd.next {m : List S36} {kk j : Int} (h : Gd m kk j) (hi : inr m.length j) : Gd m kk (nx m j) := fun r => h (Re.step hi r)
variable {m m' : List S36} {kk : Int}
theorem on_some (m : List S36) (j : Int) (h : inr m.length j) : chase_on.f m j = some (nx m j, decide (inr m.length (nx m j))) := by
  unfold chase_on.f
  rw [if_pos h.1, if_pos h.2]
  unfold nx inr
  by_cases h0 : (rd_T36 m j).f1 ≥ 0
  · rw [if_pos h0]; simp [h0]
  · rw [if_neg h0]
    have : ¬ (0 ≤ (rd_T36 m j).f1 ∧ (rd_T36 m j).f1 < (m.length : Int)) := fun k => h0 k.1
    simp [this]
theorem Twin.nx (h : Twin m m' kk) (j : Int) : nx m' j = nx m j := h.on j
theorem Twin.ahead (h : Twin m m' kk) : ∀ f a, ahead m' f a = ahead m f a
  | 0, _ => rfl
  | f + 1, a => by
    simp only [X.ahead, h.len]
    by_cases h0 : 0 ≤ a.i
    · by_cases h1 : a.i < (m.length : Int)
      · rw [on_some m a.i ⟨h0, h1⟩, on_some m' a.i ⟨h0, by rw [h.len]; exact h1⟩, h.nx, h.len]
        simp only [Option.bind_some, h.ahead f]
      · simp only [if_neg h1]
    · simp only [if_neg h0]
def Lk (m : List S36) (path : List Int) (e : Int) : Prop := ∀ p : Nat, p < path.length → nx m (rd path (p : Int)) = rd (path ++ [e]) ((p + 1 : Nat) : Int)
structure Jn (m : List S36) (a : AH) : Prop where
  len : a.st.length = m.length
  inp : ∀ x ∈ a.path, inr m.length x
  met : ∀ j : Int, inr m.length j → rd a.st j = 1 → j ∈ a.path
  lk : Lk m a.path a.i
  ok : a.ok = true → inr m.length a.i
theorem Jn.step {a : AH} (h : Jn m a) (hi : inr m.length a.i) (k : Int) : Jn m ⟨a.st.set a.i.toNat 1, a.path ++ [a.i], nx m a.i, decide (inr m.length (nx m a.i)), k⟩ := by
  obtain ⟨i, hi2⟩ : ∃ i : Nat, a.i = (i : Int) := ⟨a.i.toNat, by have := hi.1; omega⟩
  refine ⟨by simpa using h.len, ?_, ?_, ?_, fun e => of_decide_eq_true e⟩
  · intro x hx
    rcases List.mem_append.1 hx with hx | hx
    · exact h.inp x hx
    · rw [List.mem_singleton.1 hx]; exact hi
  · intro j hj hm
    obtain ⟨q, rfl⟩ : ∃ q : Nat, j = (q : Int) := ⟨j.toNat, by have := hj.1; omega⟩
    simp only [hi2, Int.toNat_natCast] at hm ⊢
    rw [rd_set _ _ _ _ (by rw [h.len]; have := hj.2; omega)] at hm
    by_cases e : i = q
    · subst e; simp
    · rw [if_neg e] at hm
      exact List.mem_append_left _ (h.met _ hj hm)
  · intro p hp
    simp only [List.length_append, List.length_singleton] at hp
    by_cases e : p = a.path.length
    · subst e
      rw [rd_append_last]
      have := rd_append_last (a.path ++ [a.i]) (nx m a.i)
      simp only [List.length_append, List.length_singleton] at this
      exact this.symm
    · have hp' : p < a.path.length := by omega
      rw [rd_append_left _ _ _ hp', rd_append_left (a.path ++ [a.i]) _ _ (by simp; omega)]
      exact h.lk p hp'
theorem count_le (l : List Int) : l.count 0 ≤ l.length := List.count_le_length
theorem count_down (l : List Int) (i : Nat) (hi : i < l.length) (h : rd l (i : Int) = 0) : (l.set i 1).count 0 + 1 = l.count 0 := by
  rw [rd_get l i hi] at h
  have h1 : 0 < l.count 0 := List.count_pos_iff.2 (h ▸ List.getElem_mem hi)
  rw [List.count_set hi, h]
  simp
  omega
theorem ahead_some (hn : m.length ≤ 100) : ∀ (f : Nat) (a : AH), Jn m a → a.st.count 0 < f → a.path.length + a.st.count 0 ≤ m.length → ∃ b, ahead m f a = some b ∧ Jn m b
  | 0, a, _, h, _ => absurd h (Nat.not_lt_zero _)
  | f + 1, a, hJ, hf, hp => by
    simp only [ahead]
    cases hok : a.ok with
    | false => exact ⟨a, by simp, hJ⟩
    | true =>
      have hi := hJ.ok hok
      obtain ⟨i, hi2⟩ : ∃ i : Nat, a.i = (i : Int) := ⟨a.i.toNat, by have := hi.1; omega⟩
      have hi3 : i < a.st.length := by rw [hJ.len]; have := hi.2; omega
      rw [if_pos rfl, if_pos hi.1, if_pos hi.2]
      by_cases hz : rd a.st a.i = 0
      · have hc := count_down a.st i hi3 (by rw [← hi2]; exact hz)
        rw [if_pos hz, if_pos (by omega), on_some m a.i hi, Option.bind_some]
        refine ahead_some hn f _ (hJ.step hi _) ?_ ?_
        · simp only [hi2, Int.toNat_natCast]; omega
        · simp only [hi2, Int.toNat_natCast, List.length_append, List.length_singleton]; omega
      · rw [if_neg hz]
        exact ⟨a, rfl, hJ⟩
theorem Jn.inrd {a : AH} (h : Jn m a) (p : Nat) (hp : p < a.path.length) : inr m.length (rd a.path (p : Int)) := h.inp _ (rd_mem _ _ hp)
theorem Jn.good {a : AH} (h : Jn m a) (p : Nat) : ∀ d, p + d ≤ a.path.length → p < a.path.length → Gd m kk (rd (a.path ++ [a.i]) (p : Int)) → Gd m kk (rd (a.path ++ [a.i]) ((p + d : Nat) : Int))
  | 0, _, _, hg => hg
  | d + 1, hd, hp, hg => by
    have h1 := h.good p d (by omega) hp hg
    rw [rd_append_left _ _ _ (by omega)] at h1
    have h2 := h1.next (h.inrd _ (by omega))
    rw [h.lk _ (by omega)] at h2
    exact h2
theorem Twin.back (h : Twin m m' kk) {a : AH} (hJ : Jn m a) (p0 : Nat) (hp0 : p0 < a.path.length) (hpi : rd a.path (p0 : Int) = a.i) : ∀ (f : Nat), p0 ≤ f → f ≤ a.path.length → ∀ o o' : S26, (Gd m kk a.i → o' = o) →
    ∃ fr o2 o2', back m a.path a.i f o = some (fr, o2) ∧ back m' a.path a.i f o' = some (fr, o2') ∧ (Gd m kk a.i → o2' = o2)
  | 0, _, _, o, o', hg => ⟨0, o, o', rfl, rfl, hg⟩
  | f + 1, h1, h2, o, o', hg => by
    simp only [X.back, h.len]
    by_cases hc : f + 1 = a.path.length ∨ rd a.path ((f + 1 : Nat) : Int) ≠ a.i
    · have hi := hJ.inrd f (by omega)
      have hpf : p0 ≤ f := by
        rcases Nat.lt_or_ge f p0 with h9 | h9
        · obtain rfl : p0 = f + 1 := by omega
          rcases hc with hc | hc
          · omega
          · exact absurd hpi hc
        · exact h9
      rw [if_pos hc, if_pos hi.1, if_pos hi.2, if_pos hc, if_pos hi.1, if_pos hi.2]
      unfold label_Join.f
      simp only [Option.bind_some]
      refine h.back hJ p0 hp0 hpi f hpf (by omega) _ _ (fun hG => ?_)
      have hgf := hJ.good (kk := kk) p0 (f - p0) (by omega) hp0 (by rw [rd_append_left _ _ _ hp0, hpi]; exact hG)
      rw [show p0 + (f - p0) = f by omega, rd_append_left _ _ _ (by omega)] at hgf
      rw [hg hG, h.part _ hi hgf.ne]
    · rw [if_neg hc, if_neg hc]
      exact ⟨_, _, _, rfl, rfl, hg⟩
theorem rdT_set (l : List S26) (i j : Nat) (x : S26) (hj : j < l.length) : rd_T26 (l.set i x) (j : Int) = if i = j then x else rd_T26 l (j : Int) := by
  unfold rd_T26
  simp only [Int.toNat_natCast, List.getD_eq_getElem?_getD]
  rw [List.getElem?_set]
  by_cases e : i = j
  · subst e; simp [hj]
  · simp [e]
structure Sm (m : List S36) (kk : Int) (s s' : CS) : Prop where
  st : s'.st = s.st
  lo : s'.lo = s.lo
  lk : s'.looks = s.looks
  ls : s.st.length = m.length
  l1 : s.out.length = m.length
  l2 : s'.out.length = m.length
  eq : ∀ j, inr m.length j → Gd m kk j → rd_T26 s'.out j = rd_T26 s.out j
theorem Twin.down (h : Twin m m' kk) {a : AH} (hJ : Jn m a) (fr : Nat) : ∀ (k : Nat), k ≤ a.path.length → ∀ (o o' : S26) (s s' : CS), (Gd m kk (rd (a.path ++ [a.i]) (k : Int)) → o' = o) → Sm m kk s s' →
    ∃ r r', down m a.path fr k o s = some r ∧ down m' a.path fr k o' s' = some r' ∧ Sm m kk r r' ∧ ∀ j : Int, inr m.length j → rd r.st j = 1 → rd s.st j = 1 ∧ ∀ p : Nat, p < k → rd a.path (p : Int) ≠ j
  | 0, _, o, o', s, s', _, hs => ⟨s, s', rfl, rfl, hs, fun j _ e => ⟨e, fun p hp => absurd hp (Nat.not_lt_zero _)⟩⟩
  | k + 1, hk, o, o', s, s', hg, hs => by
    have hi := hJ.inrd k (by omega)
    simp only [X.down, h.len]
    rw [if_pos hi.1, if_pos hi.2, if_pos hi.1, if_pos hi.2]
    obtain ⟨x, hx⟩ : ∃ x : Nat, rd a.path (k : Int) = (x : Int) := ⟨(rd a.path (k : Int)).toNat, by have := hi.1; omega⟩
    have hx2 : x < m.length := by have := hi.2; omega
    have hgx : Gd m kk (rd a.path (k : Int)) → o' = o := fun hG => hg (by rw [← hJ.lk k (by omega)]; exact hG.next hi)
    have key : ∃ t t' : S26, (if k < fr then label_Join.f o.f0 o.f1 (rd_T36 m (rd a.path (k : Int))).f0.f0 (rd_T36 m (rd a.path (k : Int))).f0.f1 else some (o.f0, o.f1)) = some (t.f0, t.f1) ∧
        (if k < fr then label_Join.f o'.f0 o'.f1 (rd_T36 m' (rd a.path (k : Int))).f0.f0 (rd_T36 m' (rd a.path (k : Int))).f0.f1 else some (o'.f0, o'.f1)) = some (t'.f0, t'.f1) ∧ (Gd m kk (rd a.path (k : Int)) → t' = t) := by
      by_cases hf : k < fr
      · simp only [if_pos hf]
        unfold label_Join.f
        exact ⟨⟨_, _⟩, ⟨_, _⟩, rfl, rfl, fun hG => by rw [hgx hG, h.part _ hi hG.ne]⟩
      · simp only [if_neg hf]
        exact ⟨o, o', rfl, rfl, hgx⟩
    obtain ⟨t, t', e1, e2, ht⟩ := key
    rw [e1, e2, Option.bind_some, Option.bind_some]
    obtain ⟨r, r', h1, h2, h3, h4⟩ := h.down hJ fr k (by omega) ⟨t.f0, t.f1⟩ ⟨t'.f0, t'.f1⟩ ⟨s.st.set (rd a.path (k : Int)).toNat 2, s.out.set (rd a.path (k : Int)).toNat ⟨t.f0, t.f1⟩, s.lo.set (rd a.path (k : Int)).toNat (decide (fr ≤ k)), wrap64 (s.looks + 1)⟩
      ⟨s'.st.set (rd a.path (k : Int)).toNat 2, s'.out.set (rd a.path (k : Int)).toNat ⟨t'.f0, t'.f1⟩, s'.lo.set (rd a.path (k : Int)).toNat (decide (fr ≤ k)), wrap64 (s'.looks + 1)⟩
      (fun hG => by rw [rd_append_left _ _ _ (by omega)] at hG; rw [ht hG])
      ⟨by simp only [hs.st], by simp only [hs.lo], by simp only [hs.lk], by simpa using hs.ls, by simpa using hs.l1, by simpa using hs.l2, fun j hj hG => by
        obtain ⟨q, rfl⟩ : ∃ q : Nat, j = (q : Int) := ⟨j.toNat, by have := hj.1; omega⟩
        have hq : q < m.length := by have := hj.2; omega
        simp only [hx, Int.toNat_natCast]
        rw [rdT_set _ _ _ _ (by rw [hs.l2]; exact hq), rdT_set _ _ _ _ (by rw [hs.l1]; exact hq)]
        by_cases e : x = q
        · subst e
          rw [if_pos rfl, if_pos rfl]
          rw [ht (by rw [hx]; exact hG)]
        · rw [if_neg e, if_neg e]
          exact hs.eq _ hj hG⟩
    refine ⟨r, r', h1, h2, h3, fun j hj e => ?_⟩
    obtain ⟨e3, e4⟩ := h4 j hj e
    obtain ⟨q, rfl⟩ : ∃ q : Nat, j = (q : Int) := ⟨j.toNat, by have := hj.1; omega⟩
    simp only [hx, Int.toNat_natCast] at e3
    rw [rd_set _ _ _ _ (by rw [hs.ls]; have := hj.2; omega)] at e3
    by_cases e5 : x = q
    · rw [if_pos e5] at e3; cases e3
    · rw [if_neg e5] at e3
      refine ⟨e3, fun p hp => ?_⟩
      by_cases e6 : p = k
      · subst e6; rw [hx]; omega
      · exact e4 p (by omega)
theorem Twin.run (h : Twin m m' kk) (hn : m.length ≤ 100) (i : Int) (hi : inr m.length i) (s s' : CS) (hs : Sm m kk s s') (h1 : ∀ j, inr m.length j → rd s.st j ≠ 1) :
    ∃ r r', runF m (m.length + 1) i s = some r ∧ runF m' (m.length + 1) i s' = some r' ∧ Sm m kk r r' ∧ ∀ j, inr m.length j → rd r.st j ≠ 1 := by
  have hJ0 : Jn m ⟨s.st, [], i, true, s.looks⟩ := ⟨hs.ls, fun x hx => absurd hx (by simp), fun j hj e => absurd e (h1 j hj), fun p hp => absurd hp (by simp), fun _ => hi⟩
  have hc := count_le s.st
  obtain ⟨a, ha, hJ⟩ := ahead_some hn (m.length + 1) _ hJ0 (by show s.st.count 0 < _; rw [hs.ls] at hc; omega) (by show 0 + s.st.count 0 ≤ _; rw [hs.ls] at hc; omega)
  unfold runF
  rw [h.ahead, hs.st, hs.lk, ha, Option.bind_some, Option.bind_some]
  have hov : Gd m kk a.i → over1 s' a = over1 s a := fun hG => by
    unfold over1
    by_cases hc : a.ok = true ∧ rd a.st a.i = 2
    · rw [if_pos hc, if_pos hc]; exact hs.eq _ (hJ.ok hc.1) hG
    · rw [if_neg hc, if_neg hc]
  have hb : ∃ fr o2 o2', back1 m s a = some (fr, o2) ∧ back1 m' s' a = some (fr, o2') ∧ (Gd m kk a.i → o2' = o2) := by
    unfold back1
    by_cases hc : a.ok = true ∧ rd a.st a.i = 1
    · rw [if_pos hc, if_pos hc]
      obtain ⟨p0, hp0, e⟩ := List.mem_iff_getElem.1 (hJ.met _ (hJ.ok hc.1) hc.2)
      exact h.back hJ p0 hp0 (by rw [rd_get _ _ hp0]; exact e) _ (by omega) (Nat.le_refl _) _ _ hov
    · rw [if_neg hc, if_neg hc]
      exact ⟨_, _, _, rfl, rfl, hov⟩
  obtain ⟨fr, o2, o2', e1, e2, hg⟩ := hb
  rw [e1, e2, Option.bind_some, Option.bind_some]
  obtain ⟨r, r', d1, d2, d3, d4⟩ := h.down hJ fr a.path.length (Nat.le_refl _) o2 o2' ⟨a.st, s.out, s.lo, a.looks⟩ ⟨a.st, s'.out, s'.lo, a.looks⟩ (by rw [rd_append_last]; exact hg) ⟨rfl, hs.lo, rfl, hJ.len, hs.l1, hs.l2, hs.eq⟩
  refine ⟨r, r', d1, d2, d3, fun j hj e => ?_⟩
  obtain ⟨e3, e4⟩ := d4 j hj e
  obtain ⟨p0, hp0, e5⟩ := List.mem_iff_getElem.1 (hJ.met j hj e3)
  exact e4 p0 hp0 (by rw [rd_get _ _ hp0]; exact e5)
theorem Twin.all (h : Twin m m' kk) (hn : m.length ≤ 100) : ∀ (q : Nat) (x : Int), 0 ≤ x → x + (q : Int) = (m.length : Int) → ∀ s s' : CS, Sm m kk s s' → (∀ j, inr m.length j → rd s.st j ≠ 1) → ∃ r r', X.allF m q x s = some r ∧ X.allF m' q x s' = some r' ∧ Sm m kk r r'
  | 0, x, _, _, s, s', hs, _ => ⟨s, s', rfl, rfl, hs⟩
  | q + 1, x, hx, hq, s, s', hs, h1 => by
    simp only [X.allF, hs.st, h.len]
    by_cases hz : rd s.st x = 0
    · rw [if_pos hz, if_pos hz]
      obtain ⟨r, r', e1, e2, e3, e4⟩ := h.run hn x ⟨hx, by omega⟩ s s' hs h1
      rw [e1, e2, Option.bind_some, Option.bind_some]
      exact h.all hn q (x + 1) (by omega) (by omega) r r' e3 e4
    · rw [if_neg hz, if_neg hz]
      exact h.all hn q (x + 1) (by omega) (by omega) s s' hs h1
theorem Twin.closed (h : Twin m m' kk) (hn : m.length ≤ 100) : ∃ r r', closedF m = some r ∧ closedF m' = some r' ∧ Sm m kk r r' := by
  unfold closedF
  rw [h.len, if_pos (by omega), if_pos (by omega)]
  refine h.all hn m.length 0 (by omega) (by omega) _ _ ⟨rfl, rfl, rfl, by simp [fresh0], by simp [fresh0], by simp [fresh0], fun _ _ _ => rfl⟩ (fun j hj => ?_)
  obtain ⟨q, rfl⟩ : ∃ q : Nat, j = (q : Int) := ⟨j.toNat, by have := hj.1; omega⟩
  have hq : q < m.length := by have := hj.2; omega
  rw [fresh0, rd_get _ _ (by simpa using hq)]
  simp
end Go.Proofs.Ytmpcphfgmpceiaa.X
/- The pure statement of the law ChaseApart: over numbers and lists alone. -/
set_option linter.unusedVariables false
set_option linter.unusedSimpArgs false
namespace Go.Proofs.Ytmpcphfgmpceiaa.X
open Go.RowKit Go.Proofs.YtmpcphfgmpceiaaW.PrintWords Go.Proofs.YtmpcphfgmpceiaaW.PrintLast Go.Proofs.YtmpcphfgmpceiaaW.PrintMore
theorem alive35_ev : Ev (fun k => oculuslaw35_alive.f k) true := Ev.of (fun k => oculuslaw35_alive.mono k) (k := 60) (by decide +kernel)
theorem has_l0 (c : List Int) (x : Int) (hc : c.length ≤ 1000) : ∀ (d i : Nat), i + d = c.length → (∀ p : Nat, p < i → rd c (p : Int) ≠ x) → Ev (fun k => oculusref35_Has.l0 k c x (i : Int)) (decide (x ∈ c))
  | 0, i, hi, h => by
    refine Ev.step (fun k => oculusref35_Has.l0.eq_2 _ _ _ _) ?_
    have : decide (x ∈ c) = false := decide_eq_false (fun hm => by
      obtain ⟨p, hp, e⟩ := List.mem_iff_getElem.1 hm
      exact h p (by omega) (by rw [rd_get _ _ hp]; exact e))
    rw [this]
    exact ev_neg (by omega) (Ev.now _)
  | d + 1, i, hi, h => by
    refine Ev.step (fun k => oculusref35_Has.l0.eq_2 _ _ _ _) ?_
    refine ev_pos (by omega) (ev_pos (by omega) ?_)
    by_cases e : rd c (i : Int) = x
    · have : decide (x ∈ c) = true := decide_eq_true (e ▸ rd_mem _ _ (by omega))
      rw [this]
      exact ev_pos e (Ev.now _)
    · refine ev_neg e ?_
      rw [w64s (n := 10000) (by omega) (by omega)]
      exact has_l0 c x hc d (i + 1) (by omega) (fun p hp => by
        by_cases e2 : p = i
        · subst e2; exact e
        · exact h p (by omega))
theorem has35_ev (c : List Int) (x : Int) (hc : c.length ≤ 1000) : Ev (fun k => oculusref35_Has.f k c x) (decide (x ∈ c)) := has_l0 c x hc c.length 0 (by omega) (fun p hp => absurd hp (Nat.not_lt_zero _))
def nxr (l : List S38) (j : Int) : Int := (rd_T38 l j).f1
structure Cl (l : List S38) (i : Int) (c : List Int) : Prop where
  nd : c.Nodup
  inp : ∀ x ∈ c, inr l.length x
theorem chain_l0 (l : List S38) (hl : l.length ≤ 100) (i : Int) : ∀ (d : Nat) (x1 : Int) (c : List Int), c.length + d = l.length + 1 → c.Nodup → (∀ x ∈ c, inr l.length x) → (i ∈ c ∨ i = x1) → (∀ y ∈ c, nxr l y ∈ c ∨ nxr l y = x1) →
    ∃ r, Ev (fun k => oculusref35_Chain.l0 k l x1 c (c.length : Int)) r ∧ r.length ≤ l.length ∧ (inr l.length i → i ∈ r) ∧ (∀ y ∈ r, inr l.length (nxr l y) → nxr l y ∈ r)
  | 0, x1, c, hd, hn, hi, h1, h2 => by
    have := pig l.length c hn hi
    omega
  | d + 1, x1, c, hd, hn, hi, h1, h2 => by
    have hc := pig l.length c hn hi
    have stop : ∀ r, Ev r (c : List Int) → True := fun _ _ => trivial
    by_cases a0 : x1 < 0
    · refine ⟨c, Ev.step (fun k => oculusref35_Chain.l0.eq_2 _ _ _ _ _) (ev_pos (by omega) (ev_pos a0 (Ev.now _))), hc, fun hii => ?_, fun y hy hyi => ?_⟩
      · rcases h1 with h1 | h1
        · exact h1
        · have := hii.1; omega
      · rcases h2 y hy with h | h
        · exact h
        · have := hyi.1; omega
    · by_cases a1 : x1 ≥ (l.length : Int)
      · refine ⟨c, Ev.step (fun k => oculusref35_Chain.l0.eq_2 _ _ _ _ _) (ev_pos (by omega) (ev_neg a0 (ev_pos a1 (Ev.now _)))), hc, fun hii => ?_, fun y hy hyi => ?_⟩
        · rcases h1 with h1 | h1
          · exact h1
          · have := hii.2; omega
        · rcases h2 y hy with h | h
          · exact h
          · have := hyi.2; omega
      · have hH := has35_ev c x1 (by omega)
        by_cases a2 : x1 ∈ c
        · rw [decide_eq_true a2] at hH
          refine ⟨c, Ev.step (fun k => oculusref35_Chain.l0.eq_2 _ _ _ _ _) (ev_pos (by omega) (ev_neg a0 (ev_neg a1 (ev_bind hH (ev_pos rfl (Ev.now _)))))), hc, fun hii => ?_, fun y hy hyi => ?_⟩
          · rcases h1 with h1 | h1
            · exact h1
            · rw [h1]; exact a2
          · rcases h2 y hy with h | h
            · exact h
            · rw [h]; exact a2
        · rw [decide_eq_false a2] at hH
          obtain ⟨r, e1, e2, e3, e4⟩ := chain_l0 l hl i d (nxr l x1) (c ++ [x1]) (by simp; omega)
            (by rw [List.nodup_append]; exact ⟨hn, by simp, fun a ha b hb => by rw [List.mem_singleton.1 hb]; rintro rfl; exact a2 ha⟩)
            (fun x hx => by
              rcases List.mem_append.1 hx with hx | hx
              · exact hi x hx
              · rw [List.mem_singleton.1 hx]; exact ⟨by omega, by omega⟩)
            (by rcases h1 with h1 | h1
                · exact .inl (List.mem_append_left _ h1)
                · exact .inl (by rw [h1]; simp))
            (fun y hy => by
              rcases List.mem_append.1 hy with hy | hy
              · rcases h2 y hy with h | h
                · exact .inl (List.mem_append_left _ h)
                · exact .inl (by rw [h]; simp)
              · rw [List.mem_singleton.1 hy]; exact .inr rfl)
          refine ⟨r, Ev.step (fun k => oculusref35_Chain.l0.eq_2 _ _ _ _ _) (ev_pos (by omega) (ev_neg a0 (ev_neg a1 (ev_bind hH (ev_neg (by simp) (ev_pos (by omega) (ev_pos (by omega) (ev_pos (by omega) ?_)))))))), e2, e3, e4⟩
          have e5 : wrap64 ((c.length : Int) + 1) = ((c ++ [x1]).length : Int) := by rw [w64s (n := 10000) (by omega) (by omega)]; simp
          rw [e5]
          exact e1
theorem re_mem (l : List S38) (r : List Int) (h : ∀ y ∈ r, inr l.length (nxr l y) → nxr l y ∈ r) {y x : Int} (hr : Re l.length (nxr l) y x) (hy : y ∈ r) (hx : inr l.length x) : x ∈ r := by
  induction hr with
  | refl j => exact hy
  | step hj k ih =>
    rename_i j x
    by_cases e : inr l.length (nxr l j)
    · exact ih (h j hy e) hx
    · cases k with
      | refl => exact absurd hx e
      | step h9 _ => exact absurd h9 e
def mineL (l : List S38) : List S36 := l.map fun x => ⟨⟨x.f0.f0, x.f0.f1⟩, x.f1⟩
theorem mine_l0 (l : List S38) (hl : l.length ≤ 100) : ∀ d i, i + d = l.length → Ev (fun k => oculuslaw35_mine.l0 k (mineL (l.take i)) l (l.length : Int) (i : Int)) (mineL l)
  | 0, i, hi => by
    refine Ev.step (fun k => oculuslaw35_mine.l0.eq_2 _ _ _ _ _) ?_
    rw [List.take_of_length_le (by omega)]
    exact ev_neg (by omega) (Ev.now _)
  | d + 1, i, hi => by
    refine Ev.step (fun k => oculuslaw35_mine.l0.eq_2 _ _ _ _ _) ?_
    refine ev_pos (by omega) (ev_pos (by omega) (ev_pos (by omega) (ev_pos (by simp only [mineL, List.length_map, List.length_take]; omega) ?_)))
    rw [w64s (n := 10000) (by omega) (by omega)]
    have e : mineL (l.take i) ++ [(⟨(⟨(rd_T38 l (i : Int)).f0.f0, (rd_T38 l (i : Int)).f0.f1⟩ : S26), (rd_T38 l (i : Int)).f1⟩ : S36)] = mineL (l.take (i + 1)) := by
      have h : i < l.length := by omega
      unfold mineL rd_T38
      rw [List.take_succ_eq_append_getElem h, List.map_append]
      simp [List.getD_eq_getElem?_getD, List.getElem?_eq_getElem h]
    rw [e]
    exact mine_l0 l hl d (i + 1) (by omega)
theorem mine_ev (l : List S38) (hl : l.length ≤ 100) : Ev (fun k => oculuslaw35_mine.f k l) (mineL l) := mine_l0 l hl l.length 0 (by omega)
theorem nx_mine (l : List S38) (j : Int) : nx (mineL l) j = nxr l j := by
  unfold nx nxr rd_T36 rd_T38 mineL
  simp only [List.getD_eq_getElem?_getD, List.getElem?_map]
  cases l[j.toNat]? <;> rfl
theorem rd36_set (m : List S36) (i j : Nat) (x : S36) (hi : i < m.length) : rd_T36 (m.set i x) (j : Int) = if i = j then x else rd_T36 m (j : Int) := by
  unfold rd_T36
  simp only [Int.toNat_natCast, List.getD_eq_getElem?_getD, List.getElem?_set]
  by_cases e : i = j
  · subst e; simp [hi]
  · simp [e]
theorem twin_set (m : List S36) (k : Nat) (hk : k < m.length) (o : S26) : Twin m (m.set k ⟨o, (rd_T36 m (k : Int)).f1⟩) (k : Int) := by
  refine ⟨by simp, fun j => ?_, fun j hj hne => ?_⟩
  · by_cases e : j.toNat = k
    · have h1 : rd_T36 (m.set k ⟨o, (rd_T36 m (k : Int)).f1⟩) j = ⟨o, (rd_T36 m (k : Int)).f1⟩ := by
        have := rd36_set m k k ⟨o, (rd_T36 m (k : Int)).f1⟩ hk
        rw [if_pos rfl] at this
        refine Eq.trans ?_ this
        show List.getD _ j.toNat _ = List.getD _ (k : Int).toNat _
        rw [e, Int.toNat_natCast]
      have h2 : rd_T36 m j = rd_T36 m (k : Int) := by unfold rd_T36; rw [e, Int.toNat_natCast]
      rw [h1, h2]
    · unfold rd_T36
      simp only [List.getD_eq_getElem?_getD, List.getElem?_set]
      rw [if_neg (fun h => e h.symm)]
  · obtain ⟨q, rfl⟩ : ∃ q : Nat, j = (q : Int) := ⟨j.toNat, by have := hj.1; omega⟩
    rw [rd36_set m k q _ hk, if_neg (fun h => hne (by rw [h]))]
end Go.Proofs.Ytmpcphfgmpceiaa.X
namespace Go.Proofs.Ytmpcphfgmpceiaa.Pure
open Go.RowKit Go.Proofs.Ytmpcphfgmpceiaa.X Go.Proofs.YtmpcphfgmpceiaaW.PrintWords Go.Proofs.YtmpcphfgmpceiaaW.PrintLast Go.Proofs.YtmpcphfgmpceiaaW.PrintMore
theorem ChaseApart : oculuslaw35_ChaseApart.PureX := by
  intro l q o _ _ _
  generalize q.f0 = i
  generalize q.f1 = kk
  have idle : Ev (fun k => oculuslaw35_ChaseApart.j0 k l i kk true o.f0 o.f1) true := by
    refine Ev.step (fun k => oculuslaw35_ChaseApart.j0.eq_2 _ _ _ _ _ _ _) ?_
    exact ev_pos rfl (ev_bind alive35_ev (Ev.now _))
  suffices h : Ev (fun k => oculuslaw35_ChaseApart.f k l i kk o.f0 o.f1) true from h.rounds
  unfold oculuslaw35_ChaseApart.f
  refine ev_ite (fun _ => idle) (fun hl => ev_ite (fun _ => idle) (fun h0 => ev_ite (fun _ => idle) (fun h1 => ev_ite (fun _ => idle) (fun h2 => ev_ite (fun _ => idle) (fun h3 => ?_)))))
  have hl : l.length ≤ 100 := by omega
  obtain ⟨r, hr, hrl, hri, hrc⟩ := chain_l0 l hl i (l.length + 1) i [] (by simp) List.nodup_nil (fun x hx => absurd hx (by simp)) (.inr rfl) (fun y hy => absurd hy (by simp))
  refine ev_bind (g := fun k => oculusref35_Chain.f k l i) hr (ev_bind (has35_ev r kk (by omega)) ?_)
  by_cases hm : kk ∈ r
  · rw [decide_eq_true hm]; exact idle
  · rw [decide_eq_false hm]
    refine Ev.step (fun k => oculuslaw35_ChaseApart.j0.eq_2 _ _ _ _ _ _ _) ?_
    refine ev_neg (by simp) (ev_bind (mine_ev l hl) ?_)
    have hml : (mineL l).length = l.length := by simp [mineL]
    obtain ⟨c, rfl⟩ : ∃ c : Nat, kk = (c : Int) := ⟨kk.toNat, by omega⟩
    have ht := twin_set (mineL l) c (by omega) ⟨o.f0, o.f1⟩
    obtain ⟨s, s', e1, e2, hs⟩ := ht.closed (by omega)
    have f1 : chase_Close.f (mineL l) = some s.out := by unfold chase_Close.f; rw [e1]; rfl
    have f2 : chase_Close.f ((mineL l).set c ⟨⟨o.f0, o.f1⟩, (rd_T36 (mineL l) (c : Int)).f1⟩) = some s'.out := by unfold chase_Close.f; rw [e2]; rfl
    have hg : Gd (mineL l) (c : Int) i := by
      intro hre
      refine hm (re_mem l r hrc (y := i) ?_ (hri ⟨by omega, by omega⟩) ⟨by omega, by omega⟩)
      rw [hml, show nx (mineL l) = nxr l from funext (nx_mine l)] at hre
      exact hre
    have heq := hs.eq i ⟨by omega, by omega⟩ hg
    have hl1 := hs.l1
    have hl2 := hs.l2
    rw [f1]
    refine ev_bsome (ev_pos (by omega) (ev_pos (by omega) ?_))
    rw [Int.toNat_natCast, f2]
    refine ev_bsome (ev_pos (by omega) (ev_pos (by omega) (ev_pos (by omega) (ev_pos (by omega) (ev_pos (by omega) (ev_pos ?_ (ev_bind alive35_ev (Ev.now _))))))))
    rw [heq]
    simp
end Go.Proofs.Ytmpcphfgmpceiaa.Pure
/- The row of the law ChaseApart: for every input the call returns true and each argument reads afterwards as before, out of its pure statement and the contract of its function. Conditions: none beyond the given statement. -/
namespace Go.Proofs.Ytmpcphfgmpceiaa.chaseApart
open Go.ChangeShapes Go.WideShapes Go.ChangeAt Go.RowKit
open Go.ChangeMaps (open_string shut_string)
open Go.Proofs.Ytmpcphfgmpceiaa.Opn Go.Proofs.Ytmpcphfgmpceiaa.X
open Go.Proofs.YtmpcphfgmpceiaaW.PrintWords (Kd Drawn0)
set_option linter.unusedVariables false
theorem own : ownKnob Try.prog.godebug = none := by kernel_rfl
theorem laidOut : laidOutB Try.prog = true := by kernel_rfl
set_option maxRecDepth 100000 in
set_option maxHeartbeats 1000000 in
theorem lifted (os : Os) (started : os.Started) (H : Type) (enc : TypeId × Value → H) :
    ReturnsInHanded {} Try.checked os 3 .any (Rows.chaseApartSpec.pre6 enc Try.prog Try.f3 Rows.chaseApartRow.domain false) (Rows.chaseApartSpec.post enc Try.prog Try.f3 false true false false) := by
  refine returnsInHanded_of_change_sized (C := Try.checked) own started (by kernel_rfl) Try.func3
    (ChangeSpec.witness6 (enc := enc) (C := Try.checked) false ⟨#[], #[.slice none 0 0, .agg #[.int .i64 0, .int .i64 0], .agg #[.int .i64 0, .int .u64 0]], []⟩ 8 (by kernel_rfl) (by kernel_rfl) (by kernel_rfl) (by kernel_rfl)) ?_
  intro W base args ds gs before hval0 hW hcnd hsz0 _
  have hsz : (DataW.weightsEach Try.prog (Try.f3.params.toList ++ Rows.chaseApartSpec.plain.varTypes Try.prog) (ds ++ gs)).all (· ≤ reachBytes) = true := hsz0
  have hval : ∀ (j : Nat) t v, Try.f3.params[j]? = some t → args[j]? = some v → Value.okWide Try.prog W .any base t v := hval0
  have hW' := hW
  obtain ⟨p, q, hA0, hV, rfl, hfz, hnd⟩ := hW
  have hA : DataW.TrodAll enc Try.prog W 0 (fun _ => true) true Try.f3.params.toList args.toList ds p := hA0
  rw [Try.params3] at hA hval hsz
  obtain ⟨v0, vs0, d0, ds0, p0, q0, hargs, rfl, rfl, h0, r0⟩ := trodAll_cons hA
  obtain ⟨v1, vs1, d1, ds1, p1, q1, rfl, rfl, rfl, h1, r1⟩ := trodAll_cons r0
  obtain ⟨v2, vs2, d2, ds2, p2, q2, rfl, rfl, rfl, h2, r2⟩ := trodAll_cons r1
  obtain ⟨rfl, rfl, rfl⟩ := trodAll_nil r2
  obtain rfl : args = #[v0, v1, v2] := by cases args; simp_all
  obtain ⟨rfl, rfl⟩ := trodVars_none hV
  have lt0 : ∀ x ∈ p0, x.block < W.heap.size := by obtain ⟨m, hm⟩ := h0; exact DataW.trod_lt m _ _ _ hm
  have hw0 : ∀ m ∈ d0.weights Try.prog 22, m ≤ reachBytes := fun m hm => of_decide_eq_true (List.all_eq_true.1 hsz m (DataW.weights_mem_each (j := 0) (t := 22) rfl rfl m hm))
  obtain ⟨a0, K0, g0⟩ : ∃ a, ((Kd.slice 38 k38) : Kd (List S38)).K W a v0.cells.toList ∧ ((∀ y ∈ a, good38 y) ∧ a.length * 24 ≤ reachBytes) := by
    obtain ⟨fuel, hf⟩ := h0
    exact (opens_slice Try.underlying22 (by kernel_rfl) (B := 24) (by kernel_rfl) z38 opens38) hf hw0
  obtain ⟨A0, n0, c0, rfl⟩ := okWide_slice Try.underlying22 (hval 0 22 v0 rfl rfl)
  obtain ⟨A0', c0', e0, hc0, C0⟩ := K0
  simp [Value.cells] at e0
  obtain ⟨rfl, rfl, rfl⟩ := e0
  have lt1 : ∀ x ∈ p1, x.block < W.heap.size := by obtain ⟨m, hm⟩ := h1; exact DataW.trod_lt m _ _ _ hm
  have hw1 : ∀ m ∈ d1.weights Try.prog 23, m ≤ reachBytes := fun m hm => of_decide_eq_true (List.all_eq_true.1 hsz m (DataW.weights_mem_each (j := 1) (t := 23) rfl rfl m hm))
  obtain ⟨a1, K1, g1⟩ : ∃ a, (k23 : Kd S23).K W a v1.cells.toList ∧ (good23 a) := by
    obtain ⟨fuel, hf⟩ := h1
    exact opens23 hf hw1
  obtain ⟨cs1, rfl, _⟩ := okWide_array Try.underlying23 (hval 1 23 v1 rfl rfl)
  have KO1 := k23_open K1
  obtain rfl : cs1 = #[.int .i64 a1.f0, .int .i64 a1.f1] := by
    have : cs1.toList = _ := KO1
    cases cs1; simp_all
  have lt2 : ∀ x ∈ p2, x.block < W.heap.size := by obtain ⟨m, hm⟩ := h2; exact DataW.trod_lt m _ _ _ hm
  have hw2 : ∀ m ∈ d2.weights Try.prog 26, m ≤ reachBytes := fun m hm => of_decide_eq_true (List.all_eq_true.1 hsz m (DataW.weights_mem_each (j := 2) (t := 26) rfl rfl m hm))
  obtain ⟨a2, K2, g2⟩ : ∃ a, (k26 : Kd S26).K W a v2.cells.toList ∧ (good26 a) := by
    obtain ⟨fuel, hf⟩ := h2
    exact opens26 hf hw2
  obtain ⟨cs2, rfl, _⟩ := okWide_struct Try.underlying26 (hval 2 26 v2 rfl rfl)
  have KO2 := k26_open K2
  obtain rfl : cs2 = #[.int .i64 a2.f0, .int .u64 a2.f1] := by
    have : cs2.toList = _ := KO2
    cases cs2; simp_all
  obtain ⟨k, hk⟩ := Pure.ChaseApart a0 a1 a2 g0 g1 g2
  clear hA0 hval0 hsz0 hsz
  refine (oculuslaw35_ChaseApart.calls k A0 c0 a0 (a1.f0) (a1.f1) (a2.f0) (a2.f1) true W C0 hc0 hk).mono fun e W' ⟨he, bel0⟩ => ?_
  have bel : Below W.heap.size W W' := bel0
  subst he
  exact ⟨_, rfl, _, _, _, [], _, [], hW', trodAll_mk1 (shut_bool Try.underlying4 _), (trodAll_cons_mk (Below.trod laidOut (by kernel_rfl) (of_decide_eq_true (by kernel_rfl)) h0 bel lt0) (trodAll_cons_mk (Below.trod laidOut (by kernel_rfl) (of_decide_eq_true (by kernel_rfl)) h1 bel lt1) (trodAll_cons_mk (Below.trod laidOut (by kernel_rfl) (of_decide_eq_true (by kernel_rfl)) h2 bel lt2) trodAll_mk0))), rfl, bel.frame _, fun h => by cases h⟩
theorem over : Rows.chaseApartRow.holds Try.pinned (OpenSpec.ofChange Rows.chaseApartSpec) :=
  OpenClaim.holds_of_wide 3 Try.f3 rfl rfl rfl rfl rfl rfl rfl ⟨rfl, rfl, rfl, rfl, rfl⟩ rfl rfl rfl rfl rfl (by kernel_rfl) Try.func3 (by kernel_rfl)
    (of_decide_eq_true (by kernel_rfl)) (by unfold Func.isWrapper; first | (rw [if_pos (by decide +kernel)]; kernel_rfl) | (rw [if_neg (by decide +kernel)]; exact ⟨rfl, rfl⟩))
    (fun os started H enc _ => lifted os started H enc)
theorem proved : Rows.ChaseApartSaid := over
end Go.Proofs.Ytmpcphfgmpceiaa.chaseApart
namespace Go.Proofs.Ytmpcphfgmpceiaa
theorem chaseApart_holds : Rows.ChaseApartSaid := chaseApart.proved
#print axioms chaseApart_holds
end Go.Proofs.Ytmpcphfgmpceiaa
