/- The law PolicyWrong: for every input the call returns true, and each argument reads afterwards as it read before: the statement Rows.PolicyWrongSaid, whole, with no condition of ours. -/
import Derived.Lib.QuietBelow
import Derived.Deep.QuietTactic
import Derived.Deep.Slices
import Derived.ChangeArms
import Derived.SizedLaws
import Derived.OpenShut
import Derived.Test.YtbboanfggaknjaaDoorRows
import Derived.WalkKit
import Derived.ProofKit
import Derived.ShutString
import Derived.ChangeOld
import Derived.Below
import Derived.Carry
import Derived.Handed
import Derived.LaidLaws
import Derived.Lib.LaidTab
import Derived.Test.YtbboanfggaknjaaDoorCards
import Derived.Test.YtbboanfggaknjaaDoorTie
import Derived.SevenTiedAt
import Derived.Test.YtbboanfggaknjaaDoorBPolicyWrong3
namespace Go.Proofs.YtbboanfggaknjaaDoor.X
open Go.RowKit Go.Proofs.YtbboanfggaknjaaDoorW.PrintWords Go.Proofs.YtbboanfggaknjaaDoorW.PrintLast Go.Proofs.YtbboanfggaknjaaDoorW.PrintMore
attribute [local go_sem] max2_int min2_int max_two min_two max_three min_three max_four min_four
set_option linter.unusedVariables false
set_option linter.unusedSimpArgs false
mutual
def oculusref06_Grants.l0 : Nat → List (S67) → List (S65) → Int → Option (Int × Int)
 | 0, _, _, _ => none
 | k + 1, x0, x1, x5 => if x5 < (x0.length : Int) then (if 0 ≤ x5 then ((oculusref06_may.f ((rd_T67 x0 x5).f1.f0) ((rd_T67 x0 x5).f1.f1)).bind fun t103 => (if t103 = true then ((oculusref06_may.f ((rd_T67 x0 x5).f2.f0) ((rd_T67 x0 x5).f2.f1)).bind fun t105 => (oculusref06_Grants.j1 k x0 x1 x5 0 (!t105))) else (oculusref06_Grants.j1 k x0 x1 x5 0 true))) else (none)) else (some (0, 0))
def oculusref06_Grants.j1 : Nat → List (S67) → List (S65) → Int → Int → Bool → Option (Int × Int)
 | 0, _, _, _, _, _ => none
 | k + 1, x0, x1, x5, x6, x28 => if x28 = true then (oculusref06_Grants.j2 k x0 x1 x5 7) else (oculusref06_Grants.j2 k x0 x1 x5 x6)
def oculusref06_Grants.j2 : Nat → List (S67) → List (S65) → Int → Int → Option (Int × Int)
 | 0, _, _, _, _ => none
 | k + 1, x0, x1, x5, x6 => if 0 ≤ x5 then (if x5 < (x0.length : Int) then ((oculusref06_Find.f k x1 ((rd_T67 x0 x5).f0)).bind fun t107 => (if t107 < 0 then (oculusref06_Grants.j3 k x0 x1 x5 11) else (oculusref06_Grants.j3 k x0 x1 x5 x6))) else (none)) else (none)
def oculusref06_Grants.j3 : Nat → List (S67) → List (S65) → Int → Int → Option (Int × Int)
 | 0, _, _, _, _ => none
 | k + 1, x0, x1, x5, x6 => if x5 > 31 then (some (x5, 10)) else (if x6 = 0 then (oculusref06_Grants.l0 k x0 x1 (wrap64 (x5 + 1))) else (some (x5, x6)))
end
def oculusref06_Grants.f (k : Nat) (l0 : List (S67)) (l1 : List (S65)) : Option (Int × Int) := oculusref06_Grants.l0 k l0 l1 0
set_option maxHeartbeats 8000000 in
set_option maxRecDepth 100000 in
theorem oculusref06_Grants.calls (k : Nat) (A0 : Option Addr) (c0 : Nat) (l0 : List (S67)) (A1 : Option Addr) (c1 : Nat) (l1 : List (S65)) (r1 : Int) (r2 : Int) (w : World) (hr0 : Kd.C k67 w A0 l0.length l0) (hc0 : l0.length ≤ c0) (hr1 : Kd.C k65 w A1 l1.length l1) (hc1 : l1.length ≤ c1) (h : oculusref06_Grants.f k l0 l1 = some (r1, r2)) :
  Calls Tryd.prog 31 #[.slice A0 l0.length c0, .slice A1 l1.length c1] w fun e w' => e = .returned (.agg #[.int .i64 r1, .int .i64 r2]) ∧ Below w.heap.size w w' := by
 have hu34 := Tryd.underlying34; have hu59 := Tryd.underlying59; have HR0 := Aside0.mk hr0; have HC0 := Aside0.mk hc0; clear hr0 hc0; have HR1 := Aside0.mk hr1; have HC1 := Aside0.mk hc1; clear hr1 hc1; have HB := Aside0.mk (Below.refl w.heap.size w)
 have H : (oculusref06_Grants.l0 k l0 l1 0) = some (r1, r2) := h
 clear h
 have H' := Aside0.mk H
 clear H
 go_enter Tryd.func31, Tryd.ntmps31
 go_wp2_with (first | ((with_reducible refine gate_dst (N:=4) rfl ?_); refine be_ (N:=4) (cs := #[.int .i64 0, .int .i64 0]) (t:=34) ?_; intro gb101 hg w3 hbox hb; have BK101 := Aside0.mk (hbox); have GW101 := hs_ HB hg; have GE101 := hs_ HB hg; replace HB := bs_ HB hb; clear hb hbox hg))
 go_loopg [5] k (fun kq v5 w' => ∃ (x5_1 : Int) (x102000_1 : Int) (x102001_1 : Int), v5 = .int .i64 x5_1 ∧ Aside0 (oculusref06_Grants.l0 kq l0 l1 x5_1 = some (r1, r2)) ∧ Aside0 (kq ≤ k) ∧ Aside0 (w'.heap[gb101]? = some (.cells #[.int .i64 x102000_1, .int .i64 x102001_1] 34 (0, 0))) ∧ Aside0 (Below w.heap.size w w'))
 case atStart => exact ⟨(0), (0), (0), (by first | rfl | (simp; done) | (simp [*]; done)), H', ⟨Nat.le_refl _⟩, ⟨pkx BK101⟩, ⟨pbx HB⟩⟩
 case round =>
  clear H'; (try clear c1); (try clear p2); (try clear c3); obtain ⟨x5_1, x102000_1, x102001_1, rfl, HA, HK1, BK101, HB⟩ := hrel
  cases gk with
  | zero => exact absurd HA.out (by simp [oculusref06_Grants.l0])
  | succ k1 =>
   have H := HA.out; clear HA
   simp only [oculusref06_Grants.l0] at H
   by_cases c4 : x5_1 < (l0.length : Int)
   ·rw [if_pos c4] at H; have c4b0 : decide (x5_1 < (l0.length : Int)) = true := decide_eq_true c4; clear c4; have HC5 := Aside0.mk H; clear H
    go_upto_region 5 with (fail)
    go_cut [28] (fun v28 wc => ∃ (kq : Nat) (x28_4 : Bool), v28 = .bool x28_4 ∧ Aside0 (oculusref06_Grants.j1 kq l0 l1 x5_1 0 x28_4 = some (r1, r2)) ∧ Aside0 (kq ≤ k1) ∧ Aside0 (wc.heap[gb101]? = some (.cells #[.int .i64 x102000_1, .int .i64 x102001_1] 34 (0, 0))) ∧ Aside0 (Below w.heap.size w wc))
    case first =>
     have H := HC5.out; clear HC5
     by_cases c6 : 0 ≤ x5_1
     ·rw [if_pos c6] at H; have c6b0 : decide (0 ≤ x5_1) = true := decide_eq_true c6; clear c6; (first | rw [c6b0] | (simp only [i64_w, i32_w]; rw [c6b0]) | skip)
      replace H := Option.bind_eq_some_iff.mp H; obtain ⟨t103, A70, H⟩ := H
      replace H : (if t103 = true then ((oculusref06_may.f ((rd_T67 l0 x5_1).f2.f0) ((rd_T67 l0 x5_1).f2.f1)).bind fun t105 => (oculusref06_Grants.j1 k1 l0 l1 x5_1 0 (!t105))) else (oculusref06_Grants.j1 k1 l0 l1 x5_1 0 true)) = some (r1, r2) := H
      have A7 := Aside0.mk A70; clear A70
      by_cases c8 : t103 = true
      ·subst c8
       have H1 : ((oculusref06_may.f ((rd_T67 l0 x5_1).f2.f0) ((rd_T67 l0 x5_1).f2.f1)).bind fun t105 => (oculusref06_Grants.j1 k1 l0 l1 x5_1 0 (!t105))) = some (r1, r2) := by rw [if_pos rfl] at H; exact H
       clear H; have H := H1; clear H1; replace H := Option.bind_eq_some_iff.mp H; obtain ⟨t105, A90, H⟩ := H
       replace H : (oculusref06_Grants.j1 k1 l0 l1 x5_1 0 (!t105)) = some (r1, r2) := H
       have A9 := Aside0.mk A90; clear A90
       have H' := Aside0.mk H
       clear H
       have p102 : 0 ≤ (x5_1 : Int) := of_decide_eq_true (by first | (with_reducible assumption) | assumption)
       have q102 : x5_1 < (l0.length : Int) := of_decide_eq_true (by first | (with_reducible assumption) | assumption)
       obtain ⟨ad102, e102, hx102_0, hx102_1, hx102_2, hx102_3, hx102_4⟩ := at_T67 HR0.out x5_1 p102 q102
       cases e102
       replace hx102_0 := (HB.out.cell (World.block_lt_of_cell? w _ hx102_0)).trans hx102_0; replace hx102_1 := (HB.out.cell (World.block_lt_of_cell? w _ hx102_1)).trans hx102_1; replace hx102_2 := (HB.out.cell (World.block_lt_of_cell? w _ hx102_2)).trans hx102_2; replace hx102_3 := (HB.out.cell (World.block_lt_of_cell? w _ hx102_3)).trans hx102_3; replace hx102_4 := (HB.out.cell (World.block_lt_of_cell? w _ hx102_4)).trans hx102_4; replace p102 := eq_true p102; replace q102 := eq_true q102
       go_wp2_with (first | ((with_reducible refine gate_callee (f:=52) rfl ?_); refine gL_ (some 18) rfl rfl Tryd.func52 rfl #[.agg #[.int .i64 ((rd_T67 l0 x5_1).f1.f0), .int .u64 ((rd_T67 l0 x5_1).f1.f1)]] rfl ?_; (with_reducible refine (oculusref06_may.calls ((rd_T67 l0 x5_1).f1.f0) ((rd_T67 l0 x5_1).f1.f1) true _ A7.out).mono ?_); rintro e w10 ⟨rfl, hb⟩; refine ⟨_, rfl, ?_⟩; replace BK101 := bb_ BK101 hb; replace HB := bs_ HB hb; (try clear hb); (try clear hb2); (try clear hk); (try clear hi); have p104 : 0 ≤ (x5_1 : Int) := of_decide_eq_true (by first | (with_reducible assumption) | assumption); have q104 : x5_1 < (l0.length : Int) := of_decide_eq_true (by first | (with_reducible assumption) | assumption); obtain ⟨ad104, e104, hx104_0, hx104_1, hx104_2, hx104_3, hx104_4⟩ := at_T67 HR0.out x5_1 p104 q104; obtain rfl : ad102 = ad104 := (by injection e104); replace hx104_0 := (HB.out.cell (World.block_lt_of_cell? w _ hx104_0)).trans hx104_0; replace hx104_1 := (HB.out.cell (World.block_lt_of_cell? w _ hx104_1)).trans hx104_1; replace hx104_2 := (HB.out.cell (World.block_lt_of_cell? w _ hx104_2)).trans hx104_2; replace hx104_3 := (HB.out.cell (World.block_lt_of_cell? w _ hx104_3)).trans hx104_3; replace hx104_4 := (HB.out.cell (World.block_lt_of_cell? w _ hx104_4)).trans hx104_4; replace p104 := eq_true p104; replace q104 := eq_true q104) | (go_at_call 52; (with_reducible refine (oculusref06_may.calls ((rd_T67 l0 x5_1).f2.f0) ((rd_T67 l0 x5_1).f2.f1) t105 _ A9.out).mono ?_); rintro e w11 ⟨rfl, hb⟩; replace BK101 := bb_ BK101 hb; replace HB := bs_ HB hb; (try clear hb); (try clear hb2); (try clear hk); (try clear hi)))
       go_meet
       case rel => exact ⟨_, (!t105), (by first | rfl | (simp; done) | (simp [*]; done) | (cases t105 <;> simp; done)), H', ⟨by have := HK1.out; first | omega | exact Nat.le_refl _⟩, ⟨pkx BK101⟩, ⟨pbx HB⟩⟩
      ·replace c8 := Bool.eq_false_iff.mpr c8; subst c8
       have H1 : (oculusref06_Grants.j1 k1 l0 l1 x5_1 0 true) = some (r1, r2) := by rw [if_neg (show ¬ (false = true) by decide)] at H; exact H
       clear H; have H := H1; clear H1
       have H' := Aside0.mk H
       clear H
       have p102 : 0 ≤ (x5_1 : Int) := of_decide_eq_true (by first | (with_reducible assumption) | assumption)
       have q102 : x5_1 < (l0.length : Int) := of_decide_eq_true (by first | (with_reducible assumption) | assumption)
       obtain ⟨ad102, e102, hx102_0, hx102_1, hx102_2, hx102_3, hx102_4⟩ := at_T67 HR0.out x5_1 p102 q102
       cases e102
       replace hx102_0 := (HB.out.cell (World.block_lt_of_cell? w _ hx102_0)).trans hx102_0; replace hx102_1 := (HB.out.cell (World.block_lt_of_cell? w _ hx102_1)).trans hx102_1; replace hx102_2 := (HB.out.cell (World.block_lt_of_cell? w _ hx102_2)).trans hx102_2; replace hx102_3 := (HB.out.cell (World.block_lt_of_cell? w _ hx102_3)).trans hx102_3; replace hx102_4 := (HB.out.cell (World.block_lt_of_cell? w _ hx102_4)).trans hx102_4; replace p102 := eq_true p102; replace q102 := eq_true q102
       go_wp2_with (first | ((with_reducible refine gate_callee (f:=52) rfl ?_); refine gL_ (some 18) rfl rfl Tryd.func52 rfl #[.agg #[.int .i64 ((rd_T67 l0 x5_1).f1.f0), .int .u64 ((rd_T67 l0 x5_1).f1.f1)]] rfl ?_; (with_reducible refine (oculusref06_may.calls ((rd_T67 l0 x5_1).f1.f0) ((rd_T67 l0 x5_1).f1.f1) false _ A7.out).mono ?_); rintro e w12 ⟨rfl, hb⟩; refine ⟨_, rfl, ?_⟩; replace BK101 := bb_ BK101 hb; replace HB := bs_ HB hb; (try clear hb); (try clear hb2); (try clear hk); (try clear hi)))
       go_meet
       case rel => exact ⟨_, (true), (by first | rfl | (simp; done) | (simp [*]; done)), H', ⟨by have := HK1.out; first | omega | exact Nat.le_refl _⟩, ⟨pkx BK101⟩, ⟨pbx HB⟩⟩
     ·rw [if_neg c6] at H
      exact absurd H (by simp)
    case rest =>
     clear HC5; (try clear c1); (try clear p1); (try clear q1); (try clear hx1); (try clear p2); (try clear c3); (try clear c4); (try clear c4b0); (try clear c5); (try clear c6); (try clear c6b0); (try clear c8); (try clear p10); (try clear q10); (try clear hx10); (try clear hx102_0); (try clear hx102_1); (try clear hx102_2); (try clear hx102_3); (try clear hx102_4); (try clear hx104_0); (try clear hx104_1); (try clear hx104_2); (try clear hx104_3); (try clear hx104_4); (try clear p102); (try clear p104); (try clear p2); (try clear q102); (try clear q104); obtain ⟨kq, x28_4, rfl, HA, HJ4, BK101, HB⟩ := hcut
     cases kq with
     | zero => exact absurd HA.out (by simp [oculusref06_Grants.j1])
     | succ kj4 =>
      have H := HA.out; clear HA
      simp only [oculusref06_Grants.j1] at H
      have HC13 := Aside0.mk H; clear H
      go_upto_if 28 with (fail)
      go_cut [6] (fun v6 wc => ∃ (kq : Nat) (x6_12 : Int), v6 = .int .i64 x6_12 ∧ Aside0 (oculusref06_Grants.j2 kq l0 l1 x5_1 x6_12 = some (r1, r2)) ∧ Aside0 (kq ≤ kj4) ∧ Aside0 (wc.heap[gb101]? = some (.cells #[.int .i64 x102000_1, .int .i64 x102001_1] 34 (0, 0))) ∧ Aside0 (Below w.heap.size w wc))
      case first =>
       have H := HC13.out; clear HC13
       by_cases c14 : x28_4 = true
       ·subst c14
        have H1 : (oculusref06_Grants.j2 kj4 l0 l1 x5_1 7) = some (r1, r2) := by rw [if_pos rfl] at H; exact H
        clear H; have H := H1; clear H1
        have H' := Aside0.mk H
        clear H
        go_wp2
        go_meet
        case rel => exact ⟨_, (7), (by first | rfl | (simp; done) | (simp [*]; done)), H', ⟨by have := HK1.out; have := HJ4.out; first | omega | exact Nat.le_refl _⟩, ⟨pkx BK101⟩, ⟨pbx HB⟩⟩
       ·replace c14 := Bool.eq_false_iff.mpr c14; subst c14
        have H1 : (oculusref06_Grants.j2 kj4 l0 l1 x5_1 0) = some (r1, r2) := by rw [if_neg (show ¬ (false = true) by decide)] at H; exact H
        clear H; have H := H1; clear H1
        have H' := Aside0.mk H
        clear H
        go_wp2
        go_meet
        case rel => exact ⟨_, (0), (by first | rfl | (simp; done) | (simp [*]; done)), H', ⟨by have := HK1.out; have := HJ4.out; first | omega | exact Nat.le_refl _⟩, ⟨pkx BK101⟩, ⟨pbx HB⟩⟩
      case rest =>
       clear HC13; (try clear c1); (try clear p1); (try clear q1); (try clear hx1); (try clear p2); (try clear c3); (try clear c4); (try clear c4b0); (try clear c5); (try clear c6); (try clear c6b0); (try clear c8); (try clear p10); (try clear q10); (try clear hx10); (try clear c14); (try clear hx102_0); (try clear hx102_1); (try clear hx102_2); (try clear hx102_3); (try clear hx102_4); (try clear hx104_0); (try clear hx104_1); (try clear hx104_2); (try clear hx104_3); (try clear hx104_4); (try clear p1); (try clear p10); (try clear p102); (try clear p104); (try clear p2); (try clear q1); (try clear q10); (try clear q102); (try clear q104); obtain ⟨kq, x6_12, rfl, HA, HJ12, BK101, HB⟩ := hcut
       cases kq with
       | zero => exact absurd HA.out (by simp [oculusref06_Grants.j2])
       | succ kj12 =>
        have H := HA.out; clear HA
        simp only [oculusref06_Grants.j2] at H
        by_cases c15 : 0 ≤ x5_1
        ·rw [if_pos c15] at H; have c15b0 : decide (0 ≤ x5_1) = true := decide_eq_true c15; clear c15
         by_cases c16 : x5_1 < (l0.length : Int)
         ·rw [if_pos c16] at H; have c16b0 : decide (x5_1 < (l0.length : Int)) = true := decide_eq_true c16; clear c16; replace H := Option.bind_eq_some_iff.mp H; obtain ⟨t107, A170, H⟩ := H
          replace H : (if t107 < 0 then (oculusref06_Grants.j3 kj12 l0 l1 x5_1 11) else (oculusref06_Grants.j3 kj12 l0 l1 x5_1 x6_12)) = some (r1, r2) := H
          have A17 := Aside0.mk A170; clear A170; have HC18 := Aside0.mk H; clear H
          have p106 : 0 ≤ (x5_1 : Int) := of_decide_eq_true (by first | (with_reducible assumption) | assumption)
          have q106 : x5_1 < (l0.length : Int) := of_decide_eq_true (by first | (with_reducible assumption) | assumption)
          obtain ⟨ad106, e106, hx106_0, hx106_1, hx106_2, hx106_3, hx106_4⟩ := at_T67 HR0.out x5_1 p106 q106
          cases e106
          replace hx106_0 := (HB.out.cell (World.block_lt_of_cell? w _ hx106_0)).trans hx106_0; replace hx106_1 := (HB.out.cell (World.block_lt_of_cell? w _ hx106_1)).trans hx106_1; replace hx106_2 := (HB.out.cell (World.block_lt_of_cell? w _ hx106_2)).trans hx106_2; replace hx106_3 := (HB.out.cell (World.block_lt_of_cell? w _ hx106_3)).trans hx106_3; replace hx106_4 := (HB.out.cell (World.block_lt_of_cell? w _ hx106_4)).trans hx106_4; replace p106 := eq_true p106; replace q106 := eq_true q106
          go_upto_if 36 with (first | ((with_reducible refine gate_callee (f:=53) rfl ?_); refine gL_ (some 35) rfl rfl Tryd.func53 rfl #[.slice A1 l1.length c1, .string ((rd_T67 l0 x5_1).f0)] rfl ?_; (with_reducible refine (oculusref06_Find.calls kj12 _ _ l1 ((rd_T67 l0 x5_1).f0) t107 _ ?side1 ?side2 A17.out).mono ?_); (case side1 => repeat (first | exact (Kd.C_below HR1.out HB.out) | (with_reducible refine Kd.C_alloc ?_ _) | (with_reducible refine Kd.C_drewN ?_ _) | (with_reducible refine Kd.C_drew ?_))); (case side2 => exact HC1.out); rintro e w' ⟨rfl, ⟨nd, rfl⟩⟩; refine ⟨_, rfl, ?_⟩))
          (try simp only [q_])
          go_cut [6] (fun v6 wc => ∃ (kq : Nat) (x6_17 : Int), v6 = .int .i64 x6_17 ∧ Aside0 (oculusref06_Grants.j3 kq l0 l1 x5_1 x6_17 = some (r1, r2)) ∧ Aside0 (kq ≤ kj12) ∧ Aside0 (wc.heap[gb101]? = some (.cells #[.int .i64 x102000_1, .int .i64 x102001_1] 34 (0, 0))) ∧ Aside0 (Below w.heap.size w wc))
          case first =>
           have H := HC18.out; clear HC18
           by_cases c19 : t107 < 0
           ·rw [if_pos c19] at H; have c19b0 : decide (t107 < 0) = true := decide_eq_true c19; clear c19; (first | rw [c19b0] | (simp only [i64_w, i32_w]; rw [c19b0]) | skip)
            have H' := Aside0.mk H
            clear H
            go_wp2
            go_meet
            case rel => exact ⟨_, (11), (by first | rfl | (simp; done) | (simp [*]; done)), H', ⟨by have := HK1.out; have := HJ4.out; have := HJ12.out; first | omega | exact Nat.le_refl _⟩, ⟨pkx BK101⟩, ⟨pbx HB⟩⟩
           ·rw [if_neg c19] at H; have c19b0 : decide (t107 < 0) = false := decide_eq_false c19; clear c19; (first | rw [c19b0] | (simp only [i64_w, i32_w]; rw [c19b0]) | skip)
            have H' := Aside0.mk H
            clear H
            go_wp2
            go_meet
            case rel => exact ⟨_, (x6_12), (by first | rfl | (simp; done) | (simp [*]; done)), H', ⟨by have := HK1.out; have := HJ4.out; have := HJ12.out; first | omega | exact Nat.le_refl _⟩, ⟨pkx BK101⟩, ⟨pbx HB⟩⟩
          case rest =>
           clear HC18; (try clear c1); (try clear p1); (try clear q1); (try clear hx1); (try clear p2); (try clear c3); (try clear c4); (try clear c4b0); (try clear c5); (try clear c6); (try clear c6b0); (try clear c8); (try clear p10); (try clear q10); (try clear hx10); (try clear c14); (try clear c15); (try clear c15b0); (try clear c16); (try clear c16b0); (try clear c19); (try clear c19b0); (try clear hx102_0); (try clear hx102_1); (try clear hx102_2); (try clear hx102_3); (try clear hx102_4); (try clear hx104_0); (try clear hx104_1); (try clear hx104_2); (try clear hx104_3); (try clear hx104_4); (try clear hx106_0); (try clear hx106_1); (try clear hx106_2); (try clear hx106_3); (try clear hx106_4); (try clear p1); (try clear p10); (try clear p102); (try clear p104); (try clear p106); (try clear p2); (try clear q1); (try clear q10); (try clear q102); (try clear q104); (try clear q106); obtain ⟨kq, x6_17, rfl, HA, HJ17, BK101, HB⟩ := hcut
           cases kq with
           | zero => exact absurd HA.out (by simp [oculusref06_Grants.j3])
           | succ kj17 =>
            have H := HA.out; clear HA
            simp only [oculusref06_Grants.j3] at H
            by_cases c20 : x5_1 > 31
            ·rw [if_pos c20] at H; have c20b0 : decide (31 < x5_1) = true := decide_eq_true c20; clear c20
             simp only [Option.some.injEq, Prod.mk.injEq] at H
             obtain ⟨rfl, rfl⟩ := H
             have hcz21_0 : wc.cell? ⟨gb101, 0, none⟩ = some (.int .i64 x102000_1) := bc_ BK101 0 rfl
             have hcz21_1 : wc.cell? ⟨gb101, 1, none⟩ = some (.int .i64 x102001_1) := bc_ BK101 1 rfl
             have hfz21_0 := blk_frozen BK101.out 0; have hfz21_1 := blk_frozen BK101.out 1
             go_wp2
             refine bodyPost_ret (results_cell_row rfl _ _ gb101 34 #[.int .i64 x5_1, .int .i64 10] (0, 0) _ rfl (by refine pp_ (cs := #[.int .i64 x5_1, .int .i64 x102001_1]) 1 ?_ rfl; refine blk_put (cs := #[.int .i64 x102000_1, .int .i64 x102001_1]) ?_ 0 _ rfl; exact pkx BK101) Tryd.underlying34 rfl (by kernel_rfl)) rfl ?_
             exact ⟨by first | rfl | (simp [errW_none, errW_some] <;> rfl) | (simp [*, errW_none, errW_some] <;> rfl), by repeat (first | (with_reducible first | exact HB.out | apply below_alloc | apply pw_below_drewN | apply below_drew1 | refine below_set ?_ GE101.out) | exact HB.out)⟩
            ·rw [if_neg c20] at H; have c20b0 : decide (31 < x5_1) = false := decide_eq_false c20; clear c20
             by_cases c22 : x6_17 = 0
             ·rw [if_pos c22] at H; have c22b0 : (x6_17 == 0) = true := beq_iff_eq.mpr c22; have c22b1 : (x6_17 != 0) = false := bne_eq_false_iff_eq.mpr c22; clear c22
              have H' := Aside0.mk H
              clear H
              go_wp2
              go_roundg kj17
              case measure => have := HK1.out; have := HJ4.out; have := HJ12.out; have := HJ17.out; omega
              case rel => exact ⟨(wrap64 (x5_1 + 1)), (x102000_1), (x102001_1), (by first | rfl | (simp; done) | (simp [*]; done)), H', ⟨by have := HK1.out; have := HJ4.out; have := HJ12.out; have := HJ17.out; omega⟩, ⟨pkx BK101⟩, ⟨pbx HB⟩⟩
             ·rw [if_neg c22] at H; have c22b0 : (x6_17 == 0) = false := beq_eq_false_iff_ne.mpr c22; have c22b1 : (x6_17 != 0) = true := bne_iff_ne.mpr c22
              simp only [Option.some.injEq, Prod.mk.injEq] at H
              obtain ⟨rfl, rfl⟩ := H
              have hcz23_0 : wc.cell? ⟨gb101, 0, none⟩ = some (.int .i64 x102000_1) := bc_ BK101 0 rfl
              have hcz23_1 : wc.cell? ⟨gb101, 1, none⟩ = some (.int .i64 x102001_1) := bc_ BK101 1 rfl
              have hfz23_0 := blk_frozen BK101.out 0; have hfz23_1 := blk_frozen BK101.out 1
              go_wp2
              refine bodyPost_ret (results_cell_row rfl _ _ gb101 34 #[.int .i64 x5_1, .int .i64 x6_17] (0, 0) _ rfl (by refine pp_ (cs := #[.int .i64 x5_1, .int .i64 x102001_1]) 1 ?_ rfl; refine blk_put (cs := #[.int .i64 x102000_1, .int .i64 x102001_1]) ?_ 0 _ rfl; exact pkx BK101) Tryd.underlying34 rfl (by kernel_rfl)) rfl ?_
              exact ⟨by first | rfl | (simp [errW_none, errW_some] <;> rfl) | (simp [*, errW_none, errW_some] <;> rfl), by repeat (first | (with_reducible first | exact HB.out | apply below_alloc | apply pw_below_drewN | apply below_drew1 | refine below_set ?_ GE101.out) | exact HB.out)⟩
         ·rw [if_neg c16] at H
          exact absurd H (by simp)
        ·rw [if_neg c15] at H
         exact absurd H (by simp)
   ·rw [if_neg c4] at H; have c4b0 : decide (x5_1 < (l0.length : Int)) = false := decide_eq_false c4; clear c4
    simp only [Option.some.injEq, Prod.mk.injEq] at H
    obtain ⟨rfl, rfl⟩ := H
    have hcz24_0 : wr.cell? ⟨gb101, 0, none⟩ = some (.int .i64 x102000_1) := bc_ BK101 0 rfl
    have hcz24_1 : wr.cell? ⟨gb101, 1, none⟩ = some (.int .i64 x102001_1) := bc_ BK101 1 rfl
    have hfz24_0 := blk_frozen BK101.out 0; have hfz24_1 := blk_frozen BK101.out 1
    go_wp2
    refine bodyPost_ret (results_cell_row rfl _ _ gb101 34 #[.int .i64 0, .int .i64 0] (0, 0) _ rfl (by refine pp_ (cs := #[.int .i64 0, .int .i64 x102001_1]) 1 ?_ rfl; refine blk_put (cs := #[.int .i64 x102000_1, .int .i64 x102001_1]) ?_ 0 _ rfl; exact pkx BK101) Tryd.underlying34 rfl (by kernel_rfl)) rfl ?_
    exact ⟨by first | rfl | (simp [errW_none, errW_some] <;> rfl) | (simp [*, errW_none, errW_some] <;> rfl), by repeat (first | (with_reducible first | exact HB.out | apply below_alloc | apply pw_below_drewN | apply below_drew1 | refine below_set ?_ GE101.out) | exact HB.out)⟩

def oculusref07_Wrong.j0 : Nat → Bool → Int → Int → List (S61) → List (S65) → List (S67) → Option (Int × Int)
 | 0, _, _, _, _, _, _ => none
 | k + 1, x31, x102000, x102001, x102002, x102003, x102004 => if x31 = true then (some (1, 2)) else ((oculusref05_Wrong.f k x102002 x102000 x102001).bind fun bt103 => ((oculusref06_Users.f k x102003).bind fun bt106 => ((oculusref06_Grants.f k x102004 x102003).bind fun bt109 => (if bt103.2 = 0 then (if bt106.2 = 0 then (if bt109.2 = 0 then (some (0, 0)) else (some (wrap64 ((wrap64 ((wrap64 (2 + (x102002.length : Int))) + (x102003.length : Int))) + bt109.1), bt109.2))) else (some (wrap64 ((wrap64 (2 + (x102002.length : Int))) + bt106.1), bt106.2))) else (some (wrap64 (2 + bt103.1), bt103.2))))))
def oculusref07_Wrong.f (k : Nat) (a0_0 : Int) (a0_1 : Int) (l0_2 : List (S61)) (l0_3 : List (S65)) (l0_4 : List (S67)) : Option (Int × Int) := if a0_0 < 1 then (oculusref07_Wrong.j0 k true a0_0 a0_1 l0_2 l0_3 l0_4) else (if a0_0 > 999 then (oculusref07_Wrong.j0 k true a0_0 a0_1 l0_2 l0_3 l0_4) else (if a0_1 < 1 then (oculusref07_Wrong.j0 k true a0_0 a0_1 l0_2 l0_3 l0_4) else (if a0_1 > 702 then (oculusref07_Wrong.j0 k true a0_0 a0_1 l0_2 l0_3 l0_4) else (oculusref07_Wrong.j0 k (decide ((wrap64 (a0_0 * a0_1)) > 400)) a0_0 a0_1 l0_2 l0_3 l0_4))))
set_option maxHeartbeats 8000000 in
set_option maxRecDepth 100000 in
theorem oculusref07_Wrong.calls (k : Nat) (a0_0 : Int) (a0_1 : Int) (A0_2 : Option Addr) (c0_2 : Nat) (l0_2 : List (S61)) (A0_3 : Option Addr) (c0_3 : Nat) (l0_3 : List (S65)) (A0_4 : Option Addr) (c0_4 : Nat) (l0_4 : List (S67)) (r1 : Int) (r2 : Int) (w : World) (hr0_2 : Kd.C k61 w A0_2 l0_2.length l0_2) (hc0_2 : l0_2.length ≤ c0_2) (hr0_3 : Kd.C k65 w A0_3 l0_3.length l0_3) (hc0_3 : l0_3.length ≤ c0_3) (hr0_4 : Kd.C k67 w A0_4 l0_4.length l0_4) (hc0_4 : l0_4.length ≤ c0_4) (h : oculusref07_Wrong.f k a0_0 a0_1 l0_2 l0_3 l0_4 = some (r1, r2)) :
  Calls Tryd.prog 10 #[.agg #[.int .i64 a0_0, .int .i64 a0_1, .slice A0_2 l0_2.length c0_2, .slice A0_3 l0_3.length c0_3, .slice A0_4 l0_4.length c0_4]] w fun e w' => e = .returned (.agg #[.int .i64 r1, .int .i64 r2]) ∧ Below w.heap.size w w' := by
 have hu26 := Tryd.underlying26; have hu34 := Tryd.underlying34; have HR0_2 := Aside0.mk hr0_2; have HC0_2 := Aside0.mk hc0_2; clear hr0_2 hc0_2; have HR0_3 := Aside0.mk hr0_3; have HC0_3 := Aside0.mk hc0_3; clear hr0_3 hc0_3; have HR0_4 := Aside0.mk hr0_4; have HC0_4 := Aside0.mk hc0_4; clear hr0_4 hc0_4; have HB := Aside0.mk (Below.refl w.heap.size w)
 have H : (if a0_0 < 1 then (oculusref07_Wrong.j0 k true a0_0 a0_1 l0_2 l0_3 l0_4) else (if a0_0 > 999 then (oculusref07_Wrong.j0 k true a0_0 a0_1 l0_2 l0_3 l0_4) else (if a0_1 < 1 then (oculusref07_Wrong.j0 k true a0_0 a0_1 l0_2 l0_3 l0_4) else (if a0_1 > 702 then (oculusref07_Wrong.j0 k true a0_0 a0_1 l0_2 l0_3 l0_4) else (oculusref07_Wrong.j0 k (decide ((wrap64 (a0_0 * a0_1)) > 400)) a0_0 a0_1 l0_2 l0_3 l0_4))))) = some (r1, r2) := h
 clear h; have HC2 := Aside0.mk H; clear H
 go_enter Tryd.func10, Tryd.ntmps10
 go_upto_region 1 with (first | ((with_reducible refine gate_dst (N:=1) rfl ?_); refine be_ (N:=1) (cs := #[.int .i64 a0_0, .int .i64 a0_1, .slice A0_2 l0_2.length c0_2, .slice A0_3 l0_3.length c0_3, .slice A0_4 l0_4.length c0_4]) (t:=26) ?_; intro gb101 hg w3 hbox hb; have BK101 := Aside0.mk (hbox); have GW101 := hs_ HB hg; have GE101 := hs_ HB hg; replace HB := bs_ HB hb; clear hb hbox hg) | ((with_reducible refine gate_dst (N:=2) rfl ?_); refine be_ (N:=2) (cs := #[.int .i64 0, .int .i64 0]) (t:=34) ?_; intro gb102 hg w4 hbox hb; have BK102 := Aside0.mk (hbox); have GW102 := hs_ HB hg; have GE102 := hs_ HB hg; have NB101_102 := hl_ BK101 hg; have NB102_101 := hr_ BK101 hg; replace BK101 := bb_ BK101 hb; replace HB := bs_ HB hb; clear hb hbox hg))
 (try simp only [q_])
 go_cut [31] (fun v31 wc => ∃ (kq : Nat) (x31_1 : Bool), v31 = .bool x31_1 ∧ Aside0 (oculusref07_Wrong.j0 kq x31_1 a0_0 a0_1 l0_2 l0_3 l0_4 = some (r1, r2)) ∧ Aside0 (kq ≤ k) ∧ Aside0 (wc.heap[gb101]? = some (.cells #[.int .i64 a0_0, .int .i64 a0_1, (.slice A0_2 l0_2.length c0_2), (.slice A0_3 l0_3.length c0_3), (.slice A0_4 l0_4.length c0_4)] 26 (0, 0))) ∧ Aside0 (wc.heap[gb102]? = some (.cells #[.int .i64 0, .int .i64 0] 34 (0, 0))) ∧ Aside0 (Below w.heap.size w wc))
 case first =>
  have H := HC2.out; clear HC2
  by_cases c5 : a0_0 < 1
  ·rw [if_pos c5] at H; have c5b0 : decide (a0_0 < 1) = true := decide_eq_true c5; clear c5; (first | rw [c5b0] | (simp only [i64_w, i32_w]; rw [c5b0]) | skip)
   have H' := Aside0.mk H
   clear H; have hnb6 := NB101_102.out; have hnc6 := NB102_101.out
   have hcz7_0 : w4.cell? ⟨gb101, 0, none⟩ = some (.int .i64 a0_0) := bc_ BK101 0 rfl
   have hcz7_1 : w4.cell? ⟨gb101, 1, none⟩ = some (.int .i64 a0_1) := bc_ BK101 1 rfl
   have hcz7_2 : w4.cell? ⟨gb101, 2, none⟩ = some (.slice A0_2 l0_2.length c0_2) := bc_ BK101 2 rfl
   have hcz7_3 : w4.cell? ⟨gb101, 3, none⟩ = some (.slice A0_3 l0_3.length c0_3) := bc_ BK101 3 rfl
   have hcz7_4 : w4.cell? ⟨gb101, 4, none⟩ = some (.slice A0_4 l0_4.length c0_4) := bc_ BK101 4 rfl
   have hfz7_0 := blk_frozen BK101.out 0; have hfz7_1 := blk_frozen BK101.out 1; have hfz7_2 := blk_frozen BK101.out 2; have hfz7_3 := blk_frozen BK101.out 3; have hfz7_4 := blk_frozen BK101.out 4
   go_wp2
   go_meet
   case rel => exact ⟨_, (true), (by first | rfl | (simp; done) | (simp [*]; done)), H', ⟨by first | omega | exact Nat.le_refl _⟩, ⟨pkx BK101⟩, ⟨pkx BK102⟩, ⟨pbx HB⟩⟩
  ·rw [if_neg c5] at H; have c5b0 : decide (a0_0 < 1) = false := decide_eq_false c5; clear c5; (first | rw [c5b0] | (simp only [i64_w, i32_w]; rw [c5b0]) | skip)
   by_cases c8 : a0_0 > 999
   ·rw [if_pos c8] at H; have c8b0 : decide (999 < a0_0) = true := decide_eq_true c8; clear c8
    have H' := Aside0.mk H
    clear H; have hnb9 := NB101_102.out; have hnc9 := NB102_101.out
    have hcz10_0 : w4.cell? ⟨gb101, 0, none⟩ = some (.int .i64 a0_0) := bc_ BK101 0 rfl
    have hcz10_1 : w4.cell? ⟨gb101, 1, none⟩ = some (.int .i64 a0_1) := bc_ BK101 1 rfl
    have hcz10_2 : w4.cell? ⟨gb101, 2, none⟩ = some (.slice A0_2 l0_2.length c0_2) := bc_ BK101 2 rfl
    have hcz10_3 : w4.cell? ⟨gb101, 3, none⟩ = some (.slice A0_3 l0_3.length c0_3) := bc_ BK101 3 rfl
    have hcz10_4 : w4.cell? ⟨gb101, 4, none⟩ = some (.slice A0_4 l0_4.length c0_4) := bc_ BK101 4 rfl
    have hfz10_0 := blk_frozen BK101.out 0; have hfz10_1 := blk_frozen BK101.out 1; have hfz10_2 := blk_frozen BK101.out 2; have hfz10_3 := blk_frozen BK101.out 3; have hfz10_4 := blk_frozen BK101.out 4
    go_wp2
    go_meet
    case rel => exact ⟨_, (true), (by first | rfl | (simp; done) | (simp [*]; done)), H', ⟨by first | omega | exact Nat.le_refl _⟩, ⟨pkx BK101⟩, ⟨pkx BK102⟩, ⟨pbx HB⟩⟩
   ·rw [if_neg c8] at H; have c8b0 : decide (999 < a0_0) = false := decide_eq_false c8; clear c8
    by_cases c11 : a0_1 < 1
    ·rw [if_pos c11] at H; have c11b0 : decide (a0_1 < 1) = true := decide_eq_true c11; clear c11
     have H' := Aside0.mk H
     clear H; have hnb12 := NB101_102.out; have hnc12 := NB102_101.out
     have hcz13_0 : w4.cell? ⟨gb101, 0, none⟩ = some (.int .i64 a0_0) := bc_ BK101 0 rfl
     have hcz13_1 : w4.cell? ⟨gb101, 1, none⟩ = some (.int .i64 a0_1) := bc_ BK101 1 rfl
     have hcz13_2 : w4.cell? ⟨gb101, 2, none⟩ = some (.slice A0_2 l0_2.length c0_2) := bc_ BK101 2 rfl
     have hcz13_3 : w4.cell? ⟨gb101, 3, none⟩ = some (.slice A0_3 l0_3.length c0_3) := bc_ BK101 3 rfl
     have hcz13_4 : w4.cell? ⟨gb101, 4, none⟩ = some (.slice A0_4 l0_4.length c0_4) := bc_ BK101 4 rfl
     have hfz13_0 := blk_frozen BK101.out 0; have hfz13_1 := blk_frozen BK101.out 1; have hfz13_2 := blk_frozen BK101.out 2; have hfz13_3 := blk_frozen BK101.out 3; have hfz13_4 := blk_frozen BK101.out 4
     go_wp2
     go_meet
     case rel => exact ⟨_, (true), (by first | rfl | (simp; done) | (simp [*]; done)), H', ⟨by first | omega | exact Nat.le_refl _⟩, ⟨pkx BK101⟩, ⟨pkx BK102⟩, ⟨pbx HB⟩⟩
    ·rw [if_neg c11] at H; have c11b0 : decide (a0_1 < 1) = false := decide_eq_false c11; clear c11
     by_cases c14 : a0_1 > 702
     ·rw [if_pos c14] at H; have c14b0 : decide (702 < a0_1) = true := decide_eq_true c14; clear c14
      have H' := Aside0.mk H
      clear H; have hnb15 := NB101_102.out; have hnc15 := NB102_101.out
      have hcz16_0 : w4.cell? ⟨gb101, 0, none⟩ = some (.int .i64 a0_0) := bc_ BK101 0 rfl
      have hcz16_1 : w4.cell? ⟨gb101, 1, none⟩ = some (.int .i64 a0_1) := bc_ BK101 1 rfl
      have hcz16_2 : w4.cell? ⟨gb101, 2, none⟩ = some (.slice A0_2 l0_2.length c0_2) := bc_ BK101 2 rfl
      have hcz16_3 : w4.cell? ⟨gb101, 3, none⟩ = some (.slice A0_3 l0_3.length c0_3) := bc_ BK101 3 rfl
      have hcz16_4 : w4.cell? ⟨gb101, 4, none⟩ = some (.slice A0_4 l0_4.length c0_4) := bc_ BK101 4 rfl
      have hfz16_0 := blk_frozen BK101.out 0; have hfz16_1 := blk_frozen BK101.out 1; have hfz16_2 := blk_frozen BK101.out 2; have hfz16_3 := blk_frozen BK101.out 3; have hfz16_4 := blk_frozen BK101.out 4
      go_wp2
      go_meet
      case rel => exact ⟨_, (true), (by first | rfl | (simp; done) | (simp [*]; done)), H', ⟨by first | omega | exact Nat.le_refl _⟩, ⟨pkx BK101⟩, ⟨pkx BK102⟩, ⟨pbx HB⟩⟩
     ·rw [if_neg c14] at H; have c14b0 : decide (702 < a0_1) = false := decide_eq_false c14; clear c14
      have H' := Aside0.mk H
      clear H; have hnb17 := NB101_102.out; have hnc17 := NB102_101.out
      have hcz18_0 : w4.cell? ⟨gb101, 0, none⟩ = some (.int .i64 a0_0) := bc_ BK101 0 rfl
      have hcz18_1 : w4.cell? ⟨gb101, 1, none⟩ = some (.int .i64 a0_1) := bc_ BK101 1 rfl
      have hcz18_2 : w4.cell? ⟨gb101, 2, none⟩ = some (.slice A0_2 l0_2.length c0_2) := bc_ BK101 2 rfl
      have hcz18_3 : w4.cell? ⟨gb101, 3, none⟩ = some (.slice A0_3 l0_3.length c0_3) := bc_ BK101 3 rfl
      have hcz18_4 : w4.cell? ⟨gb101, 4, none⟩ = some (.slice A0_4 l0_4.length c0_4) := bc_ BK101 4 rfl
      have hfz18_0 := blk_frozen BK101.out 0; have hfz18_1 := blk_frozen BK101.out 1; have hfz18_2 := blk_frozen BK101.out 2; have hfz18_3 := blk_frozen BK101.out 3; have hfz18_4 := blk_frozen BK101.out 4
      go_wp2
      go_meet
      case rel => exact ⟨_, (decide ((wrap64 (a0_0 * a0_1)) > 400)), (by first | rfl | (simp; done) | (simp [*]; done)), H', ⟨by first | omega | exact Nat.le_refl _⟩, ⟨pkx BK101⟩, ⟨pkx BK102⟩, ⟨pbx HB⟩⟩
 case rest =>
  clear HC2; (try clear c1); (try clear p2); (try clear c5); (try clear c5b0); (try clear c6); (try clear p6); (try clear c8); (try clear c8b0); (try clear c9); (try clear c10); (try clear c11); (try clear c11b0); (try clear c12); (try clear c14); (try clear c14b0); (try clear c15); (try clear c17); (try clear hcz10_0); (try clear hcz10_1); (try clear hcz10_2); (try clear hcz10_3); (try clear hcz10_4); (try clear hcz13_0); (try clear hcz13_1); (try clear hcz13_2); (try clear hcz13_3); (try clear hcz13_4); (try clear hcz16_0); (try clear hcz16_1); (try clear hcz16_2); (try clear hcz16_3); (try clear hcz16_4); (try clear hcz18_0); (try clear hcz18_1); (try clear hcz18_2); (try clear hcz18_3); (try clear hcz18_4); (try clear hcz7_0); (try clear hcz7_1); (try clear hcz7_2); (try clear hcz7_3); (try clear hcz7_4); (try clear hfz10_0); (try clear hfz10_1); (try clear hfz10_2); (try clear hfz10_3)
  (try clear hfz10_4); (try clear hfz13_0); (try clear hfz13_1); (try clear hfz13_2); (try clear hfz13_3); (try clear hfz13_4); (try clear hfz16_0); (try clear hfz16_1); (try clear hfz16_2); (try clear hfz16_3); (try clear hfz16_4); (try clear hfz18_0); (try clear hfz18_1); (try clear hfz18_2); (try clear hfz18_3); (try clear hfz18_4); (try clear hfz7_0); (try clear hfz7_1); (try clear hfz7_2); (try clear hfz7_3); (try clear hfz7_4); obtain ⟨kq, x31_1, rfl, HA, HJ1, BK101, BK102, HB⟩ := hcut
  cases kq with
  | zero => exact absurd HA.out (by simp [oculusref07_Wrong.j0])
  | succ kj1 =>
   have H := HA.out; clear HA
   simp only [oculusref07_Wrong.j0] at H
   by_cases c19 : x31_1 = true
   ·subst c19
    have H1 : (some (1, 2)) = some (r1, r2) := by rw [if_pos rfl] at H; exact H
    clear H; have H := H1; clear H1
    simp only [Option.some.injEq, Prod.mk.injEq] at H
    obtain ⟨rfl, rfl⟩ := H; have hnb20 := NB102_101.out; have hnc20 := NB101_102.out
    have hcz21_0 : wc.cell? ⟨gb102, 0, none⟩ = some (.int .i64 0) := bc_ BK102 0 rfl
    have hcz21_1 : wc.cell? ⟨gb102, 1, none⟩ = some (.int .i64 0) := bc_ BK102 1 rfl
    have hfz21_0 := blk_frozen BK102.out 0; have hfz21_1 := blk_frozen BK102.out 1
    go_wp2
    refine bodyPost_ret (results_cell_row rfl _ _ gb102 34 #[.int .i64 1, .int .i64 2] (0, 0) _ rfl (by refine pp_ (cs := #[.int .i64 1, .int .i64 0]) 1 ?_ rfl; refine blk_put (cs := #[.int .i64 0, .int .i64 0]) ?_ 0 _ rfl; exact pkx BK102) Tryd.underlying34 rfl (by kernel_rfl)) rfl ?_
    exact ⟨by first | rfl | (simp [errW_none, errW_some] <;> rfl) | (simp [*, errW_none, errW_some] <;> rfl), by repeat (first | (with_reducible first | exact HB.out | apply below_alloc | apply pw_below_drewN | apply below_drew1 | refine below_set ?_ GE101.out | refine below_set ?_ GE102.out) | exact HB.out)⟩
   ·replace c19 := Bool.eq_false_iff.mpr c19; subst c19
    have H1 : ((oculusref05_Wrong.f kj1 l0_2 a0_0 a0_1).bind fun bt103 => ((oculusref06_Users.f kj1 l0_3).bind fun bt106 => ((oculusref06_Grants.f kj1 l0_4 l0_3).bind fun bt109 => (if bt103.2 = 0 then (if bt106.2 = 0 then (if bt109.2 = 0 then (some (0, 0)) else (some (wrap64 ((wrap64 ((wrap64 (2 + (l0_2.length : Int))) + (l0_3.length : Int))) + bt109.1), bt109.2))) else (some (wrap64 ((wrap64 (2 + (l0_2.length : Int))) + bt106.1), bt106.2))) else (some (wrap64 (2 + bt103.1), bt103.2)))))) = some (r1, r2) := by rw [if_neg (show ¬ (false = true) by decide)] at H; exact H
    clear H; have H := H1; clear H1; replace H := Option.bind_eq_some_iff.mp H; obtain ⟨⟨t103, t104⟩, A220, H⟩ := H
    replace H : ((oculusref06_Users.f kj1 l0_3).bind fun bt106 => ((oculusref06_Grants.f kj1 l0_4 l0_3).bind fun bt109 => (if t104 = 0 then (if bt106.2 = 0 then (if bt109.2 = 0 then (some (0, 0)) else (some (wrap64 ((wrap64 ((wrap64 (2 + (l0_2.length : Int))) + (l0_3.length : Int))) + bt109.1), bt109.2))) else (some (wrap64 ((wrap64 (2 + (l0_2.length : Int))) + bt106.1), bt106.2))) else (some (wrap64 (2 + t103), t104))))) = some (r1, r2) := H
    have A22 := Aside0.mk A220; clear A220; replace H := Option.bind_eq_some_iff.mp H; obtain ⟨⟨t106, t107⟩, A230, H⟩ := H
    replace H : ((oculusref06_Grants.f kj1 l0_4 l0_3).bind fun bt109 => (if t104 = 0 then (if t107 = 0 then (if bt109.2 = 0 then (some (0, 0)) else (some (wrap64 ((wrap64 ((wrap64 (2 + (l0_2.length : Int))) + (l0_3.length : Int))) + bt109.1), bt109.2))) else (some (wrap64 ((wrap64 (2 + (l0_2.length : Int))) + t106), t107))) else (some (wrap64 (2 + t103), t104)))) = some (r1, r2) := H
    have A23 := Aside0.mk A230; clear A230; replace H := Option.bind_eq_some_iff.mp H; obtain ⟨⟨t109, t110⟩, A240, H⟩ := H
    replace H : (if t104 = 0 then (if t107 = 0 then (if t110 = 0 then (some (0, 0)) else (some (wrap64 ((wrap64 ((wrap64 (2 + (l0_2.length : Int))) + (l0_3.length : Int))) + t109), t110))) else (some (wrap64 ((wrap64 (2 + (l0_2.length : Int))) + t106), t107))) else (some (wrap64 (2 + t103), t104))) = some (r1, r2) := H
    have A24 := Aside0.mk A240; clear A240
    by_cases c25 : t104 = 0
    ·rw [if_pos c25] at H; have c25b0 : (t104 == 0) = true := beq_iff_eq.mpr c25; have c25b1 : (t104 != 0) = false := bne_eq_false_iff_eq.mpr c25; clear c25
     by_cases c26 : t107 = 0
     ·rw [if_pos c26] at H; have c26b0 : (t107 == 0) = true := beq_iff_eq.mpr c26; have c26b1 : (t107 != 0) = false := bne_eq_false_iff_eq.mpr c26; clear c26
      by_cases c27 : t110 = 0
      ·rw [if_pos c27] at H; have c27b0 : (t110 == 0) = true := beq_iff_eq.mpr c27; have c27b1 : (t110 != 0) = false := bne_eq_false_iff_eq.mpr c27; clear c27
       simp only [Option.some.injEq, Prod.mk.injEq] at H
       obtain ⟨rfl, rfl⟩ := H; have hnb28 := NB101_102.out; have hnc28 := NB102_101.out
       have hcz29_0 : wc.cell? ⟨gb101, 0, none⟩ = some (.int .i64 a0_0) := bc_ BK101 0 rfl
       have hcz29_1 : wc.cell? ⟨gb101, 1, none⟩ = some (.int .i64 a0_1) := bc_ BK101 1 rfl
       have hcz29_2 : wc.cell? ⟨gb101, 2, none⟩ = some (.slice A0_2 l0_2.length c0_2) := bc_ BK101 2 rfl
       have hcz29_3 : wc.cell? ⟨gb101, 3, none⟩ = some (.slice A0_3 l0_3.length c0_3) := bc_ BK101 3 rfl
       have hcz29_4 : wc.cell? ⟨gb101, 4, none⟩ = some (.slice A0_4 l0_4.length c0_4) := bc_ BK101 4 rfl
       have hfz29_0 := blk_frozen BK101.out 0; have hfz29_1 := blk_frozen BK101.out 1; have hfz29_2 := blk_frozen BK101.out 2; have hfz29_3 := blk_frozen BK101.out 3; have hfz29_4 := blk_frozen BK101.out 4
       go_wp2_with (first | ((with_reducible refine gate_callee (f:=29) rfl ?_); refine gL_ (some 39) rfl rfl Tryd.func29 rfl #[.slice A0_2 l0_2.length c0_2, .int .i64 a0_0, .int .i64 a0_1] rfl ?_; (with_reducible refine (oculusref05_Wrong.calls kj1 _ _ l0_2 a0_0 a0_1 t103 t104 _ ?side1 ?side2 A22.out).mono ?_); (case side1 => repeat (first | exact (Kd.C_below HR0_2.out HB.out) | (with_reducible refine Kd.C_alloc ?_ _) | (with_reducible refine Kd.C_drewN ?_ _) | (with_reducible refine Kd.C_drew ?_))); (case side2 => exact HC0_2.out); rintro e w30 ⟨rfl, hb⟩; refine ⟨_, rfl, ?_⟩; replace BK101 := bb_ BK101 hb; replace BK102 := bb_ BK102 hb; replace HB := bs_ HB hb; (try clear hb); (try clear hb2); (try clear hk); (try clear hi)) | ((with_reducible refine gate_dst (N:=3) rfl ?_); refine be_ (N:=3) (cs := #[.int .i64 0, .int .i64 0]) (t:=34) ?_; intro gb105 hg w31 hbox hb; have BK105 := Aside0.mk (hbox); have GW105 := hs_ HB hg; have GE105 := hs_ HB hg; have NB101_105 := hl_ BK101 hg; have NB105_101 := hr_ BK101 hg; have NB102_105 := hl_ BK102 hg; have NB105_102 := hr_ BK102 hg; replace BK101 := bb_ BK101 hb; replace BK102 := bb_ BK102 hb; replace HB := bs_ HB hb; clear hb hbox hg; have hnb32 := NB105_101.out; have hnc32 := NB101_105.out; have hnb33 := NB105_102.out; have hnc33 := NB102_105.out; have hcz34_0 : w31.cell? ⟨gb105, 0, none⟩ = some (.int .i64 0) := bc_ BK105 0 rfl; have hcz34_1 : w31.cell? ⟨gb105, 1, none⟩ = some (.int .i64 0) := bc_ BK105 1 rfl; have hfz34_0 := blk_frozen BK105.out 0; have hfz34_1 := blk_frozen BK105.out 1; have hcz35_0 : w31.cell? ⟨gb101, 0, none⟩ = some (.int .i64 a0_0) := bc_ BK101 0 rfl; have hcz35_1 : w31.cell? ⟨gb101, 1, none⟩ = some (.int .i64 a0_1) := bc_ BK101 1 rfl; have hcz35_2 : w31.cell? ⟨gb101, 2, none⟩ = some (.slice A0_2 l0_2.length c0_2) := bc_ BK101 2 rfl; have hcz35_3 : w31.cell? ⟨gb101, 3, none⟩ = some (.slice A0_3 l0_3.length c0_3) := bc_ BK101 3 rfl; have hcz35_4 : w31.cell? ⟨gb101, 4, none⟩ = some (.slice A0_4 l0_4.length c0_4) := bc_ BK101 4 rfl; have hfz35_0 := blk_frozen BK101.out 0; have hfz35_1 := blk_frozen BK101.out 1; have hfz35_2 := blk_frozen BK101.out 2; have hfz35_3 := blk_frozen BK101.out 3; have hfz35_4 := blk_frozen BK101.out 4) | ((with_reducible refine gate_callee (f:=30) rfl ?_); refine gL_ (some 42) rfl rfl Tryd.func30 rfl #[.slice A0_3 l0_3.length c0_3] rfl ?_; (with_reducible refine (oculusref06_Users.calls kj1 _ _ l0_3 t106 t107 _ ?side1 ?side2 A23.out).mono ?_); (case side1 => exact Kd.C_below HR0_3.out (by repeat (first | (with_reducible first | exact HB.out | apply below_alloc | apply pw_below_drewN | apply below_drew1 | refine below_set ?_ GE101.out | refine below_set ?_ GE102.out | refine below_set ?_ GE105.out) | exact HB.out))); (case side2 => exact HC0_3.out); rintro e w36 ⟨rfl, hb⟩; refine ⟨_, rfl, ?_⟩; replace BK101 := Aside0.mk (blk_below (g:=gb101) (o := .cells #[.int .i64 a0_0, .int .i64 a0_1, .slice A0_2 l0_2.length c0_2, .slice A0_3 l0_3.length c0_3, .slice A0_4 l0_4.length c0_4] 26 (0, 0)) (by refine pf_ ?_ NB101_105.out; refine blk_far ?_ NB101_105.out _; exact pkx BK101) hb); replace BK102 := Aside0.mk (blk_below (g:=gb102) (o := .cells #[.int .i64 0, .int .i64 0] 34 (0, 0)) (by refine pf_ ?_ NB102_105.out; refine blk_far ?_ NB102_105.out _; exact pkx BK102) hb); replace BK105 := Aside0.mk (blk_below (g:=gb105) (o := .cells #[.int .i64 t103, .int .i64 t104] 34 (0, 0)) (by refine pp_ (cs := #[.int .i64 t103, .int .i64 0]) 1 ?_ rfl; refine blk_put (cs := #[.int .i64 0, .int .i64 0]) ?_ 0 _ rfl; exact pkx BK105) hb); replace HB := Aside0.mk (below_step (by repeat (first | (with_reducible first | exact HB.out | apply below_alloc | apply pw_below_drewN | apply below_drew1 | refine below_set ?_ GE101.out | refine below_set ?_ GE102.out | refine below_set ?_ GE105.out) | exact HB.out)) hb); (try clear hb); (try clear hb2); (try clear hk); (try clear hi)) | ((with_reducible refine gate_dst (N:=4) rfl ?_); refine be_ (N:=4) (cs := #[.int .i64 0, .int .i64 0]) (t:=34) ?_; intro gb108 hg w37 hbox hb; have BK108 := Aside0.mk (hbox); have GW108 := hs_ HB hg; have GE108 := hs_ HB hg; have NB101_108 := hl_ BK101 hg; have NB108_101 := hr_ BK101 hg; have NB102_108 := hl_ BK102 hg; have NB108_102 := hr_ BK102 hg; have NB105_108 := hl_ BK105 hg; have NB108_105 := hr_ BK105 hg; replace BK101 := bb_ BK101 hb; replace BK102 := bb_ BK102 hb; replace BK105 := bb_ BK105 hb; replace HB := bs_ HB hb; clear hb hbox hg; have hnb38 := NB108_101.out; have hnc38 := NB101_108.out; have hnb39 := NB108_102.out; have hnc39 := NB102_108.out; have hnb40 := NB108_105.out; have hnc40 := NB105_108.out; have hcz41_0 : w37.cell? ⟨gb108, 0, none⟩ = some (.int .i64 0) := bc_ BK108 0 rfl; have hcz41_1 : w37.cell? ⟨gb108, 1, none⟩ = some (.int .i64 0) := bc_ BK108 1 rfl; have hfz41_0 := blk_frozen BK108.out 0; have hfz41_1 := blk_frozen BK108.out 1; have hcz42_0 : w37.cell? ⟨gb101, 0, none⟩ = some (.int .i64 a0_0) := bc_ BK101 0 rfl; have hcz42_1 : w37.cell? ⟨gb101, 1, none⟩ = some (.int .i64 a0_1) := bc_ BK101 1 rfl; have hcz42_2 : w37.cell? ⟨gb101, 2, none⟩ = some (.slice A0_2 l0_2.length c0_2) := bc_ BK101 2 rfl; have hcz42_3 : w37.cell? ⟨gb101, 3, none⟩ = some (.slice A0_3 l0_3.length c0_3) := bc_ BK101 3 rfl; have hcz42_4 : w37.cell? ⟨gb101, 4, none⟩ = some (.slice A0_4 l0_4.length c0_4) := bc_ BK101 4 rfl; have hfz42_0 := blk_frozen BK101.out 0; have hfz42_1 := blk_frozen BK101.out 1; have hfz42_2 := blk_frozen BK101.out 2; have hfz42_3 := blk_frozen BK101.out 3; have hfz42_4 := blk_frozen BK101.out 4) | ((with_reducible refine gate_callee (f:=31) rfl ?_); refine gL_ (some 47) rfl rfl Tryd.func31 rfl #[.slice A0_4 l0_4.length c0_4, .slice A0_3 l0_3.length c0_3] rfl ?_; (with_reducible refine (oculusref06_Grants.calls kj1 _ _ l0_4 _ _ l0_3 t109 t110 _ ?side1 ?side2 ?side3 ?side4 A24.out).mono ?_); (case side1 => exact Kd.C_below HR0_4.out (by repeat (first | (with_reducible first | exact HB.out | apply below_alloc | apply pw_below_drewN | apply below_drew1 | refine below_set ?_ GE101.out | refine below_set ?_ GE102.out | refine below_set ?_ GE105.out | refine below_set ?_ GE108.out) | exact HB.out))); (case side2 => exact HC0_4.out); (case side3 => exact Kd.C_below HR0_3.out (by repeat (first | (with_reducible first | exact HB.out | apply below_alloc | apply pw_below_drewN | apply below_drew1 | refine below_set ?_ GE101.out | refine below_set ?_ GE102.out | refine below_set ?_ GE105.out | refine below_set ?_ GE108.out) | exact HB.out))); (case side4 => exact HC0_3.out); rintro e w43 ⟨rfl, hb⟩; refine ⟨_, rfl, ?_⟩; replace BK101 := Aside0.mk (blk_below (g:=gb101) (o := .cells #[.int .i64 a0_0, .int .i64 a0_1, .slice A0_2 l0_2.length c0_2, .slice A0_3 l0_3.length c0_3, .slice A0_4 l0_4.length c0_4] 26 (0, 0)) (by refine pf_ ?_ NB101_108.out; refine blk_far ?_ NB101_108.out _; exact pkx BK101) hb); replace BK102 := Aside0.mk (blk_below (g:=gb102) (o := .cells #[.int .i64 0, .int .i64 0] 34 (0, 0)) (by refine pf_ ?_ NB102_108.out; refine blk_far ?_ NB102_108.out _; exact pkx BK102) hb); replace BK105 := Aside0.mk (blk_below (g:=gb105) (o := .cells #[.int .i64 t103, .int .i64 t104] 34 (0, 0)) (by refine pf_ ?_ NB105_108.out; refine blk_far ?_ NB105_108.out _; exact pkx BK105) hb); replace BK108 := Aside0.mk (blk_below (g:=gb108) (o := .cells #[.int .i64 t106, .int .i64 t107] 34 (0, 0)) (by refine pp_ (cs := #[.int .i64 t106, .int .i64 0]) 1 ?_ rfl; refine blk_put (cs := #[.int .i64 0, .int .i64 0]) ?_ 0 _ rfl; exact pkx BK108) hb); replace HB := Aside0.mk (below_step (by repeat (first | (with_reducible first | exact HB.out | apply below_alloc | apply pw_below_drewN | apply below_drew1 | refine below_set ?_ GE101.out | refine below_set ?_ GE102.out | refine below_set ?_ GE105.out | refine below_set ?_ GE108.out) | exact HB.out)) hb); (try clear hb); (try clear hb2); (try clear hk); (try clear hi)) | ((with_reducible refine gate_dst (N:=5) rfl ?_); refine be_ (N:=5) (cs := #[.int .i64 0, .int .i64 0]) (t:=34) ?_; intro gb111 hg w44 hbox hb; have BK111 := Aside0.mk (hbox); have GW111 := hs_ HB hg; have GE111 := hs_ HB hg; have NB101_111 := hl_ BK101 hg; have NB111_101 := hr_ BK101 hg; have NB102_111 := hl_ BK102 hg; have NB111_102 := hr_ BK102 hg; have NB105_111 := hl_ BK105 hg; have NB111_105 := hr_ BK105 hg; have NB108_111 := hl_ BK108 hg; have NB111_108 := hr_ BK108 hg; replace BK101 := bb_ BK101 hb; replace BK102 := bb_ BK102 hb; replace BK105 := bb_ BK105 hb; replace BK108 := bb_ BK108 hb; replace HB := bs_ HB hb; clear hb hbox hg; have hnb45 := NB111_101.out; have hnc45 := NB101_111.out; have hnb46 := NB111_102.out; have hnc46 := NB102_111.out; have hnb47 := NB111_105.out; have hnc47 := NB105_111.out; have hnb48 := NB111_108.out; have hnc48 := NB108_111.out; have hcz49_0 : w44.cell? ⟨gb111, 0, none⟩ = some (.int .i64 0) := bc_ BK111 0 rfl; have hcz49_1 : w44.cell? ⟨gb111, 1, none⟩ = some (.int .i64 0) := bc_ BK111 1 rfl; have hfz49_0 := blk_frozen BK111.out 0; have hfz49_1 := blk_frozen BK111.out 1; have hcz50_0 : w44.cell? ⟨gb105, 0, none⟩ = some (.int .i64 t103) := bc_ BK105 0 rfl; have hcz50_1 : w44.cell? ⟨gb105, 1, none⟩ = some (.int .i64 t104) := bc_ BK105 1 rfl; have hfz50_0 := blk_frozen BK105.out 0; have hfz50_1 := blk_frozen BK105.out 1; have hcz51_0 : w44.cell? ⟨gb108, 0, none⟩ = some (.int .i64 t106) := bc_ BK108 0 rfl; have hcz51_1 : w44.cell? ⟨gb108, 1, none⟩ = some (.int .i64 t107) := bc_ BK108 1 rfl; have hfz51_0 := blk_frozen BK108.out 0; have hfz51_1 := blk_frozen BK108.out 1; have hcz52_0 : w44.cell? ⟨gb102, 0, none⟩ = some (.int .i64 0) := bc_ BK102 0 rfl; have hcz52_1 : w44.cell? ⟨gb102, 1, none⟩ = some (.int .i64 0) := bc_ BK102 1 rfl; have hfz52_0 := blk_frozen BK102.out 0; have hfz52_1 := blk_frozen BK102.out 1))
       refine bodyPost_ret (results_cell_row rfl _ _ gb102 34 #[.int .i64 0, .int .i64 0] (0, 0) _ rfl (by refine pp_ (cs := #[.int .i64 0, .int .i64 0]) 1 ?_ rfl; refine blk_put (cs := #[.int .i64 0, .int .i64 0]) ?_ 0 _ rfl; refine pf_ ?_ NB102_111.out; refine blk_far ?_ NB102_111.out _; exact pkx BK102) Tryd.underlying34 rfl (by kernel_rfl)) rfl ?_
       exact ⟨by first | rfl | (simp [errW_none, errW_some] <;> rfl) | (simp [*, errW_none, errW_some] <;> rfl), by repeat (first | (with_reducible first | exact HB.out | apply below_alloc | apply pw_below_drewN | apply below_drew1 | refine below_set ?_ GE101.out | refine below_set ?_ GE102.out | refine below_set ?_ GE105.out | refine below_set ?_ GE108.out | refine below_set ?_ GE111.out) | exact HB.out)⟩
      ·rw [if_neg c27] at H; have c27b0 : (t110 == 0) = false := beq_eq_false_iff_ne.mpr c27; have c27b1 : (t110 != 0) = true := bne_iff_ne.mpr c27
       simp only [Option.some.injEq, Prod.mk.injEq] at H
       obtain ⟨rfl, rfl⟩ := H; have hnb53 := NB101_102.out; have hnc53 := NB102_101.out
       have hcz54_0 : wc.cell? ⟨gb101, 0, none⟩ = some (.int .i64 a0_0) := bc_ BK101 0 rfl
       have hcz54_1 : wc.cell? ⟨gb101, 1, none⟩ = some (.int .i64 a0_1) := bc_ BK101 1 rfl
       have hcz54_2 : wc.cell? ⟨gb101, 2, none⟩ = some (.slice A0_2 l0_2.length c0_2) := bc_ BK101 2 rfl
       have hcz54_3 : wc.cell? ⟨gb101, 3, none⟩ = some (.slice A0_3 l0_3.length c0_3) := bc_ BK101 3 rfl
       have hcz54_4 : wc.cell? ⟨gb101, 4, none⟩ = some (.slice A0_4 l0_4.length c0_4) := bc_ BK101 4 rfl
       have hfz54_0 := blk_frozen BK101.out 0; have hfz54_1 := blk_frozen BK101.out 1; have hfz54_2 := blk_frozen BK101.out 2; have hfz54_3 := blk_frozen BK101.out 3; have hfz54_4 := blk_frozen BK101.out 4
       go_wp2_with (first | ((with_reducible refine gate_callee (f:=29) rfl ?_); refine gL_ (some 39) rfl rfl Tryd.func29 rfl #[.slice A0_2 l0_2.length c0_2, .int .i64 a0_0, .int .i64 a0_1] rfl ?_; (with_reducible refine (oculusref05_Wrong.calls kj1 _ _ l0_2 a0_0 a0_1 t103 t104 _ ?side1 ?side2 A22.out).mono ?_); (case side1 => repeat (first | exact (Kd.C_below HR0_2.out HB.out) | (with_reducible refine Kd.C_alloc ?_ _) | (with_reducible refine Kd.C_drewN ?_ _) | (with_reducible refine Kd.C_drew ?_))); (case side2 => exact HC0_2.out); rintro e w55 ⟨rfl, hb⟩; refine ⟨_, rfl, ?_⟩; replace BK101 := bb_ BK101 hb; replace BK102 := bb_ BK102 hb; replace HB := bs_ HB hb; (try clear hb); (try clear hb2); (try clear hk); (try clear hi)) | ((with_reducible refine gate_dst (N:=3) rfl ?_); refine be_ (N:=3) (cs := #[.int .i64 0, .int .i64 0]) (t:=34) ?_; intro gb105 hg w56 hbox hb; have BK105 := Aside0.mk (hbox); have GW105 := hs_ HB hg; have GE105 := hs_ HB hg; have NB101_105 := hl_ BK101 hg; have NB105_101 := hr_ BK101 hg; have NB102_105 := hl_ BK102 hg; have NB105_102 := hr_ BK102 hg; replace BK101 := bb_ BK101 hb; replace BK102 := bb_ BK102 hb; replace HB := bs_ HB hb; clear hb hbox hg; have hnb57 := NB105_101.out; have hnc57 := NB101_105.out; have hnb58 := NB105_102.out; have hnc58 := NB102_105.out; have hcz59_0 : w56.cell? ⟨gb105, 0, none⟩ = some (.int .i64 0) := bc_ BK105 0 rfl; have hcz59_1 : w56.cell? ⟨gb105, 1, none⟩ = some (.int .i64 0) := bc_ BK105 1 rfl; have hfz59_0 := blk_frozen BK105.out 0; have hfz59_1 := blk_frozen BK105.out 1; have hcz60_0 : w56.cell? ⟨gb101, 0, none⟩ = some (.int .i64 a0_0) := bc_ BK101 0 rfl; have hcz60_1 : w56.cell? ⟨gb101, 1, none⟩ = some (.int .i64 a0_1) := bc_ BK101 1 rfl; have hcz60_2 : w56.cell? ⟨gb101, 2, none⟩ = some (.slice A0_2 l0_2.length c0_2) := bc_ BK101 2 rfl; have hcz60_3 : w56.cell? ⟨gb101, 3, none⟩ = some (.slice A0_3 l0_3.length c0_3) := bc_ BK101 3 rfl; have hcz60_4 : w56.cell? ⟨gb101, 4, none⟩ = some (.slice A0_4 l0_4.length c0_4) := bc_ BK101 4 rfl; have hfz60_0 := blk_frozen BK101.out 0; have hfz60_1 := blk_frozen BK101.out 1; have hfz60_2 := blk_frozen BK101.out 2; have hfz60_3 := blk_frozen BK101.out 3; have hfz60_4 := blk_frozen BK101.out 4) | ((with_reducible refine gate_callee (f:=30) rfl ?_); refine gL_ (some 42) rfl rfl Tryd.func30 rfl #[.slice A0_3 l0_3.length c0_3] rfl ?_; (with_reducible refine (oculusref06_Users.calls kj1 _ _ l0_3 t106 t107 _ ?side1 ?side2 A23.out).mono ?_); (case side1 => exact Kd.C_below HR0_3.out (by repeat (first | (with_reducible first | exact HB.out | apply below_alloc | apply pw_below_drewN | apply below_drew1 | refine below_set ?_ GE101.out | refine below_set ?_ GE102.out | refine below_set ?_ GE105.out) | exact HB.out))); (case side2 => exact HC0_3.out); rintro e w61 ⟨rfl, hb⟩; refine ⟨_, rfl, ?_⟩; replace BK101 := Aside0.mk (blk_below (g:=gb101) (o := .cells #[.int .i64 a0_0, .int .i64 a0_1, .slice A0_2 l0_2.length c0_2, .slice A0_3 l0_3.length c0_3, .slice A0_4 l0_4.length c0_4] 26 (0, 0)) (by refine pf_ ?_ NB101_105.out; refine blk_far ?_ NB101_105.out _; exact pkx BK101) hb); replace BK102 := Aside0.mk (blk_below (g:=gb102) (o := .cells #[.int .i64 0, .int .i64 0] 34 (0, 0)) (by refine pf_ ?_ NB102_105.out; refine blk_far ?_ NB102_105.out _; exact pkx BK102) hb); replace BK105 := Aside0.mk (blk_below (g:=gb105) (o := .cells #[.int .i64 t103, .int .i64 t104] 34 (0, 0)) (by refine pp_ (cs := #[.int .i64 t103, .int .i64 0]) 1 ?_ rfl; refine blk_put (cs := #[.int .i64 0, .int .i64 0]) ?_ 0 _ rfl; exact pkx BK105) hb); replace HB := Aside0.mk (below_step (by repeat (first | (with_reducible first | exact HB.out | apply below_alloc | apply pw_below_drewN | apply below_drew1 | refine below_set ?_ GE101.out | refine below_set ?_ GE102.out | refine below_set ?_ GE105.out) | exact HB.out)) hb); (try clear hb); (try clear hb2); (try clear hk); (try clear hi)) | ((with_reducible refine gate_dst (N:=4) rfl ?_); refine be_ (N:=4) (cs := #[.int .i64 0, .int .i64 0]) (t:=34) ?_; intro gb108 hg w62 hbox hb; have BK108 := Aside0.mk (hbox); have GW108 := hs_ HB hg; have GE108 := hs_ HB hg; have NB101_108 := hl_ BK101 hg; have NB108_101 := hr_ BK101 hg; have NB102_108 := hl_ BK102 hg; have NB108_102 := hr_ BK102 hg; have NB105_108 := hl_ BK105 hg; have NB108_105 := hr_ BK105 hg; replace BK101 := bb_ BK101 hb; replace BK102 := bb_ BK102 hb; replace BK105 := bb_ BK105 hb; replace HB := bs_ HB hb; clear hb hbox hg; have hnb63 := NB108_101.out; have hnc63 := NB101_108.out; have hnb64 := NB108_102.out; have hnc64 := NB102_108.out; have hnb65 := NB108_105.out; have hnc65 := NB105_108.out; have hcz66_0 : w62.cell? ⟨gb108, 0, none⟩ = some (.int .i64 0) := bc_ BK108 0 rfl; have hcz66_1 : w62.cell? ⟨gb108, 1, none⟩ = some (.int .i64 0) := bc_ BK108 1 rfl; have hfz66_0 := blk_frozen BK108.out 0; have hfz66_1 := blk_frozen BK108.out 1; have hcz67_0 : w62.cell? ⟨gb101, 0, none⟩ = some (.int .i64 a0_0) := bc_ BK101 0 rfl; have hcz67_1 : w62.cell? ⟨gb101, 1, none⟩ = some (.int .i64 a0_1) := bc_ BK101 1 rfl; have hcz67_2 : w62.cell? ⟨gb101, 2, none⟩ = some (.slice A0_2 l0_2.length c0_2) := bc_ BK101 2 rfl; have hcz67_3 : w62.cell? ⟨gb101, 3, none⟩ = some (.slice A0_3 l0_3.length c0_3) := bc_ BK101 3 rfl; have hcz67_4 : w62.cell? ⟨gb101, 4, none⟩ = some (.slice A0_4 l0_4.length c0_4) := bc_ BK101 4 rfl; have hfz67_0 := blk_frozen BK101.out 0; have hfz67_1 := blk_frozen BK101.out 1; have hfz67_2 := blk_frozen BK101.out 2; have hfz67_3 := blk_frozen BK101.out 3; have hfz67_4 := blk_frozen BK101.out 4) | ((with_reducible refine gate_callee (f:=31) rfl ?_); refine gL_ (some 47) rfl rfl Tryd.func31 rfl #[.slice A0_4 l0_4.length c0_4, .slice A0_3 l0_3.length c0_3] rfl ?_; (with_reducible refine (oculusref06_Grants.calls kj1 _ _ l0_4 _ _ l0_3 t109 t110 _ ?side1 ?side2 ?side3 ?side4 A24.out).mono ?_); (case side1 => exact Kd.C_below HR0_4.out (by repeat (first | (with_reducible first | exact HB.out | apply below_alloc | apply pw_below_drewN | apply below_drew1 | refine below_set ?_ GE101.out | refine below_set ?_ GE102.out | refine below_set ?_ GE105.out | refine below_set ?_ GE108.out) | exact HB.out))); (case side2 => exact HC0_4.out); (case side3 => exact Kd.C_below HR0_3.out (by repeat (first | (with_reducible first | exact HB.out | apply below_alloc | apply pw_below_drewN | apply below_drew1 | refine below_set ?_ GE101.out | refine below_set ?_ GE102.out | refine below_set ?_ GE105.out | refine below_set ?_ GE108.out) | exact HB.out))); (case side4 => exact HC0_3.out); rintro e w68 ⟨rfl, hb⟩; refine ⟨_, rfl, ?_⟩; replace BK101 := Aside0.mk (blk_below (g:=gb101) (o := .cells #[.int .i64 a0_0, .int .i64 a0_1, .slice A0_2 l0_2.length c0_2, .slice A0_3 l0_3.length c0_3, .slice A0_4 l0_4.length c0_4] 26 (0, 0)) (by refine pf_ ?_ NB101_108.out; refine blk_far ?_ NB101_108.out _; exact pkx BK101) hb); replace BK102 := Aside0.mk (blk_below (g:=gb102) (o := .cells #[.int .i64 0, .int .i64 0] 34 (0, 0)) (by refine pf_ ?_ NB102_108.out; refine blk_far ?_ NB102_108.out _; exact pkx BK102) hb); replace BK105 := Aside0.mk (blk_below (g:=gb105) (o := .cells #[.int .i64 t103, .int .i64 t104] 34 (0, 0)) (by refine pf_ ?_ NB105_108.out; refine blk_far ?_ NB105_108.out _; exact pkx BK105) hb); replace BK108 := Aside0.mk (blk_below (g:=gb108) (o := .cells #[.int .i64 t106, .int .i64 t107] 34 (0, 0)) (by refine pp_ (cs := #[.int .i64 t106, .int .i64 0]) 1 ?_ rfl; refine blk_put (cs := #[.int .i64 0, .int .i64 0]) ?_ 0 _ rfl; exact pkx BK108) hb); replace HB := Aside0.mk (below_step (by repeat (first | (with_reducible first | exact HB.out | apply below_alloc | apply pw_below_drewN | apply below_drew1 | refine below_set ?_ GE101.out | refine below_set ?_ GE102.out | refine below_set ?_ GE105.out | refine below_set ?_ GE108.out) | exact HB.out)) hb); (try clear hb); (try clear hb2); (try clear hk); (try clear hi)) | ((with_reducible refine gate_dst (N:=5) rfl ?_); refine be_ (N:=5) (cs := #[.int .i64 0, .int .i64 0]) (t:=34) ?_; intro gb111 hg w69 hbox hb; have BK111 := Aside0.mk (hbox); have GW111 := hs_ HB hg; have GE111 := hs_ HB hg; have NB101_111 := hl_ BK101 hg; have NB111_101 := hr_ BK101 hg; have NB102_111 := hl_ BK102 hg; have NB111_102 := hr_ BK102 hg; have NB105_111 := hl_ BK105 hg; have NB111_105 := hr_ BK105 hg; have NB108_111 := hl_ BK108 hg; have NB111_108 := hr_ BK108 hg; replace BK101 := bb_ BK101 hb; replace BK102 := bb_ BK102 hb; replace BK105 := bb_ BK105 hb; replace BK108 := bb_ BK108 hb; replace HB := bs_ HB hb; clear hb hbox hg; have hnb70 := NB111_101.out; have hnc70 := NB101_111.out; have hnb71 := NB111_102.out; have hnc71 := NB102_111.out; have hnb72 := NB111_105.out; have hnc72 := NB105_111.out; have hnb73 := NB111_108.out; have hnc73 := NB108_111.out; have hcz74_0 : w69.cell? ⟨gb111, 0, none⟩ = some (.int .i64 0) := bc_ BK111 0 rfl; have hcz74_1 : w69.cell? ⟨gb111, 1, none⟩ = some (.int .i64 0) := bc_ BK111 1 rfl; have hfz74_0 := blk_frozen BK111.out 0; have hfz74_1 := blk_frozen BK111.out 1; have hcz75_0 : w69.cell? ⟨gb105, 0, none⟩ = some (.int .i64 t103) := bc_ BK105 0 rfl; have hcz75_1 : w69.cell? ⟨gb105, 1, none⟩ = some (.int .i64 t104) := bc_ BK105 1 rfl; have hfz75_0 := blk_frozen BK105.out 0; have hfz75_1 := blk_frozen BK105.out 1; have hcz76_0 : w69.cell? ⟨gb108, 0, none⟩ = some (.int .i64 t106) := bc_ BK108 0 rfl; have hcz76_1 : w69.cell? ⟨gb108, 1, none⟩ = some (.int .i64 t107) := bc_ BK108 1 rfl; have hfz76_0 := blk_frozen BK108.out 0; have hfz76_1 := blk_frozen BK108.out 1; have hcz77_0 : w69.cell? ⟨gb101, 0, none⟩ = some (.int .i64 a0_0) := bc_ BK101 0 rfl; have hcz77_1 : w69.cell? ⟨gb101, 1, none⟩ = some (.int .i64 a0_1) := bc_ BK101 1 rfl; have hcz77_2 : w69.cell? ⟨gb101, 2, none⟩ = some (.slice A0_2 l0_2.length c0_2) := bc_ BK101 2 rfl; have hcz77_3 : w69.cell? ⟨gb101, 3, none⟩ = some (.slice A0_3 l0_3.length c0_3) := bc_ BK101 3 rfl; have hcz77_4 : w69.cell? ⟨gb101, 4, none⟩ = some (.slice A0_4 l0_4.length c0_4) := bc_ BK101 4 rfl; have hfz77_0 := blk_frozen BK101.out 0; have hfz77_1 := blk_frozen BK101.out 1; have hfz77_2 := blk_frozen BK101.out 2; have hfz77_3 := blk_frozen BK101.out 3; have hfz77_4 := blk_frozen BK101.out 4; have hcz78_0 : w69.cell? ⟨gb102, 0, none⟩ = some (.int .i64 0) := bc_ BK102 0 rfl; have hcz78_1 : w69.cell? ⟨gb102, 1, none⟩ = some (.int .i64 0) := bc_ BK102 1 rfl; have hfz78_0 := blk_frozen BK102.out 0; have hfz78_1 := blk_frozen BK102.out 1))
       refine bodyPost_ret (results_cell_row rfl _ _ gb102 34 #[.int .i64 (wrap64 ((wrap64 ((wrap64 (2 + (l0_2.length : Int))) + (l0_3.length : Int))) + t109)), .int .i64 t110] (0, 0) _ rfl (by refine pp_ (cs := #[.int .i64 (wrap64 ((wrap64 ((wrap64 (2 + (l0_2.length : Int))) + (l0_3.length : Int))) + t109)), .int .i64 0]) 1 ?_ rfl; refine blk_put (cs := #[.int .i64 0, .int .i64 0]) ?_ 0 _ rfl; refine pf_ ?_ NB102_111.out; refine blk_far ?_ NB102_111.out _; exact pkx BK102) Tryd.underlying34 rfl (by kernel_rfl)) rfl ?_
       exact ⟨by first | rfl | (simp [errW_none, errW_some] <;> rfl) | (simp [*, errW_none, errW_some] <;> rfl), by repeat (first | (with_reducible first | exact HB.out | apply below_alloc | apply pw_below_drewN | apply below_drew1 | refine below_set ?_ GE101.out | refine below_set ?_ GE102.out | refine below_set ?_ GE105.out | refine below_set ?_ GE108.out | refine below_set ?_ GE111.out) | exact HB.out)⟩
     ·rw [if_neg c26] at H; have c26b0 : (t107 == 0) = false := beq_eq_false_iff_ne.mpr c26; have c26b1 : (t107 != 0) = true := bne_iff_ne.mpr c26
      simp only [Option.some.injEq, Prod.mk.injEq] at H
      obtain ⟨rfl, rfl⟩ := H; have hnb79 := NB101_102.out; have hnc79 := NB102_101.out
      have hcz80_0 : wc.cell? ⟨gb101, 0, none⟩ = some (.int .i64 a0_0) := bc_ BK101 0 rfl
      have hcz80_1 : wc.cell? ⟨gb101, 1, none⟩ = some (.int .i64 a0_1) := bc_ BK101 1 rfl
      have hcz80_2 : wc.cell? ⟨gb101, 2, none⟩ = some (.slice A0_2 l0_2.length c0_2) := bc_ BK101 2 rfl
      have hcz80_3 : wc.cell? ⟨gb101, 3, none⟩ = some (.slice A0_3 l0_3.length c0_3) := bc_ BK101 3 rfl
      have hcz80_4 : wc.cell? ⟨gb101, 4, none⟩ = some (.slice A0_4 l0_4.length c0_4) := bc_ BK101 4 rfl
      have hfz80_0 := blk_frozen BK101.out 0; have hfz80_1 := blk_frozen BK101.out 1; have hfz80_2 := blk_frozen BK101.out 2; have hfz80_3 := blk_frozen BK101.out 3; have hfz80_4 := blk_frozen BK101.out 4
      go_wp2_with (first | ((with_reducible refine gate_callee (f:=29) rfl ?_); refine gL_ (some 39) rfl rfl Tryd.func29 rfl #[.slice A0_2 l0_2.length c0_2, .int .i64 a0_0, .int .i64 a0_1] rfl ?_; (with_reducible refine (oculusref05_Wrong.calls kj1 _ _ l0_2 a0_0 a0_1 t103 t104 _ ?side1 ?side2 A22.out).mono ?_); (case side1 => repeat (first | exact (Kd.C_below HR0_2.out HB.out) | (with_reducible refine Kd.C_alloc ?_ _) | (with_reducible refine Kd.C_drewN ?_ _) | (with_reducible refine Kd.C_drew ?_))); (case side2 => exact HC0_2.out); rintro e w81 ⟨rfl, hb⟩; refine ⟨_, rfl, ?_⟩; replace BK101 := bb_ BK101 hb; replace BK102 := bb_ BK102 hb; replace HB := bs_ HB hb; (try clear hb); (try clear hb2); (try clear hk); (try clear hi)) | ((with_reducible refine gate_dst (N:=3) rfl ?_); refine be_ (N:=3) (cs := #[.int .i64 0, .int .i64 0]) (t:=34) ?_; intro gb105 hg w82 hbox hb; have BK105 := Aside0.mk (hbox); have GW105 := hs_ HB hg; have GE105 := hs_ HB hg; have NB101_105 := hl_ BK101 hg; have NB105_101 := hr_ BK101 hg; have NB102_105 := hl_ BK102 hg; have NB105_102 := hr_ BK102 hg; replace BK101 := bb_ BK101 hb; replace BK102 := bb_ BK102 hb; replace HB := bs_ HB hb; clear hb hbox hg; have hnb83 := NB105_101.out; have hnc83 := NB101_105.out; have hnb84 := NB105_102.out; have hnc84 := NB102_105.out; have hcz85_0 : w82.cell? ⟨gb105, 0, none⟩ = some (.int .i64 0) := bc_ BK105 0 rfl; have hcz85_1 : w82.cell? ⟨gb105, 1, none⟩ = some (.int .i64 0) := bc_ BK105 1 rfl; have hfz85_0 := blk_frozen BK105.out 0; have hfz85_1 := blk_frozen BK105.out 1; have hcz86_0 : w82.cell? ⟨gb101, 0, none⟩ = some (.int .i64 a0_0) := bc_ BK101 0 rfl; have hcz86_1 : w82.cell? ⟨gb101, 1, none⟩ = some (.int .i64 a0_1) := bc_ BK101 1 rfl; have hcz86_2 : w82.cell? ⟨gb101, 2, none⟩ = some (.slice A0_2 l0_2.length c0_2) := bc_ BK101 2 rfl; have hcz86_3 : w82.cell? ⟨gb101, 3, none⟩ = some (.slice A0_3 l0_3.length c0_3) := bc_ BK101 3 rfl; have hcz86_4 : w82.cell? ⟨gb101, 4, none⟩ = some (.slice A0_4 l0_4.length c0_4) := bc_ BK101 4 rfl; have hfz86_0 := blk_frozen BK101.out 0; have hfz86_1 := blk_frozen BK101.out 1; have hfz86_2 := blk_frozen BK101.out 2; have hfz86_3 := blk_frozen BK101.out 3; have hfz86_4 := blk_frozen BK101.out 4) | ((with_reducible refine gate_callee (f:=30) rfl ?_); refine gL_ (some 42) rfl rfl Tryd.func30 rfl #[.slice A0_3 l0_3.length c0_3] rfl ?_; (with_reducible refine (oculusref06_Users.calls kj1 _ _ l0_3 t106 t107 _ ?side1 ?side2 A23.out).mono ?_); (case side1 => exact Kd.C_below HR0_3.out (by repeat (first | (with_reducible first | exact HB.out | apply below_alloc | apply pw_below_drewN | apply below_drew1 | refine below_set ?_ GE101.out | refine below_set ?_ GE102.out | refine below_set ?_ GE105.out) | exact HB.out))); (case side2 => exact HC0_3.out); rintro e w87 ⟨rfl, hb⟩; refine ⟨_, rfl, ?_⟩; replace BK101 := Aside0.mk (blk_below (g:=gb101) (o := .cells #[.int .i64 a0_0, .int .i64 a0_1, .slice A0_2 l0_2.length c0_2, .slice A0_3 l0_3.length c0_3, .slice A0_4 l0_4.length c0_4] 26 (0, 0)) (by refine pf_ ?_ NB101_105.out; refine blk_far ?_ NB101_105.out _; exact pkx BK101) hb); replace BK102 := Aside0.mk (blk_below (g:=gb102) (o := .cells #[.int .i64 0, .int .i64 0] 34 (0, 0)) (by refine pf_ ?_ NB102_105.out; refine blk_far ?_ NB102_105.out _; exact pkx BK102) hb); replace BK105 := Aside0.mk (blk_below (g:=gb105) (o := .cells #[.int .i64 t103, .int .i64 t104] 34 (0, 0)) (by refine pp_ (cs := #[.int .i64 t103, .int .i64 0]) 1 ?_ rfl; refine blk_put (cs := #[.int .i64 0, .int .i64 0]) ?_ 0 _ rfl; exact pkx BK105) hb); replace HB := Aside0.mk (below_step (by repeat (first | (with_reducible first | exact HB.out | apply below_alloc | apply pw_below_drewN | apply below_drew1 | refine below_set ?_ GE101.out | refine below_set ?_ GE102.out | refine below_set ?_ GE105.out) | exact HB.out)) hb); (try clear hb); (try clear hb2); (try clear hk); (try clear hi)) | ((with_reducible refine gate_dst (N:=4) rfl ?_); refine be_ (N:=4) (cs := #[.int .i64 0, .int .i64 0]) (t:=34) ?_; intro gb108 hg w88 hbox hb; have BK108 := Aside0.mk (hbox); have GW108 := hs_ HB hg; have GE108 := hs_ HB hg; have NB101_108 := hl_ BK101 hg; have NB108_101 := hr_ BK101 hg; have NB102_108 := hl_ BK102 hg; have NB108_102 := hr_ BK102 hg; have NB105_108 := hl_ BK105 hg; have NB108_105 := hr_ BK105 hg; replace BK101 := bb_ BK101 hb; replace BK102 := bb_ BK102 hb; replace BK105 := bb_ BK105 hb; replace HB := bs_ HB hb; clear hb hbox hg; have hnb89 := NB108_101.out; have hnc89 := NB101_108.out; have hnb90 := NB108_102.out; have hnc90 := NB102_108.out; have hnb91 := NB108_105.out; have hnc91 := NB105_108.out; have hcz92_0 : w88.cell? ⟨gb108, 0, none⟩ = some (.int .i64 0) := bc_ BK108 0 rfl; have hcz92_1 : w88.cell? ⟨gb108, 1, none⟩ = some (.int .i64 0) := bc_ BK108 1 rfl; have hfz92_0 := blk_frozen BK108.out 0; have hfz92_1 := blk_frozen BK108.out 1; have hcz93_0 : w88.cell? ⟨gb101, 0, none⟩ = some (.int .i64 a0_0) := bc_ BK101 0 rfl; have hcz93_1 : w88.cell? ⟨gb101, 1, none⟩ = some (.int .i64 a0_1) := bc_ BK101 1 rfl; have hcz93_2 : w88.cell? ⟨gb101, 2, none⟩ = some (.slice A0_2 l0_2.length c0_2) := bc_ BK101 2 rfl; have hcz93_3 : w88.cell? ⟨gb101, 3, none⟩ = some (.slice A0_3 l0_3.length c0_3) := bc_ BK101 3 rfl; have hcz93_4 : w88.cell? ⟨gb101, 4, none⟩ = some (.slice A0_4 l0_4.length c0_4) := bc_ BK101 4 rfl; have hfz93_0 := blk_frozen BK101.out 0; have hfz93_1 := blk_frozen BK101.out 1; have hfz93_2 := blk_frozen BK101.out 2; have hfz93_3 := blk_frozen BK101.out 3; have hfz93_4 := blk_frozen BK101.out 4) | ((with_reducible refine gate_callee (f:=31) rfl ?_); refine gL_ (some 47) rfl rfl Tryd.func31 rfl #[.slice A0_4 l0_4.length c0_4, .slice A0_3 l0_3.length c0_3] rfl ?_; (with_reducible refine (oculusref06_Grants.calls kj1 _ _ l0_4 _ _ l0_3 t109 t110 _ ?side1 ?side2 ?side3 ?side4 A24.out).mono ?_); (case side1 => exact Kd.C_below HR0_4.out (by repeat (first | (with_reducible first | exact HB.out | apply below_alloc | apply pw_below_drewN | apply below_drew1 | refine below_set ?_ GE101.out | refine below_set ?_ GE102.out | refine below_set ?_ GE105.out | refine below_set ?_ GE108.out) | exact HB.out))); (case side2 => exact HC0_4.out); (case side3 => exact Kd.C_below HR0_3.out (by repeat (first | (with_reducible first | exact HB.out | apply below_alloc | apply pw_below_drewN | apply below_drew1 | refine below_set ?_ GE101.out | refine below_set ?_ GE102.out | refine below_set ?_ GE105.out | refine below_set ?_ GE108.out) | exact HB.out))); (case side4 => exact HC0_3.out); rintro e w94 ⟨rfl, hb⟩; refine ⟨_, rfl, ?_⟩; replace BK101 := Aside0.mk (blk_below (g:=gb101) (o := .cells #[.int .i64 a0_0, .int .i64 a0_1, .slice A0_2 l0_2.length c0_2, .slice A0_3 l0_3.length c0_3, .slice A0_4 l0_4.length c0_4] 26 (0, 0)) (by refine pf_ ?_ NB101_108.out; refine blk_far ?_ NB101_108.out _; exact pkx BK101) hb); replace BK102 := Aside0.mk (blk_below (g:=gb102) (o := .cells #[.int .i64 0, .int .i64 0] 34 (0, 0)) (by refine pf_ ?_ NB102_108.out; refine blk_far ?_ NB102_108.out _; exact pkx BK102) hb); replace BK105 := Aside0.mk (blk_below (g:=gb105) (o := .cells #[.int .i64 t103, .int .i64 t104] 34 (0, 0)) (by refine pf_ ?_ NB105_108.out; refine blk_far ?_ NB105_108.out _; exact pkx BK105) hb); replace BK108 := Aside0.mk (blk_below (g:=gb108) (o := .cells #[.int .i64 t106, .int .i64 t107] 34 (0, 0)) (by refine pp_ (cs := #[.int .i64 t106, .int .i64 0]) 1 ?_ rfl; refine blk_put (cs := #[.int .i64 0, .int .i64 0]) ?_ 0 _ rfl; exact pkx BK108) hb); replace HB := Aside0.mk (below_step (by repeat (first | (with_reducible first | exact HB.out | apply below_alloc | apply pw_below_drewN | apply below_drew1 | refine below_set ?_ GE101.out | refine below_set ?_ GE102.out | refine below_set ?_ GE105.out | refine below_set ?_ GE108.out) | exact HB.out)) hb); (try clear hb); (try clear hb2); (try clear hk); (try clear hi)) | ((with_reducible refine gate_dst (N:=5) rfl ?_); refine be_ (N:=5) (cs := #[.int .i64 0, .int .i64 0]) (t:=34) ?_; intro gb111 hg w95 hbox hb; have BK111 := Aside0.mk (hbox); have GW111 := hs_ HB hg; have GE111 := hs_ HB hg; have NB101_111 := hl_ BK101 hg; have NB111_101 := hr_ BK101 hg; have NB102_111 := hl_ BK102 hg; have NB111_102 := hr_ BK102 hg; have NB105_111 := hl_ BK105 hg; have NB111_105 := hr_ BK105 hg; have NB108_111 := hl_ BK108 hg; have NB111_108 := hr_ BK108 hg; replace BK101 := bb_ BK101 hb; replace BK102 := bb_ BK102 hb; replace BK105 := bb_ BK105 hb; replace BK108 := bb_ BK108 hb; replace HB := bs_ HB hb; clear hb hbox hg; have hnb96 := NB111_101.out; have hnc96 := NB101_111.out; have hnb97 := NB111_102.out; have hnc97 := NB102_111.out; have hnb98 := NB111_105.out; have hnc98 := NB105_111.out; have hnb99 := NB111_108.out; have hnc99 := NB108_111.out; have hcz100_0 : w95.cell? ⟨gb111, 0, none⟩ = some (.int .i64 0) := bc_ BK111 0 rfl; have hcz100_1 : w95.cell? ⟨gb111, 1, none⟩ = some (.int .i64 0) := bc_ BK111 1 rfl; have hfz100_0 := blk_frozen BK111.out 0; have hfz100_1 := blk_frozen BK111.out 1; have hcz101_0 : w95.cell? ⟨gb105, 0, none⟩ = some (.int .i64 t103) := bc_ BK105 0 rfl; have hcz101_1 : w95.cell? ⟨gb105, 1, none⟩ = some (.int .i64 t104) := bc_ BK105 1 rfl; have hfz101_0 := blk_frozen BK105.out 0; have hfz101_1 := blk_frozen BK105.out 1; have hcz102_0 : w95.cell? ⟨gb108, 0, none⟩ = some (.int .i64 t106) := bc_ BK108 0 rfl; have hcz102_1 : w95.cell? ⟨gb108, 1, none⟩ = some (.int .i64 t107) := bc_ BK108 1 rfl; have hfz102_0 := blk_frozen BK108.out 0; have hfz102_1 := blk_frozen BK108.out 1; have hcz103_0 : w95.cell? ⟨gb101, 0, none⟩ = some (.int .i64 a0_0) := bc_ BK101 0 rfl; have hcz103_1 : w95.cell? ⟨gb101, 1, none⟩ = some (.int .i64 a0_1) := bc_ BK101 1 rfl; have hcz103_2 : w95.cell? ⟨gb101, 2, none⟩ = some (.slice A0_2 l0_2.length c0_2) := bc_ BK101 2 rfl; have hcz103_3 : w95.cell? ⟨gb101, 3, none⟩ = some (.slice A0_3 l0_3.length c0_3) := bc_ BK101 3 rfl; have hcz103_4 : w95.cell? ⟨gb101, 4, none⟩ = some (.slice A0_4 l0_4.length c0_4) := bc_ BK101 4 rfl; have hfz103_0 := blk_frozen BK101.out 0; have hfz103_1 := blk_frozen BK101.out 1; have hfz103_2 := blk_frozen BK101.out 2; have hfz103_3 := blk_frozen BK101.out 3; have hfz103_4 := blk_frozen BK101.out 4; have hcz104_0 : w95.cell? ⟨gb102, 0, none⟩ = some (.int .i64 0) := bc_ BK102 0 rfl; have hcz104_1 : w95.cell? ⟨gb102, 1, none⟩ = some (.int .i64 0) := bc_ BK102 1 rfl; have hfz104_0 := blk_frozen BK102.out 0; have hfz104_1 := blk_frozen BK102.out 1))
      refine bodyPost_ret (results_cell_row rfl _ _ gb102 34 #[.int .i64 (wrap64 ((wrap64 (2 + (l0_2.length : Int))) + t106)), .int .i64 t107] (0, 0) _ rfl (by refine pp_ (cs := #[.int .i64 (wrap64 ((wrap64 (2 + (l0_2.length : Int))) + t106)), .int .i64 0]) 1 ?_ rfl; refine blk_put (cs := #[.int .i64 0, .int .i64 0]) ?_ 0 _ rfl; refine pf_ ?_ NB102_111.out; refine blk_far ?_ NB102_111.out _; exact pkx BK102) Tryd.underlying34 rfl (by kernel_rfl)) rfl ?_
      exact ⟨by first | rfl | (simp [errW_none, errW_some] <;> rfl) | (simp [*, errW_none, errW_some] <;> rfl), by repeat (first | (with_reducible first | exact HB.out | apply below_alloc | apply pw_below_drewN | apply below_drew1 | refine below_set ?_ GE101.out | refine below_set ?_ GE102.out | refine below_set ?_ GE105.out | refine below_set ?_ GE108.out | refine below_set ?_ GE111.out) | exact HB.out)⟩
    ·rw [if_neg c25] at H; have c25b0 : (t104 == 0) = false := beq_eq_false_iff_ne.mpr c25; have c25b1 : (t104 != 0) = true := bne_iff_ne.mpr c25
     simp only [Option.some.injEq, Prod.mk.injEq] at H
     obtain ⟨rfl, rfl⟩ := H; have hnb105 := NB101_102.out; have hnc105 := NB102_101.out
     have hcz106_0 : wc.cell? ⟨gb101, 0, none⟩ = some (.int .i64 a0_0) := bc_ BK101 0 rfl
     have hcz106_1 : wc.cell? ⟨gb101, 1, none⟩ = some (.int .i64 a0_1) := bc_ BK101 1 rfl
     have hcz106_2 : wc.cell? ⟨gb101, 2, none⟩ = some (.slice A0_2 l0_2.length c0_2) := bc_ BK101 2 rfl
     have hcz106_3 : wc.cell? ⟨gb101, 3, none⟩ = some (.slice A0_3 l0_3.length c0_3) := bc_ BK101 3 rfl
     have hcz106_4 : wc.cell? ⟨gb101, 4, none⟩ = some (.slice A0_4 l0_4.length c0_4) := bc_ BK101 4 rfl
     have hfz106_0 := blk_frozen BK101.out 0; have hfz106_1 := blk_frozen BK101.out 1; have hfz106_2 := blk_frozen BK101.out 2; have hfz106_3 := blk_frozen BK101.out 3; have hfz106_4 := blk_frozen BK101.out 4
     go_wp2_with (first | ((with_reducible refine gate_callee (f:=29) rfl ?_); refine gL_ (some 39) rfl rfl Tryd.func29 rfl #[.slice A0_2 l0_2.length c0_2, .int .i64 a0_0, .int .i64 a0_1] rfl ?_; (with_reducible refine (oculusref05_Wrong.calls kj1 _ _ l0_2 a0_0 a0_1 t103 t104 _ ?side1 ?side2 A22.out).mono ?_); (case side1 => repeat (first | exact (Kd.C_below HR0_2.out HB.out) | (with_reducible refine Kd.C_alloc ?_ _) | (with_reducible refine Kd.C_drewN ?_ _) | (with_reducible refine Kd.C_drew ?_))); (case side2 => exact HC0_2.out); rintro e w107 ⟨rfl, hb⟩; refine ⟨_, rfl, ?_⟩; replace BK101 := bb_ BK101 hb; replace BK102 := bb_ BK102 hb; replace HB := bs_ HB hb; (try clear hb); (try clear hb2); (try clear hk); (try clear hi)) | ((with_reducible refine gate_dst (N:=3) rfl ?_); refine be_ (N:=3) (cs := #[.int .i64 0, .int .i64 0]) (t:=34) ?_; intro gb105 hg w108 hbox hb; have BK105 := Aside0.mk (hbox); have GW105 := hs_ HB hg; have GE105 := hs_ HB hg; have NB101_105 := hl_ BK101 hg; have NB105_101 := hr_ BK101 hg; have NB102_105 := hl_ BK102 hg; have NB105_102 := hr_ BK102 hg; replace BK101 := bb_ BK101 hb; replace BK102 := bb_ BK102 hb; replace HB := bs_ HB hb; clear hb hbox hg; have hnb109 := NB105_101.out; have hnc109 := NB101_105.out; have hnb110 := NB105_102.out; have hnc110 := NB102_105.out; have hcz111_0 : w108.cell? ⟨gb105, 0, none⟩ = some (.int .i64 0) := bc_ BK105 0 rfl; have hcz111_1 : w108.cell? ⟨gb105, 1, none⟩ = some (.int .i64 0) := bc_ BK105 1 rfl; have hfz111_0 := blk_frozen BK105.out 0; have hfz111_1 := blk_frozen BK105.out 1; have hcz112_0 : w108.cell? ⟨gb101, 0, none⟩ = some (.int .i64 a0_0) := bc_ BK101 0 rfl; have hcz112_1 : w108.cell? ⟨gb101, 1, none⟩ = some (.int .i64 a0_1) := bc_ BK101 1 rfl; have hcz112_2 : w108.cell? ⟨gb101, 2, none⟩ = some (.slice A0_2 l0_2.length c0_2) := bc_ BK101 2 rfl; have hcz112_3 : w108.cell? ⟨gb101, 3, none⟩ = some (.slice A0_3 l0_3.length c0_3) := bc_ BK101 3 rfl; have hcz112_4 : w108.cell? ⟨gb101, 4, none⟩ = some (.slice A0_4 l0_4.length c0_4) := bc_ BK101 4 rfl; have hfz112_0 := blk_frozen BK101.out 0; have hfz112_1 := blk_frozen BK101.out 1; have hfz112_2 := blk_frozen BK101.out 2; have hfz112_3 := blk_frozen BK101.out 3; have hfz112_4 := blk_frozen BK101.out 4) | ((with_reducible refine gate_callee (f:=30) rfl ?_); refine gL_ (some 42) rfl rfl Tryd.func30 rfl #[.slice A0_3 l0_3.length c0_3] rfl ?_; (with_reducible refine (oculusref06_Users.calls kj1 _ _ l0_3 t106 t107 _ ?side1 ?side2 A23.out).mono ?_); (case side1 => exact Kd.C_below HR0_3.out (by repeat (first | (with_reducible first | exact HB.out | apply below_alloc | apply pw_below_drewN | apply below_drew1 | refine below_set ?_ GE101.out | refine below_set ?_ GE102.out | refine below_set ?_ GE105.out) | exact HB.out))); (case side2 => exact HC0_3.out); rintro e w113 ⟨rfl, hb⟩; refine ⟨_, rfl, ?_⟩; replace BK101 := Aside0.mk (blk_below (g:=gb101) (o := .cells #[.int .i64 a0_0, .int .i64 a0_1, .slice A0_2 l0_2.length c0_2, .slice A0_3 l0_3.length c0_3, .slice A0_4 l0_4.length c0_4] 26 (0, 0)) (by refine pf_ ?_ NB101_105.out; refine blk_far ?_ NB101_105.out _; exact pkx BK101) hb); replace BK102 := Aside0.mk (blk_below (g:=gb102) (o := .cells #[.int .i64 0, .int .i64 0] 34 (0, 0)) (by refine pf_ ?_ NB102_105.out; refine blk_far ?_ NB102_105.out _; exact pkx BK102) hb); replace BK105 := Aside0.mk (blk_below (g:=gb105) (o := .cells #[.int .i64 t103, .int .i64 t104] 34 (0, 0)) (by refine pp_ (cs := #[.int .i64 t103, .int .i64 0]) 1 ?_ rfl; refine blk_put (cs := #[.int .i64 0, .int .i64 0]) ?_ 0 _ rfl; exact pkx BK105) hb); replace HB := Aside0.mk (below_step (by repeat (first | (with_reducible first | exact HB.out | apply below_alloc | apply pw_below_drewN | apply below_drew1 | refine below_set ?_ GE101.out | refine below_set ?_ GE102.out | refine below_set ?_ GE105.out) | exact HB.out)) hb); (try clear hb); (try clear hb2); (try clear hk); (try clear hi)) | ((with_reducible refine gate_dst (N:=4) rfl ?_); refine be_ (N:=4) (cs := #[.int .i64 0, .int .i64 0]) (t:=34) ?_; intro gb108 hg w114 hbox hb; have BK108 := Aside0.mk (hbox); have GW108 := hs_ HB hg; have GE108 := hs_ HB hg; have NB101_108 := hl_ BK101 hg; have NB108_101 := hr_ BK101 hg; have NB102_108 := hl_ BK102 hg; have NB108_102 := hr_ BK102 hg; have NB105_108 := hl_ BK105 hg; have NB108_105 := hr_ BK105 hg; replace BK101 := bb_ BK101 hb; replace BK102 := bb_ BK102 hb; replace BK105 := bb_ BK105 hb; replace HB := bs_ HB hb; clear hb hbox hg; have hnb115 := NB108_101.out; have hnc115 := NB101_108.out; have hnb116 := NB108_102.out; have hnc116 := NB102_108.out; have hnb117 := NB108_105.out; have hnc117 := NB105_108.out; have hcz118_0 : w114.cell? ⟨gb108, 0, none⟩ = some (.int .i64 0) := bc_ BK108 0 rfl; have hcz118_1 : w114.cell? ⟨gb108, 1, none⟩ = some (.int .i64 0) := bc_ BK108 1 rfl; have hfz118_0 := blk_frozen BK108.out 0; have hfz118_1 := blk_frozen BK108.out 1; have hcz119_0 : w114.cell? ⟨gb101, 0, none⟩ = some (.int .i64 a0_0) := bc_ BK101 0 rfl; have hcz119_1 : w114.cell? ⟨gb101, 1, none⟩ = some (.int .i64 a0_1) := bc_ BK101 1 rfl; have hcz119_2 : w114.cell? ⟨gb101, 2, none⟩ = some (.slice A0_2 l0_2.length c0_2) := bc_ BK101 2 rfl; have hcz119_3 : w114.cell? ⟨gb101, 3, none⟩ = some (.slice A0_3 l0_3.length c0_3) := bc_ BK101 3 rfl; have hcz119_4 : w114.cell? ⟨gb101, 4, none⟩ = some (.slice A0_4 l0_4.length c0_4) := bc_ BK101 4 rfl; have hfz119_0 := blk_frozen BK101.out 0; have hfz119_1 := blk_frozen BK101.out 1; have hfz119_2 := blk_frozen BK101.out 2; have hfz119_3 := blk_frozen BK101.out 3; have hfz119_4 := blk_frozen BK101.out 4) | ((with_reducible refine gate_callee (f:=31) rfl ?_); refine gL_ (some 47) rfl rfl Tryd.func31 rfl #[.slice A0_4 l0_4.length c0_4, .slice A0_3 l0_3.length c0_3] rfl ?_; (with_reducible refine (oculusref06_Grants.calls kj1 _ _ l0_4 _ _ l0_3 t109 t110 _ ?side1 ?side2 ?side3 ?side4 A24.out).mono ?_); (case side1 => exact Kd.C_below HR0_4.out (by repeat (first | (with_reducible first | exact HB.out | apply below_alloc | apply pw_below_drewN | apply below_drew1 | refine below_set ?_ GE101.out | refine below_set ?_ GE102.out | refine below_set ?_ GE105.out | refine below_set ?_ GE108.out) | exact HB.out))); (case side2 => exact HC0_4.out); (case side3 => exact Kd.C_below HR0_3.out (by repeat (first | (with_reducible first | exact HB.out | apply below_alloc | apply pw_below_drewN | apply below_drew1 | refine below_set ?_ GE101.out | refine below_set ?_ GE102.out | refine below_set ?_ GE105.out | refine below_set ?_ GE108.out) | exact HB.out))); (case side4 => exact HC0_3.out); rintro e w120 ⟨rfl, hb⟩; refine ⟨_, rfl, ?_⟩; replace BK101 := Aside0.mk (blk_below (g:=gb101) (o := .cells #[.int .i64 a0_0, .int .i64 a0_1, .slice A0_2 l0_2.length c0_2, .slice A0_3 l0_3.length c0_3, .slice A0_4 l0_4.length c0_4] 26 (0, 0)) (by refine pf_ ?_ NB101_108.out; refine blk_far ?_ NB101_108.out _; exact pkx BK101) hb); replace BK102 := Aside0.mk (blk_below (g:=gb102) (o := .cells #[.int .i64 0, .int .i64 0] 34 (0, 0)) (by refine pf_ ?_ NB102_108.out; refine blk_far ?_ NB102_108.out _; exact pkx BK102) hb); replace BK105 := Aside0.mk (blk_below (g:=gb105) (o := .cells #[.int .i64 t103, .int .i64 t104] 34 (0, 0)) (by refine pf_ ?_ NB105_108.out; refine blk_far ?_ NB105_108.out _; exact pkx BK105) hb); replace BK108 := Aside0.mk (blk_below (g:=gb108) (o := .cells #[.int .i64 t106, .int .i64 t107] 34 (0, 0)) (by refine pp_ (cs := #[.int .i64 t106, .int .i64 0]) 1 ?_ rfl; refine blk_put (cs := #[.int .i64 0, .int .i64 0]) ?_ 0 _ rfl; exact pkx BK108) hb); replace HB := Aside0.mk (below_step (by repeat (first | (with_reducible first | exact HB.out | apply below_alloc | apply pw_below_drewN | apply below_drew1 | refine below_set ?_ GE101.out | refine below_set ?_ GE102.out | refine below_set ?_ GE105.out | refine below_set ?_ GE108.out) | exact HB.out)) hb); (try clear hb); (try clear hb2); (try clear hk); (try clear hi)) | ((with_reducible refine gate_dst (N:=5) rfl ?_); refine be_ (N:=5) (cs := #[.int .i64 0, .int .i64 0]) (t:=34) ?_; intro gb111 hg w121 hbox hb; have BK111 := Aside0.mk (hbox); have GW111 := hs_ HB hg; have GE111 := hs_ HB hg; have NB101_111 := hl_ BK101 hg; have NB111_101 := hr_ BK101 hg; have NB102_111 := hl_ BK102 hg; have NB111_102 := hr_ BK102 hg; have NB105_111 := hl_ BK105 hg; have NB111_105 := hr_ BK105 hg; have NB108_111 := hl_ BK108 hg; have NB111_108 := hr_ BK108 hg; replace BK101 := bb_ BK101 hb; replace BK102 := bb_ BK102 hb; replace BK105 := bb_ BK105 hb; replace BK108 := bb_ BK108 hb; replace HB := bs_ HB hb; clear hb hbox hg; have hnb122 := NB111_101.out; have hnc122 := NB101_111.out; have hnb123 := NB111_102.out; have hnc123 := NB102_111.out; have hnb124 := NB111_105.out; have hnc124 := NB105_111.out; have hnb125 := NB111_108.out; have hnc125 := NB108_111.out; have hcz126_0 : w121.cell? ⟨gb111, 0, none⟩ = some (.int .i64 0) := bc_ BK111 0 rfl; have hcz126_1 : w121.cell? ⟨gb111, 1, none⟩ = some (.int .i64 0) := bc_ BK111 1 rfl; have hfz126_0 := blk_frozen BK111.out 0; have hfz126_1 := blk_frozen BK111.out 1; have hcz127_0 : w121.cell? ⟨gb105, 0, none⟩ = some (.int .i64 t103) := bc_ BK105 0 rfl; have hcz127_1 : w121.cell? ⟨gb105, 1, none⟩ = some (.int .i64 t104) := bc_ BK105 1 rfl; have hfz127_0 := blk_frozen BK105.out 0; have hfz127_1 := blk_frozen BK105.out 1; have hcz128_0 : w121.cell? ⟨gb102, 0, none⟩ = some (.int .i64 0) := bc_ BK102 0 rfl; have hcz128_1 : w121.cell? ⟨gb102, 1, none⟩ = some (.int .i64 0) := bc_ BK102 1 rfl; have hfz128_0 := blk_frozen BK102.out 0; have hfz128_1 := blk_frozen BK102.out 1))
     refine bodyPost_ret (results_cell_row rfl _ _ gb102 34 #[.int .i64 (wrap64 (2 + t103)), .int .i64 t104] (0, 0) _ rfl (by refine pp_ (cs := #[.int .i64 (wrap64 (2 + t103)), .int .i64 0]) 1 ?_ rfl; refine blk_put (cs := #[.int .i64 0, .int .i64 0]) ?_ 0 _ rfl; refine pf_ ?_ NB102_111.out; refine blk_far ?_ NB102_111.out _; exact pkx BK102) Tryd.underlying34 rfl (by kernel_rfl)) rfl ?_
     exact ⟨by first | rfl | (simp [errW_none, errW_some] <;> rfl) | (simp [*, errW_none, errW_some] <;> rfl), by repeat (first | (with_reducible first | exact HB.out | apply below_alloc | apply pw_below_drewN | apply below_drew1 | refine below_set ?_ GE101.out | refine below_set ?_ GE102.out | refine below_set ?_ GE105.out | refine below_set ?_ GE108.out | refine below_set ?_ GE111.out) | exact HB.out)⟩

def oculusref07_In.f (a0_0 : Int) (a0_1 : Int) (l0_2 : List (S61)) (l0_3 : List (S65)) (l0_4 : List (S67)) (a1_0 : Int) (a1_1 : Int) : Option (Bool) := if a1_0 ≥ 0 then (if a1_0 < a0_0 then (if a1_1 ≥ 0 then (some (decide (a1_1 < a0_1))) else (some false)) else (some false)) else (some false)
set_option maxHeartbeats 8000000 in
set_option maxRecDepth 100000 in
theorem oculusref07_In.calls (a0_0 : Int) (a0_1 : Int) (A0_2 : Option Addr) (c0_2 : Nat) (l0_2 : List (S61)) (A0_3 : Option Addr) (c0_3 : Nat) (l0_3 : List (S65)) (A0_4 : Option Addr) (c0_4 : Nat) (l0_4 : List (S67)) (a1_0 : Int) (a1_1 : Int) (r : Bool) (w : World) (hr0_2 : Kd.C k61 w A0_2 l0_2.length l0_2) (hc0_2 : l0_2.length ≤ c0_2) (hr0_3 : Kd.C k65 w A0_3 l0_3.length l0_3) (hc0_3 : l0_3.length ≤ c0_3) (hr0_4 : Kd.C k67 w A0_4 l0_4.length l0_4) (hc0_4 : l0_4.length ≤ c0_4) (h : oculusref07_In.f a0_0 a0_1 l0_2 l0_3 l0_4 a1_0 a1_1 = some r) :
  Calls Tryd.prog 14 #[.agg #[.int .i64 a0_0, .int .i64 a0_1, .slice A0_2 l0_2.length c0_2, .slice A0_3 l0_3.length c0_3, .slice A0_4 l0_4.length c0_4], .agg #[.int .i64 a1_0, .int .i64 a1_1]] w fun e w' => e = .returned (.bool r) ∧ Below w.heap.size w w' := by
 have hu26 := Tryd.underlying26; have hu38 := Tryd.underlying38; have HR0_2 := Aside0.mk hr0_2; have HC0_2 := Aside0.mk hc0_2; clear hr0_2 hc0_2; have HR0_3 := Aside0.mk hr0_3; have HC0_3 := Aside0.mk hc0_3; clear hr0_3 hc0_3; have HR0_4 := Aside0.mk hr0_4; have HC0_4 := Aside0.mk hc0_4; clear hr0_4 hc0_4; have HB := Aside0.mk (Below.refl w.heap.size w)
 have H : (if a1_0 ≥ 0 then (if a1_0 < a0_0 then (if a1_1 ≥ 0 then (some (decide (a1_1 < a0_1))) else (some false)) else (some false)) else (some false)) = some r := h
 clear h
 by_cases c3 : a1_0 ≥ 0
 ·rw [if_pos c3] at H; have c3b0 : decide (0 ≤ a1_0) = true := decide_eq_true c3; clear c3
  by_cases c4 : a1_0 < a0_0
  ·rw [if_pos c4] at H; have c4b0 : decide (a1_0 < a0_0) = true := decide_eq_true c4; clear c4
   by_cases c5 : a1_1 ≥ 0
   ·rw [if_pos c5] at H; have c5b0 : decide (0 ≤ a1_1) = true := decide_eq_true c5; clear c5; obtain rfl := Option.some.inj H
    go_enter Tryd.func14, Tryd.ntmps14
    go_wp2_with (first | ((with_reducible refine gate_dst (N:=2) rfl ?_); refine be_ (N:=2) (cs := #[.int .i64 a0_0, .int .i64 a0_1, .slice A0_2 l0_2.length c0_2, .slice A0_3 l0_3.length c0_3, .slice A0_4 l0_4.length c0_4]) (t:=26) ?_; intro gb101 hg w6 hbox hb; have BK101 := Aside0.mk (hbox); replace HB := bs_ HB hb; clear hb hbox hg) | ((with_reducible refine gate_dst (N:=3) rfl ?_); refine be_ (N:=3) (cs := #[.int .i64 a1_0, .int .i64 a1_1]) (t:=38) ?_; intro gb102 hg w7 hbox hb; have BK102 := Aside0.mk (hbox); replace BK101 := bb_ BK101 hb; replace HB := bs_ HB hb; clear hb hbox hg; have hcz8_0 : w7.cell? ⟨gb102, 0, none⟩ = some (.int .i64 a1_0) := bc_ BK102 0 rfl; have hcz8_1 : w7.cell? ⟨gb102, 1, none⟩ = some (.int .i64 a1_1) := bc_ BK102 1 rfl; have hcz9_0 : w7.cell? ⟨gb101, 0, none⟩ = some (.int .i64 a0_0) := bc_ BK101 0 rfl; have hcz9_1 : w7.cell? ⟨gb101, 1, none⟩ = some (.int .i64 a0_1) := bc_ BK101 1 rfl; have hcz9_2 : w7.cell? ⟨gb101, 2, none⟩ = some (.slice A0_2 l0_2.length c0_2) := bc_ BK101 2 rfl; have hcz9_3 : w7.cell? ⟨gb101, 3, none⟩ = some (.slice A0_3 l0_3.length c0_3) := bc_ BK101 3 rfl; have hcz9_4 : w7.cell? ⟨gb101, 4, none⟩ = some (.slice A0_4 l0_4.length c0_4) := bc_ BK101 4 rfl))
    go_ret
    exact ⟨by first | rfl | (simp [errW_none, errW_some] <;> rfl) | (simp [*, errW_none, errW_some] <;> rfl), pbx HB⟩
   ·rw [if_neg c5] at H; have c5b0 : decide (0 ≤ a1_1) = false := decide_eq_false c5; clear c5; obtain rfl := Option.some.inj H
    go_enter Tryd.func14, Tryd.ntmps14
    go_wp2_with (first | ((with_reducible refine gate_dst (N:=2) rfl ?_); refine be_ (N:=2) (cs := #[.int .i64 a0_0, .int .i64 a0_1, .slice A0_2 l0_2.length c0_2, .slice A0_3 l0_3.length c0_3, .slice A0_4 l0_4.length c0_4]) (t:=26) ?_; intro gb101 hg w10 hbox hb; have BK101 := Aside0.mk (hbox); replace HB := bs_ HB hb; clear hb hbox hg) | ((with_reducible refine gate_dst (N:=3) rfl ?_); refine be_ (N:=3) (cs := #[.int .i64 a1_0, .int .i64 a1_1]) (t:=38) ?_; intro gb102 hg w11 hbox hb; have BK102 := Aside0.mk (hbox); replace BK101 := bb_ BK101 hb; replace HB := bs_ HB hb; clear hb hbox hg; have hcz12_0 : w11.cell? ⟨gb102, 0, none⟩ = some (.int .i64 a1_0) := bc_ BK102 0 rfl; have hcz12_1 : w11.cell? ⟨gb102, 1, none⟩ = some (.int .i64 a1_1) := bc_ BK102 1 rfl; have hcz13_0 : w11.cell? ⟨gb101, 0, none⟩ = some (.int .i64 a0_0) := bc_ BK101 0 rfl; have hcz13_1 : w11.cell? ⟨gb101, 1, none⟩ = some (.int .i64 a0_1) := bc_ BK101 1 rfl; have hcz13_2 : w11.cell? ⟨gb101, 2, none⟩ = some (.slice A0_2 l0_2.length c0_2) := bc_ BK101 2 rfl; have hcz13_3 : w11.cell? ⟨gb101, 3, none⟩ = some (.slice A0_3 l0_3.length c0_3) := bc_ BK101 3 rfl; have hcz13_4 : w11.cell? ⟨gb101, 4, none⟩ = some (.slice A0_4 l0_4.length c0_4) := bc_ BK101 4 rfl))
    go_ret
    exact ⟨by first | rfl | (simp [errW_none, errW_some] <;> rfl) | (simp [*, errW_none, errW_some] <;> rfl), pbx HB⟩
  ·rw [if_neg c4] at H; have c4b0 : decide (a1_0 < a0_0) = false := decide_eq_false c4; clear c4; obtain rfl := Option.some.inj H
   go_enter Tryd.func14, Tryd.ntmps14
   go_wp2_with (first | ((with_reducible refine gate_dst (N:=2) rfl ?_); refine be_ (N:=2) (cs := #[.int .i64 a0_0, .int .i64 a0_1, .slice A0_2 l0_2.length c0_2, .slice A0_3 l0_3.length c0_3, .slice A0_4 l0_4.length c0_4]) (t:=26) ?_; intro gb101 hg w14 hbox hb; have BK101 := Aside0.mk (hbox); replace HB := bs_ HB hb; clear hb hbox hg) | ((with_reducible refine gate_dst (N:=3) rfl ?_); refine be_ (N:=3) (cs := #[.int .i64 a1_0, .int .i64 a1_1]) (t:=38) ?_; intro gb102 hg w15 hbox hb; have BK102 := Aside0.mk (hbox); replace BK101 := bb_ BK101 hb; replace HB := bs_ HB hb; clear hb hbox hg; have hcz16_0 : w15.cell? ⟨gb102, 0, none⟩ = some (.int .i64 a1_0) := bc_ BK102 0 rfl; have hcz16_1 : w15.cell? ⟨gb102, 1, none⟩ = some (.int .i64 a1_1) := bc_ BK102 1 rfl; have hcz17_0 : w15.cell? ⟨gb101, 0, none⟩ = some (.int .i64 a0_0) := bc_ BK101 0 rfl; have hcz17_1 : w15.cell? ⟨gb101, 1, none⟩ = some (.int .i64 a0_1) := bc_ BK101 1 rfl; have hcz17_2 : w15.cell? ⟨gb101, 2, none⟩ = some (.slice A0_2 l0_2.length c0_2) := bc_ BK101 2 rfl; have hcz17_3 : w15.cell? ⟨gb101, 3, none⟩ = some (.slice A0_3 l0_3.length c0_3) := bc_ BK101 3 rfl; have hcz17_4 : w15.cell? ⟨gb101, 4, none⟩ = some (.slice A0_4 l0_4.length c0_4) := bc_ BK101 4 rfl))
   go_ret
   exact ⟨by first | rfl | (simp [errW_none, errW_some] <;> rfl) | (simp [*, errW_none, errW_some] <;> rfl), pbx HB⟩
 ·rw [if_neg c3] at H; have c3b0 : decide (0 ≤ a1_0) = false := decide_eq_false c3; clear c3; obtain rfl := Option.some.inj H
  go_enter Tryd.func14, Tryd.ntmps14
  go_wp2_with (first | ((with_reducible refine gate_dst (N:=2) rfl ?_); refine be_ (N:=2) (cs := #[.int .i64 a0_0, .int .i64 a0_1, .slice A0_2 l0_2.length c0_2, .slice A0_3 l0_3.length c0_3, .slice A0_4 l0_4.length c0_4]) (t:=26) ?_; intro gb101 hg w18 hbox hb; have BK101 := Aside0.mk (hbox); replace HB := bs_ HB hb; clear hb hbox hg) | ((with_reducible refine gate_dst (N:=3) rfl ?_); refine be_ (N:=3) (cs := #[.int .i64 a1_0, .int .i64 a1_1]) (t:=38) ?_; intro gb102 hg w19 hbox hb; have BK102 := Aside0.mk (hbox); replace BK101 := bb_ BK101 hb; replace HB := bs_ HB hb; clear hb hbox hg; have hcz20_0 : w19.cell? ⟨gb102, 0, none⟩ = some (.int .i64 a1_0) := bc_ BK102 0 rfl; have hcz20_1 : w19.cell? ⟨gb102, 1, none⟩ = some (.int .i64 a1_1) := bc_ BK102 1 rfl))
  go_ret
  exact ⟨by first | rfl | (simp [errW_none, errW_some] <;> rfl) | (simp [*, errW_none, errW_some] <;> rfl), pbx HB⟩

end Go.Proofs.YtbboanfggaknjaaDoor.X
/- The law PolicyWrong as a function of numbers and rows, and its contract. -/
set_option linter.unusedVariables false
set_option linter.unusedSimpArgs false
namespace Go.Proofs.YtbboanfggaknjaaDoor.X
open Go.Sort Go.RowKit Go.Proofs.YtbboanfggaknjaaDoorW.PrintWords Go.Proofs.YtbboanfggaknjaaDoorW.PrintLast Go.Proofs.YtbboanfggaknjaaDoorW.PrintMore
def oculuslaw07_PolicyWrong.f (k : Nat) (a0_0 : Int) (a0_1 : Int) (l0_2 : List (S61)) (l0_3 : List (S65)) (l0_4 : List (S67)) (a1_0 : Int) (a1_1 : Int) : Option Bool :=
  (oculuslaw07_small.f a0_0 a0_1 l0_2 l0_3 l0_4).bind fun s => if s = false then some true else
  (policy_Wrong.f k a0_0 a0_1 l0_2 l0_3 l0_4).bind fun e => (oculusref07_Wrong.f k a0_0 a0_1 l0_2 l0_3 l0_4).bind fun t => if e = t then
  (policy_In.f a0_0 a0_1 l0_2 l0_3 l0_4 a1_0 a1_1).bind fun i => (oculusref07_In.f a0_0 a0_1 l0_2 l0_3 l0_4 a1_0 a1_1).bind fun j => if i = j then some true else none else none
structure Rows7 (w : World) (A2 : Option Addr) (c2 : Nat) (zs : List S61) (A3 : Option Addr) (c3 : Nat) (us : List S65) (A4 : Option Addr) (c4 : Nat) (gs : List S67) : Prop where
  z : Kd.C k61 w A2 zs.length zs
  zl : zs.length ≤ c2
  u : Kd.C k65 w A3 us.length us
  ul : us.length ≤ c3
  g : Kd.C k67 w A4 gs.length gs
  gl : gs.length ≤ c4
theorem Rows7.below {w w1 : World} {A2 A3 A4 : Option Addr} {c2 c3 c4 : Nat} {zs : List S61} {us : List S65} {gs : List S67} (h : Aside0 (Rows7 w A2 c2 zs A3 c3 us A4 c4 gs)) (hb : Below w.heap.size w w1) : Aside0 (Rows7 w1 A2 c2 zs A3 c3 us A4 c4 gs) :=
  ⟨⟨Kd.C_below h.out.z hb, h.out.zl, Kd.C_below h.out.u hb, h.out.ul, Kd.C_below h.out.g hb, h.out.gl⟩⟩
theorem cells2_ {W : World} {g : Nat} {t : TypeId} {a0 a1 : Value} (h : W.heap[g]? = some (.cells #[a0, a1] t (0, 0))) : W.cell? ⟨g, 0, none⟩ = some a0 ∧ W.cell? ⟨g, 1, none⟩ = some a1 := ⟨(blk_cell h 0).trans rfl, (blk_cell h 1).trans rfl⟩
set_option maxHeartbeats 4000000 in
set_option maxRecDepth 100000 in
theorem oculuslaw07_PolicyWrong.calls (k : Nat) (a0_0 : Int) (a0_1 : Int) (A0_2 : Option Addr) (c0_2 : Nat) (l0_2 : List (S61)) (A0_3 : Option Addr) (c0_3 : Nat) (l0_3 : List (S65)) (A0_4 : Option Addr) (c0_4 : Nat) (l0_4 : List (S67)) (a1_0 : Int) (a1_1 : Int) (r : Bool) (w : World) (hT : Aside0 (Tab w)) (hr0_2 : Kd.C k61 w A0_2 l0_2.length l0_2) (hc0_2 : l0_2.length ≤ c0_2) (hr0_3 : Kd.C k65 w A0_3 l0_3.length l0_3) (hc0_3 : l0_3.length ≤ c0_3) (hr0_4 : Kd.C k67 w A0_4 l0_4.length l0_4) (hc0_4 : l0_4.length ≤ c0_4) (h : oculuslaw07_PolicyWrong.f k a0_0 a0_1 l0_2 l0_3 l0_4 a1_0 a1_1 = some r) :
    Calls Tryd.prog 4 #[.agg #[.int .i64 a0_0, .int .i64 a0_1, .slice A0_2 l0_2.length c0_2, .slice A0_3 l0_3.length c0_3, .slice A0_4 l0_4.length c0_4], .agg #[.int .i64 a1_0, .int .i64 a1_1]] w fun e w' => e = .returned (.bool r) ∧ Below w.heap.size w w' := by
  have hu26 := Tryd.underlying26
  have hu38 := Tryd.underlying38
  have hu34 := Tryd.underlying34
  have HR : Aside0 (Rows7 w A0_2 c0_2 l0_2 A0_3 c0_3 l0_3 A0_4 c0_4 l0_4) := ⟨⟨hr0_2, hc0_2, hr0_3, hc0_3, hr0_4, hc0_4⟩⟩
  clear hr0_2 hc0_2 hr0_3 hc0_3 hr0_4 hc0_4
  obtain ⟨s, S1, H⟩ := Option.bind_eq_some_iff.mp h
  have HS1 := Aside0.mk S1
  have HH := Aside0.mk H
  clear h S1 H
  go_enter Tryd.func4, Tryd.ntmps4
  go_upto_region 1 with fail
  have hb := new_below w (.cells #[.int .i64 a0_0, .int .i64 a0_1, .slice A0_2 l0_2.length c0_2, .slice A0_3 l0_3.length c0_3, .slice A0_4 l0_4.length c0_4] 26)
  have HP := Aside0.mk (blk_alloc (blk_new w (.cells #[.int .i64 a0_0, .int .i64 a0_1, .slice A0_2 l0_2.length c0_2, .slice A0_3 l0_3.length c0_3, .slice A0_4 l0_4.length c0_4] 26)) (.cells #[.int .i64 a1_0, .int .i64 a1_1] 38))
  have HC := Aside0.mk (blk_new (w.alloc (.cells #[.int .i64 a0_0, .int .i64 a0_1, .slice A0_2 l0_2.length c0_2, .slice A0_3 l0_3.length c0_3, .slice A0_4 l0_4.length c0_4] 26)) (.cells #[.int .i64 a1_0, .int .i64 a1_1] 38))
  have HB := Aside0.mk (below_step hb (new_below (w.alloc (.cells #[.int .i64 a0_0, .int .i64 a0_1, .slice A0_2 l0_2.length c0_2, .slice A0_3 l0_3.length c0_3, .slice A0_4 l0_4.length c0_4] 26)) (.cells #[.int .i64 a1_0, .int .i64 a1_1] 38)))
  have hz : (w.alloc (.cells #[.int .i64 a0_0, .int .i64 a0_1, .slice A0_2 l0_2.length c0_2, .slice A0_3 l0_3.length c0_3, .slice A0_4 l0_4.length c0_4] 26)).heap.size = w.heap.size + 1 := Array.size_push ..
  rw [hz] at HC
  clear hb hz
  replace HR := Rows7.below HR HB.out
  replace hT := tb_ HB.out hT
  generalize (w.alloc (.cells #[.int .i64 a0_0, .int .i64 a0_1, .slice A0_2 l0_2.length c0_2, .slice A0_3 l0_3.length c0_3, .slice A0_4 l0_4.length c0_4] 26)).alloc (.cells #[.int .i64 a1_0, .int .i64 a1_1] 38) = w1 at HP HC HB HR hT ⊢
  generalize w.heap.size = g at HP HC ⊢
  obtain ⟨y0, y1, y2, y3, y4⟩ := cells5_ HP.out
  cases s with
  | false =>
    obtain rfl : true = r := Option.some.inj HH.out
    clear HH
    go_wp2_with (first
      | (go_at_call 5; (with_reducible refine (oculuslaw07_small.calls a0_0 a0_1 A0_2 c0_2 l0_2 A0_3 c0_3 l0_3 A0_4 c0_4 l0_4 false _ HR.out.z HR.out.zl HR.out.u HR.out.ul HR.out.g HR.out.gl HS1.out).mono ?_); rintro e w5 ⟨rfl, hb⟩; replace HB := Aside0.mk (below_step HB.out hb); replace hT := tb_ hb hT; clear hb)
      | (go_at_call 6; (with_reducible refine (oculuslaw07_alive.calls 0 true _ hT rfl).mono ?_); rintro e w6 ⟨rfl, hb⟩; replace HB := Aside0.mk (below_step HB.out hb); clear hb))
    go_ret
    exact ⟨rfl, HB.out⟩
  | true =>
    have H := HH.out
    rw [if_neg (by simp)] at H
    clear HH
    obtain ⟨⟨e1, e2⟩, E1, H⟩ := Option.bind_eq_some_iff.mp H
    obtain ⟨⟨t1, t2⟩, T1, H⟩ := Option.bind_eq_some_iff.mp H
    by_cases het : ((e1, e2) : Int × Int) = (t1, t2)
    case neg => rw [if_neg het] at H; cases H
    rw [if_pos het] at H
    obtain ⟨i1, I1, H⟩ := Option.bind_eq_some_iff.mp H
    obtain ⟨j1, J1, H⟩ := Option.bind_eq_some_iff.mp H
    by_cases hij : i1 = j1
    case neg => rw [if_neg hij] at H; cases H
    rw [if_pos hij] at H
    obtain rfl : true = r := Option.some.inj H
    obtain rfl := hij
    have h1 := congrArg Prod.fst het
    have h2 := congrArg Prod.snd het
    obtain rfl : e1 = t1 := h1
    obtain rfl : e2 = t2 := h2
    have HE := Aside0.mk E1
    have HF := Aside0.mk T1
    have HI := Aside0.mk I1
    have HJ := Aside0.mk J1
    clear H E1 T1 I1 J1 het
    go_upto_region 5 with (first
      | (go_at_call 5; (with_reducible refine (oculuslaw07_small.calls a0_0 a0_1 A0_2 c0_2 l0_2 A0_3 c0_3 l0_3 A0_4 c0_4 l0_4 true _ HR.out.z HR.out.zl HR.out.u HR.out.ul HR.out.g HR.out.gl HS1.out).mono ?_); rintro e w5 ⟨rfl, hb⟩; replace HB := Aside0.mk (below_step HB.out hb); replace hT := tb_ hb hT; replace HP := Aside0.mk (blk_below HP.out hb); replace HC := Aside0.mk (blk_below HC.out hb); replace HR := Rows7.below HR hb; clear hb y0 y1 y2 y3 y4; obtain ⟨y0, y1, y2, y3, y4⟩ := cells5_ HP.out)
      | (go_at_call 12; (with_reducible refine (policy_Wrong.calls k a0_0 a0_1 A0_2 c0_2 l0_2 A0_3 c0_3 l0_3 A0_4 c0_4 l0_4 e1 e2 _ HR.out.z HR.out.zl HR.out.u HR.out.ul HR.out.g HR.out.gl HE.out).mono ?_); rintro e w6 ⟨rfl, hb⟩; replace HB := Aside0.mk (below_step HB.out hb); replace hT := tb_ hb hT; replace HP := Aside0.mk (blk_below HP.out hb); replace HC := Aside0.mk (blk_below HC.out hb); replace HR := Rows7.below HR hb; clear hb y0 y1 y2 y3 y4; obtain ⟨y0, y1, y2, y3, y4⟩ := cells5_ HP.out)
      | (go_at_call 10; (with_reducible refine (oculusref07_Wrong.calls k a0_0 a0_1 A0_2 c0_2 l0_2 A0_3 c0_3 l0_3 A0_4 c0_4 l0_4 e1 e2 _ HR.out.z HR.out.zl HR.out.u HR.out.ul HR.out.g HR.out.gl HF.out).mono ?_); rintro e w7 ⟨rfl, hb⟩; replace HB := Aside0.mk (below_step HB.out hb); replace hT := tb_ hb hT; replace HP := Aside0.mk (blk_below HP.out hb); replace HC := Aside0.mk (blk_below HC.out hb); replace HR := Rows7.below HR hb; clear hb y0 y1 y2 y3 y4))
    have hb := new_below w7 (.cells #[.int .i64 e1, .int .i64 e2] 34)
    have HW := Aside0.mk (blk_new w7 (.cells #[.int .i64 e1, .int .i64 e2] 34))
    replace HB := Aside0.mk (below_step HB.out hb); replace hT := tb_ hb hT; replace HP := Aside0.mk (blk_below HP.out hb); replace HC := Aside0.mk (blk_below HC.out hb); replace HR := Rows7.below HR hb
    clear hb
    generalize w7.alloc (.cells #[.int .i64 e1, .int .i64 e2] 34) = w8 at HP HC HB HR HW hT ⊢
    generalize w7.heap.size = g3 at HW ⊢
    obtain ⟨y0, y1, y2, y3, y4⟩ := cells5_ HP.out
    obtain ⟨x0, x1⟩ := cells2_ HC.out
    obtain ⟨v0, v1⟩ := cells2_ HW.out
    have gy0 := cell_regrown y0
    have gy1 := cell_regrown y1
    have gy2 := cell_regrown y2
    have gy3 := cell_regrown y3
    have gy4 := cell_regrown y4
    have gx0 := cell_regrown x0
    have gx1 := cell_regrown x1
    have gv0 := cell_regrown v0
    have gv1 := cell_regrown v1
    have cI : ∀ d os, Calls Tryd.prog 13 #[.agg #[.int .i64 a0_0, .int .i64 a0_1, .slice A0_2 l0_2.length c0_2, .slice A0_3 l0_3.length c0_3, .slice A0_4 l0_4.length c0_4], .agg #[.int .i64 a1_0, .int .i64 a1_1]] (grow (redrawn w8 d) os) fun e w'' => e = .returned (.bool i1) ∧ ∃ p : Regrown, w'' = grow (redrawn w8 p.d) p.os := fun d os => by
      have hr := Rows7.below HR (below_regrown w8 d os)
      exact Calls.regrown_of (policy_In.calls a0_0 a0_1 A0_2 c0_2 l0_2 A0_3 c0_3 l0_3 A0_4 c0_4 l0_4 a1_0 a1_1 i1 _ hr.out.z hr.out.zl hr.out.u hr.out.ul hr.out.g hr.out.gl HI.out)
    have cJ : ∀ d os, Calls Tryd.prog 14 #[.agg #[.int .i64 a0_0, .int .i64 a0_1, .slice A0_2 l0_2.length c0_2, .slice A0_3 l0_3.length c0_3, .slice A0_4 l0_4.length c0_4], .agg #[.int .i64 a1_0, .int .i64 a1_1]] (grow (redrawn w8 d) os) fun e w'' => e = .returned (.bool i1) ∧ ∃ p : Regrown, w'' = grow (redrawn w8 p.d) p.os := fun d os => by
      have hr := Rows7.below HR (below_regrown w8 d os)
      exact Calls.regrown_of (oculusref07_In.calls a0_0 a0_1 A0_2 c0_2 l0_2 A0_3 c0_3 l0_3 A0_4 c0_4 l0_4 a1_0 a1_1 i1 _ hr.out.z hr.out.zl hr.out.u hr.out.ul hr.out.g hr.out.gl HJ.out)
    have cA : ∀ d os, Calls Tryd.prog 6 #[] (grow (redrawn w8 d) os) fun e w'' => e = .returned (.bool true) ∧ ∃ p : Regrown, w'' = grow (redrawn w8 p.d) p.os := fun d os => Calls.regrown_of (oculuslaw07_alive.calls 0 true _ (tb_ (below_regrown w8 d os) hT) rfl)
    clear y0 y1 y2 y3 y4 x0 x1 v0 v1
    refine wp_region_quiet_below (by kernel_rfl) (by kernel_rfl) ?_
    repeat (quiet_step (first | exact cI _ _ | exact cJ _ _ | exact cA _ _))
    refine wpQuiet_nil ?_
    rintro _ ⟨⟨dq, osq⟩, rfl⟩
    replace HB := Aside0.mk (below_step HB.out (below_regrown w8 dq osq))
    generalize grow (redrawn w8 dq) osq = w9 at HB ⊢
    go_wp2
    go_ret
    exact ⟨rfl, HB.out⟩
end Go.Proofs.YtbboanfggaknjaaDoor.X
/- A general opening of a row's arguments: what a value of a type reads as, as a term of a kind 'Kd', with the bounds that the row's reach gives. -/
set_option linter.unusedVariables false
set_option linter.unusedSimpArgs false
namespace Go.Proofs.YtbboanfggaknjaaDoor.Opn
open Go.ChangeShapes Go.WideShapes Go.RowKit Go.Proofs.YtbboanfggaknjaaDoorW.PrintWords

def Opens {α : Type} (P : Program) (t : TypeId) (d : Kd α) (good : α → Prop) : Prop :=
  ∀ {H : Type} {enc : TypeId × Value → H} {w : World} {base : Nat} {spare : Nat → Bool} {held : Bool} {fuel : Nat} {cs : List Value} {x : DataW H × List MemPlace},
    DataW.trod enc P w base spare held fuel t cs = some x → (∀ m ∈ x.1.weights P t, m ≤ reachBytes) → ∃ a, d.K w a cs ∧ good a

theorem opens_int {P : Program} {t : TypeId} {k : IntKind} (ht : P.underlying t = some (.int k)) : Opens P t (Kd.int k) (fun n => (Lit.int k n).wf = true) := by
  intro H enc w base spare held fuel cs x hx _
  obtain ⟨n, rfl, rfl, hn⟩ := DataW.trod_int ht hx
  exact ⟨n, rfl, hn⟩
theorem opens_string {P : Program} {t : TypeId} (ht : P.underlying t = some .string) : Opens P t Kd.string (fun s => s.size ≤ reachBytes) := by
  intro H enc w base spare held fuel cs x hx hw
  obtain ⟨s, rfl, rfl, _⟩ := DataW.trod_string ht hx
  refine ⟨s, rfl, ?_⟩
  have := hw s.data.toList.length (by simp [DataW.weights])
  simpa using this

theorem weightsAll_mem {H : Type} {P : Program} {e : TypeId} : ∀ {l : List (DataW H)} {d : DataW H}, d ∈ l → ∀ m ∈ d.weights P e, m ∈ DataW.weightsAll P e l
  | d0 :: l, d, hd, m, hm => by
    simp only [DataW.weightsAll, List.mem_append]
    rcases List.mem_cons.1 hd with rfl | hd
    · exact Or.inl hm
    · exact Or.inr (weightsAll_mem hd m hm)
  | [], _, hd, _, _ => by simp at hd

theorem opens_slice {α : Type} {P : Program} {t e : TypeId} {d : Kd α} {good : α → Prop} (ht : P.underlying t = some (.slice e)) (hc : P.cellsOf e = d.sz) {B : Nat} (hB : P.bytesOf e = B) (z : α) (h : Opens P e d good) :
    Opens P t (Kd.slice e d) (fun xs => (∀ x ∈ xs, good x) ∧ xs.length * B ≤ reachBytes) := by
  intro H enc w base spare held fuel cs x hx hw
  rcases Go.Deep.open_slice ht hx with ⟨rfl, rfl⟩ | ⟨a, len, cap, m, n, D, Pl, rfl, hb, hl, hm, hmm, rfl, hel⟩
  · exact ⟨[], ⟨none, 0, rfl, Nat.le_refl _, rfl, by simp, fun h0 => absurd h0 (by simp)⟩, by simp, by simp⟩
  · have hlm : len ≤ m := by rw [hmm]; split <;> omega
    have hmx : len ≤ 9223372036854775807 := by unfold maxLen at hm; omega
    have hw' : ∀ i, i < len → ∀ q ∈ (D i).weights P e, q ≤ reachBytes := by
      intro i hi q hq
      refine hw q ?_
      simp only [DataW.weights, ht]
      refine List.mem_cons_of_mem _ (List.mem_append.2 (Or.inl ?_))
      exact weightsAll_mem (d := D i) (List.mem_map.2 ⟨i, List.mem_range.2 hi, rfl⟩) q hq
    have hB' : len * B ≤ reachBytes := by
      have h0 := hw ((((List.range len).map D).length + ((List.range (m - len)).map fun j => D (len + j)).length) * P.bytesOf e) (by simp only [DataW.weights, ht]; exact List.mem_cons_self ..)
      rw [hB] at h0
      simp only [List.length_map, List.length_range] at h0
      exact Nat.le_trans (Nat.mul_le_mul_right B (by omega)) h0
    have key : ∀ i, i < len → ∃ y : α × List Value, d.K w y.1 y.2 ∧ good y.1 ∧ w.cells? base (a.add (i * P.cellsOf e)) (P.cellsOf e) = some y.2 := by
      intro i hi
      obtain ⟨cs', h1, h2⟩ := hel i (by omega)
      obtain ⟨y, h3, h4⟩ := h h2 (hw' i hi)
      exact ⟨(y, cs'), h3, h4, h1⟩
    haveI : Inhabited (α × List Value) := ⟨(z, [])⟩
    obtain ⟨F, hF⟩ := Go.Deep.choose_lt key
    refine ⟨(List.range len).map fun i => (F i).1, ⟨some a, cap, by simp, by simpa using hl, by simp, by simpa using hmx, fun h0 => ⟨a, rfl, ?_⟩⟩, ?_, by simpa using hB'⟩
    · intro j p hj
      have hjl : j < len := by
        have := (List.getElem?_eq_some_iff.1 hj).1
        simpa using this
      have hp : p = (F j).1 := by
        rw [List.getElem?_map, List.getElem?_range hjl] at hj
        simpa using hj.symm
      subst hp
      obtain ⟨h1, h2, h3⟩ := hF j hjl
      obtain ⟨_, hlen, hcell⟩ := World.cells?_some h3
      refine ⟨(F j).2, by rw [hlen, hc], h1, fun i u hu => ?_⟩
      have hi : i < P.cellsOf e := by
        have := (List.getElem?_eq_some_iff.1 hu).1
        omega
      have := hcell i hi
      rw [Go.Deep.add_add] at this
      rw [← hc, this, hu]
    · intro x hx
      obtain ⟨i, hi, rfl⟩ := List.mem_map.1 hx
      exact (hF i (List.mem_range.1 hi)).2.1

def OpensTail {α : Type} (P : Program) (fs : List Field) (o len : Nat) (d : Kd α) (good : α → Prop) : Prop :=
  ∀ {H : Type} {enc : TypeId × Value → H} {w : World} {base : Nat} {spare : Nat → Bool} {held : Bool} {n : Nat} {cs : List Value} {xs : List (DataW H × List MemPlace)},
    cs.length = len → xs.length = fs.length →
    (∀ (i : Nat) (f : Field), fs[i]? = some f → DataW.trod enc P w base spare held n f.type ((cs.drop f.offset).take (P.cellsOf f.type)) = xs[i]?) →
    (∀ m ∈ DataW.weightsEach P (fs.map (·.type)) (xs.map (·.1)), m ≤ reachBytes) → ∃ a, d.K w a (cs.drop o) ∧ good a

theorem tail_one {α : Type} {P : Program} {f : Field} {o len : Nat} {d : Kd α} {good : α → Prop} (ho : f.offset = o) (hl : len ≤ o + P.cellsOf f.type) (h : Opens P f.type d good) : OpensTail P [f] o len d good := by
  intro H enc w base spare held n cs xs hcs hxs hall hw
  obtain ⟨x, rfl⟩ : ∃ x, xs = [x] := by
    match xs, hxs with
    | [x], _ => exact ⟨x, rfl⟩
  have h0 := hall 0 f rfl
  rw [ho, List.take_of_length_le (by rw [List.length_drop]; omega)] at h0
  exact h h0 (fun m hm => hw m (by simp only [List.map_cons, List.map_nil, DataW.weightsEach, List.mem_append]; exact Or.inl hm))
theorem tail_cons {α β : Type} {P : Program} {f : Field} {fs : List Field} {o o' len : Nat} {a : Kd α} {b : Kd β} {ga : α → Prop} {gb : β → Prop} (ho : f.offset = o) (ho' : o' = o + P.cellsOf f.type)
    (h : Opens P f.type a ga) (ht : OpensTail P fs o' len b gb) : OpensTail P (f :: fs) o len (Kd.pair a b) (fun x => ga x.1 ∧ gb x.2) := by
  intro H enc w base spare held n cs xs hcs hxs hall hw
  obtain ⟨x, xs, rfl⟩ : ∃ x r, xs = x :: r := by
    match xs, hxs with
    | x :: r, _ => exact ⟨x, r, rfl⟩
  have h0 := hall 0 f rfl
  rw [ho] at h0
  obtain ⟨y, hy, hgy⟩ := h h0 (fun m hm => hw m (by simp only [List.map_cons, DataW.weightsEach, List.mem_append]; exact Or.inl hm))
  obtain ⟨z, hz, hgz⟩ := ht (xs := xs) hcs (by simpa using hxs) (fun i g hg => by simpa using hall (i + 1) g (by simpa using hg))
    (fun m hm => hw m (by simp only [List.map_cons, DataW.weightsEach, List.mem_append]; exact Or.inr hm))
  refine ⟨(y, z), ⟨(cs.drop o).take (P.cellsOf f.type), cs.drop o', ?_, hy, hz⟩, hgy, hgz⟩
  rw [ho', ← List.drop_drop, List.take_append_drop]
theorem opens_struct {α β : Type} {P : Program} {t : TypeId} {fs : Array Field} {len : Nat} {d : Kd α} {good : α → Prop} (ht : P.underlying t = some (.struct fs)) (hl : P.cellsOf t = len) (h : OpensTail P fs.toList 0 len d good) (f : β → α) (g : α → β) (hfg : ∀ a, f (g a) = a) :
    Opens P t (Kd.iso d f) (fun x => good (f x)) := by
  intro H enc w base spare held fuel cs x hx hw
  obtain ⟨xs, n, rfl, rfl, hcs, hxs, hall⟩ := DataW.trod_struct ht hx
  obtain ⟨a, ha, hga⟩ := h (xs := xs) (hcs.trans hl) (by simpa using hxs) (fun i f hf => hall i f (by simpa using hf)) (fun m hm => hw m (by simp only [DataW.weights, ht]; exact hm))
  refine ⟨g a, ?_, by show good (f (g a)); rw [hfg]; exact hga⟩
  show d.K w (f (g a)) cs
  rw [hfg]
  simpa using ha
theorem Opens.iso {α β : Type} {P : Program} {t : TypeId} {d : Kd α} {good : α → Prop} (h : Opens P t d good) (f : β → α) (g : α → β) (hfg : ∀ a, f (g a) = a) : Opens P t (Kd.iso d f) (fun x => good (f x)) := by
  intro H enc w base spare held fuel cs x hx hw
  obtain ⟨a, ha, hga⟩ := h hx hw
  refine ⟨g a, ?_, by show good (f (g a)); rw [hfg]; exact hga⟩
  show d.K w (f (g a)) cs
  rw [hfg]
  exact ha
end Go.Proofs.YtbboanfggaknjaaDoor.Opn
/- The openings of the arguments of the law PolicyWrong, and its pure statement. -/
set_option linter.unusedVariables false
namespace Go.Proofs.YtbboanfggaknjaaDoor.X
open Go.RowKit Go.Proofs.YtbboanfggaknjaaDoorW.PrintWords Go.Proofs.YtbboanfggaknjaaDoorW.PrintLast Go.Proofs.YtbboanfggaknjaaDoorW.PrintMore Go.Proofs.YtbboanfggaknjaaDoor.Opn
def good38 (x : S38) : Prop := ((Lit.int .i64 x.f0).wf = true) ∧ ((Lit.int .i64 x.f1).wf = true)
theorem opens38 : Opens Tryd.prog 38 k38 good38 := opens_struct Tryd.underlying38 (len := 2) (by kernel_rfl) (tail_cons rfl (by kernel_rfl) (opens_int Tryd.underlying3) (tail_one rfl (Nat.le_of_eq (by kernel_rfl)) (opens_int Tryd.underlying3))) (fun x : S38 => (x.f0, x.f1)) (fun a => ⟨a.1, a.2⟩) (fun _ => rfl)
def good56 (x : S56) : Prop := (good38 x.f0) ∧ (good38 x.f1)
theorem opens56 : Opens Tryd.prog 56 k56 good56 := opens_struct Tryd.underlying56 (len := 4) (by kernel_rfl) (tail_cons rfl (by kernel_rfl) opens38 (tail_one rfl (Nat.le_of_eq (by kernel_rfl)) opens38)) (fun x : S56 => (x.f0, x.f1)) (fun a => ⟨a.1, a.2⟩) (fun _ => rfl)
def good59 (x : S59) : Prop := ((Lit.int .i64 x.f0).wf = true) ∧ ((Lit.int .u64 x.f1).wf = true)
theorem opens59 : Opens Tryd.prog 59 k59 good59 := opens_struct Tryd.underlying59 (len := 2) (by kernel_rfl) (tail_cons rfl (by kernel_rfl) (opens_int Tryd.underlying3) (tail_one rfl (Nat.le_of_eq (by kernel_rfl)) (opens_int Tryd.underlying57))) (fun x : S59 => (x.f0, x.f1)) (fun a => ⟨a.1, a.2⟩) (fun _ => rfl)
def good61 (x : S61) : Prop := (good56 x.f0) ∧ (good59 x.f1)
theorem opens61 : Opens Tryd.prog 61 k61 good61 := opens_struct Tryd.underlying61 (len := 6) (by kernel_rfl) (tail_cons rfl (by kernel_rfl) opens56 (tail_one rfl (Nat.le_of_eq (by kernel_rfl)) opens59)) (fun x : S61 => (x.f0, x.f1)) (fun a => ⟨a.1, a.2⟩) (fun _ => rfl)
def good65 (x : S65) : Prop := (x.f0.size ≤ reachBytes) ∧ (good59 x.f1)
theorem opens65 : Opens Tryd.prog 65 k65 good65 := opens_struct Tryd.underlying65 (len := 3) (by kernel_rfl) (tail_cons rfl (by kernel_rfl) (opens_string Tryd.underlying9) (tail_one rfl (Nat.le_of_eq (by kernel_rfl)) opens59)) (fun x : S65 => (x.f0, x.f1)) (fun a => ⟨a.1, a.2⟩) (fun _ => rfl)
def good67 (x : S67) : Prop := (x.f0.size ≤ reachBytes) ∧ (good59 x.f1) ∧ (good59 x.f2)
theorem opens67 : Opens Tryd.prog 67 k67 good67 := opens_struct Tryd.underlying67 (len := 5) (by kernel_rfl) (tail_cons rfl (by kernel_rfl) (opens_string Tryd.underlying9) (tail_cons rfl (by kernel_rfl) opens59 (tail_one rfl (Nat.le_of_eq (by kernel_rfl)) opens59))) (fun x : S67 => (x.f0, x.f1, x.f2)) (fun a => ⟨a.1, a.2.1, a.2.2⟩) (fun _ => rfl)
def good26 (x : S26) : Prop := ((Lit.int .i64 x.f0).wf = true) ∧ ((Lit.int .i64 x.f1).wf = true) ∧ ((∀ y ∈ x.f2, good61 y) ∧ x.f2.length * 48 ≤ reachBytes) ∧ ((∀ y ∈ x.f3, good65 y) ∧ x.f3.length * 32 ≤ reachBytes) ∧ ((∀ y ∈ x.f4, good67 y) ∧ x.f4.length * 48 ≤ reachBytes)
theorem opens26 : Opens Tryd.prog 26 k26 good26 := opens_struct Tryd.underlying26 (len := 5) (by kernel_rfl) (tail_cons rfl (by kernel_rfl) (opens_int Tryd.underlying3) (tail_cons rfl (by kernel_rfl) (opens_int Tryd.underlying3) (tail_cons rfl (by kernel_rfl) (opens_slice Tryd.underlying22 (by kernel_rfl) (B := 48) (by kernel_rfl) z61 opens61) (tail_cons rfl (by kernel_rfl) (opens_slice Tryd.underlying23 (by kernel_rfl) (B := 32) (by kernel_rfl) z65 opens65) (tail_one rfl (Nat.le_of_eq (by kernel_rfl)) (opens_slice Tryd.underlying24 (by kernel_rfl) (B := 48) (by kernel_rfl) z67 opens67)))))) (fun x : S26 => (x.f0, x.f1, x.f2, x.f3, x.f4)) (fun a => ⟨a.1, a.2.1, a.2.2.1, a.2.2.2.1, a.2.2.2.2⟩) (fun _ => rfl)
def oculuslaw07_PolicyWrong.PureX : Prop := ∀ (a0 : S26) (a1 : S38), (good26 a0) → (good38 a1) → ∃ k, oculuslaw07_PolicyWrong.f k (a0.f0) (a0.f1) (a0.f2) (a0.f3) (a0.f4) (a1.f0) (a1.f1) = some true
end Go.Proofs.YtbboanfggaknjaaDoor.X
/- Zones. -/
set_option linter.unusedVariables false
set_option linter.unusedSimpArgs false
namespace Go.Proofs.YtbboanfggaknjaaDoor.X.ZN
open Go.RowKit Go.Proofs.YtbboanfggaknjaaDoorW.PrintWords Go.Proofs.YtbboanfggaknjaaDoorW.PrintLast Go.Proofs.YtbboanfggaknjaaDoorW.PrintMore
abbrev Zn := S61
theorem straight_eq {a0 a1 a2 a3 : Int} (h : span_May.f a0 a1 a2 a3 = some true) : span_Straight.f a0 a1 a2 a3 = some (mn a0 a2, mn a1 a3, mx a0 a2, mx a1 a3) := by
  unfold span_Straight.f
  rw [h]
  rfl
theorem rdZ (xs : List Zn) (i : Nat) (h : i < xs.length) : rd_T61 xs (i : Int) = xs[i] := by
  show xs.getD (Int.toNat (i : Int)) _ = _
  rw [Int.toNat_natCast, List.getD_eq_getElem?_getD, List.getElem?_eq_getElem h]; rfl
def mayZ (a b c d : Int) : Bool := decide ((0 ≤ a ∧ a < 999 ∧ 0 ≤ b ∧ b < 702) ∧ (0 ≤ c ∧ c < 999 ∧ 0 ≤ d ∧ d < 702))
theorem addr_may_eq (a b : Int) : addr_May.f a b = some (decide (0 ≤ a ∧ a < 999 ∧ 0 ≤ b ∧ b < 702)) := by
  unfold addr_May.f
  by_cases h1 : a ≥ 0
  · rw [if_pos h1]
    by_cases h2 : a < 999
    · rw [if_pos h2]
      by_cases h3 : b ≥ 0
      · rw [if_pos h3, Option.some.injEq, decide_eq_decide]; omega
      · rw [if_neg h3, decide_eq_false (by omega)]
    · rw [if_neg h2, decide_eq_false (by omega)]
  · rw [if_neg h1, decide_eq_false (by omega)]
theorem span_may_eq (a b c d : Int) : span_May.f a b c d = some (mayZ a b c d) := by
  unfold span_May.f mayZ
  rw [addr_may_eq, Option.bind_some]
  by_cases h : 0 ≤ a ∧ a < 999 ∧ 0 ≤ b ∧ b < 702
  · rw [decide_eq_true h, if_pos rfl, addr_may_eq, Option.bind_some, Option.some.injEq, decide_eq_decide]
    exact ⟨fun g => ⟨h, g⟩, fun g => g.2⟩
  · rw [decide_eq_false h, if_neg (by simp), decide_eq_false (fun g => h g.1)]
theorem rmay_eq (a b : Int) : oculusref03_May.f a b = some (decide (0 ≤ a ∧ a < 999 ∧ 0 ≤ b ∧ b < 702)) := by
  unfold oculusref03_May.f
  by_cases h1 : a ≥ 0
  · rw [if_pos h1]
    by_cases h2 : a ≤ 998
    · rw [if_pos h2]
      by_cases h3 : b ≥ 0
      · rw [if_pos h3, Option.some.injEq, decide_eq_decide]; omega
      · rw [if_neg h3, decide_eq_false (by omega)]
    · rw [if_neg h2, decide_eq_false (by omega)]
  · rw [if_neg h1, decide_eq_false (by omega)]
theorem rspan_may_eq (a b c d : Int) : oculusref04_May.f a b c d = some (mayZ a b c d) := by
  unfold oculusref04_May.f mayZ
  rw [rmay_eq, Option.bind_some]
  by_cases h : 0 ≤ a ∧ a < 999 ∧ 0 ≤ b ∧ b < 702
  · rw [decide_eq_true h, if_pos rfl, rmay_eq, Option.bind_some, Option.some.injEq, decide_eq_decide]
    exact ⟨fun g => ⟨h, g⟩, fun g => g.2⟩
  · rw [decide_eq_false h, if_neg (by simp), decide_eq_false (fun g => h g.1)]
theorem span_str (a b c d : Int) (h : mayZ a b c d = true) : span_Straight.f a b c d = some (mn a c, mn b d, mx a c, mx b d) := straight_eq (by rw [span_may_eq, h])
def wrongZ (rows cols : Int) : Nat → List Zn → Int × Int
  | _, [] => (0, 0)
  | i, z :: l => if 32 ≤ i then ((i : Int), 10) else if ¬ (mayZ z.f0.f0.f0 z.f0.f0.f1 z.f0.f1.f0 z.f0.f1.f1 = true ∧ z.f0.f0.f0 ≤ z.f0.f1.f0 ∧ z.f0.f0.f1 ≤ z.f0.f1.f1) then ((i : Int), 1)
    else if z.f0.f1.f0 ≥ rows ∨ z.f0.f1.f1 ≥ cols then ((i : Int), 2) else if ¬ (0 ≤ z.f1.f0 ∧ z.f1.f0 ≤ 15) then ((i : Int), 7) else wrongZ rows cols (i + 1) l
theorem straight_ne (a b c d : Int) : ((!(mn a c == a) || (!(mn b d == b))) || ((!(mx a c == c) || (!(mx b d == d))))) = !(decide (a ≤ c ∧ b ≤ d)) := by
  rw [Bool.eq_iff_iff]
  simp only [Bool.or_eq_true, Bool.not_eq_true', beq_eq_false_iff_ne, decide_eq_false_iff_not, ne_eq]
  unfold mn mx
  repeat' split
  all_goals omega
theorem label_may_eq (a b : Int) : label_May.f a b = some (decide (0 ≤ a ∧ a ≤ 15)) := by
  unfold label_May.f
  by_cases h : a ≥ 0
  · rw [if_pos h, Option.some.injEq, decide_eq_decide]; omega
  · rw [if_neg h, decide_eq_false (by omega)]
theorem wrong_l0 (rows cols : Int) (xs : List Zn) (hx : xs.length ≤ 9223372036854775807) : ∀ d i, i + d = xs.length → Ev (fun k => zone_Wrong.l0 k rows cols xs (xs.length : Int) (i : Int)) (wrongZ rows cols i (xs.drop i))
  | 0, i, h => by
    rw [List.drop_eq_nil_of_le (by omega)]
    refine Ev.step (fun k => zone_Wrong.l0.eq_2 _ _ _ _ _ _) ?_
    exact ev_neg (by omega) (Ev.now _)
  | d + 1, i, h => by
    have hlt : i < xs.length := by omega
    rw [List.drop_eq_getElem_cons hlt]
    refine Ev.step (fun k => zone_Wrong.l0.eq_2 _ _ _ _ _ _) ?_
    refine ev_pos (by omega) (ev_pos (by omega) (ev_pos (by omega) ?_))
    simp only [wrongZ]
    refine ev_ite (fun g => ?_) (fun g => ?_)
    · rw [if_pos (by omega)]; exact Ev.now _
    · rw [if_neg (by omega)]
      simp only [rdZ xs i hlt]
      refine ev_bind (ev_some fun _ => span_may_eq _ _ _ _) ?_
      have j2 : ∀ b1 : Bool, b1 = decide (xs[i].f0.f1.f0 ≥ rows ∨ xs[i].f0.f1.f1 ≥ cols) → Ev (fun k => zone_Wrong.j2 k rows cols (i : Int) xs (xs.length : Int) (i : Int) b1 xs[i].f0.f0.f0 xs[i].f0.f0.f1 xs[i].f0.f1.f0 xs[i].f0.f1.f1 xs[i].f1.f0 xs[i].f1.f1)
          (if xs[i].f0.f1.f0 ≥ rows ∨ xs[i].f0.f1.f1 ≥ cols then ((i : Int), 2) else if ¬ (0 ≤ xs[i].f1.f0 ∧ xs[i].f1.f0 ≤ 15) then ((i : Int), 7) else wrongZ rows cols (i + 1) (xs.drop (i + 1))) := by
        intro b1 hb
        subst hb
        refine Ev.step (fun k => zone_Wrong.j2.eq_2 _ _ _ _ _ _ _ _ _ _ _ _ _ _) ?_
        by_cases g2 : xs[i].f0.f1.f0 ≥ rows ∨ xs[i].f0.f1.f1 ≥ cols
        · rw [if_pos g2]; exact ev_pos (decide_eq_true g2) (Ev.now _)
        · rw [if_neg g2]
          refine ev_neg (by rw [decide_eq_false g2]; simp) ?_
          refine ev_bind (ev_some fun _ => label_may_eq _ _) ?_
          by_cases g3 : 0 ≤ xs[i].f1.f0 ∧ xs[i].f1.f0 ≤ 15
          · rw [if_neg (fun n => n g3)]
            refine ev_pos (decide_eq_true g3) ?_
            simp only [w64s hlt hx]
            exact wrong_l0 rows cols xs hx d (i + 1) (by omega)
          · rw [if_pos g3]
            exact ev_neg (by rw [decide_eq_false g3]; simp) (Ev.now _)
      have j1 : ∀ b : Bool, b = !(decide (mayZ xs[i].f0.f0.f0 xs[i].f0.f0.f1 xs[i].f0.f1.f0 xs[i].f0.f1.f1 = true ∧ xs[i].f0.f0.f0 ≤ xs[i].f0.f1.f0 ∧ xs[i].f0.f0.f1 ≤ xs[i].f0.f1.f1)) → Ev (fun k => zone_Wrong.j1 k rows cols (i : Int) xs (xs.length : Int) (i : Int) b xs[i].f0.f0.f0 xs[i].f0.f0.f1 xs[i].f0.f1.f0 xs[i].f0.f1.f1 xs[i].f1.f0 xs[i].f1.f1)
          (if ¬ (mayZ xs[i].f0.f0.f0 xs[i].f0.f0.f1 xs[i].f0.f1.f0 xs[i].f0.f1.f1 = true ∧ xs[i].f0.f0.f0 ≤ xs[i].f0.f1.f0 ∧ xs[i].f0.f0.f1 ≤ xs[i].f0.f1.f1) then ((i : Int), 1) else if xs[i].f0.f1.f0 ≥ rows ∨ xs[i].f0.f1.f1 ≥ cols then ((i : Int), 2) else if ¬ (0 ≤ xs[i].f1.f0 ∧ xs[i].f1.f0 ≤ 15) then ((i : Int), 7) else wrongZ rows cols (i + 1) (xs.drop (i + 1))) := by
        intro b hb
        subst hb
        refine Ev.step (fun k => zone_Wrong.j1.eq_2 _ _ _ _ _ _ _ _ _ _ _ _ _ _) ?_
        by_cases g1 : mayZ xs[i].f0.f0.f0 xs[i].f0.f0.f1 xs[i].f0.f1.f0 xs[i].f0.f1.f1 = true ∧ xs[i].f0.f0.f0 ≤ xs[i].f0.f1.f0 ∧ xs[i].f0.f0.f1 ≤ xs[i].f0.f1.f1
        · rw [if_neg (fun n => n g1)]
          refine ev_neg (by rw [decide_eq_true g1]; simp) ?_
          by_cases g2 : xs[i].f0.f1.f0 ≥ rows
          · exact ev_pos g2 (j2 true (by rw [decide_eq_true (Or.inl g2)]))
          · exact ev_neg g2 (j2 _ (by rw [decide_eq_decide]; exact ⟨Or.inr, fun h => h.resolve_left g2⟩))
        · rw [if_pos g1]
          exact ev_pos (by rw [decide_eq_false g1]; rfl) (Ev.now _)
      cases hm : mayZ xs[i].f0.f0.f0 xs[i].f0.f0.f1 xs[i].f0.f1.f0 xs[i].f0.f1.f1 with
      | false =>
        refine ev_neg (by simp) ?_
        have := j1 true (by rw [hm]; simp)
        rw [hm] at this
        exact this
      | true =>
        refine ev_pos rfl ?_
        refine ev_bind (ev_some fun _ => span_str _ _ _ _ hm) ?_
        simp only [straight_ne]
        have := j1 _ rfl
        rw [hm] at this
        simpa using this
theorem wrong_ev (xs : List Zn) (hx : xs.length ≤ 9223372036854775807) (rows cols : Int) : Ev (fun k => zone_Wrong.f k xs rows cols) (wrongZ rows cols 0 xs) := wrong_l0 rows cols xs hx xs.length 0 (by omega)
theorem rwrong_l0 (rows cols : Int) (xs : List Zn) (hx : xs.length ≤ 9223372036854775807) : ∀ d i, i + d = xs.length → Ev (fun k => oculusref05_Wrong.l0 k xs rows cols (i : Int)) (wrongZ rows cols i (xs.drop i))
  | 0, i, h => by
    rw [List.drop_eq_nil_of_le (by omega)]
    refine Ev.step (fun k => oculusref05_Wrong.l0.eq_2 _ _ _ _ _) ?_
    exact ev_neg (by omega) (Ev.now _)
  | d + 1, i, h => by
    have hlt : i < xs.length := by omega
    rw [List.drop_eq_getElem_cons hlt]
    refine Ev.step (fun k => oculusref05_Wrong.l0.eq_2 _ _ _ _ _) ?_
    refine ev_pos (by omega) (ev_pos (by omega) ?_)
    simp only [wrongZ]
    refine ev_ite (fun g => ?_) (fun g => ?_)
    · rw [if_pos (by omega)]; exact Ev.now _
    · rw [if_neg (by omega)]
      simp only [rdZ xs i hlt]
      refine ev_bind (ev_some fun _ => rspan_may_eq _ _ _ _) ?_
      have j2 : ∀ b1 : Bool, b1 = decide (xs[i].f0.f1.f0 ≥ rows ∨ xs[i].f0.f1.f1 ≥ cols) → Ev (fun k => oculusref05_Wrong.j2 k xs rows cols (i : Int) b1 xs[i].f0.f0.f0 xs[i].f0.f0.f1 xs[i].f0.f1.f0 xs[i].f0.f1.f1 xs[i].f1.f0 xs[i].f1.f1)
          (if xs[i].f0.f1.f0 ≥ rows ∨ xs[i].f0.f1.f1 ≥ cols then ((i : Int), 2) else if ¬ (0 ≤ xs[i].f1.f0 ∧ xs[i].f1.f0 ≤ 15) then ((i : Int), 7) else wrongZ rows cols (i + 1) (xs.drop (i + 1))) := by
        intro b1 hb
        subst hb
        refine Ev.step (fun k => oculusref05_Wrong.j2.eq_2 _ _ _ _ _ _ _ _ _ _ _ _) ?_
        by_cases g2 : xs[i].f0.f1.f0 ≥ rows ∨ xs[i].f0.f1.f1 ≥ cols
        · rw [if_pos g2]; exact ev_pos (decide_eq_true g2) (Ev.now _)
        · rw [if_neg g2]
          refine ev_neg (by rw [decide_eq_false g2]; simp) ?_
          by_cases g3 : 0 ≤ xs[i].f1.f0 ∧ xs[i].f1.f0 ≤ 15
          · rw [if_neg (fun n => n g3)]
            refine ev_neg (by omega) (ev_neg (by omega) ?_)
            simp only [w64s hlt hx]
            exact rwrong_l0 rows cols xs hx d (i + 1) (by omega)
          · rw [if_pos g3]
            refine ev_ite (fun _ => Ev.now _) (fun g4 => ?_)
            exact ev_pos (by omega) (Ev.now _)
      have j1 : ∀ b : Bool, b = !(decide (mayZ xs[i].f0.f0.f0 xs[i].f0.f0.f1 xs[i].f0.f1.f0 xs[i].f0.f1.f1 = true ∧ xs[i].f0.f0.f0 ≤ xs[i].f0.f1.f0 ∧ xs[i].f0.f0.f1 ≤ xs[i].f0.f1.f1)) → Ev (fun k => oculusref05_Wrong.j1 k xs rows cols (i : Int) b xs[i].f0.f0.f0 xs[i].f0.f0.f1 xs[i].f0.f1.f0 xs[i].f0.f1.f1 xs[i].f1.f0 xs[i].f1.f1)
          (if ¬ (mayZ xs[i].f0.f0.f0 xs[i].f0.f0.f1 xs[i].f0.f1.f0 xs[i].f0.f1.f1 = true ∧ xs[i].f0.f0.f0 ≤ xs[i].f0.f1.f0 ∧ xs[i].f0.f0.f1 ≤ xs[i].f0.f1.f1) then ((i : Int), 1) else if xs[i].f0.f1.f0 ≥ rows ∨ xs[i].f0.f1.f1 ≥ cols then ((i : Int), 2) else if ¬ (0 ≤ xs[i].f1.f0 ∧ xs[i].f1.f0 ≤ 15) then ((i : Int), 7) else wrongZ rows cols (i + 1) (xs.drop (i + 1))) := by
        intro b hb
        subst hb
        refine Ev.step (fun k => oculusref05_Wrong.j1.eq_2 _ _ _ _ _ _ _ _ _ _ _ _) ?_
        by_cases g1 : mayZ xs[i].f0.f0.f0 xs[i].f0.f0.f1 xs[i].f0.f1.f0 xs[i].f0.f1.f1 = true ∧ xs[i].f0.f0.f0 ≤ xs[i].f0.f1.f0 ∧ xs[i].f0.f0.f1 ≤ xs[i].f0.f1.f1
        · rw [if_neg (fun n => n g1)]
          refine ev_neg (by rw [decide_eq_true g1]; simp) ?_
          by_cases g2 : xs[i].f0.f1.f0 ≥ rows
          · exact ev_pos g2 (j2 true (by rw [decide_eq_true (Or.inl g2)]))
          · exact ev_neg g2 (j2 _ (by rw [decide_eq_decide]; exact ⟨Or.inr, fun h => h.resolve_left g2⟩))
        · rw [if_pos g1]
          exact ev_pos (by rw [decide_eq_false g1]; rfl) (Ev.now _)
      cases hm : mayZ xs[i].f0.f0.f0 xs[i].f0.f0.f1 xs[i].f0.f1.f0 xs[i].f0.f1.f1 with
      | false =>
        refine ev_neg (by simp) ?_
        have := j1 true (by rw [hm]; simp)
        rw [hm] at this
        exact this
      | true =>
        refine ev_pos rfl ?_
        rw [hm] at j1
        by_cases g1 : xs[i].f0.f0.f0 > xs[i].f0.f1.f0
        · exact ev_pos g1 (j1 true (by rw [decide_eq_false (by omega)]; rfl))
        · refine ev_neg g1 (j1 _ ?_)
          rw [Bool.eq_iff_iff]
          simp only [decide_eq_true_eq, Bool.not_eq_true', decide_eq_false_iff_not, true_and]
          omega
theorem rwrong_ev (xs : List Zn) (hx : xs.length ≤ 9223372036854775807) (rows cols : Int) : Ev (fun k => oculusref05_Wrong.f k xs rows cols) (wrongZ rows cols 0 xs) := rwrong_l0 rows cols xs hx xs.length 0 (by omega)
end Go.Proofs.YtbboanfggaknjaaDoor.X.ZN
/- Users and grants. -/
set_option linter.unusedVariables false
set_option linter.unusedSimpArgs false
namespace Go.Proofs.YtbboanfggaknjaaDoor.X.US
open Go.RowKit Go.Proofs.YtbboanfggaknjaaDoorW.PrintWords Go.Proofs.YtbboanfggaknjaaDoorW.PrintLast Go.Proofs.YtbboanfggaknjaaDoorW.PrintMore
abbrev Gr := S67
abbrev Us := S65
theorem rdG (xs : List Gr) (i : Nat) (h : i < xs.length) : rd_T67 xs (i : Int) = xs[i] := by
  simp [rd_T67, List.getD_eq_getElem?_getD, h]
theorem rdU (xs : List Us) (i : Nat) (h : i < xs.length) : rd_T65 xs (i : Int) = xs[i] := by
  simp [rd_T65, List.getD_eq_getElem?_getD, h]
def chS (c : Int) : Bool := (decide (97 ≤ c) && decide (c ≤ 122)) || (decide (48 ≤ c) && decide (c ≤ 57))
def allS (s : ByteArray) (i : Nat) : Nat → Bool
  | 0 => true
  | d + 1 => chS (bt s (i : Int)) && allS s (i + 1) d
theorem name_l0 (s : ByteArray) (hs : s.size ≤ 9223372036854775807) : ∀ (d i : Nat), i + d = s.size → Ev (fun k => right_Name.l0 k s (s.size : Int) (i : Int)) (allS s i d) := by
  intro d
  induction d with
  | zero =>
    intro i hi
    refine Ev.step (f := fun _ => some true) (fun k => ?_) (Ev.now _)
    simp only [right_Name.l0]
    rw [if_neg (by omega)]
  | succ d ih =>
    intro i hi
    have hw := w64s (i := i) (n := s.size) (by omega) hs
    have ih' := ih (i + 1) (by omega)
    refine Ev.step (f := fun k => if chS (bt s (i : Int)) = true then right_Name.l0 k s (s.size : Int) ((i + 1 : Nat) : Int) else some false) (fun k => ?_) ?_
    · simp only [right_Name.l0]
      rw [if_pos (by omega), if_pos (by omega), if_pos (by omega), hw]
      unfold chS
      generalize bt s (i : Int) = c
      by_cases h1 : c < 97
      · rw [if_pos h1, decide_eq_false (show ¬ 97 ≤ c by omega)]
        by_cases h2 : c < 48
        · rw [if_pos h2, decide_eq_false (show ¬ 48 ≤ c by omega)]; simp
        · rw [if_neg h2, decide_eq_true (show 48 ≤ c by omega)]
          by_cases h3 : c > 57
          · rw [if_pos h3, decide_eq_false (show ¬ c ≤ 57 by omega)]; simp
          · rw [if_neg h3, decide_eq_true (show c ≤ 57 by omega)]; simp
      · rw [if_neg h1, decide_eq_true (show 97 ≤ c by omega)]
        by_cases h2 : c > 122
        · rw [if_pos h2, if_neg (by omega), if_pos (by omega), decide_eq_false (show ¬ c ≤ 122 by omega), decide_eq_false (show ¬ c ≤ 57 by omega)]; simp
        · rw [if_neg h2, decide_eq_true (show c ≤ 122 by omega)]; simp
    · simp only [allS]
      refine ev_ite (fun h => ?_) (fun h => ?_)
      · rw [h]; simpa using ih'
      · rw [show chS (bt s (i : Int)) = false by simpa using h]; exact Ev.now _
theorem rname_l0 (s : ByteArray) (hs : s.size ≤ 9223372036854775807) : ∀ (d i : Nat), i + d = s.size → Ev (fun k => oculusref06_Name.l0 k s (i : Int)) (allS s i d) := by
  intro d
  induction d with
  | zero =>
    intro i hi
    refine Ev.step (f := fun _ => some true) (fun k => ?_) (Ev.now _)
    simp only [oculusref06_Name.l0]
    rw [if_neg (by omega)]
  | succ d ih =>
    intro i hi
    have hw := w64s (i := i) (n := s.size) (by omega) hs
    have ih' := ih (i + 1) (by omega)
    refine Ev.step (f := fun k => if chS (bt s (i : Int)) = true then oculusref06_Name.l0 k s ((i + 1 : Nat) : Int) else some false) (fun k => ?_) ?_
    · simp only [oculusref06_Name.l0]
      rw [if_pos (by omega), if_pos (by omega), hw]
      unfold chS oculusref06_letter.f
      generalize bt s (i : Int) = c
      by_cases h1 : c ≥ 97
      · rw [if_pos h1, decide_eq_true (show 97 ≤ c by omega)]
        simp only [Option.bind_some]
        by_cases h2 : c ≤ 122
        · rw [decide_eq_true h2]; simp
        · rw [decide_eq_false h2, if_pos (show c ≥ 48 by omega), if_neg (show ¬ c ≤ 57 by omega), decide_eq_false (show ¬ c ≤ 57 by omega)]; simp
      · rw [if_neg h1, decide_eq_false (show ¬ 97 ≤ c by omega)]
        simp only [Option.bind_some]
        by_cases h2 : c ≥ 48
        · rw [if_pos h2, decide_eq_true (show 48 ≤ c by omega)]
          by_cases h3 : c ≤ 57
          · rw [if_pos h3, decide_eq_true h3]; simp
          · rw [if_neg h3, decide_eq_false h3]; simp
        · rw [if_neg h2, decide_eq_false (show ¬ 48 ≤ c by omega)]; simp
    · simp only [allS]
      refine ev_ite (fun h => ?_) (fun h => ?_)
      · rw [h]; simpa using ih'
      · rw [show chS (bt s (i : Int)) = false by simpa using h]; exact Ev.now _
def nameS (s : ByteArray) : Bool := decide (1 ≤ s.size) && (decide (s.size ≤ 16) && (decide (97 ≤ bt s 0) && allS s 0 s.size))
theorem name_ev (s : ByteArray) (hs : s.size ≤ 9223372036854775807) : Ev (fun k => right_Name.f k s) (nameS s) := by
  unfold right_Name.f nameS
  have hj : ∀ b, Ev (fun k => right_Name.j0 k s b) (!b && allS s 0 s.size) := by
    intro b
    refine Ev.step (f := fun k => if b = true then some false else right_Name.l0 k s (s.size : Int) 0) (fun k => by simp only [right_Name.j0]) ?_
    cases b with
    | true => exact ev_pos rfl (Ev.now _)
    | false => exact ev_neg (by simp) (by simpa using name_l0 s hs s.size 0 (by omega))
  by_cases h1 : (s.size : Int) < 1
  · simp only [if_pos h1]; rw [decide_eq_false (show ¬ 1 ≤ s.size by omega)]; exact hj true
  · simp only [if_neg h1]; rw [decide_eq_true (show 1 ≤ s.size by omega)]
    by_cases h2 : (s.size : Int) > 16
    · simp only [if_pos h2]; rw [decide_eq_false (show ¬ s.size ≤ 16 by omega)]; exact hj true
    · simp only [if_neg h2]; rw [decide_eq_true (show s.size ≤ 16 by omega)]; simp only [if_pos (show (0 : Int) < (s.size : Int) by omega)]
      have := hj (decide (bt s 0 < 97))
      rw [show (!decide (bt s 0 < 97)) = decide (97 ≤ bt s 0) by rw [Bool.eq_iff_iff]; simp] at this
      simpa using this
theorem rname_ev (s : ByteArray) (hs : s.size ≤ 9223372036854775807) : Ev (fun k => oculusref06_Name.f k s) (nameS s) := by
  unfold oculusref06_Name.f nameS
  have hj : ∀ b, Ev (fun k => oculusref06_Name.j0 k s b) (!b && allS s 0 s.size) := by
    intro b
    refine Ev.step (f := fun k => if b = true then some false else oculusref06_Name.l0 k s 0) (fun k => by simp only [oculusref06_Name.j0]) ?_
    cases b with
    | true => exact ev_pos rfl (Ev.now _)
    | false => exact ev_neg (by simp) (by simpa using rname_l0 s hs s.size 0 (by omega))
  by_cases h1 : (s.size : Int) < 1
  · simp only [if_pos h1]; rw [decide_eq_false (show ¬ 1 ≤ s.size by omega)]; exact hj true
  · simp only [if_neg h1]; rw [decide_eq_true (show 1 ≤ s.size by omega)]
    by_cases h2 : (s.size : Int) > 16
    · simp only [if_pos h2]; rw [decide_eq_false (show ¬ s.size ≤ 16 by omega)]; exact hj true
    · simp only [if_neg h2]; rw [decide_eq_true (show s.size ≤ 16 by omega)]; simp only [if_pos (show (0 : Int) < (s.size : Int) by omega)]
      unfold oculusref06_letter.f
      by_cases h3 : bt s 0 ≥ 97
      · rw [if_pos h3, decide_eq_true (show 97 ≤ bt s 0 by omega)]
        simp only [Option.bind_some]
        have := hj (!decide (bt s 0 ≤ 122))
        by_cases h4 : bt s 0 ≤ 122
        · rw [decide_eq_true h4] at this ⊢; simpa using this
        · rw [decide_eq_false h4] at this ⊢
          have hz : allS s 0 s.size = false := by
            obtain ⟨n, hn⟩ : ∃ n, s.size = n + 1 := ⟨s.size - 1, by omega⟩
            rw [hn]
            simp only [allS]
            have : chS (bt s ((0 : Nat) : Int)) = false := by
              unfold chS
              rw [show ((0 : Nat) : Int) = 0 from rfl, decide_eq_false h4, decide_eq_false (show ¬ bt s 0 ≤ 57 by omega)]; simp
            rw [this]; rfl
          rw [hz]
          simpa using this
      · rw [if_neg h3, decide_eq_false (show ¬ 97 ≤ bt s 0 by omega)]
        simp only [Option.bind_some]
        simpa using hj true
def hitU (n : ByteArray) (u : Us) : Bool := decide (u.f0.toList = n.toList)
def findS (n : ByteArray) : List Us → Int × Int × Bool
  | [] => (0, 0, false)
  | u :: r => if hitU n u = true then (u.f1.f0, u.f1.f1, true) else findS n r
theorem find_l0 (n : ByteArray) (xs : List Us) (hx : xs.length ≤ 9223372036854775807) : ∀ (d i : Nat), i + d = xs.length →
    Ev (fun k => right_Find.l0 k n xs (xs.length : Int) (i : Int)) (findS n (xs.drop i)) := by
  intro d
  induction d with
  | zero =>
    intro i hi
    rw [List.drop_eq_nil_of_le (by omega)]
    refine Ev.step (f := fun _ => some (0, 0, false)) (fun k => ?_) (Ev.now _)
    simp only [right_Find.l0]
    rw [if_neg (by omega)]
  | succ d ih =>
    intro i hi
    have hlt : i < xs.length := by omega
    have hw := w64s hlt hx
    rw [List.drop_eq_getElem_cons hlt]
    refine Ev.step (f := fun k => if xs[i].f0.toList = n.toList then some (xs[i].f1.f0, xs[i].f1.f1, true) else right_Find.l0 k n xs (xs.length : Int) ((i + 1 : Nat) : Int)) (fun k => ?_) ?_
    · simp only [right_Find.l0]
      rw [if_pos (by omega), if_pos (by omega), if_pos (by omega), rdU xs i hlt, hw]
    · simp only [findS, hitU, decide_eq_true_eq]
      refine ev_ite (fun h => ?_) (fun h => ?_)
      · rw [if_pos h]; exact Ev.now _
      · rw [if_neg h]; exact ih (i + 1) (by omega)
theorem find_ev (n : ByteArray) (xs : List Us) (hx : xs.length ≤ 9223372036854775807) : Ev (fun k => right_Find.f k xs n) (findS n xs) := by
  unfold right_Find.f
  simpa using find_l0 n xs hx xs.length 0 (by omega)
def placeS (n : ByteArray) : List Us → Nat → Int
  | [], _ => -1
  | u :: r, i => if hitU n u = true then (i : Int) else placeS n r (i + 1)
theorem rfind_l0 (n : ByteArray) (xs : List Us) (hx : xs.length ≤ 9223372036854775807) : ∀ (d i : Nat), i + d = xs.length →
    Ev (fun k => oculusref06_Find.l0 k xs n (i : Int)) (placeS n (xs.drop i) i) := by
  intro d
  induction d with
  | zero =>
    intro i hi
    rw [List.drop_eq_nil_of_le (by omega)]
    refine Ev.step (f := fun _ => some (-1)) (fun k => ?_) (Ev.now _)
    simp only [oculusref06_Find.l0]
    rw [if_neg (by omega)]
  | succ d ih =>
    intro i hi
    have hlt : i < xs.length := by omega
    have hw := w64s hlt hx
    rw [List.drop_eq_getElem_cons hlt]
    refine Ev.step (f := fun k => if xs[i].f0.toList = n.toList then some (i : Int) else oculusref06_Find.l0 k xs n ((i + 1 : Nat) : Int)) (fun k => ?_) ?_
    · simp only [oculusref06_Find.l0]
      rw [if_pos (by omega), if_pos (by omega), rdU xs i hlt, hw]
    · simp only [placeS, hitU, decide_eq_true_eq]
      refine ev_ite (fun h => ?_) (fun h => ?_)
      · rw [if_pos h]; exact Ev.now _
      · rw [if_neg h]; exact ih (i + 1) (by omega)
theorem rfind_ev (n : ByteArray) (xs : List Us) (hx : xs.length ≤ 9223372036854775807) : Ev (fun k => oculusref06_Find.f k xs n) (placeS n xs 0) := by
  unfold oculusref06_Find.f
  simpa using rfind_l0 n xs hx xs.length 0 (by omega)
theorem place_find (n : ByteArray) : ∀ (l : List Us) (i : Nat), (placeS n l i = -1 ∧ findS n l = (0, 0, false) ∧ l.any (hitU n) = false) ∨
    ∃ (j : Nat) (h : j < l.length), placeS n l i = ((i + j : Nat) : Int) ∧ findS n l = (l[j].f1.f0, l[j].f1.f1, true) ∧ l.any (hitU n) = true ∧ hitU n l[j] = true ∧ (l.take j).any (hitU n) = false
  | [], i => Or.inl ⟨rfl, rfl, rfl⟩
  | u :: r, i => by
    by_cases h : hitU n u = true
    · refine Or.inr ⟨0, by simp, ?_, ?_, ?_, ?_, ?_⟩
      · simp [placeS, h]
      · simp [findS, h]
      · simp [h]
      · simpa using h
      · simp
    · have hf : hitU n u = false := by simpa using h
      rcases place_find n r (i + 1) with ⟨h1, h2, h3⟩ | ⟨j, hj, h1, h2, h3, h4, h5⟩
      · left
        simp [placeS, findS, hf, h1, h2, h3]
      · right
        refine ⟨j + 1, by simp; omega, ?_, ?_, ?_, ?_, ?_⟩
        · simp only [placeS, if_neg h, h1]; congr 1; omega
        · simp only [findS, if_neg h, h2]; simp
        · simp only [List.any_cons, h3, Bool.or_true]
        · simpa using h4
        · simp only [List.take_succ_cons, List.any_cons, hf, h5, Bool.or_false]
theorem may_eq (a0 a1 : Int) : label_May.f a0 a1 = some (decide (a0 ≥ 0) && decide (a0 ≤ 15)) := by
  unfold label_May.f
  by_cases h : a0 ≥ 0
  · rw [if_pos h, decide_eq_true h]; rfl
  · rw [if_neg h, decide_eq_false h]; rfl
theorem rmay_eq (a0 a1 : Int) : oculusref06_may.f a0 a1 = some (decide (a0 ≥ 0) && decide (a0 ≤ 15)) := by
  unfold oculusref06_may.f
  by_cases h : a0 ≥ 0
  · rw [if_pos h, decide_eq_true h]; rfl
  · rw [if_neg h, decide_eq_false h]; rfl
def mayS (a0 : Int) : Bool := decide (a0 ≥ 0) && decide (a0 ≤ 15)
def okU (u : Us) : Prop := (Lit.int .u64 u.f1.f1).wf = true ∧ u.f0.size ≤ 9223372036854775807
def userS (xs : List Us) (i : Nat) (u : Us) : Int := if 16 ≤ i then 10 else if nameS u.f0 = false then 1 else if (xs.take i).any (hitU u.f0) = true then 8 else if mayS u.f1.f0 = false then 7 else 0
def usersS (xs : List Us) : List Us → Nat → Int × Int
  | [], _ => (0, 0)
  | u :: r, i => if userS xs i u = 0 then usersS xs r (i + 1) else ((i : Int), userS xs i u)
theorem find_snd (n : ByteArray) (l : List Us) : (findS n l).2.2 = l.any (hitU n) := by
  rcases place_find n l 0 with ⟨_, h2, h3⟩ | ⟨j, hj, _, h2, h3, _⟩ <;> rw [h2, h3]
theorem users_l0 (xs : List Us) (hx : xs.length ≤ 9223372036854775807) (hu : ∀ u ∈ xs, okU u) : ∀ (d i : Nat), i + d = xs.length →
    Ev (fun k => right_Users.l0 k xs xs (xs.length : Int) (i : Int)) (usersS xs (xs.drop i) i) := by
  intro d
  induction d with
  | zero =>
    intro i hi
    rw [List.drop_eq_nil_of_le (by omega)]
    refine Ev.step (f := fun _ => some (0, 0)) (fun k => ?_) (Ev.now _)
    simp only [right_Users.l0]
    rw [if_neg (by omega)]
  | succ d ih =>
    intro i hi
    have hlt : i < xs.length := by omega
    have hw := w64s hlt hx
    have hok := hu _ (List.getElem_mem hlt)
    have ih' := ih (i + 1) (by omega)
    rw [List.drop_eq_getElem_cons hlt]
    simp only [usersS]
    refine Ev.step (f := fun k => (right_Find.f k (xs.take i) xs[i].f0).bind fun b => right_Users.j1 k xs (i : Int) b.2.2 xs (xs.length : Int) (i : Int) xs[i].f0 xs[i].f1.f0 xs[i].f1.f1) (fun k => ?_) ?_
    · simp only [right_Users.l0]
      rw [if_pos (by omega), if_pos (by omega), if_pos (by omega), if_pos (by omega), rdU xs i hlt]
      rfl
    · refine ev_bind (find_ev xs[i].f0 (xs.take i) (by simp; omega)) ?_
      rw [find_snd]
      refine Ev.step (f := fun k => if (i : Int) ≥ 16 then some ((i : Int), 10) else (right_Name.f k xs[i].f0).bind fun t => if t = true then (if (xs.take i).any (hitU xs[i].f0) = true then some ((i : Int), 8) else (label_May.f xs[i].f1.f0 xs[i].f1.f1).bind fun t2 => if t2 = true then right_Users.l0 k xs xs (xs.length : Int) ((i + 1 : Nat) : Int) else some ((i : Int), 7)) else some ((i : Int), 1)) (fun k => ?_) ?_
      · simp only [right_Users.j1, hw]
      · refine ev_ite (fun h => ?_) (fun h => ?_)
        · have e : userS xs i xs[i] = 10 := by unfold userS; rw [if_pos (by omega)]
          rw [e, if_neg (by decide)]; exact Ev.now _
        · have h16 : ¬ 16 ≤ i := by omega
          refine ev_bind (name_ev _ hok.2) ?_
          refine ev_ite (fun hn => ?_) (fun hn => ?_)
          · refine ev_ite (fun h2 => ?_) (fun h2 => ?_)
            · have e : userS xs i xs[i] = 8 := by unfold userS; rw [if_neg h16, hn, if_neg (by decide), if_pos h2]
              rw [e, if_neg (by decide)]; exact Ev.now _
            · rw [may_eq]
              simp only [Option.bind_some]
              refine ev_ite (fun hm => ?_) (fun hm => ?_)
              · have e : userS xs i xs[i] = 0 := by unfold userS; rw [if_neg h16, hn, if_neg (by decide), if_neg h2, show mayS xs[i].f1.f0 = true from hm, if_neg (by decide)]
                rw [e, if_pos rfl]; exact ih'
              · have e : userS xs i xs[i] = 7 := by unfold userS; rw [if_neg h16, hn, if_neg (by decide), if_neg h2, show mayS xs[i].f1.f0 = false by simpa [mayS] using hm, if_pos rfl]
                rw [e, if_neg (by decide)]; exact Ev.now _
          · have e : userS xs i xs[i] = 1 := by unfold userS; rw [if_neg h16, show nameS xs[i].f0 = false by simpa using hn, if_pos rfl]
            rw [e, if_neg (by decide)]; exact Ev.now _
theorem users_ev (xs : List Us) (hx : xs.length ≤ 9223372036854775807) (hu : ∀ u ∈ xs, okU u) : Ev (fun k => right_Users.f k xs) (usersS xs xs 0) := by
  unfold right_Users.f
  simpa using users_l0 xs hx hu xs.length 0 (by omega)
theorem place_own (xs : List Us) (i : Nat) (h : i < xs.length) : (placeS xs[i].f0 xs 0 = (i : Int)) ↔ (xs.take i).any (hitU xs[i].f0) = false := by
  have hself : hitU xs[i].f0 xs[i] = true := by unfold hitU; simp
  rcases place_find xs[i].f0 xs 0 with ⟨h1, h2, h3⟩ | ⟨j, hj, h1, h2, h3, h4, h5⟩
  · exfalso
    have := List.any_eq_false.1 h3 xs[i] (List.getElem_mem h)
    exact this hself
  · rw [h1, Nat.zero_add]
    constructor
    · intro e
      have : j = i := by omega
      subst this
      exact h5
    · intro e
      rcases Nat.lt_trichotomy j i with hlt | he | hgt
      · exfalso
        have := List.any_eq_false.1 e xs[j] (by rw [List.mem_take_iff_getElem]; exact ⟨j, by omega, rfl⟩)
        exact this h4
      · omega
      · exfalso
        have := List.any_eq_false.1 h5 xs[i] (by rw [List.mem_take_iff_getElem]; exact ⟨i, by omega, rfl⟩)
        exact this hself
theorem rusers_l0 (xs : List Us) (hx : xs.length ≤ 9223372036854775807) (hu : ∀ u ∈ xs, okU u) : ∀ (d i : Nat), i + d = xs.length →
    Ev (fun k => oculusref06_Users.l0 k xs (i : Int)) (usersS xs (xs.drop i) i) := by
  intro d
  induction d with
  | zero =>
    intro i hi
    rw [List.drop_eq_nil_of_le (by omega)]
    refine Ev.step (f := fun _ => some (0, 0)) (fun k => ?_) (Ev.now _)
    simp only [oculusref06_Users.l0]
    rw [if_neg (by omega)]
  | succ d ih =>
    intro i hi
    have hlt : i < xs.length := by omega
    have hw := w64s hlt hx
    have hok := hu _ (List.getElem_mem hlt)
    have ih' := ih (i + 1) (by omega)
    rw [List.drop_eq_getElem_cons hlt]
    simp only [usersS]
    have j3 : ∀ e : Int, (16 ≤ i ∨ e = userS xs i xs[i]) → Ev (fun k => oculusref06_Users.j3 k xs (i : Int) e) (if userS xs i xs[i] = 0 then usersS xs (xs.drop (i + 1)) (i + 1) else ((i : Int), userS xs i xs[i])) := by
      intro e he
      refine Ev.step (f := fun k => if (i : Int) > 15 then some ((i : Int), 10) else if e = 0 then oculusref06_Users.l0 k xs ((i + 1 : Nat) : Int) else some ((i : Int), e)) (fun k => by simp only [oculusref06_Users.j3, hw]) ?_
      refine ev_ite (fun h => ?_) (fun h => ?_)
      · have : userS xs i xs[i] = 10 := by unfold userS; rw [if_pos (by omega)]
        rw [this, if_neg (by omega)]; exact Ev.now _
      · have he' : e = userS xs i xs[i] := by rcases he with h' | h'; omega; exact h'
        rw [← he']
        refine ev_ite (fun h2 => ?_) (fun h2 => ?_)
        · rw [if_pos h2]; exact ih'
        · rw [if_neg h2]; exact Ev.now _
    have j2 : ∀ e : Int, (16 ≤ i ∨ nameS xs[i].f0 = false ∨ e = userS xs i xs[i]) → Ev (fun k => oculusref06_Users.j2 k xs (i : Int) e) (if userS xs i xs[i] = 0 then usersS xs (xs.drop (i + 1)) (i + 1) else ((i : Int), userS xs i xs[i])) := by
      intro e he
      refine Ev.step (f := fun k => (oculusref06_Name.f k xs[i].f0).bind fun t => if t = true then oculusref06_Users.j3 k xs (i : Int) e else oculusref06_Users.j3 k xs (i : Int) 1) (fun k => ?_) ?_
      · simp only [oculusref06_Users.j2]
        rw [if_pos (by omega), if_pos (by omega), rdU xs i hlt]
      · refine ev_bind (rname_ev _ hok.2) ?_
        refine ev_ite (fun h => ?_) (fun h => ?_)
        · refine j3 e ?_
          rcases he with h' | h' | h'
          · exact Or.inl h'
          · rw [h] at h'; cases h'
          · exact Or.inr h'
        · refine j3 1 ?_
          by_cases h16 : 16 ≤ i
          · exact Or.inl h16
          · right; unfold userS; rw [if_neg h16, if_pos (by simpa using h)]
    have j1 : ∀ e : Int, (e = if mayS xs[i].f1.f0 = true then 0 else 7) → Ev (fun k => oculusref06_Users.j1 k xs (i : Int) e) (if userS xs i xs[i] = 0 then usersS xs (xs.drop (i + 1)) (i + 1) else ((i : Int), userS xs i xs[i])) := by
      intro e he
      refine Ev.step (f := fun k => (oculusref06_Find.f k xs xs[i].f0).bind fun t => if t = (i : Int) then oculusref06_Users.j2 k xs (i : Int) e else oculusref06_Users.j2 k xs (i : Int) 8) (fun k => ?_) ?_
      · simp only [oculusref06_Users.j1]
        rw [if_pos (by omega), if_pos (by omega), rdU xs i hlt]
      · refine ev_bind (rfind_ev _ xs hx) ?_
        refine ev_ite (fun h => ?_) (fun h => ?_)
        · rw [place_own xs i hlt] at h
          refine j2 e ?_
          by_cases h16 : 16 ≤ i
          · exact Or.inl h16
          · cases hn : nameS xs[i].f0 with
            | false => exact Or.inr (Or.inl rfl)
            | true =>
              right; right
              unfold userS
              rw [if_neg h16, hn, if_neg (by simp), h, if_neg (by simp), he]
              cases mayS xs[i].f1.f0 <;> simp
        · rw [place_own xs i hlt] at h
          refine j2 8 ?_
          by_cases h16 : 16 ≤ i
          · exact Or.inl h16
          · cases hn : nameS xs[i].f0 with
            | false => exact Or.inr (Or.inl rfl)
            | true =>
              right; right
              unfold userS
              rw [if_neg h16, hn, if_neg (by simp), if_pos (by simpa using h)]
    refine Ev.step (f := fun k => (oculusref06_may.f xs[i].f1.f0 xs[i].f1.f1).bind fun t => if t = true then oculusref06_Users.j1 k xs (i : Int) 0 else oculusref06_Users.j1 k xs (i : Int) 7) (fun k => ?_) ?_
    · simp only [oculusref06_Users.l0]
      rw [if_pos (by omega), if_pos (by omega), rdU xs i hlt]
    · rw [rmay_eq]
      simp only [Option.bind_some]
      refine ev_ite (fun h => ?_) (fun h => ?_)
      · exact j1 0 (by rw [if_pos (show mayS xs[i].f1.f0 = true from h)])
      · exact j1 7 (by rw [if_neg (show ¬ mayS xs[i].f1.f0 = true from h)])
theorem rusers_ev (xs : List Us) (hx : xs.length ≤ 9223372036854775807) (hu : ∀ u ∈ xs, okU u) : Ev (fun k => oculusref06_Users.f k xs) (usersS xs xs 0) := by
  unfold oculusref06_Users.f
  simpa using rusers_l0 xs hx hu xs.length 0 (by omega)
def grantS (us : List Us) (i : Nat) (g : Gr) : Int := if 32 ≤ i then 10 else if us.any (hitU g.f0) = false then 11 else if (mayS g.f1.f0 && mayS g.f2.f0) = false then 7 else 0
def grantsS (us : List Us) : List Gr → Nat → Int × Int
  | [], _ => (0, 0)
  | g :: r, i => if grantS us i g = 0 then grantsS us r (i + 1) else ((i : Int), grantS us i g)
theorem grants_l0 (us : List Us) (hus : us.length ≤ 9223372036854775807) (xs : List Gr) (hx : xs.length ≤ 9223372036854775807) : ∀ (d i : Nat), i + d = xs.length →
    Ev (fun k => right_Grants.l0 k us xs (xs.length : Int) (i : Int)) (grantsS us (xs.drop i) i) := by
  intro d
  induction d with
  | zero =>
    intro i hi
    rw [List.drop_eq_nil_of_le (by omega)]
    refine Ev.step (f := fun _ => some (0, 0)) (fun k => ?_) (Ev.now _)
    simp only [right_Grants.l0]
    rw [if_neg (by omega)]
  | succ d ih =>
    intro i hi
    have hlt : i < xs.length := by omega
    have hw := w64s hlt hx
    have ih' := ih (i + 1) (by omega)
    rw [List.drop_eq_getElem_cons hlt]
    simp only [grantsS]
    refine Ev.step (f := fun k => (right_Find.f k us xs[i].f0).bind fun b => right_Grants.j1 k us (i : Int) b.2.2 xs (xs.length : Int) (i : Int) xs[i].f0 xs[i].f1.f0 xs[i].f1.f1 xs[i].f2.f0 xs[i].f2.f1) (fun k => ?_) ?_
    · simp only [right_Grants.l0]
      rw [if_pos (by omega), if_pos (by omega), if_pos (by omega), rdG xs i hlt]
    · refine ev_bind (find_ev xs[i].f0 us hus) ?_
      rw [find_snd]
      refine Ev.step (f := fun k => if (i : Int) ≥ 32 then some ((i : Int), 10) else if us.any (hitU xs[i].f0) = true then ((label_May.f xs[i].f1.f0 xs[i].f1.f1).bind fun t => if t = true then ((label_May.f xs[i].f2.f0 xs[i].f2.f1).bind fun t2 => if t2 = true then right_Grants.l0 k us xs (xs.length : Int) ((i + 1 : Nat) : Int) else some ((i : Int), 7)) else some ((i : Int), 7)) else some ((i : Int), 11)) (fun k => ?_) ?_
      · simp only [right_Grants.j1, hw]
      · refine ev_ite (fun h => ?_) (fun h => ?_)
        · have e : grantS us i xs[i] = 10 := by unfold grantS; rw [if_pos (by omega)]
          rw [e, if_neg (by decide)]; exact Ev.now _
        · have h32 : ¬ 32 ≤ i := by omega
          refine ev_ite (fun hn => ?_) (fun hn => ?_)
          · have seven : (mayS xs[i].f1.f0 && mayS xs[i].f2.f0) = false → grantS us i xs[i] = 7 := by
              intro h7; unfold grantS; rw [if_neg h32, hn, if_neg (by decide), h7, if_pos rfl]
            rw [may_eq]
            simp only [Option.bind_some]
            refine ev_ite (fun hm => ?_) (fun hm => ?_)
            · rw [may_eq]
              simp only [Option.bind_some]
              refine ev_ite (fun hm2 => ?_) (fun hm2 => ?_)
              · have e : grantS us i xs[i] = 0 := by unfold grantS; rw [if_neg h32, hn, if_neg (by decide), show mayS xs[i].f1.f0 = true from hm, show mayS xs[i].f2.f0 = true from hm2, if_neg (by decide)]
                rw [e, if_pos rfl]; exact ih'
              · rw [seven (by rw [show mayS xs[i].f2.f0 = false by simpa [mayS] using hm2, Bool.and_false]), if_neg (by decide)]; exact Ev.now _
            · rw [seven (by rw [show mayS xs[i].f1.f0 = false by simpa [mayS] using hm, Bool.false_and]), if_neg (by decide)]; exact Ev.now _
          · have e : grantS us i xs[i] = 11 := by unfold grantS; rw [if_neg h32, show us.any (hitU xs[i].f0) = false by simpa using hn, if_pos rfl]
            rw [e, if_neg (by decide)]; exact Ev.now _
theorem grants_ev (us : List Us) (hus : us.length ≤ 9223372036854775807) (xs : List Gr) (hx : xs.length ≤ 9223372036854775807) : Ev (fun k => right_Grants.f k xs us) (grantsS us xs 0) := by
  unfold right_Grants.f
  simpa using grants_l0 us hus xs hx xs.length 0 (by omega)
theorem rgrants_l0 (us : List Us) (hus : us.length ≤ 9223372036854775807) (xs : List Gr) (hx : xs.length ≤ 9223372036854775807) : ∀ (d i : Nat), i + d = xs.length →
    Ev (fun k => oculusref06_Grants.l0 k xs us (i : Int)) (grantsS us (xs.drop i) i) := by
  intro d
  induction d with
  | zero =>
    intro i hi
    rw [List.drop_eq_nil_of_le (by omega)]
    refine Ev.step (f := fun _ => some (0, 0)) (fun k => ?_) (Ev.now _)
    simp only [oculusref06_Grants.l0]
    rw [if_neg (by omega)]
  | succ d ih =>
    intro i hi
    have hlt : i < xs.length := by omega
    have hw := w64s hlt hx
    have ih' := ih (i + 1) (by omega)
    rw [List.drop_eq_getElem_cons hlt]
    simp only [grantsS]
    have j3 : ∀ e : Int, (32 ≤ i ∨ e = grantS us i xs[i]) → Ev (fun k => oculusref06_Grants.j3 k xs us (i : Int) e) (if grantS us i xs[i] = 0 then grantsS us (xs.drop (i + 1)) (i + 1) else ((i : Int), grantS us i xs[i])) := by
      intro e he
      refine Ev.step (f := fun k => if (i : Int) > 31 then some ((i : Int), 10) else if e = 0 then oculusref06_Grants.l0 k xs us ((i + 1 : Nat) : Int) else some ((i : Int), e)) (fun k => by simp only [oculusref06_Grants.j3, hw]) ?_
      refine ev_ite (fun h => ?_) (fun h => ?_)
      · have : grantS us i xs[i] = 10 := by unfold grantS; rw [if_pos (by omega)]
        rw [this, if_neg (by omega)]; exact Ev.now _
      · have he' : e = grantS us i xs[i] := by rcases he with h' | h'; omega; exact h'
        rw [← he']
        refine ev_ite (fun h2 => ?_) (fun h2 => ?_)
        · rw [if_pos h2]; exact ih'
        · rw [if_neg h2]; exact Ev.now _
    have j2 : ∀ e : Int, e = (if (mayS xs[i].f1.f0 && mayS xs[i].f2.f0) = false then 7 else 0) → Ev (fun k => oculusref06_Grants.j2 k xs us (i : Int) e) (if grantS us i xs[i] = 0 then grantsS us (xs.drop (i + 1)) (i + 1) else ((i : Int), grantS us i xs[i])) := by
      intro e he
      refine Ev.step (f := fun k => (oculusref06_Find.f k us xs[i].f0).bind fun t => if t < 0 then oculusref06_Grants.j3 k xs us (i : Int) 11 else oculusref06_Grants.j3 k xs us (i : Int) e) (fun k => ?_) ?_
      · simp only [oculusref06_Grants.j2]
        rw [if_pos (by omega), if_pos (by omega), rdG xs i hlt]
      · refine ev_bind (rfind_ev _ us hus) ?_
        rcases place_find xs[i].f0 us 0 with ⟨h1, h2, h3⟩ | ⟨j, hj, h1, h2, h3, h4, h5⟩
        · rw [h1]
          refine ev_pos (by omega) (j3 11 ?_)
          by_cases h32 : 32 ≤ i
          · exact Or.inl h32
          · right; unfold grantS; rw [if_neg h32, if_pos h3]
        · rw [h1]
          refine ev_neg (by omega) (j3 e ?_)
          by_cases h32 : 32 ≤ i
          · exact Or.inl h32
          · right; unfold grantS; rw [if_neg h32, if_neg (by rw [h3]; simp)]; exact he
    have j1 : ∀ b : Bool, b = !(mayS xs[i].f1.f0 && mayS xs[i].f2.f0) → Ev (fun k => oculusref06_Grants.j1 k xs us (i : Int) 0 b) (if grantS us i xs[i] = 0 then grantsS us (xs.drop (i + 1)) (i + 1) else ((i : Int), grantS us i xs[i])) := by
      intro b hb
      refine Ev.step (f := fun k => if b = true then oculusref06_Grants.j2 k xs us (i : Int) 7 else oculusref06_Grants.j2 k xs us (i : Int) 0) (fun k => by simp only [oculusref06_Grants.j1]) ?_
      cases hh : (mayS xs[i].f1.f0 && mayS xs[i].f2.f0) with
      | false => rw [hh] at hb; subst hb; exact ev_pos rfl (j2 7 (by rw [hh]; rfl))
      | true => rw [hh] at hb; subst hb; exact ev_neg (by simp) (j2 0 (by rw [hh]; rfl))
    refine Ev.step (f := fun k => (oculusref06_may.f xs[i].f1.f0 xs[i].f1.f1).bind fun t => if t = true then ((oculusref06_may.f xs[i].f2.f0 xs[i].f2.f1).bind fun t2 => oculusref06_Grants.j1 k xs us (i : Int) 0 (!t2)) else oculusref06_Grants.j1 k xs us (i : Int) 0 true) (fun k => ?_) ?_
    · simp only [oculusref06_Grants.l0]
      rw [if_pos (by omega), if_pos (by omega), rdG xs i hlt]
    · rw [rmay_eq, rmay_eq]
      simp only [Option.bind_some]
      refine ev_ite (fun h => ?_) (fun h => ?_)
      · exact j1 _ (by rw [show mayS xs[i].f1.f0 = true from h]; rfl)
      · exact j1 _ (by rw [show mayS xs[i].f1.f0 = false from by simpa [mayS] using h]; rfl)
theorem rgrants_ev (us : List Us) (hus : us.length ≤ 9223372036854775807) (xs : List Gr) (hx : xs.length ≤ 9223372036854775807) : Ev (fun k => oculusref06_Grants.f k xs us) (grantsS us xs 0) := by
  unfold oculusref06_Grants.f
  simpa using rgrants_l0 us hus xs hx xs.length 0 (by omega)
end Go.Proofs.YtbboanfggaknjaaDoor.X.US
/- What policy.Wrong and its reference answer. -/
set_option linter.unusedVariables false
set_option linter.unusedSimpArgs false
namespace Go.Proofs.YtbboanfggaknjaaDoor.X
open Go.RowKit Go.Proofs.YtbboanfggaknjaaDoorW.PrintWords Go.Proofs.YtbboanfggaknjaaDoorW.PrintLast Go.Proofs.YtbboanfggaknjaaDoorW.PrintMore
def badDim (r c : Int) : Prop := r < 1 ∨ r > 999 ∨ c < 1 ∨ c > 702 ∨ wrap64 (r * c) > 400
instance (r c : Int) : Decidable (badDim r c) := by unfold badDim; exact inferInstance
def wrongP (r c : Int) (zs : List S61) (us : List S65) (gs : List S67) : Int × Int :=
  if badDim r c then (1, 2)
  else if (ZN.wrongZ r c 0 zs).2 = 0 then
    if (US.usersS us us 0).2 = 0 then
      if (US.grantsS us gs 0).2 = 0 then (0, 0)
      else (wrap64 (wrap64 (wrap64 (2 + (zs.length : Int)) + (us.length : Int)) + (US.grantsS us gs 0).1), (US.grantsS us gs 0).2)
    else (wrap64 (wrap64 (2 + (zs.length : Int)) + (US.usersS us us 0).1), (US.usersS us us 0).2)
  else (wrap64 (2 + (ZN.wrongZ r c 0 zs).1), (ZN.wrongZ r c 0 zs).2)
structure SmallP (zs : List S61) (us : List S65) (gs : List S67) : Prop where
  z : zs.length ≤ 9223372036854775807
  u : us.length ≤ 9223372036854775807
  g : gs.length ≤ 9223372036854775807
  ok : ∀ u ∈ us, US.okU u
theorem ev_dim {r c : Int} {f : Nat → Bool → Option (Int × Int)} {v : Int × Int} (h : ∀ b, b = decide (badDim r c) → Ev (fun k => f k b) v) :
    Ev (fun k => if r < 1 then f k true else (if r > 999 then f k true else (if c < 1 then f k true else (if c > 702 then f k true else f k (decide (wrap64 (r * c) > 400)))))) v := by
  unfold badDim at h
  refine ev_ite (fun h1 => h _ (by simp [h1])) (fun h1 => ?_)
  refine ev_ite (fun h2 => h _ (by simp [h2])) (fun h2 => ?_)
  refine ev_ite (fun h3 => h _ (by simp [h3])) (fun h3 => ?_)
  refine ev_ite (fun h4 => h _ (by simp [h4])) (fun h4 => ?_)
  exact h _ (by simp [h1, h2, h3, h4])
theorem ev_val {α : Type} {f : Nat → Option α} {v v' : α} (e : v' = v) (h : Ev f v) : Ev f v' := e ▸ h
theorem wrongP_dim {r c : Int} {zs : List S61} {us : List S65} {gs : List S67} (h : badDim r c) : wrongP r c zs us gs = (1, 2) := if_pos h
theorem wrongP_z {r c : Int} {zs : List S61} {us : List S65} {gs : List S67} (h : ¬ badDim r c) (hz : ¬ (ZN.wrongZ r c 0 zs).2 = 0) : wrongP r c zs us gs = (wrap64 (2 + (ZN.wrongZ r c 0 zs).1), (ZN.wrongZ r c 0 zs).2) := (if_neg h).trans (if_neg hz)
theorem wrongP_u {r c : Int} {zs : List S61} {us : List S65} {gs : List S67} (h : ¬ badDim r c) (hz : (ZN.wrongZ r c 0 zs).2 = 0) (hu : ¬ (US.usersS us us 0).2 = 0) : wrongP r c zs us gs = (wrap64 (wrap64 (2 + (zs.length : Int)) + (US.usersS us us 0).1), (US.usersS us us 0).2) := (if_neg h).trans ((if_pos hz).trans (if_neg hu))
theorem wrongP_g {r c : Int} {zs : List S61} {us : List S65} {gs : List S67} (h : ¬ badDim r c) (hz : (ZN.wrongZ r c 0 zs).2 = 0) (hu : (US.usersS us us 0).2 = 0) (hg : ¬ (US.grantsS us gs 0).2 = 0) : wrongP r c zs us gs = (wrap64 (wrap64 (wrap64 (2 + (zs.length : Int)) + (us.length : Int)) + (US.grantsS us gs 0).1), (US.grantsS us gs 0).2) := (if_neg h).trans ((if_pos hz).trans ((if_pos hu).trans (if_neg hg)))
theorem wrongP_ok {r c : Int} {zs : List S61} {us : List S65} {gs : List S67} (h : ¬ badDim r c) (hz : (ZN.wrongZ r c 0 zs).2 = 0) (hu : (US.usersS us us 0).2 = 0) (hg : (US.grantsS us gs 0).2 = 0) : wrongP r c zs us gs = (0, 0) := (if_neg h).trans ((if_pos hz).trans ((if_pos hu).trans (if_pos hg)))
theorem pwrong_ev (r c : Int) (zs : List S61) (us : List S65) (gs : List S67) (hs : SmallP zs us gs) : Ev (fun k => policy_Wrong.f k r c zs us gs) (wrongP r c zs us gs) := by
  unfold policy_Wrong.f
  refine ev_dim (f := fun k b => policy_Wrong.j0 k b r c zs us gs) (fun b hb => ?_)
  refine Ev.step (fun k => policy_Wrong.j0.eq_2 ..) ?_
  by_cases hd : badDim r c
  · exact ev_val (wrongP_dim hd) (ev_pos (by rw [hb]; exact decide_eq_true hd) (Ev.now _))
  · refine ev_neg (by rw [hb, decide_eq_false hd]; simp) ?_
    refine ev_bind (ZN.wrong_ev zs hs.z r c) ?_
    by_cases hz : (ZN.wrongZ r c 0 zs).2 = 0
    · refine ev_pos hz (ev_bind (US.users_ev us hs.u hs.ok) ?_)
      by_cases hu : (US.usersS us us 0).2 = 0
      · refine ev_pos hu (ev_bind (US.grants_ev us hs.u gs hs.g) ?_)
        by_cases hg : (US.grantsS us gs 0).2 = 0
        · exact ev_val (wrongP_ok hd hz hu hg) (ev_pos hg (Ev.now _))
        · exact ev_val (wrongP_g hd hz hu hg) (ev_neg hg (Ev.now _))
      · exact ev_val (wrongP_u hd hz hu) (ev_neg hu (Ev.now _))
    · exact ev_val (wrongP_z hd hz) (ev_neg hz (Ev.now _))
theorem rpwrong_ev (r c : Int) (zs : List S61) (us : List S65) (gs : List S67) (hs : SmallP zs us gs) : Ev (fun k => oculusref07_Wrong.f k r c zs us gs) (wrongP r c zs us gs) := by
  unfold oculusref07_Wrong.f
  refine ev_dim (f := fun k b => oculusref07_Wrong.j0 k b r c zs us gs) (fun b hb => ?_)
  refine Ev.step (fun k => oculusref07_Wrong.j0.eq_2 ..) ?_
  by_cases hd : badDim r c
  · exact ev_val (wrongP_dim hd) (ev_pos (by rw [hb]; exact decide_eq_true hd) (Ev.now _))
  · refine ev_neg (by rw [hb, decide_eq_false hd]; simp) ?_
    refine ev_bind (ZN.rwrong_ev zs hs.z r c) ?_
    refine ev_bind (US.rusers_ev us hs.u hs.ok) ?_
    refine ev_bind (US.rgrants_ev us hs.u gs hs.g) ?_
    by_cases hz : (ZN.wrongZ r c 0 zs).2 = 0
    · refine ev_pos hz ?_
      by_cases hu : (US.usersS us us 0).2 = 0
      · refine ev_pos hu ?_
        by_cases hg : (US.grantsS us gs 0).2 = 0
        · exact ev_val (wrongP_ok hd hz hu hg) (ev_pos hg (Ev.now _))
        · exact ev_val (wrongP_g hd hz hu hg) (ev_neg hg (Ev.now _))
      · exact ev_val (wrongP_u hd hz hu) (ev_neg hu (Ev.now _))
    · exact ev_val (wrongP_z hd hz) (ev_neg hz (Ev.now _))
end Go.Proofs.YtbboanfggaknjaaDoor.X
/- The pure statement of the law PolicyWrong: over numbers and lists alone. -/
set_option linter.unusedVariables false
set_option linter.unusedSimpArgs false
namespace Go.Proofs.YtbboanfggaknjaaDoor.Pure
open Go.RowKit Go.Proofs.YtbboanfggaknjaaDoor.X Go.Proofs.YtbboanfggaknjaaDoorW.PrintWords Go.Proofs.YtbboanfggaknjaaDoorW.PrintLast Go.Proofs.YtbboanfggaknjaaDoorW.PrintMore
theorem PolicyWrong : oculuslaw07_PolicyWrong.PureX := by
  intro p c ⟨_, _, ⟨_, hz⟩, ⟨huo, hu⟩, ⟨_, hg⟩⟩ _
  have e : reachBytes = 140737488351232 := by decide
  rw [e] at hz hu hg
  have hs : SmallP p.f2 p.f3 p.f4 := ⟨by omega, by omega, by omega, fun u hm => ⟨(huo u hm).2.2, by have := (huo u hm).1; rw [e] at this; omega⟩⟩
  apply Ev.rounds
  unfold oculuslaw07_PolicyWrong.f
  obtain ⟨s, hsm⟩ : ∃ s, oculuslaw07_small.f p.f0 p.f1 p.f2 p.f3 p.f4 = some s := by
    unfold oculuslaw07_small.f
    split
    · split <;> exact ⟨_, rfl⟩
    · exact ⟨_, rfl⟩
  rw [hsm]
  refine ev_bsome ?_
  cases s with
  | false => exact ev_pos rfl (Ev.now _)
  | true =>
    refine ev_neg (by simp) (ev_bind (pwrong_ev _ _ _ _ _ hs) (ev_bind (rpwrong_ev _ _ _ _ _ hs) (ev_pos rfl ?_)))
    have hi : policy_In.f p.f0 p.f1 p.f2 p.f3 p.f4 c.f0 c.f1 = oculusref07_In.f p.f0 p.f1 p.f2 p.f3 p.f4 c.f0 c.f1 := rfl
    obtain ⟨i, hii⟩ : ∃ i, policy_In.f p.f0 p.f1 p.f2 p.f3 p.f4 c.f0 c.f1 = some i := by
      unfold policy_In.f
      split
      · split
        · split <;> exact ⟨_, rfl⟩
        · exact ⟨_, rfl⟩
      · exact ⟨_, rfl⟩
    rw [← hi, hii]
    exact ev_bsome (ev_bsome (ev_pos rfl (Ev.now _)))
end Go.Proofs.YtbboanfggaknjaaDoor.Pure
/- The row of the law PolicyWrong: for every input the call returns true and each argument reads afterwards as before, out of its pure statement and the contract of its function. Conditions: none beyond the given statement. -/
namespace Go.Proofs.YtbboanfggaknjaaDoor.policyWrong
open Go.ChangeShapes Go.WideShapes Go.ChangeAt Go.RowKit
open Go.ChangeMaps (open_string shut_string)
open Go.Proofs.YtbboanfggaknjaaDoor.Opn Go.Proofs.YtbboanfggaknjaaDoor.X
open Go.Proofs.YtbboanfggaknjaaDoorW.PrintWords (Kd Drawn0)
set_option linter.unusedVariables false
set_option maxRecDepth 100000
theorem own : ownKnob Tryd.prog.godebug = none := by kernel_rfl
theorem laidOut : laidOutB Tryd.prog = true := by kernel_rfl
theorem tab_vars {P : Program} {W : World} {name : String} {k : IntKind} {zs : List Int} {g : Nat} {t e : TypeId} {n : Nat}
    (hg : P.globalNamed name = some g) (hty : (P.globals[g]?).map (·.type) = some t) (ht : P.underlying t = some (.array n e)) (he : P.underlying e = some (.int k)) (hce : P.cellsOf e = 1) (hct : P.cellsOf t = n) :
    ∀ (l : List (String × DataW Unit)) (ps : List MemPlace), DataW.LaidVars P W l ps → (name, Lib.tabData k zs) ∈ l → Lib.TabIs P W name k zs
  | [], _, _, hm => by simp at hm
  | (nm, d) :: rest, ps, h, hm => by
    obtain ⟨g', t', cs, fuel, p, q, hg', ht', hvar, hd, hr, _⟩ := h
    rcases List.mem_cons.1 hm with e0 | hm
    · cases e0
      obtain rfl := Option.some.inj (hg.symm.trans hg')
      obtain rfl := Option.some.inj (hty.symm.trans ht')
      unfold Lib.TabIs
      rw [hvar, ← Lib.cells_of_tab ht he hce hct hd]
    · exact tab_vars hg hty ht he hce hct rest q hr hm
theorem e_pow : (Rows.laid_internal_strconv_uint64pow10 : DataW Unit) = Lib.tabData .u64 Lib.pow10Tab := by kernel_rfl
theorem e_bru : (Rows.laid_math_bits_deBruijn64tab : DataW Unit) = Lib.tabData .u8 bru64 := by kernel_rfl
theorem tab_of_laid {W : World} (h : laidMet Tryd.prog Rows.policyWrongRow.laid W) : Tab W := by
  obtain ⟨ps, hv, _⟩ := h
  have m_pow : (("internal/strconv.uint64pow10", (Rows.laid_internal_strconv_uint64pow10 : DataW Unit)) : String × DataW Unit) ∈ Rows.policyWrongRow.laid := List.mem_cons_of_mem _ (List.mem_cons_of_mem _ (List.mem_cons_self))
  rw [e_pow] at m_pow
  have h_pow : Lib.TabIs Tryd.prog W "internal/strconv.uint64pow10" .u64 Lib.pow10Tab := tab_vars (g := 1) (t := 126) (e := 57) (n := 20) (by kernel_rfl) (by kernel_rfl) Tryd.underlying126 Tryd.underlying57 (by kernel_rfl) (by kernel_rfl) _ ps hv m_pow
  have m_bru : (("math/bits.deBruijn64tab", (Rows.laid_math_bits_deBruijn64tab : DataW Unit)) : String × DataW Unit) ∈ Rows.policyWrongRow.laid := List.mem_cons_of_mem _ (List.mem_cons_self)
  rw [e_bru] at m_bru
  have h_bru : Lib.TabIs Tryd.prog W "math/bits.deBruijn64tab" .u8 bru64 := tab_vars (g := 2) (t := 131) (e := 5) (n := 64) (by kernel_rfl) (by kernel_rfl) Tryd.underlying131 Tryd.underlying5 (by kernel_rfl) (by kernel_rfl) _ ps hv m_bru
  exact ⟨h_pow, h_bru⟩
noncomputable def laidWorld (os : Os) : World :=
  { World.holding Tryd.prog os ⟨#[], #[], []⟩ with heap := ((((((World.holding Tryd.prog os ⟨#[], #[], []⟩).heap.modify 5 (fun | .cells _ t fr => .cells #[.int .u8 0, .int .u8 1, .int .u8 28, .int .u8 2, .int .u8 29, .int .u8 14, .int .u8 24, .int .u8 3, .int .u8 30, .int .u8 22, .int .u8 20, .int .u8 15, .int .u8 25, .int .u8 17, .int .u8 4, .int .u8 8, .int .u8 31, .int .u8 27, .int .u8 13, .int .u8 23, .int .u8 21, .int .u8 19, .int .u8 16, .int .u8 7, .int .u8 26, .int .u8 12, .int .u8 18, .int .u8 6, .int .u8 11, .int .u8 5, .int .u8 10, .int .u8 9] t fr | o => o)).modify 2 (fun | .cells _ t fr => .cells #[.int .u8 0, .int .u8 1, .int .u8 56, .int .u8 2, .int .u8 57, .int .u8 49, .int .u8 28, .int .u8 3, .int .u8 61, .int .u8 58, .int .u8 42, .int .u8 50, .int .u8 38, .int .u8 29, .int .u8 17, .int .u8 4, .int .u8 62, .int .u8 47, .int .u8 59, .int .u8 36, .int .u8 45, .int .u8 43, .int .u8 51, .int .u8 22, .int .u8 53, .int .u8 39, .int .u8 33, .int .u8 30, .int .u8 24, .int .u8 18, .int .u8 12, .int .u8 5, .int .u8 63, .int .u8 55, .int .u8 48, .int .u8 27, .int .u8 60, .int .u8 41, .int .u8 37, .int .u8 16, .int .u8 46, .int .u8 35, .int .u8 44, .int .u8 21, .int .u8 52, .int .u8 32, .int .u8 23, .int .u8 11, .int .u8 54, .int .u8 26, .int .u8 40, .int .u8 15, .int .u8 34, .int .u8 20, .int .u8 31, .int .u8 10, .int .u8 25, .int .u8 14, .int .u8 19, .int .u8 9, .int .u8 13, .int .u8 8, .int .u8 7, .int .u8 6] t fr | o => o)).modify 1 (fun | .cells _ t fr => .cells #[.int .u64 1, .int .u64 10, .int .u64 100, .int .u64 1000, .int .u64 10000, .int .u64 100000, .int .u64 1000000, .int .u64 10000000, .int .u64 100000000, .int .u64 1000000000, .int .u64 10000000000, .int .u64 100000000000, .int .u64 1000000000000, .int .u64 10000000000000, .int .u64 100000000000000, .int .u64 1000000000000000, .int .u64 10000000000000000, .int .u64 100000000000000000, .int .u64 1000000000000000000, .int .u64 10000000000000000000] t fr | o => o)).modify 4 (fun | .cells _ t fr => .cells #[.int .u8 128, .int .u8 191, .int .u8 160, .int .u8 191, .int .u8 128, .int .u8 159, .int .u8 144, .int .u8 191, .int .u8 128, .int .u8 143, .int .u8 0, .int .u8 0, .int .u8 0, .int .u8 0, .int .u8 0, .int .u8 0, .int .u8 0, .int .u8 0, .int .u8 0, .int .u8 0, .int .u8 0, .int .u8 0, .int .u8 0, .int .u8 0, .int .u8 0, .int .u8 0, .int .u8 0, .int .u8 0, .int .u8 0, .int .u8 0, .int .u8 0, .int .u8 0] t fr | o => o)).modify 3 (fun | .cells _ t fr => .cells #[.int .u8 240, .int .u8 240, .int .u8 240, .int .u8 240, .int .u8 240, .int .u8 240, .int .u8 240, .int .u8 240, .int .u8 240, .int .u8 240, .int .u8 240, .int .u8 240, .int .u8 240, .int .u8 240, .int .u8 240, .int .u8 240, .int .u8 240, .int .u8 240, .int .u8 240, .int .u8 240, .int .u8 240, .int .u8 240, .int .u8 240, .int .u8 240, .int .u8 240, .int .u8 240, .int .u8 240, .int .u8 240, .int .u8 240, .int .u8 240, .int .u8 240, .int .u8 240, .int .u8 240, .int .u8 240, .int .u8 240, .int .u8 240, .int .u8 240, .int .u8 240, .int .u8 240, .int .u8 240, .int .u8 240, .int .u8 240, .int .u8 240, .int .u8 240, .int .u8 240, .int .u8 240, .int .u8 240, .int .u8 240, .int .u8 240, .int .u8 240, .int .u8 240, .int .u8 240, .int .u8 240, .int .u8 240, .int .u8 240, .int .u8 240, .int .u8 240, .int .u8 240, .int .u8 240, .int .u8 240, .int .u8 240, .int .u8 240, .int .u8 240, .int .u8 240, .int .u8 240, .int .u8 240, .int .u8 240, .int .u8 240, .int .u8 240, .int .u8 240, .int .u8 240, .int .u8 240, .int .u8 240, .int .u8 240, .int .u8 240, .int .u8 240, .int .u8 240, .int .u8 240, .int .u8 240, .int .u8 240, .int .u8 240, .int .u8 240, .int .u8 240, .int .u8 240, .int .u8 240, .int .u8 240, .int .u8 240, .int .u8 240, .int .u8 240, .int .u8 240, .int .u8 240, .int .u8 240, .int .u8 240, .int .u8 240, .int .u8 240, .int .u8 240, .int .u8 240, .int .u8 240, .int .u8 240, .int .u8 240, .int .u8 240, .int .u8 240, .int .u8 240, .int .u8 240, .int .u8 240, .int .u8 240, .int .u8 240, .int .u8 240, .int .u8 240, .int .u8 240, .int .u8 240, .int .u8 240, .int .u8 240, .int .u8 240, .int .u8 240, .int .u8 240, .int .u8 240, .int .u8 240, .int .u8 240, .int .u8 240, .int .u8 240, .int .u8 240, .int .u8 240, .int .u8 240, .int .u8 240, .int .u8 240, .int .u8 240, .int .u8 240, .int .u8 241, .int .u8 241, .int .u8 241, .int .u8 241, .int .u8 241, .int .u8 241, .int .u8 241, .int .u8 241, .int .u8 241, .int .u8 241, .int .u8 241, .int .u8 241, .int .u8 241, .int .u8 241, .int .u8 241, .int .u8 241, .int .u8 241, .int .u8 241, .int .u8 241, .int .u8 241, .int .u8 241, .int .u8 241, .int .u8 241, .int .u8 241, .int .u8 241, .int .u8 241, .int .u8 241, .int .u8 241, .int .u8 241, .int .u8 241, .int .u8 241, .int .u8 241, .int .u8 241, .int .u8 241, .int .u8 241, .int .u8 241, .int .u8 241, .int .u8 241, .int .u8 241, .int .u8 241, .int .u8 241, .int .u8 241, .int .u8 241, .int .u8 241, .int .u8 241, .int .u8 241, .int .u8 241, .int .u8 241, .int .u8 241, .int .u8 241, .int .u8 241, .int .u8 241, .int .u8 241, .int .u8 241, .int .u8 241, .int .u8 241, .int .u8 241, .int .u8 241, .int .u8 241, .int .u8 241, .int .u8 241, .int .u8 241, .int .u8 241, .int .u8 241, .int .u8 241, .int .u8 241, .int .u8 2, .int .u8 2, .int .u8 2, .int .u8 2, .int .u8 2, .int .u8 2, .int .u8 2, .int .u8 2, .int .u8 2, .int .u8 2, .int .u8 2, .int .u8 2, .int .u8 2, .int .u8 2, .int .u8 2, .int .u8 2, .int .u8 2, .int .u8 2, .int .u8 2, .int .u8 2, .int .u8 2, .int .u8 2, .int .u8 2, .int .u8 2, .int .u8 2, .int .u8 2, .int .u8 2, .int .u8 2, .int .u8 2, .int .u8 2, .int .u8 19, .int .u8 3, .int .u8 3, .int .u8 3, .int .u8 3, .int .u8 3, .int .u8 3, .int .u8 3, .int .u8 3, .int .u8 3, .int .u8 3, .int .u8 3, .int .u8 3, .int .u8 35, .int .u8 3, .int .u8 3, .int .u8 52, .int .u8 4, .int .u8 4, .int .u8 4, .int .u8 68, .int .u8 241, .int .u8 241, .int .u8 241, .int .u8 241, .int .u8 241, .int .u8 241, .int .u8 241, .int .u8 241, .int .u8 241, .int .u8 241, .int .u8 241] t fr | o => o)) }
theorem laidWorld_met (os : Os) (args : Array Value) : laidMet Tryd.prog Rows.policyWrongRow.laid ((laidWorld os).forCall (fun _ _ => 0) ⟨#[], args, []⟩).memory := laidMet_of_run' 8 (by kernel_rfl) (by kernel_rfl)
set_option maxRecDepth 100000 in
set_option maxHeartbeats 1000000 in
theorem lifted (os : Os) (started : os.Started) (H : Type) (enc : TypeId × Value → H) :
    ReturnsInHanded {} Tryd.checked os 4 .any (fun w args => (Rows.policyWrongSpec.pre enc Tryd.prog Tryd.f4 Rows.policyWrongRow.domain false w args ∧ laidMet Tryd.prog Rows.policyWrongRow.laid w) ∧ sizedMet enc Tryd.prog Tryd.f4 (OpenSpec.ofChange Rows.policyWrongSpec) false w args) (Rows.policyWrongSpec.post enc Tryd.prog Tryd.f4 false true false false) := by
  refine returnsInHanded_of_change_and (C := Tryd.checked) (X := fun w _ => laidMet Tryd.prog Rows.policyWrongRow.laid w) (fun _ _ _ hh h => h.of_heap hh) own started (by kernel_rfl) Tryd.func4
    (ChangeSpec.witness_at (enc := enc) (C := Tryd.checked) (os := os) (X := fun w _ => laidMet Tryd.prog Rows.policyWrongRow.laid w) false (laidWorld os) #[.agg #[.int .i64 0, .int .i64 0, .slice none 0 0, .slice none 0 0, .slice none 0 0], .agg #[.int .i64 0, .int .i64 0]] 8 rfl (by kernel_rfl) (by kernel_rfl) (by kernel_rfl) (by kernel_rfl) (by kernel_rfl) (laidWorld_met os _)) ?_
  intro W base args ds gs before hval0 hW hcnd hsz0 hL _
  have hsz : (DataW.weightsEach Tryd.prog (Tryd.f4.params.toList ++ Rows.policyWrongSpec.plain.varTypes Tryd.prog) (ds ++ gs)).all (· ≤ reachBytes) = true := hsz0
  have hval : ∀ (j : Nat) t v, Tryd.f4.params[j]? = some t → args[j]? = some v → Value.okWide Tryd.prog W .any base t v := hval0
  have hW' := hW
  obtain ⟨p, q, hA0, hV, rfl, hfz, hnd⟩ := hW
  have hA : DataW.TrodAll enc Tryd.prog W 0 (fun _ => true) true Tryd.f4.params.toList args.toList ds p := hA0
  rw [Tryd.params4] at hA hval hsz
  obtain ⟨v0, vs0, d0, ds0, p0, q0, hargs, rfl, rfl, h0, r0⟩ := trodAll_cons hA
  obtain ⟨v1, vs1, d1, ds1, p1, q1, rfl, rfl, rfl, h1, r1⟩ := trodAll_cons r0
  obtain ⟨rfl, rfl, rfl⟩ := trodAll_nil r1
  obtain rfl : args = #[v0, v1] := by cases args; simp_all
  obtain ⟨rfl, rfl⟩ := trodVars_none hV
  have lt0 : ∀ x ∈ p0, x.block < W.heap.size := by obtain ⟨m, hm⟩ := h0; exact DataW.trod_lt m _ _ _ hm
  have hw0 : ∀ m ∈ d0.weights Tryd.prog 26, m ≤ reachBytes := fun m hm => of_decide_eq_true (List.all_eq_true.1 hsz m (DataW.weights_mem_each (j := 0) (t := 26) rfl rfl m hm))
  obtain ⟨a0, K0, g0⟩ : ∃ a, (k26 : Kd S26).K W a v0.cells.toList ∧ (good26 a) := by
    obtain ⟨fuel, hf⟩ := h0
    exact opens26 hf hw0
  obtain ⟨cs0, rfl, _⟩ := okWide_struct Tryd.underlying26 (hval 0 26 v0 rfl rfl)
  have KO0 := k26_open K0
  obtain ⟨A0_0, c0_0, A0_1, c0_1, A0_2, c0_2, KE0, hc0_0, C0_0, hc0_1, C0_1, hc0_2, C0_2⟩ := KO0
  obtain rfl : cs0 = #[.int .i64 a0.f0, .int .i64 a0.f1, .slice A0_0 (a0.f2).length c0_0, .slice A0_1 (a0.f3).length c0_1, .slice A0_2 (a0.f4).length c0_2] := by
    have : cs0.toList = _ := KE0
    cases cs0; simp_all
  have lt1 : ∀ x ∈ p1, x.block < W.heap.size := by obtain ⟨m, hm⟩ := h1; exact DataW.trod_lt m _ _ _ hm
  have hw1 : ∀ m ∈ d1.weights Tryd.prog 38, m ≤ reachBytes := fun m hm => of_decide_eq_true (List.all_eq_true.1 hsz m (DataW.weights_mem_each (j := 1) (t := 38) rfl rfl m hm))
  obtain ⟨a1, K1, g1⟩ : ∃ a, (k38 : Kd S38).K W a v1.cells.toList ∧ (good38 a) := by
    obtain ⟨fuel, hf⟩ := h1
    exact opens38 hf hw1
  obtain ⟨cs1, rfl, _⟩ := okWide_struct Tryd.underlying38 (hval 1 38 v1 rfl rfl)
  have KO1 := k38_open K1
  obtain rfl : cs1 = #[.int .i64 a1.f0, .int .i64 a1.f1] := by
    have : cs1.toList = _ := KO1
    cases cs1; simp_all
  obtain ⟨k, hk⟩ := Pure.PolicyWrong a0 a1 g0 g1
  clear hA0 hval0 hsz0 hsz
  refine (oculuslaw07_PolicyWrong.calls k (a0.f0) (a0.f1) A0_0 c0_0 (a0.f2) A0_1 c0_1 (a0.f3) A0_2 c0_2 (a0.f4) (a1.f0) (a1.f1) true W ⟨tab_of_laid hL⟩ C0_0 hc0_0 C0_1 hc0_1 C0_2 hc0_2 hk).mono fun e W' ⟨he, bel0⟩ => ?_
  have bel : Below W.heap.size W W' := bel0
  subst he
  exact ⟨_, rfl, _, _, _, [], _, [], hW', trodAll_mk1 (shut_bool Tryd.underlying4 _), (trodAll_cons_mk (Below.trod laidOut (by kernel_rfl) (of_decide_eq_true (by kernel_rfl)) h0 bel lt0) (trodAll_cons_mk (Below.trod laidOut (by kernel_rfl) (of_decide_eq_true (by kernel_rfl)) h1 bel lt1) trodAll_mk0)), rfl, bel.frame _, fun h => by cases h⟩
theorem over : Rows.policyWrongRow.holds Tryd.pinned (OpenSpec.ofChange Rows.policyWrongSpec) :=
  OpenClaim.holds_of_wide 4 Tryd.f4 rfl rfl rfl rfl rfl rfl rfl ⟨rfl, rfl, rfl, rfl, rfl⟩ rfl rfl rfl rfl rfl (by kernel_rfl) Tryd.func4 (by kernel_rfl)
    (of_decide_eq_true (by kernel_rfl)) (by unfold Func.isWrapper; first | (rw [if_pos (by decide +kernel)]; kernel_rfl) | (rw [if_neg (by decide +kernel)]; exact ⟨rfl, rfl⟩))
    (fun os started H enc _ => lifted os started H enc)
theorem proved : Rows.PolicyWrongCardSaid :=
  Claim7.holds_tied_plain_at .later [] [.data, .data, .data, .data, .pinned] true (true, "b20370fb315023bea96c53067fcc5b990838f21093fb5456fd6bdaee6fe56a19") false
    over (fun _ h => by cases h) (by kernel_rfl) (fun _ h => by cases h) policyWrong_row_tie rfl ⟨rfl, rfl⟩ (by kernel_rfl) rfl
    (fun f fn hf hfn => by
      obtain rfl : f = 4 := Option.some.inj ((show Tryd.prog.funcNamed "oculus/oculuslaw07.PolicyWrong" = some 4 by kernel_rfl).symm.trans hf) |>.symm
      obtain rfl : fn = Tryd.f4 := (Option.some.inj (Tryd.func4.symm.trans hfn)).symm
      refine ⟨by kernel_rfl, fun j t ht => ?_⟩
      rw [Tryd.params4] at ht
      have hall : ∀ t ∈ #[(26 : TypeId), (38 : TypeId)], Tryd.prog.wantsStandIn t = false := by
        intro t ht
        simp only [List.mem_toArray, List.mem_cons, List.not_mem_nil, or_false] at ht
        rcases ht with rfl | rfl
        · exact (show Tryd.prog.wantsStandIn 26 = false by kernel_rfl)
        · exact (show Tryd.prog.wantsStandIn 38 = false by kernel_rfl)
      exact hall t (Array.mem_of_getElem? ht))
    (by kernel_rfl)
end Go.Proofs.YtbboanfggaknjaaDoor.policyWrong
namespace Go.Proofs.YtbboanfggaknjaaDoor
theorem policyWrong_holds : Rows.PolicyWrongCardSaid := policyWrong.proved
#print axioms policyWrong_holds
end Go.Proofs.YtbboanfggaknjaaDoor
