/- The law RightLowers: for every input the call returns true, and each argument reads afterwards as it read before: the statement Rows.RightLowersSaid, whole, with no condition of ours. -/
import Derived.Test.YtlchgkoafabapaaRows
import Derived.WalkKit
import Derived.ProofKit
import Derived.OpenShut
import Derived.ShutString
import Derived.ChangeOld
import Derived.Below
import Derived.SizedLaws
import Derived.Carry
import Derived.Test.YtlchgkoafabapaaBRightLowers4
namespace Go.Proofs.Ytlchgkoafabapaa.X
open Go.RowKit Go.Proofs.YtlchgkoafabapaaW.PrintWords Go.Proofs.YtlchgkoafabapaaW.PrintLast Go.Proofs.YtlchgkoafabapaaW.PrintMore
attribute [local go_sem] max2_int min2_int max_two min_two max_three min_three max_four min_four   -- for this text's walks alone
set_option linter.unusedVariables false
set_option linter.unusedSimpArgs false

/-! ### oculusref06_Users: function 53 -/
mutual
def oculusref06_Users.l0 : Nat → List (S93) → Int → Option (Int × Int)
  | 0, _, _ => none
  | k + 1, x0, x3 => if x3 < (x0.length : Int) then (if 0 ≤ x3 then ((oculusref06_may.f ((rd_T93 x0 x3).f1.f0) ((rd_T93 x0 x3).f1.f1)).bind fun t103 => (if t103 = true then (oculusref06_Users.j1 k x0 x3 0) else (oculusref06_Users.j1 k x0 x3 7))) else (none)) else (some (0, 0))
def oculusref06_Users.j1 : Nat → List (S93) → Int → Int → Option (Int × Int)
  | 0, _, _, _ => none
  | k + 1, x0, x3, x4 => if 0 ≤ x3 then (if x3 < (x0.length : Int) then ((oculusref06_Find.f k x0 ((rd_T93 x0 x3).f0)).bind fun t105 => (if t105 = x3 then (oculusref06_Users.j2 k x0 x3 x4) else (oculusref06_Users.j2 k x0 x3 8))) else (none)) else (none)
def oculusref06_Users.j2 : Nat → List (S93) → Int → Int → Option (Int × Int)
  | 0, _, _, _ => none
  | k + 1, x0, x3, x4 => if 0 ≤ x3 then (if x3 < (x0.length : Int) then ((oculusref06_Name.f k ((rd_T93 x0 x3).f0)).bind fun t107 => (if t107 = true then (oculusref06_Users.j3 k x0 x3 x4) else (oculusref06_Users.j3 k x0 x3 1))) else (none)) else (none)
def oculusref06_Users.j3 : Nat → List (S93) → Int → Int → Option (Int × Int)
  | 0, _, _, _ => none
  | k + 1, x0, x3, x4 => if x3 > 15 then (some (x3, 10)) else (if x4 = 0 then (oculusref06_Users.l0 k x0 (wrap64 (x3 + 1))) else (some (x3, x4)))
end
def oculusref06_Users.f (k : Nat) (l0 : List (S93)) : Option (Int × Int) := oculusref06_Users.l0 k l0 0
theorem oculusref06_Users.mono_l : ∀ k, (∀ y0 y1, LeO (oculusref06_Users.l0 k y0 y1) (oculusref06_Users.l0 (k + 1) y0 y1)) ∧ (∀ y0 y1 y2, LeO (oculusref06_Users.j1 k y0 y1 y2) (oculusref06_Users.j1 (k + 1) y0 y1 y2)) ∧ (∀ y0 y1 y2, LeO (oculusref06_Users.j2 k y0 y1 y2) (oculusref06_Users.j2 (k + 1) y0 y1 y2)) ∧ (∀ y0 y1 y2, LeO (oculusref06_Users.j3 k y0 y1 y2) (oculusref06_Users.j3 (k + 1) y0 y1 y2))
  | 0 => ⟨fun _ _ r h => by simp [oculusref06_Users.l0] at h, fun _ _ _ r h => by simp [oculusref06_Users.j1] at h, fun _ _ _ r h => by simp [oculusref06_Users.j2] at h, fun _ _ _ r h => by simp [oculusref06_Users.j3] at h⟩
  | k + 1 => by
    obtain ⟨ih0, ih1, ih2, ih3⟩ := oculusref06_Users.mono_l k
    refine ⟨?_, ?_, ?_, ?_⟩
    · intro y0 y1
      unfold oculusref06_Users.l0
      repeat' first
      | (with_reducible exact ih0 _ _)
      | (with_reducible exact ih1 _ _ _)
      | (with_reducible exact ih2 _ _ _)
      | (with_reducible exact ih3 _ _ _)
      | (with_reducible exact oculusref06_Find.mono _ _ _)
      | (with_reducible exact oculusref06_Name.mono _ _)
      | (with_reducible exact LeO.refl _)
      | (with_reducible exact LeO.none _)
      | (with_reducible refine LeO.ite ?_ ?_)
      | (with_reducible refine LeO.bind ?_ (fun _ => ?_))
      | exact ih0 _ _
      | exact ih1 _ _ _
      | exact ih2 _ _ _
      | exact ih3 _ _ _
      | exact oculusref06_Find.mono _ _ _
      | exact oculusref06_Name.mono _ _
      | exact LeO.none _
      | refine LeO.ite ?_ ?_
      | refine LeO.bind ?_ (fun _ => ?_)
    · intro y0 y1 y2
      unfold oculusref06_Users.j1
      repeat' first
      | (with_reducible exact ih0 _ _)
      | (with_reducible exact ih1 _ _ _)
      | (with_reducible exact ih2 _ _ _)
      | (with_reducible exact ih3 _ _ _)
      | (with_reducible exact oculusref06_Find.mono _ _ _)
      | (with_reducible exact oculusref06_Name.mono _ _)
      | (with_reducible exact LeO.refl _)
      | (with_reducible exact LeO.none _)
      | (with_reducible refine LeO.ite ?_ ?_)
      | (with_reducible refine LeO.bind ?_ (fun _ => ?_))
      | exact ih0 _ _
      | exact ih1 _ _ _
      | exact ih2 _ _ _
      | exact ih3 _ _ _
      | exact oculusref06_Find.mono _ _ _
      | exact oculusref06_Name.mono _ _
      | exact LeO.none _
      | refine LeO.ite ?_ ?_
      | refine LeO.bind ?_ (fun _ => ?_)
    · intro y0 y1 y2
      unfold oculusref06_Users.j2
      repeat' first
      | (with_reducible exact ih0 _ _)
      | (with_reducible exact ih1 _ _ _)
      | (with_reducible exact ih2 _ _ _)
      | (with_reducible exact ih3 _ _ _)
      | (with_reducible exact oculusref06_Find.mono _ _ _)
      | (with_reducible exact oculusref06_Name.mono _ _)
      | (with_reducible exact LeO.refl _)
      | (with_reducible exact LeO.none _)
      | (with_reducible refine LeO.ite ?_ ?_)
      | (with_reducible refine LeO.bind ?_ (fun _ => ?_))
      | exact ih0 _ _
      | exact ih1 _ _ _
      | exact ih2 _ _ _
      | exact ih3 _ _ _
      | exact oculusref06_Find.mono _ _ _
      | exact oculusref06_Name.mono _ _
      | exact LeO.none _
      | refine LeO.ite ?_ ?_
      | refine LeO.bind ?_ (fun _ => ?_)
    · intro y0 y1 y2
      unfold oculusref06_Users.j3
      repeat' first
      | (with_reducible exact ih0 _ _)
      | (with_reducible exact ih1 _ _ _)
      | (with_reducible exact ih2 _ _ _)
      | (with_reducible exact ih3 _ _ _)
      | (with_reducible exact oculusref06_Find.mono _ _ _)
      | (with_reducible exact oculusref06_Name.mono _ _)
      | (with_reducible exact LeO.refl _)
      | (with_reducible exact LeO.none _)
      | (with_reducible refine LeO.ite ?_ ?_)
      | (with_reducible refine LeO.bind ?_ (fun _ => ?_))
      | exact ih0 _ _
      | exact ih1 _ _ _
      | exact ih2 _ _ _
      | exact ih3 _ _ _
      | exact oculusref06_Find.mono _ _ _
      | exact oculusref06_Name.mono _ _
      | exact LeO.none _
      | refine LeO.ite ?_ ?_
      | refine LeO.bind ?_ (fun _ => ?_)
theorem oculusref06_Users.mono : ∀ a0 k, LeO (oculusref06_Users.f k a0) (oculusref06_Users.f (k + 1) a0) := by
  intro a0 k
  obtain ⟨ih0, ih1, ih2, ih3⟩ := oculusref06_Users.mono_l k
  unfold oculusref06_Users.f
  repeat' first
      | (with_reducible exact ih0 _ _)
      | (with_reducible exact ih1 _ _ _)
      | (with_reducible exact ih2 _ _ _)
      | (with_reducible exact ih3 _ _ _)
      | (with_reducible exact oculusref06_Find.mono _ _ _)
      | (with_reducible exact oculusref06_Name.mono _ _)
      | (with_reducible exact LeO.refl _)
      | (with_reducible exact LeO.none _)
      | (with_reducible refine LeO.ite ?_ ?_)
      | (with_reducible refine LeO.bind ?_ (fun _ => ?_))
      | exact ih0 _ _
      | exact ih1 _ _ _
      | exact ih2 _ _ _
      | exact ih3 _ _ _
      | exact oculusref06_Find.mono _ _ _
      | exact oculusref06_Name.mono _ _
      | exact LeO.none _
      | refine LeO.ite ?_ ?_
      | refine LeO.bind ?_ (fun _ => ?_)
set_option maxHeartbeats 8000000 in
set_option maxRecDepth 100000 in
theorem oculusref06_Users.calls (k : Nat) (A0 : Option Addr) (c0 : Nat) (l0 : List (S93)) (r1 : Int) (r2 : Int) (w : World) (hr0 : Kd.C k93 w A0 l0.length l0) (hc0 : l0.length ≤ c0) (h : oculusref06_Users.f k l0 = some (r1, r2)) :
    Calls Try.prog 53 #[.slice A0 l0.length c0] w fun e w' => e = .returned (.agg #[.int .i64 r1, .int .i64 r2]) ∧ Below w.heap.size w w' := by
  have hu86 := Try.underlying86
  have hu26 := Try.underlying26
  have HR0 := Aside0.mk hr0
  have HC0 := Aside0.mk hc0
  clear hr0 hc0
  have HB := Aside0.mk (Below.refl w.heap.size w)
  have H : (oculusref06_Users.l0 k l0 0) = some (r1, r2) := h
  clear h
  have H' := Aside0.mk H
  clear H
  go_enter Try.func53, Try.ntmps53
  go_wp2_with (first | ((with_reducible refine gate_dst (N := 2) rfl ?_); refine box_event ?hg (N := 2) ?hd (cs := #[.int .i64 0, .int .i64 0]) (t := 86) ?hr ?_; (case hd => rfl); (case hg => rfl); (case hr => first | (go_simp; done) | (go_simp; rfl)); intro gb101 hg w2 hbox hb; have n0_ := Aside0.mk (below_step (pbx HB) hb); have n1_ := Aside0.mk (hbox); have n2_ := Aside0.mk ((by rw [hg]; exact (below_size (pbx HB)) : w.heap.size ≤ gb101)); have n3_ := Aside0.mk ((by rw [hg]; exact (below_size (pbx HB)) : w.heap.size ≤ gb101)); clear HB; have HB := n0_; have BK101 := n1_; have GW101 := n2_; have GE101 := n3_; clear n0_ n1_ n2_ n3_; clear hb hbox hg))
  go_loopg [3] k (fun kq v3 w' => ∃ (x3_1 : Int) (x102000_1 : Int) (x102001_1 : Int), v3 = .int .i64 x3_1 ∧ Aside0 (oculusref06_Users.l0 kq l0 x3_1 = some (r1, r2)) ∧ Aside0 (kq ≤ k) ∧ Aside0 (w'.heap[gb101]? = some (.cells #[.int .i64 x102000_1, .int .i64 x102001_1] 86 (0, 0))) ∧ Aside0 (Below w.heap.size w w'))
  case atStart => exact ⟨(0), (0), (0), (by first | rfl | (simp; done) | (simp [*]; done)), H', ⟨Nat.le_refl _⟩, ⟨pkx BK101⟩, ⟨pbx HB⟩⟩
  case round =>
    clear H'
    try clear p2
    obtain ⟨x3_1, x102000_1, x102001_1, rfl, HA, HK1, BK101, HB⟩ := hrel
    cases gk with
    | zero => exact absurd HA.out (by simp [oculusref06_Users.l0])
    | succ k1 =>
      have H := HA.out
      clear HA
      simp only [oculusref06_Users.l0] at H
      by_cases c3 : x3_1 < (l0.length : Int)
      · rw [if_pos c3] at H
        have c3b0 : decide (x3_1 < (l0.length : Int)) = true := decide_eq_true c3
        clear c3
        by_cases c4 : 0 ≤ x3_1
        · rw [if_pos c4] at H
          have c4b0 : decide (0 ≤ x3_1) = true := decide_eq_true c4
          clear c4
          replace H := Option.bind_eq_some_iff.mp H
          obtain ⟨t103, A50, H⟩ := H
          replace H : (if t103 = true then (oculusref06_Users.j1 k1 l0 x3_1 0) else (oculusref06_Users.j1 k1 l0 x3_1 7)) = some (r1, r2) := H
          have A5 := Aside0.mk A50
          clear A50
          have HC6 := Aside0.mk H
          clear H
          have p102 : 0 ≤ (x3_1 : Int) := of_decide_eq_true (by first | (with_reducible assumption) | assumption)
          have q102 : x3_1 < (l0.length : Int) := of_decide_eq_true (by first | (with_reducible assumption) | assumption)
          obtain ⟨ad102, e102, hx102_0, hx102_1, hx102_2⟩ := at_T93 HR0.out x3_1 p102 q102
          cases e102
          replace hx102_0 := (HB.out.cell (World.block_lt_of_cell? w _ hx102_0)).trans hx102_0
          replace hx102_1 := (HB.out.cell (World.block_lt_of_cell? w _ hx102_1)).trans hx102_1
          replace hx102_2 := (HB.out.cell (World.block_lt_of_cell? w _ hx102_2)).trans hx102_2
          replace p102 := eq_true p102
          replace q102 := eq_true q102
          go_upto_if 17 with (first | ((with_reducible refine gate_callee (f := 75) rfl ?_); refine goesL_ (some 16) rfl rfl Try.func75 (by kernel_rfl) rfl #[.agg #[.int .i64 ((rd_T93 l0 x3_1).f1.f0), .int .u64 ((rd_T93 l0 x3_1).f1.f1)]] rfl (by (try simp only [List.map_toArray, List.map_cons, List.map_nil]); first | done | rfl | (simp only [List.length_drop, List.length_take]; rfl)) ?_; (with_reducible refine (oculusref06_may.calls ((rd_T93 l0 x3_1).f1.f0) ((rd_T93 l0 x3_1).f1.f1) t103 _ A5.out).mono ?_); rintro e w7 ⟨rfl, hb⟩; refine ⟨_, rfl, ?_⟩; have n0_ := Aside0.mk (blk_below (pkx BK101) hb); have n1_ := Aside0.mk (below_step (pbx HB) hb); clear BK101; clear HB; have BK101 := n0_; have HB := n1_; clear n0_ n1_; (try clear hb); (try clear hb2); (try clear hk); (try clear hi)))
          (try simp only [Act.put, List.setIfInBounds_toArray, List.set_cons_zero, List.set_cons_succ])
          go_cut [4] (fun v4 wc => ∃ (kq : Nat) (x4_5 : Int), v4 = .int .i64 x4_5 ∧ Aside0 (oculusref06_Users.j1 kq l0 x3_1 x4_5 = some (r1, r2)) ∧ Aside0 (kq ≤ k1) ∧ Aside0 (wc.heap[gb101]? = some (.cells #[.int .i64 x102000_1, .int .i64 x102001_1] 86 (0, 0))) ∧ Aside0 (Below w.heap.size w wc))
          case first =>
            have H := HC6.out
            clear HC6
            by_cases c8 : t103 = true
            · subst c8
              have H1 : (oculusref06_Users.j1 k1 l0 x3_1 0) = some (r1, r2) := by rw [if_pos rfl] at H; exact H
              clear H
              have H := H1
              clear H1
              have H' := Aside0.mk H
              clear H
              go_wp2
              go_meet
              case rel => exact ⟨_, (0), (by first | rfl | (simp; done) | (simp [*]; done)), H', ⟨by have := HK1.out; first | omega | exact Nat.le_refl _⟩, ⟨pkx BK101⟩, ⟨pbx HB⟩⟩
            · replace c8 := Bool.eq_false_iff.mpr c8
              subst c8
              have H1 : (oculusref06_Users.j1 k1 l0 x3_1 7) = some (r1, r2) := by rw [if_neg (show ¬ (false = true) by decide)] at H; exact H
              clear H
              have H := H1
              clear H1
              have H' := Aside0.mk H
              clear H
              go_wp2
              go_meet
              case rel => exact ⟨_, (7), (by first | rfl | (simp; done) | (simp [*]; done)), H', ⟨by have := HK1.out; first | omega | exact Nat.le_refl _⟩, ⟨pkx BK101⟩, ⟨pbx HB⟩⟩
          case rest =>
            clear HC6
            try clear p1
            try clear q1
            try clear hx1
            try clear p2
            try clear c3
            try clear c3b0
            try clear c4
            try clear c4b0
            try clear c5
            try clear c7
            try clear c8
            try clear hx102_0
            try clear hx102_1
            try clear hx102_2
            try clear p102
            try clear p2
            try clear q102
            obtain ⟨kq, x4_5, rfl, HA, HJ5, BK101, HB⟩ := hcut
            cases kq with
            | zero => exact absurd HA.out (by simp [oculusref06_Users.j1])
            | succ kj5 =>
              have H := HA.out
              clear HA
              simp only [oculusref06_Users.j1] at H
              by_cases c9 : 0 ≤ x3_1
              · rw [if_pos c9] at H
                have c9b0 : decide (0 ≤ x3_1) = true := decide_eq_true c9
                clear c9
                by_cases c10 : x3_1 < (l0.length : Int)
                · rw [if_pos c10] at H
                  have c10b0 : decide (x3_1 < (l0.length : Int)) = true := decide_eq_true c10
                  clear c10
                  replace H := Option.bind_eq_some_iff.mp H
                  obtain ⟨t105, A110, H⟩ := H
                  replace H : (if t105 = x3_1 then (oculusref06_Users.j2 kj5 l0 x3_1 x4_5) else (oculusref06_Users.j2 kj5 l0 x3_1 8)) = some (r1, r2) := H
                  have A11 := Aside0.mk A110
                  clear A110
                  have HC12 := Aside0.mk H
                  clear H
                  have p104 : 0 ≤ (x3_1 : Int) := of_decide_eq_true (by first | (with_reducible assumption) | assumption)
                  have q104 : x3_1 < (l0.length : Int) := of_decide_eq_true (by first | (with_reducible assumption) | assumption)
                  obtain ⟨ad104, e104, hx104_0, hx104_1, hx104_2⟩ := at_T93 HR0.out x3_1 p104 q104
                  obtain rfl : ad102 = ad104 := (by injection e104)
                  replace hx104_0 := (HB.out.cell (World.block_lt_of_cell? w _ hx104_0)).trans hx104_0
                  replace hx104_1 := (HB.out.cell (World.block_lt_of_cell? w _ hx104_1)).trans hx104_1
                  replace hx104_2 := (HB.out.cell (World.block_lt_of_cell? w _ hx104_2)).trans hx104_2
                  replace p104 := eq_true p104
                  replace q104 := eq_true q104
                  go_upto_if 26 with (first | ((with_reducible refine gate_callee (f := 49) rfl ?_); refine goesL_ (some 24) rfl rfl Try.func49 (by kernel_rfl) rfl #[.slice (some ad102) l0.length c0, .string ((rd_T93 l0 x3_1).f0)] rfl (by (try simp only [List.map_toArray, List.map_cons, List.map_nil]); first | done | rfl | (simp only [List.length_drop, List.length_take]; rfl)) ?_; (with_reducible refine (oculusref06_Find.calls kj5 _ _ l0 ((rd_T93 l0 x3_1).f0) t105 _ ?side1 ?side2 A11.out).mono ?_); (case side1 => repeat (first | exact (Kd.C_below HR0.out HB.out) | (with_reducible refine Kd.C_alloc ?_ _) | (with_reducible refine Kd.C_drewN ?_ _) | (with_reducible refine Kd.C_drew ?_))); (case side2 => exact HC0.out); rintro e w' ⟨rfl, ⟨nd, rfl⟩⟩; refine ⟨_, rfl, ?_⟩))
                  (try simp only [Act.put, List.setIfInBounds_toArray, List.set_cons_zero, List.set_cons_succ])
                  go_cut [4] (fun v4 wc => ∃ (kq : Nat) (x4_11 : Int), v4 = .int .i64 x4_11 ∧ Aside0 (oculusref06_Users.j2 kq l0 x3_1 x4_11 = some (r1, r2)) ∧ Aside0 (kq ≤ kj5) ∧ Aside0 (wc.heap[gb101]? = some (.cells #[.int .i64 x102000_1, .int .i64 x102001_1] 86 (0, 0))) ∧ Aside0 (Below w.heap.size w wc))
                  case first =>
                    have H := HC12.out
                    clear HC12
                    by_cases c13 : t105 = x3_1
                    · rw [if_pos c13] at H
                      have c13b0 : (t105 == x3_1) = true := beq_iff_eq.mpr c13
                      have c13b1 : (t105 != x3_1) = false := bne_eq_false_iff_eq.mpr c13
                      clear c13
                      (first | rw [c13b0] | (simp only [i64_w, i32_w]; rw [c13b0]) | skip)
                      have H' := Aside0.mk H
                      clear H
                      go_wp2
                      go_meet
                      case rel => exact ⟨_, (x4_5), (by first | rfl | (simp; done) | (simp [*]; done)), H', ⟨by have := HK1.out; have := HJ5.out; first | omega | exact Nat.le_refl _⟩, ⟨pkx BK101⟩, ⟨pbx HB⟩⟩
                    · rw [if_neg c13] at H
                      have c13b0 : (t105 == x3_1) = false := beq_eq_false_iff_ne.mpr c13
                      have c13b1 : (t105 != x3_1) = true := bne_iff_ne.mpr c13
                      (first | rw [c13b0] | (simp only [i64_w, i32_w]; rw [c13b0]) | skip)
                      have H' := Aside0.mk H
                      clear H
                      go_wp2
                      go_meet
                      case rel => exact ⟨_, (8), (by first | rfl | (simp; done) | (simp [*]; done)), H', ⟨by have := HK1.out; have := HJ5.out; first | omega | exact Nat.le_refl _⟩, ⟨pkx BK101⟩, ⟨pbx HB⟩⟩
                  case rest =>
                    clear HC12
                    try clear c1
                    try clear p1
                    try clear q1
                    try clear hx1
                    try clear p2
                    try clear c3
                    try clear c3b0
                    try clear c4
                    try clear c4b0
                    try clear c5
                    try clear c7
                    try clear c8
                    try clear c9
                    try clear c9b0
                    try clear c10
                    try clear c10b0
                    try clear p10
                    try clear q10
                    try clear hx10
                    try clear c13
                    try clear c13b0
                    try clear c13b1
                    try clear hx102_0
                    try clear hx102_1
                    try clear hx102_2
                    try clear hx104_0
                    try clear hx104_1
                    try clear hx104_2
                    try clear p1
                    try clear p102
                    try clear p104
                    try clear p2
                    try clear q1
                    try clear q102
                    try clear q104
                    obtain ⟨kq, x4_11, rfl, HA, HJ11, BK101, HB⟩ := hcut
                    cases kq with
                    | zero => exact absurd HA.out (by simp [oculusref06_Users.j2])
                    | succ kj11 =>
                      have H := HA.out
                      clear HA
                      simp only [oculusref06_Users.j2] at H
                      by_cases c14 : 0 ≤ x3_1
                      · rw [if_pos c14] at H
                        have c14b0 : decide (0 ≤ x3_1) = true := decide_eq_true c14
                        clear c14
                        by_cases c15 : x3_1 < (l0.length : Int)
                        · rw [if_pos c15] at H
                          have c15b0 : decide (x3_1 < (l0.length : Int)) = true := decide_eq_true c15
                          clear c15
                          replace H := Option.bind_eq_some_iff.mp H
                          obtain ⟨t107, A160, H⟩ := H
                          replace H : (if t107 = true then (oculusref06_Users.j3 kj11 l0 x3_1 x4_11) else (oculusref06_Users.j3 kj11 l0 x3_1 1)) = some (r1, r2) := H
                          have A16 := Aside0.mk A160
                          clear A160
                          have HC17 := Aside0.mk H
                          clear H
                          have p106 : 0 ≤ (x3_1 : Int) := of_decide_eq_true (by first | (with_reducible assumption) | assumption)
                          have q106 : x3_1 < (l0.length : Int) := of_decide_eq_true (by first | (with_reducible assumption) | assumption)
                          obtain ⟨ad106, e106, hx106_0, hx106_1, hx106_2⟩ := at_T93 HR0.out x3_1 p106 q106
                          obtain rfl : ad102 = ad106 := (by injection e106)
                          replace hx106_0 := (HB.out.cell (World.block_lt_of_cell? w _ hx106_0)).trans hx106_0
                          replace hx106_1 := (HB.out.cell (World.block_lt_of_cell? w _ hx106_1)).trans hx106_1
                          replace hx106_2 := (HB.out.cell (World.block_lt_of_cell? w _ hx106_2)).trans hx106_2
                          replace p106 := eq_true p106
                          replace q106 := eq_true q106
                          go_upto_if 33 with (first | ((with_reducible refine gate_callee (f := 51) rfl ?_); refine goesL_ (some 32) rfl rfl Try.func51 (by kernel_rfl) rfl #[.string ((rd_T93 l0 x3_1).f0)] rfl (by (try simp only [List.map_toArray, List.map_cons, List.map_nil]); first | done | rfl | (simp only [List.length_drop, List.length_take]; rfl)) ?_; (with_reducible refine (oculusref06_Name.calls kj11 ((rd_T93 l0 x3_1).f0) t107 _ A16.out).mono ?_); rintro e w' ⟨rfl, ⟨nd, rfl⟩⟩; refine ⟨_, rfl, ?_⟩))
                          (try simp only [Act.put, List.setIfInBounds_toArray, List.set_cons_zero, List.set_cons_succ])
                          go_cut [4] (fun v4 wc => ∃ (kq : Nat) (x4_16 : Int), v4 = .int .i64 x4_16 ∧ Aside0 (oculusref06_Users.j3 kq l0 x3_1 x4_16 = some (r1, r2)) ∧ Aside0 (kq ≤ kj11) ∧ Aside0 (wc.heap[gb101]? = some (.cells #[.int .i64 x102000_1, .int .i64 x102001_1] 86 (0, 0))) ∧ Aside0 (Below w.heap.size w wc))
                          case first =>
                            have H := HC17.out
                            clear HC17
                            by_cases c18 : t107 = true
                            · subst c18
                              have H1 : (oculusref06_Users.j3 kj11 l0 x3_1 x4_11) = some (r1, r2) := by rw [if_pos rfl] at H; exact H
                              clear H
                              have H := H1
                              clear H1
                              have H' := Aside0.mk H
                              clear H
                              go_wp2
                              go_meet
                              case rel => exact ⟨_, (x4_11), (by first | rfl | (simp; done) | (simp [*]; done)), H', ⟨by have := HK1.out; have := HJ5.out; have := HJ11.out; first | omega | exact Nat.le_refl _⟩, ⟨pkx BK101⟩, ⟨pbx HB⟩⟩
                            · replace c18 := Bool.eq_false_iff.mpr c18
                              subst c18
                              have H1 : (oculusref06_Users.j3 kj11 l0 x3_1 1) = some (r1, r2) := by rw [if_neg (show ¬ (false = true) by decide)] at H; exact H
                              clear H
                              have H := H1
                              clear H1
                              have H' := Aside0.mk H
                              clear H
                              go_wp2
                              go_meet
                              case rel => exact ⟨_, (1), (by first | rfl | (simp; done) | (simp [*]; done)), H', ⟨by have := HK1.out; have := HJ5.out; have := HJ11.out; first | omega | exact Nat.le_refl _⟩, ⟨pkx BK101⟩, ⟨pbx HB⟩⟩
                          case rest =>
                            clear HC17
                            try clear c1
                            try clear p1
                            try clear q1
                            try clear hx1
                            try clear p2
                            try clear c3
                            try clear c3b0
                            try clear c4
                            try clear c4b0
                            try clear c5
                            try clear c7
                            try clear c8
                            try clear c9
                            try clear c9b0
                            try clear c10
                            try clear c10b0
                            try clear p10
                            try clear q10
                            try clear hx10
                            try clear c13
                            try clear c13b0
                            try clear c13b1
                            try clear c14
                            try clear c14b0
                            try clear c15
                            try clear c15b0
                            try clear c18
                            try clear hx102_0
                            try clear hx102_1
                            try clear hx102_2
                            try clear hx104_0
                            try clear hx104_1
                            try clear hx104_2
                            try clear hx106_0
                            try clear hx106_1
                            try clear hx106_2
                            try clear p1
                            try clear p10
                            try clear p102
                            try clear p104
                            try clear p106
                            try clear p2
                            try clear q1
                            try clear q10
                            try clear q102
                            try clear q104
                            try clear q106
                            obtain ⟨kq, x4_16, rfl, HA, HJ16, BK101, HB⟩ := hcut
                            cases kq with
                            | zero => exact absurd HA.out (by simp [oculusref06_Users.j3])
                            | succ kj16 =>
                              have H := HA.out
                              clear HA
                              simp only [oculusref06_Users.j3] at H
                              by_cases c19 : x3_1 > 15
                              · rw [if_pos c19] at H
                                have c19b0 : decide (15 < x3_1) = true := decide_eq_true c19
                                clear c19
                                simp only [Option.some.injEq, Prod.mk.injEq] at H
                                obtain ⟨rfl, rfl⟩ := H
                                have hcz20_0 : wc.cell? ⟨gb101, 0, none⟩ = some (.int .i64 x102000_1) := (blk_cell BK101.out 0).trans rfl
                                have hcz20_1 : wc.cell? ⟨gb101, 1, none⟩ = some (.int .i64 x102001_1) := (blk_cell BK101.out 1).trans rfl
                                have hfz20_0 := blk_frozen BK101.out 0
                                have hfz20_1 := blk_frozen BK101.out 1
                                go_wp2
                                refine bodyPost_ret (results_cell_row rfl _ _ gb101 86 #[.int .i64 x3_1, .int .i64 10] (0, 0) _ rfl (by (with_reducible repeat (first | refine blk_drewN ?_ _ | refine blk_drew ?_ | refine blk_alloc ?_ _)); refine blk_put (cs := #[.int .i64 x3_1, .int .i64 x102001_1]) ?_ 1 _ rfl; (with_reducible repeat (first | refine blk_drewN ?_ _ | refine blk_drew ?_ | refine blk_alloc ?_ _)); refine blk_put (cs := #[.int .i64 x102000_1, .int .i64 x102001_1]) ?_ 0 _ rfl; (with_reducible repeat (first | refine blk_drewN ?_ _ | refine blk_drew ?_ | refine blk_alloc ?_ _)); exact BK101.out) Try.underlying86 rfl (by kernel_rfl)) rfl ?_
                                exact ⟨by first | rfl | (simp [errW_none, errW_some] <;> rfl) | (simp [*, errW_none, errW_some] <;> rfl), by repeat (first | (with_reducible first | exact HB.out | apply below_alloc | apply pw_below_drewN | apply below_drew1 | refine below_set ?_ GE101.out) | exact HB.out)⟩
                              · rw [if_neg c19] at H
                                have c19b0 : decide (15 < x3_1) = false := decide_eq_false c19
                                clear c19
                                by_cases c21 : x4_16 = 0
                                · rw [if_pos c21] at H
                                  have c21b0 : (x4_16 == 0) = true := beq_iff_eq.mpr c21
                                  have c21b1 : (x4_16 != 0) = false := bne_eq_false_iff_eq.mpr c21
                                  clear c21
                                  have H' := Aside0.mk H
                                  clear H
                                  go_wp2
                                  go_roundg kj16
                                  case measure => have := HK1.out; have := HJ5.out; have := HJ11.out; have := HJ16.out; omega
                                  case rel => exact ⟨(wrap64 (x3_1 + 1)), (x102000_1), (x102001_1), (by first | rfl | (simp; done) | (simp [*]; done)), H', ⟨by have := HK1.out; have := HJ5.out; have := HJ11.out; have := HJ16.out; omega⟩, ⟨pkx BK101⟩, ⟨pbx HB⟩⟩
                                · rw [if_neg c21] at H
                                  have c21b0 : (x4_16 == 0) = false := beq_eq_false_iff_ne.mpr c21
                                  have c21b1 : (x4_16 != 0) = true := bne_iff_ne.mpr c21
                                  simp only [Option.some.injEq, Prod.mk.injEq] at H
                                  obtain ⟨rfl, rfl⟩ := H
                                  have hcz22_0 : wc.cell? ⟨gb101, 0, none⟩ = some (.int .i64 x102000_1) := (blk_cell BK101.out 0).trans rfl
                                  have hcz22_1 : wc.cell? ⟨gb101, 1, none⟩ = some (.int .i64 x102001_1) := (blk_cell BK101.out 1).trans rfl
                                  have hfz22_0 := blk_frozen BK101.out 0
                                  have hfz22_1 := blk_frozen BK101.out 1
                                  go_wp2
                                  refine bodyPost_ret (results_cell_row rfl _ _ gb101 86 #[.int .i64 x3_1, .int .i64 x4_16] (0, 0) _ rfl (by (with_reducible repeat (first | refine blk_drewN ?_ _ | refine blk_drew ?_ | refine blk_alloc ?_ _)); refine blk_put (cs := #[.int .i64 x3_1, .int .i64 x102001_1]) ?_ 1 _ rfl; (with_reducible repeat (first | refine blk_drewN ?_ _ | refine blk_drew ?_ | refine blk_alloc ?_ _)); refine blk_put (cs := #[.int .i64 x102000_1, .int .i64 x102001_1]) ?_ 0 _ rfl; (with_reducible repeat (first | refine blk_drewN ?_ _ | refine blk_drew ?_ | refine blk_alloc ?_ _)); exact BK101.out) Try.underlying86 rfl (by kernel_rfl)) rfl ?_
                                  exact ⟨by first | rfl | (simp [errW_none, errW_some] <;> rfl) | (simp [*, errW_none, errW_some] <;> rfl), by repeat (first | (with_reducible first | exact HB.out | apply below_alloc | apply pw_below_drewN | apply below_drew1 | refine below_set ?_ GE101.out) | exact HB.out)⟩
                        · rw [if_neg c15] at H
                          exact absurd H (by simp)
                      · rw [if_neg c14] at H
                        exact absurd H (by simp)
                · rw [if_neg c10] at H
                  exact absurd H (by simp)
              · rw [if_neg c9] at H
                exact absurd H (by simp)
        · rw [if_neg c4] at H
          exact absurd H (by simp)
      · rw [if_neg c3] at H
        have c3b0 : decide (x3_1 < (l0.length : Int)) = false := decide_eq_false c3
        clear c3
        simp only [Option.some.injEq, Prod.mk.injEq] at H
        obtain ⟨rfl, rfl⟩ := H
        have hcz23_0 : wr.cell? ⟨gb101, 0, none⟩ = some (.int .i64 x102000_1) := (blk_cell BK101.out 0).trans rfl
        have hcz23_1 : wr.cell? ⟨gb101, 1, none⟩ = some (.int .i64 x102001_1) := (blk_cell BK101.out 1).trans rfl
        have hfz23_0 := blk_frozen BK101.out 0
        have hfz23_1 := blk_frozen BK101.out 1
        go_wp2
        refine bodyPost_ret (results_cell_row rfl _ _ gb101 86 #[.int .i64 0, .int .i64 0] (0, 0) _ rfl (by (with_reducible repeat (first | refine blk_drewN ?_ _ | refine blk_drew ?_ | refine blk_alloc ?_ _)); refine blk_put (cs := #[.int .i64 0, .int .i64 x102001_1]) ?_ 1 _ rfl; (with_reducible repeat (first | refine blk_drewN ?_ _ | refine blk_drew ?_ | refine blk_alloc ?_ _)); refine blk_put (cs := #[.int .i64 x102000_1, .int .i64 x102001_1]) ?_ 0 _ rfl; (with_reducible repeat (first | refine blk_drewN ?_ _ | refine blk_drew ?_ | refine blk_alloc ?_ _)); exact BK101.out) Try.underlying86 rfl (by kernel_rfl)) rfl ?_
        exact ⟨by first | rfl | (simp [errW_none, errW_some] <;> rfl) | (simp [*, errW_none, errW_some] <;> rfl), by repeat (first | (with_reducible first | exact HB.out | apply below_alloc | apply pw_below_drewN | apply below_drew1 | refine below_set ?_ GE101.out) | exact HB.out)⟩

end Go.Proofs.Ytlchgkoafabapaa.X
namespace Go.Proofs.Ytlchgkoafabapaa.X
open Go.RowKit Go.Proofs.YtlchgkoafabapaaW.PrintWords Go.Proofs.YtlchgkoafabapaaW.PrintLast Go.Proofs.YtlchgkoafabapaaW.PrintMore
attribute [local go_sem] max2_int min2_int max_two min_two max_three min_three max_four min_four   -- for this text's walks alone
set_option linter.unusedVariables false
set_option linter.unusedSimpArgs false

/-! ### right_Grants: function 46 -/
mutual
def right_Grants.l0 : Nat → List (S93) → List (S49) → Int → Int → Option (Int × Int)
  | 0, _, _, _, _ => none
  | k + 1, x1, x10, x11, x12 => if x12 < x11 then (if 0 ≤ x12 then (if x12 < (x10.length : Int) then ((right_Find.f k x1 ((rd_T49 x10 x12).f0)).bind fun bt103 => (right_Grants.j1 k x1 x12 bt103.2.2 x10 x11 x12 ((rd_T49 x10 x12).f0) ((rd_T49 x10 x12).f1.f0) ((rd_T49 x10 x12).f1.f1) ((rd_T49 x10 x12).f2.f0) ((rd_T49 x10 x12).f2.f1))) else (none)) else (none)) else (some (0, 0))
def right_Grants.j1 : Nat → List (S93) → Int → Bool → List (S49) → Int → Int → ByteArray → Int → Int → Int → Int → Option (Int × Int)
  | 0, _, _, _, _, _, _, _, _, _, _, _ => none
  | k + 1, x1, x6, x9, x10, x11, x12, x103000, x103001, x103002, x103003, x103004 => if x6 ≥ 32 then (some (x6, 10)) else (if x9 = true then ((label_May.f x103001 x103002).bind fun t107 => (if t107 = true then ((label_May.f x103003 x103004).bind fun t108 => (if t108 = true then (right_Grants.l0 k x1 x10 x11 (wrap64 (x12 + 1))) else (some (x6, 7)))) else (some (x6, 7)))) else (some (x6, 11)))
end
def right_Grants.f (k : Nat) (l0 : List (S49)) (l1 : List (S93)) : Option (Int × Int) := right_Grants.l0 k l1 l0 (l0.length : Int) 0
theorem right_Grants.mono_l : ∀ k, (∀ y0 y1 y2 y3, LeO (right_Grants.l0 k y0 y1 y2 y3) (right_Grants.l0 (k + 1) y0 y1 y2 y3)) ∧ (∀ y0 y1 y2 y3 y4 y5 y6 y7 y8 y9 y10, LeO (right_Grants.j1 k y0 y1 y2 y3 y4 y5 y6 y7 y8 y9 y10) (right_Grants.j1 (k + 1) y0 y1 y2 y3 y4 y5 y6 y7 y8 y9 y10))
  | 0 => ⟨fun _ _ _ _ r h => by simp [right_Grants.l0] at h, fun _ _ _ _ _ _ _ _ _ _ _ r h => by simp [right_Grants.j1] at h⟩
  | k + 1 => by
    obtain ⟨ih0, ih1⟩ := right_Grants.mono_l k
    refine ⟨?_, ?_⟩
    · intro y0 y1 y2 y3
      unfold right_Grants.l0
      repeat' first
      | (with_reducible exact ih0 _ _ _ _)
      | (with_reducible exact ih1 _ _ _ _ _ _ _ _ _ _ _)
      | (with_reducible exact right_Find.mono _ _ _)
      | (with_reducible exact LeO.refl _)
      | (with_reducible exact LeO.none _)
      | (with_reducible refine LeO.ite ?_ ?_)
      | (with_reducible refine LeO.bind ?_ (fun _ => ?_))
      | exact ih0 _ _ _ _
      | exact ih1 _ _ _ _ _ _ _ _ _ _ _
      | exact right_Find.mono _ _ _
      | exact LeO.none _
      | refine LeO.ite ?_ ?_
      | refine LeO.bind ?_ (fun _ => ?_)
    · intro y0 y1 y2 y3 y4 y5 y6 y7 y8 y9 y10
      unfold right_Grants.j1
      repeat' first
      | (with_reducible exact ih0 _ _ _ _)
      | (with_reducible exact ih1 _ _ _ _ _ _ _ _ _ _ _)
      | (with_reducible exact right_Find.mono _ _ _)
      | (with_reducible exact LeO.refl _)
      | (with_reducible exact LeO.none _)
      | (with_reducible refine LeO.ite ?_ ?_)
      | (with_reducible refine LeO.bind ?_ (fun _ => ?_))
      | exact ih0 _ _ _ _
      | exact ih1 _ _ _ _ _ _ _ _ _ _ _
      | exact right_Find.mono _ _ _
      | exact LeO.none _
      | refine LeO.ite ?_ ?_
      | refine LeO.bind ?_ (fun _ => ?_)
theorem right_Grants.mono : ∀ a0 a1 k, LeO (right_Grants.f k a0 a1) (right_Grants.f (k + 1) a0 a1) := by
  intro a0 a1 k
  obtain ⟨ih0, ih1⟩ := right_Grants.mono_l k
  unfold right_Grants.f
  repeat' first
      | (with_reducible exact ih0 _ _ _ _)
      | (with_reducible exact ih1 _ _ _ _ _ _ _ _ _ _ _)
      | (with_reducible exact right_Find.mono _ _ _)
      | (with_reducible exact LeO.refl _)
      | (with_reducible exact LeO.none _)
      | (with_reducible refine LeO.ite ?_ ?_)
      | (with_reducible refine LeO.bind ?_ (fun _ => ?_))
      | exact ih0 _ _ _ _
      | exact ih1 _ _ _ _ _ _ _ _ _ _ _
      | exact right_Find.mono _ _ _
      | exact LeO.none _
      | refine LeO.ite ?_ ?_
      | refine LeO.bind ?_ (fun _ => ?_)
set_option maxHeartbeats 8000000 in
set_option maxRecDepth 100000 in
theorem right_Grants.calls (k : Nat) (A0 : Option Addr) (c0 : Nat) (l0 : List (S49)) (A1 : Option Addr) (c1 : Nat) (l1 : List (S93)) (r1 : Int) (r2 : Int) (w : World) (hr0 : Kd.C k49 w A0 l0.length l0) (hc0 : l0.length ≤ c0) (hr1 : Kd.C k93 w A1 l1.length l1) (hc1 : l1.length ≤ c1) (h : right_Grants.f k l0 l1 = some (r1, r2)) :
    Calls Try.prog 46 #[.slice A0 l0.length c0, .slice A1 l1.length c1] w fun e w' => e = .returned (.tuple #[.int .i64 r1, .int .i64 r2]) ∧ Below w.heap.size w w' := by
  have hu49 := Try.underlying49
  have hu26 := Try.underlying26
  have HR0 := Aside0.mk hr0
  have HC0 := Aside0.mk hc0
  clear hr0 hc0
  have HR1 := Aside0.mk hr1
  have HC1 := Aside0.mk hc1
  clear hr1 hc1
  have HB := Aside0.mk (Below.refl w.heap.size w)
  have H : (right_Grants.l0 k l1 l0 (l0.length : Int) 0) = some (r1, r2) := h
  clear h
  have H' := Aside0.mk H
  clear H
  go_enter Try.func46, Try.ntmps46
  go_wp2
  go_loopg [12] k (fun kq v12 w' => ∃ (x12_1 : Int), v12 = .int .i64 x12_1 ∧ Aside0 (right_Grants.l0 kq l1 l0 (l0.length : Int) x12_1 = some (r1, r2)) ∧ Aside0 (kq ≤ k) ∧ Aside0 (Below w.heap.size w w'))
  case atStart => exact ⟨(0), (by first | rfl | (simp; done) | (simp [*]; done)), H', ⟨Nat.le_refl _⟩, ⟨pbx HB⟩⟩
  case round =>
    clear H'
    try clear c1
    try clear p2
    obtain ⟨x12_1, rfl, HA, HK1, HB⟩ := hrel
    cases gk with
    | zero => exact absurd HA.out (by simp [right_Grants.l0])
    | succ k1 =>
      have H := HA.out
      clear HA
      simp only [right_Grants.l0] at H
      by_cases c3 : x12_1 < (l0.length : Int)
      · rw [if_pos c3] at H
        have c3b0 : decide (x12_1 < (l0.length : Int)) = true := decide_eq_true c3
        clear c3
        by_cases c4 : 0 ≤ x12_1
        · rw [if_pos c4] at H
          have c4b0 : decide (0 ≤ x12_1) = true := decide_eq_true c4
          clear c4
          by_cases c5 : x12_1 < (l0.length : Int)
          · rw [if_pos c5] at H
            have c5b0 : decide (x12_1 < (l0.length : Int)) = true := decide_eq_true c5
            clear c5
            have HC6 := Aside0.mk H
            clear H
            have p101 : 0 ≤ (x12_1 : Int) := of_decide_eq_true (by first | (with_reducible assumption) | assumption)
            have q101 : x12_1 < (l0.length : Int) := of_decide_eq_true (by first | (with_reducible assumption) | assumption)
            obtain ⟨ad101, e101, hx101_0, hx101_1, hx101_2, hx101_3, hx101_4⟩ := at_T49 HR0.out x12_1 p101 q101
            cases e101
            replace hx101_0 := (HB.out.cell (World.block_lt_of_cell? w _ hx101_0)).trans hx101_0
            replace hx101_1 := (HB.out.cell (World.block_lt_of_cell? w _ hx101_1)).trans hx101_1
            replace hx101_2 := (HB.out.cell (World.block_lt_of_cell? w _ hx101_2)).trans hx101_2
            replace hx101_3 := (HB.out.cell (World.block_lt_of_cell? w _ hx101_3)).trans hx101_3
            replace hx101_4 := (HB.out.cell (World.block_lt_of_cell? w _ hx101_4)).trans hx101_4
            replace p101 := eq_true p101
            replace q101 := eq_true q101
            go_upto_region 4 with (first | ((with_reducible refine gate_dst (N := 7) rfl ?_); refine box_event ?hg (N := 7) ?hd (cs := #[.string (⟨#[]⟩ : ByteArray), .int .i64 0, .int .u64 0, .int .i64 0, .int .u64 0]) (t := 49) ?hr ?_; (case hd => rfl); (case hg => rfl); (case hr => first | (go_simp; done) | (go_simp; rfl)); intro gb102 hg w7 hbox hb; have n0_ := Aside0.mk (below_step (pbx HB) hb); have n1_ := Aside0.mk (hbox); have n2_ := Aside0.mk ((by rw [hg]; exact (below_size (pbx HB)) : w.heap.size ≤ gb102)); have n3_ := Aside0.mk ((by rw [hg]; exact (below_size (pbx HB)) : w.heap.size ≤ gb102)); clear HB; have HB := n0_; have BK102 := n1_; have GW102 := n2_; have GE102 := n3_; clear n0_ n1_ n2_ n3_; clear hb hbox hg; have hcz8_0 : w7.cell? ⟨gb102, 0, none⟩ = some (.string (⟨#[]⟩ : ByteArray)) := (blk_cell BK102.out 0).trans rfl; have hcz8_1 : w7.cell? ⟨gb102, 1, none⟩ = some (.int .i64 0) := (blk_cell BK102.out 1).trans rfl; have hcz8_2 : w7.cell? ⟨gb102, 2, none⟩ = some (.int .u64 0) := (blk_cell BK102.out 2).trans rfl; have hcz8_3 : w7.cell? ⟨gb102, 3, none⟩ = some (.int .i64 0) := (blk_cell BK102.out 3).trans rfl; have hcz8_4 : w7.cell? ⟨gb102, 4, none⟩ = some (.int .u64 0) := (blk_cell BK102.out 4).trans rfl; have hfz8_0 := blk_frozen BK102.out 0; have hfz8_1 := blk_frozen BK102.out 1; have hfz8_2 := blk_frozen BK102.out 2; have hfz8_3 := blk_frozen BK102.out 3; have hfz8_4 := blk_frozen BK102.out 4))
            (try simp only [Act.put, List.setIfInBounds_toArray, List.set_cons_zero, List.set_cons_succ])
            go_cut [9] (fun v9 wc => ∃ (kq : Nat) (x9_5 : Bool), v9 = .bool x9_5 ∧ Aside0 (right_Grants.j1 kq l1 x12_1 x9_5 l0 (l0.length : Int) x12_1 ((rd_T49 l0 x12_1).f0) ((rd_T49 l0 x12_1).f1.f0) ((rd_T49 l0 x12_1).f1.f1) ((rd_T49 l0 x12_1).f2.f0) ((rd_T49 l0 x12_1).f2.f1) = some (r1, r2)) ∧ Aside0 (kq ≤ k1) ∧ Aside0 (wc.heap[gb102]? = some (.cells #[.string ((rd_T49 l0 x12_1).f0), .int .i64 ((rd_T49 l0 x12_1).f1.f0), .int .u64 ((rd_T49 l0 x12_1).f1.f1), .int .i64 ((rd_T49 l0 x12_1).f2.f0), .int .u64 ((rd_T49 l0 x12_1).f2.f1)] 49 (0, 0))) ∧ Aside0 (Below w.heap.size w wc))
            case first =>
              have H := HC6.out
              clear HC6
              replace H := Option.bind_eq_some_iff.mp H
              obtain ⟨⟨t103, t104, t105⟩, A90, H⟩ := H
              replace H : (right_Grants.j1 k1 l1 x12_1 t105 l0 (l0.length : Int) x12_1 ((rd_T49 l0 x12_1).f0) ((rd_T49 l0 x12_1).f1.f0) ((rd_T49 l0 x12_1).f1.f1) ((rd_T49 l0 x12_1).f2.f0) ((rd_T49 l0 x12_1).f2.f1)) = some (r1, r2) := H
              have A9 := Aside0.mk A90
              clear A90
              have H' := Aside0.mk H
              clear H
              have hcz10_0 : w7.cell? ⟨gb102, 0, none⟩ = some (.string (⟨#[]⟩ : ByteArray)) := (blk_cell BK102.out 0).trans rfl
              have hcz10_1 : w7.cell? ⟨gb102, 1, none⟩ = some (.int .i64 0) := (blk_cell BK102.out 1).trans rfl
              have hcz10_2 : w7.cell? ⟨gb102, 2, none⟩ = some (.int .u64 0) := (blk_cell BK102.out 2).trans rfl
              have hcz10_3 : w7.cell? ⟨gb102, 3, none⟩ = some (.int .i64 0) := (blk_cell BK102.out 3).trans rfl
              have hcz10_4 : w7.cell? ⟨gb102, 4, none⟩ = some (.int .u64 0) := (blk_cell BK102.out 4).trans rfl
              have hfz10_0 := blk_frozen BK102.out 0
              have hfz10_1 := blk_frozen BK102.out 1
              have hfz10_2 := blk_frozen BK102.out 2
              have hfz10_3 := blk_frozen BK102.out 3
              have hfz10_4 := blk_frozen BK102.out 4
              go_wp2_with (first | ((with_reducible refine gate_callee (f := 48) rfl ?_); refine goesL_ (some 21) rfl rfl Try.func48 (by kernel_rfl) rfl #[.slice A1 l1.length c1, .string ((rd_T49 l0 x12_1).f0)] rfl (by (try simp only [List.map_toArray, List.map_cons, List.map_nil]); first | done | rfl | (simp only [List.length_drop, List.length_take]; rfl)) ?_; (with_reducible refine (right_Find.calls k1 _ _ l1 ((rd_T49 l0 x12_1).f0) t103 t104 t105 _ ?side1 ?side2 A9.out).mono ?_); (case side1 => exact Kd.C_below HR1.out (by repeat (first | (with_reducible first | exact HB.out | apply below_alloc | apply pw_below_drewN | apply below_drew1 | refine below_set ?_ GE102.out) | exact HB.out))); (case side2 => exact HC1.out); rintro e w11 ⟨rfl, hb⟩; refine ⟨_, rfl, ?_⟩; have n0_ := Aside0.mk (blk_below (g := gb102) (o := .cells #[.string ((rd_T49 l0 x12_1).f0), .int .i64 ((rd_T49 l0 x12_1).f1.f0), .int .u64 ((rd_T49 l0 x12_1).f1.f1), .int .i64 ((rd_T49 l0 x12_1).f2.f0), .int .u64 ((rd_T49 l0 x12_1).f2.f1)] 49 (0, 0)) (by (with_reducible repeat (first | refine blk_drewN ?_ _ | refine blk_drew ?_ | refine blk_alloc ?_ _)); refine blk_put (cs := #[.string ((rd_T49 l0 x12_1).f0), .int .i64 ((rd_T49 l0 x12_1).f1.f0), .int .u64 ((rd_T49 l0 x12_1).f1.f1), .int .i64 ((rd_T49 l0 x12_1).f2.f0), .int .u64 0]) ?_ 4 _ rfl; (with_reducible repeat (first | refine blk_drewN ?_ _ | refine blk_drew ?_ | refine blk_alloc ?_ _)); refine blk_put (cs := #[.string ((rd_T49 l0 x12_1).f0), .int .i64 ((rd_T49 l0 x12_1).f1.f0), .int .u64 ((rd_T49 l0 x12_1).f1.f1), .int .i64 0, .int .u64 0]) ?_ 3 _ rfl; (with_reducible repeat (first | refine blk_drewN ?_ _ | refine blk_drew ?_ | refine blk_alloc ?_ _)); refine blk_put (cs := #[.string ((rd_T49 l0 x12_1).f0), .int .i64 ((rd_T49 l0 x12_1).f1.f0), .int .u64 0, .int .i64 0, .int .u64 0]) ?_ 2 _ rfl; (with_reducible repeat (first | refine blk_drewN ?_ _ | refine blk_drew ?_ | refine blk_alloc ?_ _)); refine blk_put (cs := #[.string ((rd_T49 l0 x12_1).f0), .int .i64 0, .int .u64 0, .int .i64 0, .int .u64 0]) ?_ 1 _ rfl; (with_reducible repeat (first | refine blk_drewN ?_ _ | refine blk_drew ?_ | refine blk_alloc ?_ _)); refine blk_put (cs := #[.string (⟨#[]⟩ : ByteArray), .int .i64 0, .int .u64 0, .int .i64 0, .int .u64 0]) ?_ 0 _ rfl; (with_reducible repeat (first | refine blk_drewN ?_ _ | refine blk_drew ?_ | refine blk_alloc ?_ _)); exact BK102.out) hb); have n1_ := Aside0.mk (below_step (by repeat (first | (with_reducible first | exact HB.out | apply below_alloc | apply pw_below_drewN | apply below_drew1 | refine below_set ?_ GE102.out) | exact HB.out)) hb); clear BK102; clear HB; have BK102 := n0_; have HB := n1_; clear n0_ n1_; (try clear hb); (try clear hb2); (try clear hk); (try clear hi)) | ((with_reducible refine gate_dst (N := 8) rfl ?_); refine box_event ?hg (N := 8) ?hd (cs := #[.int .i64 0, .int .u64 0]) (t := 26) ?hr ?_; (case hd => rfl); (case hg => rfl); (case hr => first | (go_simp; done) | (go_simp; rfl)); intro gb106 hg w12 hbox hb; have n0_ := Aside0.mk (blk_below (pkx BK102) hb); have n1_ := Aside0.mk (below_step (pbx HB) hb); have n2_ := Aside0.mk (hbox); have n3_ := Aside0.mk ((by rw [hg]; exact (below_size (pbx HB)) : w.heap.size ≤ gb106)); have n4_ := Aside0.mk ((by rw [hg]; exact (below_size (pbx HB)) : w.heap.size ≤ gb106)); have n5_ := Aside0.mk ((by rw [hg]; exact Nat.ne_of_lt (blk_lt (pkx BK102)) : gb102 ≠ gb106)); have n6_ := Aside0.mk ((by rw [hg]; exact Nat.ne_of_gt (blk_lt (pkx BK102)) : gb106 ≠ gb102)); clear BK102; clear HB; have BK102 := n0_; have HB := n1_; have BK106 := n2_; have GW106 := n3_; have GE106 := n4_; have NB102_106 := n5_; have NB106_102 := n6_; clear n0_ n1_ n2_ n3_ n4_ n5_ n6_; clear hb hbox hg; have hnb13 := NB106_102.out; have hnc13 := NB102_106.out; have hcz14_0 : w12.cell? ⟨gb106, 0, none⟩ = some (.int .i64 0) := (blk_cell BK106.out 0).trans rfl; have hcz14_1 : w12.cell? ⟨gb106, 1, none⟩ = some (.int .u64 0) := (blk_cell BK106.out 1).trans rfl; have hfz14_0 := blk_frozen BK106.out 0; have hfz14_1 := blk_frozen BK106.out 1))
              go_meet
              case rel => exact ⟨_, (t105), (by first | rfl | (simp; done) | (simp [*]; done) | (cases t105 <;> simp; done)), H', ⟨by have := HK1.out; first | omega | exact Nat.le_refl _⟩, ⟨by (with_reducible repeat (first | refine blk_drewN ?_ _ | refine blk_drew ?_ | refine blk_alloc ?_ _)); refine blk_far ?_ NB102_106.out _; (with_reducible repeat (first | refine blk_drewN ?_ _ | refine blk_drew ?_ | refine blk_alloc ?_ _)); refine blk_far ?_ NB102_106.out _; (with_reducible repeat (first | refine blk_drewN ?_ _ | refine blk_drew ?_ | refine blk_alloc ?_ _)); exact BK102.out⟩, ⟨by repeat (first | (with_reducible first | exact HB.out | apply below_alloc | apply pw_below_drewN | apply below_drew1 | refine below_set ?_ GE102.out | refine below_set ?_ GE106.out) | exact HB.out)⟩⟩
            case rest =>
              clear HC6
              try clear c1
              try clear p1
              try clear q1
              try clear hx1
              try clear p2
              try clear c3
              try clear c3b0
              try clear c4
              try clear c4b0
              try clear c5
              try clear c5b0
              try clear p10
              try clear q10
              try clear hx10
              try clear c13
              try clear hcz10_0
              try clear hcz10_1
              try clear hcz10_2
              try clear hcz10_3
              try clear hcz10_4
              try clear hcz14_0
              try clear hcz14_1
              try clear hcz8_0
              try clear hcz8_1
              try clear hcz8_2
              try clear hcz8_3
              try clear hcz8_4
              try clear hfz10_0
              try clear hfz10_1
              try clear hfz10_2
              try clear hfz10_3
              try clear hfz10_4
              try clear hfz14_0
              try clear hfz14_1
              try clear hfz8_0
              try clear hfz8_1
              try clear hfz8_2
              try clear hfz8_3
              try clear hfz8_4
              try clear hx101_0
              try clear hx101_1
              try clear hx101_2
              try clear hx101_3
              try clear hx101_4
              try clear p101
              try clear p2
              try clear q101
              obtain ⟨kq, x9_5, rfl, HA, HJ5, BK102, HB⟩ := hcut
              cases kq with
              | zero => exact absurd HA.out (by simp [right_Grants.j1])
              | succ kj5 =>
                have H := HA.out
                clear HA
                simp only [right_Grants.j1] at H
                by_cases c15 : x12_1 ≥ 32
                · rw [if_pos c15] at H
                  have c15b0 : decide (32 ≤ x12_1) = true := decide_eq_true c15
                  clear c15
                  simp only [Option.some.injEq, Prod.mk.injEq] at H
                  obtain ⟨rfl, rfl⟩ := H
                  go_wp2
                  go_ret2
                  exact ⟨by first | rfl | (simp [errW_none, errW_some] <;> rfl) | (simp [*, errW_none, errW_some] <;> rfl), pbx HB⟩
                · rw [if_neg c15] at H
                  have c15b0 : decide (32 ≤ x12_1) = false := decide_eq_false c15
                  clear c15
                  by_cases c16 : x9_5 = true
                  · subst c16
                    have H1 : ((label_May.f ((rd_T49 l0 x12_1).f1.f0) ((rd_T49 l0 x12_1).f1.f1)).bind fun t107 => (if t107 = true then ((label_May.f ((rd_T49 l0 x12_1).f2.f0) ((rd_T49 l0 x12_1).f2.f1)).bind fun t108 => (if t108 = true then (right_Grants.l0 kj5 l1 l0 (l0.length : Int) (wrap64 (x12_1 + 1))) else (some (x12_1, 7)))) else (some (x12_1, 7)))) = some (r1, r2) := by rw [if_pos rfl] at H; exact H
                    clear H
                    have H := H1
                    clear H1
                    replace H := Option.bind_eq_some_iff.mp H
                    obtain ⟨t107, A170, H⟩ := H
                    replace H : (if t107 = true then ((label_May.f ((rd_T49 l0 x12_1).f2.f0) ((rd_T49 l0 x12_1).f2.f1)).bind fun t108 => (if t108 = true then (right_Grants.l0 kj5 l1 l0 (l0.length : Int) (wrap64 (x12_1 + 1))) else (some (x12_1, 7)))) else (some (x12_1, 7))) = some (r1, r2) := H
                    have A17 := Aside0.mk A170
                    clear A170
                    by_cases c18 : t107 = true
                    · subst c18
                      have H1 : ((label_May.f ((rd_T49 l0 x12_1).f2.f0) ((rd_T49 l0 x12_1).f2.f1)).bind fun t108 => (if t108 = true then (right_Grants.l0 kj5 l1 l0 (l0.length : Int) (wrap64 (x12_1 + 1))) else (some (x12_1, 7)))) = some (r1, r2) := by rw [if_pos rfl] at H; exact H
                      clear H
                      have H := H1
                      clear H1
                      replace H := Option.bind_eq_some_iff.mp H
                      obtain ⟨t108, A190, H⟩ := H
                      replace H : (if t108 = true then (right_Grants.l0 kj5 l1 l0 (l0.length : Int) (wrap64 (x12_1 + 1))) else (some (x12_1, 7))) = some (r1, r2) := H
                      have A19 := Aside0.mk A190
                      clear A190
                      by_cases c20 : t108 = true
                      · subst c20
                        have H1 : (right_Grants.l0 kj5 l1 l0 (l0.length : Int) (wrap64 (x12_1 + 1))) = some (r1, r2) := by rw [if_pos rfl] at H; exact H
                        clear H
                        have H := H1
                        clear H1
                        have H' := Aside0.mk H
                        clear H
                        have hcz21_0 : wc.cell? ⟨gb102, 0, none⟩ = some (.string ((rd_T49 l0 x12_1).f0)) := (blk_cell BK102.out 0).trans rfl
                        have hcz21_1 : wc.cell? ⟨gb102, 1, none⟩ = some (.int .i64 ((rd_T49 l0 x12_1).f1.f0)) := (blk_cell BK102.out 1).trans rfl
                        have hcz21_2 : wc.cell? ⟨gb102, 2, none⟩ = some (.int .u64 ((rd_T49 l0 x12_1).f1.f1)) := (blk_cell BK102.out 2).trans rfl
                        have hcz21_3 : wc.cell? ⟨gb102, 3, none⟩ = some (.int .i64 ((rd_T49 l0 x12_1).f2.f0)) := (blk_cell BK102.out 3).trans rfl
                        have hcz21_4 : wc.cell? ⟨gb102, 4, none⟩ = some (.int .u64 ((rd_T49 l0 x12_1).f2.f1)) := (blk_cell BK102.out 4).trans rfl
                        have hfz21_0 := blk_frozen BK102.out 0
                        have hfz21_1 := blk_frozen BK102.out 1
                        have hfz21_2 := blk_frozen BK102.out 2
                        have hfz21_3 := blk_frozen BK102.out 3
                        have hfz21_4 := blk_frozen BK102.out 4
                        go_wp2_with (first | ((with_reducible refine gate_callee (f := 74) rfl ?_); refine goesL_ (some 35) rfl rfl Try.func74 (by kernel_rfl) rfl #[.agg #[.int .i64 ((rd_T49 l0 x12_1).f1.f0), .int .u64 ((rd_T49 l0 x12_1).f1.f1)]] rfl (by (try simp only [List.map_toArray, List.map_cons, List.map_nil]); first | done | rfl | (simp only [List.length_drop, List.length_take]; rfl)) ?_; (with_reducible refine (label_May.calls ((rd_T49 l0 x12_1).f1.f0) ((rd_T49 l0 x12_1).f1.f1) true _ A17.out).mono ?_); rintro e w22 ⟨rfl, hb⟩; refine ⟨_, rfl, ?_⟩; have n0_ := Aside0.mk (blk_below (pkx BK102) hb); have n1_ := Aside0.mk (below_step (pbx HB) hb); clear BK102; clear HB; have BK102 := n0_; have HB := n1_; clear n0_ n1_; (try clear hb); (try clear hb2); (try clear hk); (try clear hi); have hcz23_0 : w22.cell? ⟨gb102, 0, none⟩ = some (.string ((rd_T49 l0 x12_1).f0)) := (blk_cell BK102.out 0).trans rfl; have hcz23_1 : w22.cell? ⟨gb102, 1, none⟩ = some (.int .i64 ((rd_T49 l0 x12_1).f1.f0)) := (blk_cell BK102.out 1).trans rfl; have hcz23_2 : w22.cell? ⟨gb102, 2, none⟩ = some (.int .u64 ((rd_T49 l0 x12_1).f1.f1)) := (blk_cell BK102.out 2).trans rfl; have hcz23_3 : w22.cell? ⟨gb102, 3, none⟩ = some (.int .i64 ((rd_T49 l0 x12_1).f2.f0)) := (blk_cell BK102.out 3).trans rfl; have hcz23_4 : w22.cell? ⟨gb102, 4, none⟩ = some (.int .u64 ((rd_T49 l0 x12_1).f2.f1)) := (blk_cell BK102.out 4).trans rfl; have hfz23_0 := blk_frozen BK102.out 0; have hfz23_1 := blk_frozen BK102.out 1; have hfz23_2 := blk_frozen BK102.out 2; have hfz23_3 := blk_frozen BK102.out 3; have hfz23_4 := blk_frozen BK102.out 4) | (go_at_call 74; (with_reducible refine (label_May.calls ((rd_T49 l0 x12_1).f2.f0) ((rd_T49 l0 x12_1).f2.f1) true _ A19.out).mono ?_); rintro e w24 ⟨rfl, hb⟩; have n0_ := Aside0.mk (blk_below (pkx BK102) hb); have n1_ := Aside0.mk (below_step (pbx HB) hb); clear BK102; clear HB; have BK102 := n0_; have HB := n1_; clear n0_ n1_; (try clear hb); (try clear hb2); (try clear hk); (try clear hi)))
                        go_roundg kj5
                        case measure => have := HK1.out; have := HJ5.out; omega
                        case rel => exact ⟨(wrap64 (x12_1 + 1)), (by first | rfl | (simp; done) | (simp [*]; done)), H', ⟨by have := HK1.out; have := HJ5.out; omega⟩, ⟨pbx HB⟩⟩
                      · replace c20 := Bool.eq_false_iff.mpr c20
                        subst c20
                        have H1 : (some (x12_1, 7)) = some (r1, r2) := by rw [if_neg (show ¬ (false = true) by decide)] at H; exact H
                        clear H
                        have H := H1
                        clear H1
                        simp only [Option.some.injEq, Prod.mk.injEq] at H
                        obtain ⟨rfl, rfl⟩ := H
                        have hcz25_0 : wc.cell? ⟨gb102, 0, none⟩ = some (.string ((rd_T49 l0 x12_1).f0)) := (blk_cell BK102.out 0).trans rfl
                        have hcz25_1 : wc.cell? ⟨gb102, 1, none⟩ = some (.int .i64 ((rd_T49 l0 x12_1).f1.f0)) := (blk_cell BK102.out 1).trans rfl
                        have hcz25_2 : wc.cell? ⟨gb102, 2, none⟩ = some (.int .u64 ((rd_T49 l0 x12_1).f1.f1)) := (blk_cell BK102.out 2).trans rfl
                        have hcz25_3 : wc.cell? ⟨gb102, 3, none⟩ = some (.int .i64 ((rd_T49 l0 x12_1).f2.f0)) := (blk_cell BK102.out 3).trans rfl
                        have hcz25_4 : wc.cell? ⟨gb102, 4, none⟩ = some (.int .u64 ((rd_T49 l0 x12_1).f2.f1)) := (blk_cell BK102.out 4).trans rfl
                        have hfz25_0 := blk_frozen BK102.out 0
                        have hfz25_1 := blk_frozen BK102.out 1
                        have hfz25_2 := blk_frozen BK102.out 2
                        have hfz25_3 := blk_frozen BK102.out 3
                        have hfz25_4 := blk_frozen BK102.out 4
                        go_wp2_with (first | ((with_reducible refine gate_callee (f := 74) rfl ?_); refine goesL_ (some 35) rfl rfl Try.func74 (by kernel_rfl) rfl #[.agg #[.int .i64 ((rd_T49 l0 x12_1).f1.f0), .int .u64 ((rd_T49 l0 x12_1).f1.f1)]] rfl (by (try simp only [List.map_toArray, List.map_cons, List.map_nil]); first | done | rfl | (simp only [List.length_drop, List.length_take]; rfl)) ?_; (with_reducible refine (label_May.calls ((rd_T49 l0 x12_1).f1.f0) ((rd_T49 l0 x12_1).f1.f1) true _ A17.out).mono ?_); rintro e w26 ⟨rfl, hb⟩; refine ⟨_, rfl, ?_⟩; have n0_ := Aside0.mk (blk_below (pkx BK102) hb); have n1_ := Aside0.mk (below_step (pbx HB) hb); clear BK102; clear HB; have BK102 := n0_; have HB := n1_; clear n0_ n1_; (try clear hb); (try clear hb2); (try clear hk); (try clear hi); have hcz27_0 : w26.cell? ⟨gb102, 0, none⟩ = some (.string ((rd_T49 l0 x12_1).f0)) := (blk_cell BK102.out 0).trans rfl; have hcz27_1 : w26.cell? ⟨gb102, 1, none⟩ = some (.int .i64 ((rd_T49 l0 x12_1).f1.f0)) := (blk_cell BK102.out 1).trans rfl; have hcz27_2 : w26.cell? ⟨gb102, 2, none⟩ = some (.int .u64 ((rd_T49 l0 x12_1).f1.f1)) := (blk_cell BK102.out 2).trans rfl; have hcz27_3 : w26.cell? ⟨gb102, 3, none⟩ = some (.int .i64 ((rd_T49 l0 x12_1).f2.f0)) := (blk_cell BK102.out 3).trans rfl; have hcz27_4 : w26.cell? ⟨gb102, 4, none⟩ = some (.int .u64 ((rd_T49 l0 x12_1).f2.f1)) := (blk_cell BK102.out 4).trans rfl; have hfz27_0 := blk_frozen BK102.out 0; have hfz27_1 := blk_frozen BK102.out 1; have hfz27_2 := blk_frozen BK102.out 2; have hfz27_3 := blk_frozen BK102.out 3; have hfz27_4 := blk_frozen BK102.out 4) | (go_at_call 74; (with_reducible refine (label_May.calls ((rd_T49 l0 x12_1).f2.f0) ((rd_T49 l0 x12_1).f2.f1) false _ A19.out).mono ?_); rintro e w28 ⟨rfl, hb⟩; have n0_ := Aside0.mk (blk_below (pkx BK102) hb); have n1_ := Aside0.mk (below_step (pbx HB) hb); clear BK102; clear HB; have BK102 := n0_; have HB := n1_; clear n0_ n1_; (try clear hb); (try clear hb2); (try clear hk); (try clear hi)))
                        go_ret2
                        exact ⟨by first | rfl | (simp [errW_none, errW_some] <;> rfl) | (simp [*, errW_none, errW_some] <;> rfl), pbx HB⟩
                    · replace c18 := Bool.eq_false_iff.mpr c18
                      subst c18
                      have H1 : (some (x12_1, 7)) = some (r1, r2) := by rw [if_neg (show ¬ (false = true) by decide)] at H; exact H
                      clear H
                      have H := H1
                      clear H1
                      simp only [Option.some.injEq, Prod.mk.injEq] at H
                      obtain ⟨rfl, rfl⟩ := H
                      have hcz29_0 : wc.cell? ⟨gb102, 0, none⟩ = some (.string ((rd_T49 l0 x12_1).f0)) := (blk_cell BK102.out 0).trans rfl
                      have hcz29_1 : wc.cell? ⟨gb102, 1, none⟩ = some (.int .i64 ((rd_T49 l0 x12_1).f1.f0)) := (blk_cell BK102.out 1).trans rfl
                      have hcz29_2 : wc.cell? ⟨gb102, 2, none⟩ = some (.int .u64 ((rd_T49 l0 x12_1).f1.f1)) := (blk_cell BK102.out 2).trans rfl
                      have hcz29_3 : wc.cell? ⟨gb102, 3, none⟩ = some (.int .i64 ((rd_T49 l0 x12_1).f2.f0)) := (blk_cell BK102.out 3).trans rfl
                      have hcz29_4 : wc.cell? ⟨gb102, 4, none⟩ = some (.int .u64 ((rd_T49 l0 x12_1).f2.f1)) := (blk_cell BK102.out 4).trans rfl
                      have hfz29_0 := blk_frozen BK102.out 0
                      have hfz29_1 := blk_frozen BK102.out 1
                      have hfz29_2 := blk_frozen BK102.out 2
                      have hfz29_3 := blk_frozen BK102.out 3
                      have hfz29_4 := blk_frozen BK102.out 4
                      go_wp2_with (first | ((with_reducible refine gate_callee (f := 74) rfl ?_); refine goesL_ (some 35) rfl rfl Try.func74 (by kernel_rfl) rfl #[.agg #[.int .i64 ((rd_T49 l0 x12_1).f1.f0), .int .u64 ((rd_T49 l0 x12_1).f1.f1)]] rfl (by (try simp only [List.map_toArray, List.map_cons, List.map_nil]); first | done | rfl | (simp only [List.length_drop, List.length_take]; rfl)) ?_; (with_reducible refine (label_May.calls ((rd_T49 l0 x12_1).f1.f0) ((rd_T49 l0 x12_1).f1.f1) false _ A17.out).mono ?_); rintro e w30 ⟨rfl, hb⟩; refine ⟨_, rfl, ?_⟩; have n0_ := Aside0.mk (blk_below (pkx BK102) hb); have n1_ := Aside0.mk (below_step (pbx HB) hb); clear BK102; clear HB; have BK102 := n0_; have HB := n1_; clear n0_ n1_; (try clear hb); (try clear hb2); (try clear hk); (try clear hi)))
                      go_ret2
                      exact ⟨by first | rfl | (simp [errW_none, errW_some] <;> rfl) | (simp [*, errW_none, errW_some] <;> rfl), pbx HB⟩
                  · replace c16 := Bool.eq_false_iff.mpr c16
                    subst c16
                    have H1 : (some (x12_1, 11)) = some (r1, r2) := by rw [if_neg (show ¬ (false = true) by decide)] at H; exact H
                    clear H
                    have H := H1
                    clear H1
                    simp only [Option.some.injEq, Prod.mk.injEq] at H
                    obtain ⟨rfl, rfl⟩ := H
                    go_wp2
                    go_ret2
                    exact ⟨by first | rfl | (simp [errW_none, errW_some] <;> rfl) | (simp [*, errW_none, errW_some] <;> rfl), pbx HB⟩
          · rw [if_neg c5] at H
            exact absurd H (by simp)
        · rw [if_neg c4] at H
          exact absurd H (by simp)
      · rw [if_neg c3] at H
        have c3b0 : decide (x12_1 < (l0.length : Int)) = false := decide_eq_false c3
        clear c3
        simp only [Option.some.injEq, Prod.mk.injEq] at H
        obtain ⟨rfl, rfl⟩ := H
        go_wp2
        go_ret2
        exact ⟨by first | rfl | (simp [errW_none, errW_some] <;> rfl) | (simp [*, errW_none, errW_some] <;> rfl), pbx HB⟩

end Go.Proofs.Ytlchgkoafabapaa.X
namespace Go.Proofs.Ytlchgkoafabapaa.X
open Go.RowKit Go.Proofs.YtlchgkoafabapaaW.PrintWords Go.Proofs.YtlchgkoafabapaaW.PrintLast Go.Proofs.YtlchgkoafabapaaW.PrintMore
attribute [local go_sem] max2_int min2_int max_two min_two max_three min_three max_four min_four   -- for this text's walks alone
set_option linter.unusedVariables false
set_option linter.unusedSimpArgs false

/-! ### oculusref06_Grants: function 47 -/
mutual
def oculusref06_Grants.l0 : Nat → List (S49) → List (S93) → Int → Option (Int × Int)
  | 0, _, _, _ => none
  | k + 1, x0, x1, x5 => if x5 < (x0.length : Int) then (if 0 ≤ x5 then ((oculusref06_may.f ((rd_T49 x0 x5).f1.f0) ((rd_T49 x0 x5).f1.f1)).bind fun t103 => (if t103 = true then ((oculusref06_may.f ((rd_T49 x0 x5).f2.f0) ((rd_T49 x0 x5).f2.f1)).bind fun t105 => (oculusref06_Grants.j1 k x0 x1 x5 0 (!t105))) else (oculusref06_Grants.j1 k x0 x1 x5 0 true))) else (none)) else (some (0, 0))
def oculusref06_Grants.j1 : Nat → List (S49) → List (S93) → Int → Int → Bool → Option (Int × Int)
  | 0, _, _, _, _, _ => none
  | k + 1, x0, x1, x5, x6, x28 => if x28 = true then (oculusref06_Grants.j2 k x0 x1 x5 7) else (oculusref06_Grants.j2 k x0 x1 x5 x6)
def oculusref06_Grants.j2 : Nat → List (S49) → List (S93) → Int → Int → Option (Int × Int)
  | 0, _, _, _, _ => none
  | k + 1, x0, x1, x5, x6 => if 0 ≤ x5 then (if x5 < (x0.length : Int) then ((oculusref06_Find.f k x1 ((rd_T49 x0 x5).f0)).bind fun t107 => (if t107 < 0 then (oculusref06_Grants.j3 k x0 x1 x5 11) else (oculusref06_Grants.j3 k x0 x1 x5 x6))) else (none)) else (none)
def oculusref06_Grants.j3 : Nat → List (S49) → List (S93) → Int → Int → Option (Int × Int)
  | 0, _, _, _, _ => none
  | k + 1, x0, x1, x5, x6 => if x5 > 31 then (some (x5, 10)) else (if x6 = 0 then (oculusref06_Grants.l0 k x0 x1 (wrap64 (x5 + 1))) else (some (x5, x6)))
end
def oculusref06_Grants.f (k : Nat) (l0 : List (S49)) (l1 : List (S93)) : Option (Int × Int) := oculusref06_Grants.l0 k l0 l1 0
theorem oculusref06_Grants.mono_l : ∀ k, (∀ y0 y1 y2, LeO (oculusref06_Grants.l0 k y0 y1 y2) (oculusref06_Grants.l0 (k + 1) y0 y1 y2)) ∧ (∀ y0 y1 y2 y3 y4, LeO (oculusref06_Grants.j1 k y0 y1 y2 y3 y4) (oculusref06_Grants.j1 (k + 1) y0 y1 y2 y3 y4)) ∧ (∀ y0 y1 y2 y3, LeO (oculusref06_Grants.j2 k y0 y1 y2 y3) (oculusref06_Grants.j2 (k + 1) y0 y1 y2 y3)) ∧ (∀ y0 y1 y2 y3, LeO (oculusref06_Grants.j3 k y0 y1 y2 y3) (oculusref06_Grants.j3 (k + 1) y0 y1 y2 y3))
  | 0 => ⟨fun _ _ _ r h => by simp [oculusref06_Grants.l0] at h, fun _ _ _ _ _ r h => by simp [oculusref06_Grants.j1] at h, fun _ _ _ _ r h => by simp [oculusref06_Grants.j2] at h, fun _ _ _ _ r h => by simp [oculusref06_Grants.j3] at h⟩
  | k + 1 => by
    obtain ⟨ih0, ih1, ih2, ih3⟩ := oculusref06_Grants.mono_l k
    refine ⟨?_, ?_, ?_, ?_⟩
    · intro y0 y1 y2
      unfold oculusref06_Grants.l0
      repeat' first
      | (with_reducible exact ih0 _ _ _)
      | (with_reducible exact ih1 _ _ _ _ _)
      | (with_reducible exact ih2 _ _ _ _)
      | (with_reducible exact ih3 _ _ _ _)
      | (with_reducible exact oculusref06_Find.mono _ _ _)
      | (with_reducible exact LeO.refl _)
      | (with_reducible exact LeO.none _)
      | (with_reducible refine LeO.ite ?_ ?_)
      | (with_reducible refine LeO.bind ?_ (fun _ => ?_))
      | exact ih0 _ _ _
      | exact ih1 _ _ _ _ _
      | exact ih2 _ _ _ _
      | exact ih3 _ _ _ _
      | exact oculusref06_Find.mono _ _ _
      | exact LeO.none _
      | refine LeO.ite ?_ ?_
      | refine LeO.bind ?_ (fun _ => ?_)
    · intro y0 y1 y2 y3 y4
      unfold oculusref06_Grants.j1
      repeat' first
      | (with_reducible exact ih0 _ _ _)
      | (with_reducible exact ih1 _ _ _ _ _)
      | (with_reducible exact ih2 _ _ _ _)
      | (with_reducible exact ih3 _ _ _ _)
      | (with_reducible exact oculusref06_Find.mono _ _ _)
      | (with_reducible exact LeO.refl _)
      | (with_reducible exact LeO.none _)
      | (with_reducible refine LeO.ite ?_ ?_)
      | (with_reducible refine LeO.bind ?_ (fun _ => ?_))
      | exact ih0 _ _ _
      | exact ih1 _ _ _ _ _
      | exact ih2 _ _ _ _
      | exact ih3 _ _ _ _
      | exact oculusref06_Find.mono _ _ _
      | exact LeO.none _
      | refine LeO.ite ?_ ?_
      | refine LeO.bind ?_ (fun _ => ?_)
    · intro y0 y1 y2 y3
      unfold oculusref06_Grants.j2
      repeat' first
      | (with_reducible exact ih0 _ _ _)
      | (with_reducible exact ih1 _ _ _ _ _)
      | (with_reducible exact ih2 _ _ _ _)
      | (with_reducible exact ih3 _ _ _ _)
      | (with_reducible exact oculusref06_Find.mono _ _ _)
      | (with_reducible exact LeO.refl _)
      | (with_reducible exact LeO.none _)
      | (with_reducible refine LeO.ite ?_ ?_)
      | (with_reducible refine LeO.bind ?_ (fun _ => ?_))
      | exact ih0 _ _ _
      | exact ih1 _ _ _ _ _
      | exact ih2 _ _ _ _
      | exact ih3 _ _ _ _
      | exact oculusref06_Find.mono _ _ _
      | exact LeO.none _
      | refine LeO.ite ?_ ?_
      | refine LeO.bind ?_ (fun _ => ?_)
    · intro y0 y1 y2 y3
      unfold oculusref06_Grants.j3
      repeat' first
      | (with_reducible exact ih0 _ _ _)
      | (with_reducible exact ih1 _ _ _ _ _)
      | (with_reducible exact ih2 _ _ _ _)
      | (with_reducible exact ih3 _ _ _ _)
      | (with_reducible exact oculusref06_Find.mono _ _ _)
      | (with_reducible exact LeO.refl _)
      | (with_reducible exact LeO.none _)
      | (with_reducible refine LeO.ite ?_ ?_)
      | (with_reducible refine LeO.bind ?_ (fun _ => ?_))
      | exact ih0 _ _ _
      | exact ih1 _ _ _ _ _
      | exact ih2 _ _ _ _
      | exact ih3 _ _ _ _
      | exact oculusref06_Find.mono _ _ _
      | exact LeO.none _
      | refine LeO.ite ?_ ?_
      | refine LeO.bind ?_ (fun _ => ?_)
theorem oculusref06_Grants.mono : ∀ a0 a1 k, LeO (oculusref06_Grants.f k a0 a1) (oculusref06_Grants.f (k + 1) a0 a1) := by
  intro a0 a1 k
  obtain ⟨ih0, ih1, ih2, ih3⟩ := oculusref06_Grants.mono_l k
  unfold oculusref06_Grants.f
  repeat' first
      | (with_reducible exact ih0 _ _ _)
      | (with_reducible exact ih1 _ _ _ _ _)
      | (with_reducible exact ih2 _ _ _ _)
      | (with_reducible exact ih3 _ _ _ _)
      | (with_reducible exact oculusref06_Find.mono _ _ _)
      | (with_reducible exact LeO.refl _)
      | (with_reducible exact LeO.none _)
      | (with_reducible refine LeO.ite ?_ ?_)
      | (with_reducible refine LeO.bind ?_ (fun _ => ?_))
      | exact ih0 _ _ _
      | exact ih1 _ _ _ _ _
      | exact ih2 _ _ _ _
      | exact ih3 _ _ _ _
      | exact oculusref06_Find.mono _ _ _
      | exact LeO.none _
      | refine LeO.ite ?_ ?_
      | refine LeO.bind ?_ (fun _ => ?_)
set_option maxHeartbeats 8000000 in
set_option maxRecDepth 100000 in
theorem oculusref06_Grants.calls (k : Nat) (A0 : Option Addr) (c0 : Nat) (l0 : List (S49)) (A1 : Option Addr) (c1 : Nat) (l1 : List (S93)) (r1 : Int) (r2 : Int) (w : World) (hr0 : Kd.C k49 w A0 l0.length l0) (hc0 : l0.length ≤ c0) (hr1 : Kd.C k93 w A1 l1.length l1) (hc1 : l1.length ≤ c1) (h : oculusref06_Grants.f k l0 l1 = some (r1, r2)) :
    Calls Try.prog 47 #[.slice A0 l0.length c0, .slice A1 l1.length c1] w fun e w' => e = .returned (.agg #[.int .i64 r1, .int .i64 r2]) ∧ Below w.heap.size w w' := by
  have hu86 := Try.underlying86
  have hu26 := Try.underlying26
  have HR0 := Aside0.mk hr0
  have HC0 := Aside0.mk hc0
  clear hr0 hc0
  have HR1 := Aside0.mk hr1
  have HC1 := Aside0.mk hc1
  clear hr1 hc1
  have HB := Aside0.mk (Below.refl w.heap.size w)
  have H : (oculusref06_Grants.l0 k l0 l1 0) = some (r1, r2) := h
  clear h
  have H' := Aside0.mk H
  clear H
  go_enter Try.func47, Try.ntmps47
  go_wp2_with (first | ((with_reducible refine gate_dst (N := 4) rfl ?_); refine box_event ?hg (N := 4) ?hd (cs := #[.int .i64 0, .int .i64 0]) (t := 86) ?hr ?_; (case hd => rfl); (case hg => rfl); (case hr => first | (go_simp; done) | (go_simp; rfl)); intro gb101 hg w3 hbox hb; have n0_ := Aside0.mk (below_step (pbx HB) hb); have n1_ := Aside0.mk (hbox); have n2_ := Aside0.mk ((by rw [hg]; exact (below_size (pbx HB)) : w.heap.size ≤ gb101)); have n3_ := Aside0.mk ((by rw [hg]; exact (below_size (pbx HB)) : w.heap.size ≤ gb101)); clear HB; have HB := n0_; have BK101 := n1_; have GW101 := n2_; have GE101 := n3_; clear n0_ n1_ n2_ n3_; clear hb hbox hg))
  go_loopg [5] k (fun kq v5 w' => ∃ (x5_1 : Int) (x102000_1 : Int) (x102001_1 : Int), v5 = .int .i64 x5_1 ∧ Aside0 (oculusref06_Grants.l0 kq l0 l1 x5_1 = some (r1, r2)) ∧ Aside0 (kq ≤ k) ∧ Aside0 (w'.heap[gb101]? = some (.cells #[.int .i64 x102000_1, .int .i64 x102001_1] 86 (0, 0))) ∧ Aside0 (Below w.heap.size w w'))
  case atStart => exact ⟨(0), (0), (0), (by first | rfl | (simp; done) | (simp [*]; done)), H', ⟨Nat.le_refl _⟩, ⟨pkx BK101⟩, ⟨pbx HB⟩⟩
  case round =>
    clear H'
    try clear c1
    try clear p2
    obtain ⟨x5_1, x102000_1, x102001_1, rfl, HA, HK1, BK101, HB⟩ := hrel
    cases gk with
    | zero => exact absurd HA.out (by simp [oculusref06_Grants.l0])
    | succ k1 =>
      have H := HA.out
      clear HA
      simp only [oculusref06_Grants.l0] at H
      by_cases c4 : x5_1 < (l0.length : Int)
      · rw [if_pos c4] at H
        have c4b0 : decide (x5_1 < (l0.length : Int)) = true := decide_eq_true c4
        clear c4
        have HC5 := Aside0.mk H
        clear H
        go_upto_region 5 with (fail)
        go_cut [28] (fun v28 wc => ∃ (kq : Nat) (x28_4 : Bool), v28 = .bool x28_4 ∧ Aside0 (oculusref06_Grants.j1 kq l0 l1 x5_1 0 x28_4 = some (r1, r2)) ∧ Aside0 (kq ≤ k1) ∧ Aside0 (wc.heap[gb101]? = some (.cells #[.int .i64 x102000_1, .int .i64 x102001_1] 86 (0, 0))) ∧ Aside0 (Below w.heap.size w wc))
        case first =>
          have H := HC5.out
          clear HC5
          by_cases c6 : 0 ≤ x5_1
          · rw [if_pos c6] at H
            have c6b0 : decide (0 ≤ x5_1) = true := decide_eq_true c6
            clear c6
            (first | rw [c6b0] | (simp only [i64_w, i32_w]; rw [c6b0]) | skip)
            replace H := Option.bind_eq_some_iff.mp H
            obtain ⟨t103, A70, H⟩ := H
            replace H : (if t103 = true then ((oculusref06_may.f ((rd_T49 l0 x5_1).f2.f0) ((rd_T49 l0 x5_1).f2.f1)).bind fun t105 => (oculusref06_Grants.j1 k1 l0 l1 x5_1 0 (!t105))) else (oculusref06_Grants.j1 k1 l0 l1 x5_1 0 true)) = some (r1, r2) := H
            have A7 := Aside0.mk A70
            clear A70
            by_cases c8 : t103 = true
            · subst c8
              have H1 : ((oculusref06_may.f ((rd_T49 l0 x5_1).f2.f0) ((rd_T49 l0 x5_1).f2.f1)).bind fun t105 => (oculusref06_Grants.j1 k1 l0 l1 x5_1 0 (!t105))) = some (r1, r2) := by rw [if_pos rfl] at H; exact H
              clear H
              have H := H1
              clear H1
              replace H := Option.bind_eq_some_iff.mp H
              obtain ⟨t105, A90, H⟩ := H
              replace H : (oculusref06_Grants.j1 k1 l0 l1 x5_1 0 (!t105)) = some (r1, r2) := H
              have A9 := Aside0.mk A90
              clear A90
              have H' := Aside0.mk H
              clear H
              have p102 : 0 ≤ (x5_1 : Int) := of_decide_eq_true (by first | (with_reducible assumption) | assumption)
              have q102 : x5_1 < (l0.length : Int) := of_decide_eq_true (by first | (with_reducible assumption) | assumption)
              obtain ⟨ad102, e102, hx102_0, hx102_1, hx102_2, hx102_3, hx102_4⟩ := at_T49 HR0.out x5_1 p102 q102
              cases e102
              replace hx102_0 := (HB.out.cell (World.block_lt_of_cell? w _ hx102_0)).trans hx102_0
              replace hx102_1 := (HB.out.cell (World.block_lt_of_cell? w _ hx102_1)).trans hx102_1
              replace hx102_2 := (HB.out.cell (World.block_lt_of_cell? w _ hx102_2)).trans hx102_2
              replace hx102_3 := (HB.out.cell (World.block_lt_of_cell? w _ hx102_3)).trans hx102_3
              replace hx102_4 := (HB.out.cell (World.block_lt_of_cell? w _ hx102_4)).trans hx102_4
              replace p102 := eq_true p102
              replace q102 := eq_true q102
              go_wp2_with (first | ((with_reducible refine gate_callee (f := 75) rfl ?_); refine goesL_ (some 18) rfl rfl Try.func75 (by kernel_rfl) rfl #[.agg #[.int .i64 ((rd_T49 l0 x5_1).f1.f0), .int .u64 ((rd_T49 l0 x5_1).f1.f1)]] rfl (by (try simp only [List.map_toArray, List.map_cons, List.map_nil]); first | done | rfl | (simp only [List.length_drop, List.length_take]; rfl)) ?_; (with_reducible refine (oculusref06_may.calls ((rd_T49 l0 x5_1).f1.f0) ((rd_T49 l0 x5_1).f1.f1) true _ A7.out).mono ?_); rintro e w10 ⟨rfl, hb⟩; refine ⟨_, rfl, ?_⟩; have n0_ := Aside0.mk (blk_below (pkx BK101) hb); have n1_ := Aside0.mk (below_step (pbx HB) hb); clear BK101; clear HB; have BK101 := n0_; have HB := n1_; clear n0_ n1_; (try clear hb); (try clear hb2); (try clear hk); (try clear hi); have p104 : 0 ≤ (x5_1 : Int) := of_decide_eq_true (by first | (with_reducible assumption) | assumption); have q104 : x5_1 < (l0.length : Int) := of_decide_eq_true (by first | (with_reducible assumption) | assumption); obtain ⟨ad104, e104, hx104_0, hx104_1, hx104_2, hx104_3, hx104_4⟩ := at_T49 HR0.out x5_1 p104 q104; obtain rfl : ad102 = ad104 := (by injection e104); replace hx104_0 := (HB.out.cell (World.block_lt_of_cell? w _ hx104_0)).trans hx104_0; replace hx104_1 := (HB.out.cell (World.block_lt_of_cell? w _ hx104_1)).trans hx104_1; replace hx104_2 := (HB.out.cell (World.block_lt_of_cell? w _ hx104_2)).trans hx104_2; replace hx104_3 := (HB.out.cell (World.block_lt_of_cell? w _ hx104_3)).trans hx104_3; replace hx104_4 := (HB.out.cell (World.block_lt_of_cell? w _ hx104_4)).trans hx104_4; replace p104 := eq_true p104; replace q104 := eq_true q104) | (go_at_call 75; (with_reducible refine (oculusref06_may.calls ((rd_T49 l0 x5_1).f2.f0) ((rd_T49 l0 x5_1).f2.f1) t105 _ A9.out).mono ?_); rintro e w11 ⟨rfl, hb⟩; have n0_ := Aside0.mk (blk_below (pkx BK101) hb); have n1_ := Aside0.mk (below_step (pbx HB) hb); clear BK101; clear HB; have BK101 := n0_; have HB := n1_; clear n0_ n1_; (try clear hb); (try clear hb2); (try clear hk); (try clear hi)))
              go_meet
              case rel => exact ⟨_, (!t105), (by first | rfl | (simp; done) | (simp [*]; done) | (cases t105 <;> simp; done)), H', ⟨by have := HK1.out; first | omega | exact Nat.le_refl _⟩, ⟨pkx BK101⟩, ⟨pbx HB⟩⟩
            · replace c8 := Bool.eq_false_iff.mpr c8
              subst c8
              have H1 : (oculusref06_Grants.j1 k1 l0 l1 x5_1 0 true) = some (r1, r2) := by rw [if_neg (show ¬ (false = true) by decide)] at H; exact H
              clear H
              have H := H1
              clear H1
              have H' := Aside0.mk H
              clear H
              have p102 : 0 ≤ (x5_1 : Int) := of_decide_eq_true (by first | (with_reducible assumption) | assumption)
              have q102 : x5_1 < (l0.length : Int) := of_decide_eq_true (by first | (with_reducible assumption) | assumption)
              obtain ⟨ad102, e102, hx102_0, hx102_1, hx102_2, hx102_3, hx102_4⟩ := at_T49 HR0.out x5_1 p102 q102
              cases e102
              replace hx102_0 := (HB.out.cell (World.block_lt_of_cell? w _ hx102_0)).trans hx102_0
              replace hx102_1 := (HB.out.cell (World.block_lt_of_cell? w _ hx102_1)).trans hx102_1
              replace hx102_2 := (HB.out.cell (World.block_lt_of_cell? w _ hx102_2)).trans hx102_2
              replace hx102_3 := (HB.out.cell (World.block_lt_of_cell? w _ hx102_3)).trans hx102_3
              replace hx102_4 := (HB.out.cell (World.block_lt_of_cell? w _ hx102_4)).trans hx102_4
              replace p102 := eq_true p102
              replace q102 := eq_true q102
              go_wp2_with (first | ((with_reducible refine gate_callee (f := 75) rfl ?_); refine goesL_ (some 18) rfl rfl Try.func75 (by kernel_rfl) rfl #[.agg #[.int .i64 ((rd_T49 l0 x5_1).f1.f0), .int .u64 ((rd_T49 l0 x5_1).f1.f1)]] rfl (by (try simp only [List.map_toArray, List.map_cons, List.map_nil]); first | done | rfl | (simp only [List.length_drop, List.length_take]; rfl)) ?_; (with_reducible refine (oculusref06_may.calls ((rd_T49 l0 x5_1).f1.f0) ((rd_T49 l0 x5_1).f1.f1) false _ A7.out).mono ?_); rintro e w12 ⟨rfl, hb⟩; refine ⟨_, rfl, ?_⟩; have n0_ := Aside0.mk (blk_below (pkx BK101) hb); have n1_ := Aside0.mk (below_step (pbx HB) hb); clear BK101; clear HB; have BK101 := n0_; have HB := n1_; clear n0_ n1_; (try clear hb); (try clear hb2); (try clear hk); (try clear hi)))
              go_meet
              case rel => exact ⟨_, (true), (by first | rfl | (simp; done) | (simp [*]; done)), H', ⟨by have := HK1.out; first | omega | exact Nat.le_refl _⟩, ⟨pkx BK101⟩, ⟨pbx HB⟩⟩
          · rw [if_neg c6] at H
            exact absurd H (by simp)
        case rest =>
          clear HC5
          try clear c1
          try clear p1
          try clear q1
          try clear hx1
          try clear p2
          try clear c4
          try clear c4b0
          try clear c6
          try clear c6b0
          try clear c7
          try clear c8
          try clear p10
          try clear q10
          try clear hx10
          try clear hx102_0
          try clear hx102_1
          try clear hx102_2
          try clear hx102_3
          try clear hx102_4
          try clear hx104_0
          try clear hx104_1
          try clear hx104_2
          try clear hx104_3
          try clear hx104_4
          try clear p102
          try clear p104
          try clear p2
          try clear q102
          try clear q104
          obtain ⟨kq, x28_4, rfl, HA, HJ4, BK101, HB⟩ := hcut
          cases kq with
          | zero => exact absurd HA.out (by simp [oculusref06_Grants.j1])
          | succ kj4 =>
            have H := HA.out
            clear HA
            simp only [oculusref06_Grants.j1] at H
            have HC13 := Aside0.mk H
            clear H
            go_upto_if 28 with (fail)
            go_cut [6] (fun v6 wc => ∃ (kq : Nat) (x6_12 : Int), v6 = .int .i64 x6_12 ∧ Aside0 (oculusref06_Grants.j2 kq l0 l1 x5_1 x6_12 = some (r1, r2)) ∧ Aside0 (kq ≤ kj4) ∧ Aside0 (wc.heap[gb101]? = some (.cells #[.int .i64 x102000_1, .int .i64 x102001_1] 86 (0, 0))) ∧ Aside0 (Below w.heap.size w wc))
            case first =>
              have H := HC13.out
              clear HC13
              by_cases c14 : x28_4 = true
              · subst c14
                have H1 : (oculusref06_Grants.j2 kj4 l0 l1 x5_1 7) = some (r1, r2) := by rw [if_pos rfl] at H; exact H
                clear H
                have H := H1
                clear H1
                have H' := Aside0.mk H
                clear H
                go_wp2
                go_meet
                case rel => exact ⟨_, (7), (by first | rfl | (simp; done) | (simp [*]; done)), H', ⟨by have := HK1.out; have := HJ4.out; first | omega | exact Nat.le_refl _⟩, ⟨pkx BK101⟩, ⟨pbx HB⟩⟩
              · replace c14 := Bool.eq_false_iff.mpr c14
                subst c14
                have H1 : (oculusref06_Grants.j2 kj4 l0 l1 x5_1 0) = some (r1, r2) := by rw [if_neg (show ¬ (false = true) by decide)] at H; exact H
                clear H
                have H := H1
                clear H1
                have H' := Aside0.mk H
                clear H
                go_wp2
                go_meet
                case rel => exact ⟨_, (0), (by first | rfl | (simp; done) | (simp [*]; done)), H', ⟨by have := HK1.out; have := HJ4.out; first | omega | exact Nat.le_refl _⟩, ⟨pkx BK101⟩, ⟨pbx HB⟩⟩
            case rest =>
              clear HC13
              try clear c1
              try clear p1
              try clear q1
              try clear hx1
              try clear p2
              try clear c4
              try clear c4b0
              try clear c6
              try clear c6b0
              try clear c7
              try clear c8
              try clear p10
              try clear q10
              try clear hx10
              try clear c14
              try clear hx102_0
              try clear hx102_1
              try clear hx102_2
              try clear hx102_3
              try clear hx102_4
              try clear hx104_0
              try clear hx104_1
              try clear hx104_2
              try clear hx104_3
              try clear hx104_4
              try clear p1
              try clear p10
              try clear p102
              try clear p104
              try clear p2
              try clear q1
              try clear q10
              try clear q102
              try clear q104
              obtain ⟨kq, x6_12, rfl, HA, HJ12, BK101, HB⟩ := hcut
              cases kq with
              | zero => exact absurd HA.out (by simp [oculusref06_Grants.j2])
              | succ kj12 =>
                have H := HA.out
                clear HA
                simp only [oculusref06_Grants.j2] at H
                by_cases c15 : 0 ≤ x5_1
                · rw [if_pos c15] at H
                  have c15b0 : decide (0 ≤ x5_1) = true := decide_eq_true c15
                  clear c15
                  by_cases c16 : x5_1 < (l0.length : Int)
                  · rw [if_pos c16] at H
                    have c16b0 : decide (x5_1 < (l0.length : Int)) = true := decide_eq_true c16
                    clear c16
                    replace H := Option.bind_eq_some_iff.mp H
                    obtain ⟨t107, A170, H⟩ := H
                    replace H : (if t107 < 0 then (oculusref06_Grants.j3 kj12 l0 l1 x5_1 11) else (oculusref06_Grants.j3 kj12 l0 l1 x5_1 x6_12)) = some (r1, r2) := H
                    have A17 := Aside0.mk A170
                    clear A170
                    have HC18 := Aside0.mk H
                    clear H
                    have p106 : 0 ≤ (x5_1 : Int) := of_decide_eq_true (by first | (with_reducible assumption) | assumption)
                    have q106 : x5_1 < (l0.length : Int) := of_decide_eq_true (by first | (with_reducible assumption) | assumption)
                    obtain ⟨ad106, e106, hx106_0, hx106_1, hx106_2, hx106_3, hx106_4⟩ := at_T49 HR0.out x5_1 p106 q106
                    cases e106
                    replace hx106_0 := (HB.out.cell (World.block_lt_of_cell? w _ hx106_0)).trans hx106_0
                    replace hx106_1 := (HB.out.cell (World.block_lt_of_cell? w _ hx106_1)).trans hx106_1
                    replace hx106_2 := (HB.out.cell (World.block_lt_of_cell? w _ hx106_2)).trans hx106_2
                    replace hx106_3 := (HB.out.cell (World.block_lt_of_cell? w _ hx106_3)).trans hx106_3
                    replace hx106_4 := (HB.out.cell (World.block_lt_of_cell? w _ hx106_4)).trans hx106_4
                    replace p106 := eq_true p106
                    replace q106 := eq_true q106
                    go_upto_if 36 with (first | ((with_reducible refine gate_callee (f := 49) rfl ?_); refine goesL_ (some 35) rfl rfl Try.func49 (by kernel_rfl) rfl #[.slice A1 l1.length c1, .string ((rd_T49 l0 x5_1).f0)] rfl (by (try simp only [List.map_toArray, List.map_cons, List.map_nil]); first | done | rfl | (simp only [List.length_drop, List.length_take]; rfl)) ?_; (with_reducible refine (oculusref06_Find.calls kj12 _ _ l1 ((rd_T49 l0 x5_1).f0) t107 _ ?side1 ?side2 A17.out).mono ?_); (case side1 => repeat (first | exact (Kd.C_below HR1.out HB.out) | (with_reducible refine Kd.C_alloc ?_ _) | (with_reducible refine Kd.C_drewN ?_ _) | (with_reducible refine Kd.C_drew ?_))); (case side2 => exact HC1.out); rintro e w' ⟨rfl, ⟨nd, rfl⟩⟩; refine ⟨_, rfl, ?_⟩))
                    (try simp only [Act.put, List.setIfInBounds_toArray, List.set_cons_zero, List.set_cons_succ])
                    go_cut [6] (fun v6 wc => ∃ (kq : Nat) (x6_17 : Int), v6 = .int .i64 x6_17 ∧ Aside0 (oculusref06_Grants.j3 kq l0 l1 x5_1 x6_17 = some (r1, r2)) ∧ Aside0 (kq ≤ kj12) ∧ Aside0 (wc.heap[gb101]? = some (.cells #[.int .i64 x102000_1, .int .i64 x102001_1] 86 (0, 0))) ∧ Aside0 (Below w.heap.size w wc))
                    case first =>
                      have H := HC18.out
                      clear HC18
                      by_cases c19 : t107 < 0
                      · rw [if_pos c19] at H
                        have c19b0 : decide (t107 < 0) = true := decide_eq_true c19
                        clear c19
                        (first | rw [c19b0] | (simp only [i64_w, i32_w]; rw [c19b0]) | skip)
                        have H' := Aside0.mk H
                        clear H
                        go_wp2
                        go_meet
                        case rel => exact ⟨_, (11), (by first | rfl | (simp; done) | (simp [*]; done)), H', ⟨by have := HK1.out; have := HJ4.out; have := HJ12.out; first | omega | exact Nat.le_refl _⟩, ⟨pkx BK101⟩, ⟨pbx HB⟩⟩
                      · rw [if_neg c19] at H
                        have c19b0 : decide (t107 < 0) = false := decide_eq_false c19
                        clear c19
                        (first | rw [c19b0] | (simp only [i64_w, i32_w]; rw [c19b0]) | skip)
                        have H' := Aside0.mk H
                        clear H
                        go_wp2
                        go_meet
                        case rel => exact ⟨_, (x6_12), (by first | rfl | (simp; done) | (simp [*]; done)), H', ⟨by have := HK1.out; have := HJ4.out; have := HJ12.out; first | omega | exact Nat.le_refl _⟩, ⟨pkx BK101⟩, ⟨pbx HB⟩⟩
                    case rest =>
                      clear HC18
                      try clear c1
                      try clear p1
                      try clear q1
                      try clear hx1
                      try clear p2
                      try clear c4
                      try clear c4b0
                      try clear c6
                      try clear c6b0
                      try clear c7
                      try clear c8
                      try clear p10
                      try clear q10
                      try clear hx10
                      try clear c14
                      try clear c15
                      try clear c15b0
                      try clear c16
                      try clear c16b0
                      try clear c19
                      try clear c19b0
                      try clear hx102_0
                      try clear hx102_1
                      try clear hx102_2
                      try clear hx102_3
                      try clear hx102_4
                      try clear hx104_0
                      try clear hx104_1
                      try clear hx104_2
                      try clear hx104_3
                      try clear hx104_4
                      try clear hx106_0
                      try clear hx106_1
                      try clear hx106_2
                      try clear hx106_3
                      try clear hx106_4
                      try clear p1
                      try clear p10
                      try clear p102
                      try clear p104
                      try clear p106
                      try clear p2
                      try clear q1
                      try clear q10
                      try clear q102
                      try clear q104
                      try clear q106
                      obtain ⟨kq, x6_17, rfl, HA, HJ17, BK101, HB⟩ := hcut
                      cases kq with
                      | zero => exact absurd HA.out (by simp [oculusref06_Grants.j3])
                      | succ kj17 =>
                        have H := HA.out
                        clear HA
                        simp only [oculusref06_Grants.j3] at H
                        by_cases c20 : x5_1 > 31
                        · rw [if_pos c20] at H
                          have c20b0 : decide (31 < x5_1) = true := decide_eq_true c20
                          clear c20
                          simp only [Option.some.injEq, Prod.mk.injEq] at H
                          obtain ⟨rfl, rfl⟩ := H
                          have hcz21_0 : wc.cell? ⟨gb101, 0, none⟩ = some (.int .i64 x102000_1) := (blk_cell BK101.out 0).trans rfl
                          have hcz21_1 : wc.cell? ⟨gb101, 1, none⟩ = some (.int .i64 x102001_1) := (blk_cell BK101.out 1).trans rfl
                          have hfz21_0 := blk_frozen BK101.out 0
                          have hfz21_1 := blk_frozen BK101.out 1
                          go_wp2
                          refine bodyPost_ret (results_cell_row rfl _ _ gb101 86 #[.int .i64 x5_1, .int .i64 10] (0, 0) _ rfl (by (with_reducible repeat (first | refine blk_drewN ?_ _ | refine blk_drew ?_ | refine blk_alloc ?_ _)); refine blk_put (cs := #[.int .i64 x5_1, .int .i64 x102001_1]) ?_ 1 _ rfl; (with_reducible repeat (first | refine blk_drewN ?_ _ | refine blk_drew ?_ | refine blk_alloc ?_ _)); refine blk_put (cs := #[.int .i64 x102000_1, .int .i64 x102001_1]) ?_ 0 _ rfl; (with_reducible repeat (first | refine blk_drewN ?_ _ | refine blk_drew ?_ | refine blk_alloc ?_ _)); exact BK101.out) Try.underlying86 rfl (by kernel_rfl)) rfl ?_
                          exact ⟨by first | rfl | (simp [errW_none, errW_some] <;> rfl) | (simp [*, errW_none, errW_some] <;> rfl), by repeat (first | (with_reducible first | exact HB.out | apply below_alloc | apply pw_below_drewN | apply below_drew1 | refine below_set ?_ GE101.out) | exact HB.out)⟩
                        · rw [if_neg c20] at H
                          have c20b0 : decide (31 < x5_1) = false := decide_eq_false c20
                          clear c20
                          by_cases c22 : x6_17 = 0
                          · rw [if_pos c22] at H
                            have c22b0 : (x6_17 == 0) = true := beq_iff_eq.mpr c22
                            have c22b1 : (x6_17 != 0) = false := bne_eq_false_iff_eq.mpr c22
                            clear c22
                            have H' := Aside0.mk H
                            clear H
                            go_wp2
                            go_roundg kj17
                            case measure => have := HK1.out; have := HJ4.out; have := HJ12.out; have := HJ17.out; omega
                            case rel => exact ⟨(wrap64 (x5_1 + 1)), (x102000_1), (x102001_1), (by first | rfl | (simp; done) | (simp [*]; done)), H', ⟨by have := HK1.out; have := HJ4.out; have := HJ12.out; have := HJ17.out; omega⟩, ⟨pkx BK101⟩, ⟨pbx HB⟩⟩
                          · rw [if_neg c22] at H
                            have c22b0 : (x6_17 == 0) = false := beq_eq_false_iff_ne.mpr c22
                            have c22b1 : (x6_17 != 0) = true := bne_iff_ne.mpr c22
                            simp only [Option.some.injEq, Prod.mk.injEq] at H
                            obtain ⟨rfl, rfl⟩ := H
                            have hcz23_0 : wc.cell? ⟨gb101, 0, none⟩ = some (.int .i64 x102000_1) := (blk_cell BK101.out 0).trans rfl
                            have hcz23_1 : wc.cell? ⟨gb101, 1, none⟩ = some (.int .i64 x102001_1) := (blk_cell BK101.out 1).trans rfl
                            have hfz23_0 := blk_frozen BK101.out 0
                            have hfz23_1 := blk_frozen BK101.out 1
                            go_wp2
                            refine bodyPost_ret (results_cell_row rfl _ _ gb101 86 #[.int .i64 x5_1, .int .i64 x6_17] (0, 0) _ rfl (by (with_reducible repeat (first | refine blk_drewN ?_ _ | refine blk_drew ?_ | refine blk_alloc ?_ _)); refine blk_put (cs := #[.int .i64 x5_1, .int .i64 x102001_1]) ?_ 1 _ rfl; (with_reducible repeat (first | refine blk_drewN ?_ _ | refine blk_drew ?_ | refine blk_alloc ?_ _)); refine blk_put (cs := #[.int .i64 x102000_1, .int .i64 x102001_1]) ?_ 0 _ rfl; (with_reducible repeat (first | refine blk_drewN ?_ _ | refine blk_drew ?_ | refine blk_alloc ?_ _)); exact BK101.out) Try.underlying86 rfl (by kernel_rfl)) rfl ?_
                            exact ⟨by first | rfl | (simp [errW_none, errW_some] <;> rfl) | (simp [*, errW_none, errW_some] <;> rfl), by repeat (first | (with_reducible first | exact HB.out | apply below_alloc | apply pw_below_drewN | apply below_drew1 | refine below_set ?_ GE101.out) | exact HB.out)⟩
                  · rw [if_neg c16] at H
                    exact absurd H (by simp)
                · rw [if_neg c15] at H
                  exact absurd H (by simp)
      · rw [if_neg c4] at H
        have c4b0 : decide (x5_1 < (l0.length : Int)) = false := decide_eq_false c4
        clear c4
        simp only [Option.some.injEq, Prod.mk.injEq] at H
        obtain ⟨rfl, rfl⟩ := H
        have hcz24_0 : wr.cell? ⟨gb101, 0, none⟩ = some (.int .i64 x102000_1) := (blk_cell BK101.out 0).trans rfl
        have hcz24_1 : wr.cell? ⟨gb101, 1, none⟩ = some (.int .i64 x102001_1) := (blk_cell BK101.out 1).trans rfl
        have hfz24_0 := blk_frozen BK101.out 0
        have hfz24_1 := blk_frozen BK101.out 1
        go_wp2
        refine bodyPost_ret (results_cell_row rfl _ _ gb101 86 #[.int .i64 0, .int .i64 0] (0, 0) _ rfl (by (with_reducible repeat (first | refine blk_drewN ?_ _ | refine blk_drew ?_ | refine blk_alloc ?_ _)); refine blk_put (cs := #[.int .i64 0, .int .i64 x102001_1]) ?_ 1 _ rfl; (with_reducible repeat (first | refine blk_drewN ?_ _ | refine blk_drew ?_ | refine blk_alloc ?_ _)); refine blk_put (cs := #[.int .i64 x102000_1, .int .i64 x102001_1]) ?_ 0 _ rfl; (with_reducible repeat (first | refine blk_drewN ?_ _ | refine blk_drew ?_ | refine blk_alloc ?_ _)); exact BK101.out) Try.underlying86 rfl (by kernel_rfl)) rfl ?_
        exact ⟨by first | rfl | (simp [errW_none, errW_some] <;> rfl) | (simp [*, errW_none, errW_some] <;> rfl), by repeat (first | (with_reducible first | exact HB.out | apply below_alloc | apply pw_below_drewN | apply below_drew1 | refine below_set ?_ GE101.out) | exact HB.out)⟩

end Go.Proofs.Ytlchgkoafabapaa.X
/- What the functions of right on users, and those of its reference, answer. -/
set_option linter.unusedVariables false
set_option linter.unusedSimpArgs false
namespace Go.Proofs.Ytlchgkoafabapaa.X
open Go.RowKit Go.Proofs.YtlchgkoafabapaaW.PrintWords Go.Proofs.YtlchgkoafabapaaW.PrintLast Go.Proofs.YtlchgkoafabapaaW.PrintMore

abbrev Us := S93
theorem rdU (xs : List Us) (i : Nat) (h : i < xs.length) : rd_T93 xs (i : Int) = xs[i] := by
  simp [rd_T93, List.getD_eq_getElem?_getD, h]
/-! Names. -/
def chS (c : Int) : Bool := (decide (97 ≤ c) && decide (c ≤ 122)) || (decide (48 ≤ c) && decide (c ≤ 57))
def allS (s : ByteArray) (i : Nat) : Nat → Bool
  | 0 => true
  | d + 1 => chS (bt s (i : Int)) && allS s (i + 1) d
theorem name_l0 (s : ByteArray) (hs : s.size ≤ 9223372036854775807) : ∀ (d i : Nat), i + d = s.size → Ev (fun k => right_Name.l0 k s (s.size : Int) (i : Int)) (allS s i d) := by
  intro d
  induction d with
  | zero =>
    intro i hi
    refine Ev.step (f := fun _ => some true) (fun k => ?_) (Ev.now _)
    simp only [right_Name.l0]
    rw [if_neg (by omega)]
  | succ d ih =>
    intro i hi
    have hw := w64s (i := i) (n := s.size) (by omega) hs
    have ih' := ih (i + 1) (by omega)
    refine Ev.step (f := fun k => if chS (bt s (i : Int)) = true then right_Name.l0 k s (s.size : Int) ((i + 1 : Nat) : Int) else some false) (fun k => ?_) ?_
    · simp only [right_Name.l0]
      rw [if_pos (by omega), if_pos (by omega), if_pos (by omega), hw]
      unfold chS
      generalize bt s (i : Int) = c
      by_cases h1 : c < 97
      · rw [if_pos h1, decide_eq_false (show ¬ 97 ≤ c by omega)]
        by_cases h2 : c < 48
        · rw [if_pos h2, decide_eq_false (show ¬ 48 ≤ c by omega)]; simp
        · rw [if_neg h2, decide_eq_true (show 48 ≤ c by omega)]
          by_cases h3 : c > 57
          · rw [if_pos h3, decide_eq_false (show ¬ c ≤ 57 by omega)]; simp
          · rw [if_neg h3, decide_eq_true (show c ≤ 57 by omega)]; simp
      · rw [if_neg h1, decide_eq_true (show 97 ≤ c by omega)]
        by_cases h2 : c > 122
        · rw [if_pos h2, if_neg (by omega), if_pos (by omega), decide_eq_false (show ¬ c ≤ 122 by omega), decide_eq_false (show ¬ c ≤ 57 by omega)]; simp
        · rw [if_neg h2, decide_eq_true (show c ≤ 122 by omega)]; simp
    · simp only [allS]
      refine ev_ite (fun h => ?_) (fun h => ?_)
      · rw [h]; simpa using ih'
      · rw [show chS (bt s (i : Int)) = false by simpa using h]; exact Ev.now _
theorem rname_l0 (s : ByteArray) (hs : s.size ≤ 9223372036854775807) : ∀ (d i : Nat), i + d = s.size → Ev (fun k => oculusref06_Name.l0 k s (i : Int)) (allS s i d) := by
  intro d
  induction d with
  | zero =>
    intro i hi
    refine Ev.step (f := fun _ => some true) (fun k => ?_) (Ev.now _)
    simp only [oculusref06_Name.l0]
    rw [if_neg (by omega)]
  | succ d ih =>
    intro i hi
    have hw := w64s (i := i) (n := s.size) (by omega) hs
    have ih' := ih (i + 1) (by omega)
    refine Ev.step (f := fun k => if chS (bt s (i : Int)) = true then oculusref06_Name.l0 k s ((i + 1 : Nat) : Int) else some false) (fun k => ?_) ?_
    · simp only [oculusref06_Name.l0]
      rw [if_pos (by omega), if_pos (by omega), hw]
      unfold chS oculusref06_letter.f
      generalize bt s (i : Int) = c
      by_cases h1 : c ≥ 97
      · rw [if_pos h1, decide_eq_true (show 97 ≤ c by omega)]
        simp only [Option.bind_some]
        by_cases h2 : c ≤ 122
        · rw [decide_eq_true h2]; simp
        · rw [decide_eq_false h2, if_pos (show c ≥ 48 by omega), if_neg (show ¬ c ≤ 57 by omega), decide_eq_false (show ¬ c ≤ 57 by omega)]; simp
      · rw [if_neg h1, decide_eq_false (show ¬ 97 ≤ c by omega)]
        simp only [Option.bind_some]
        by_cases h2 : c ≥ 48
        · rw [if_pos h2, decide_eq_true (show 48 ≤ c by omega)]
          by_cases h3 : c ≤ 57
          · rw [if_pos h3, decide_eq_true h3]; simp
          · rw [if_neg h3, decide_eq_false h3]; simp
        · rw [if_neg h2, decide_eq_false (show ¬ 48 ≤ c by omega)]; simp
    · simp only [allS]
      refine ev_ite (fun h => ?_) (fun h => ?_)
      · rw [h]; simpa using ih'
      · rw [show chS (bt s (i : Int)) = false by simpa using h]; exact Ev.now _
/-- Is a text a name? -/
def nameS (s : ByteArray) : Bool := decide (1 ≤ s.size) && (decide (s.size ≤ 16) && (decide (97 ≤ bt s 0) && allS s 0 s.size))
theorem name_ev (s : ByteArray) (hs : s.size ≤ 9223372036854775807) : Ev (fun k => right_Name.f k s) (nameS s) := by
  unfold right_Name.f nameS
  have hj : ∀ b, Ev (fun k => right_Name.j0 k s b) (!b && allS s 0 s.size) := by
    intro b
    refine Ev.step (f := fun k => if b = true then some false else right_Name.l0 k s (s.size : Int) 0) (fun k => by simp only [right_Name.j0]) ?_
    cases b with
    | true => exact ev_pos rfl (Ev.now _)
    | false => exact ev_neg (by simp) (by simpa using name_l0 s hs s.size 0 (by omega))
  by_cases h1 : (s.size : Int) < 1
  · simp only [if_pos h1]; rw [decide_eq_false (show ¬ 1 ≤ s.size by omega)]; exact hj true
  · simp only [if_neg h1]; rw [decide_eq_true (show 1 ≤ s.size by omega)]
    by_cases h2 : (s.size : Int) > 16
    · simp only [if_pos h2]; rw [decide_eq_false (show ¬ s.size ≤ 16 by omega)]; exact hj true
    · simp only [if_neg h2]; rw [decide_eq_true (show s.size ≤ 16 by omega)]; simp only [if_pos (show (0 : Int) < (s.size : Int) by omega)]
      have := hj (decide (bt s 0 < 97))
      rw [show (!decide (bt s 0 < 97)) = decide (97 ≤ bt s 0) by rw [Bool.eq_iff_iff]; simp] at this
      simpa using this
theorem rname_ev (s : ByteArray) (hs : s.size ≤ 9223372036854775807) : Ev (fun k => oculusref06_Name.f k s) (nameS s) := by
  unfold oculusref06_Name.f nameS
  have hj : ∀ b, Ev (fun k => oculusref06_Name.j0 k s b) (!b && allS s 0 s.size) := by
    intro b
    refine Ev.step (f := fun k => if b = true then some false else oculusref06_Name.l0 k s 0) (fun k => by simp only [oculusref06_Name.j0]) ?_
    cases b with
    | true => exact ev_pos rfl (Ev.now _)
    | false => exact ev_neg (by simp) (by simpa using rname_l0 s hs s.size 0 (by omega))
  by_cases h1 : (s.size : Int) < 1
  · simp only [if_pos h1]; rw [decide_eq_false (show ¬ 1 ≤ s.size by omega)]; exact hj true
  · simp only [if_neg h1]; rw [decide_eq_true (show 1 ≤ s.size by omega)]
    by_cases h2 : (s.size : Int) > 16
    · simp only [if_pos h2]; rw [decide_eq_false (show ¬ s.size ≤ 16 by omega)]; exact hj true
    · simp only [if_neg h2]; rw [decide_eq_true (show s.size ≤ 16 by omega)]; simp only [if_pos (show (0 : Int) < (s.size : Int) by omega)]
      unfold oculusref06_letter.f
      by_cases h3 : bt s 0 ≥ 97
      · rw [if_pos h3, decide_eq_true (show 97 ≤ bt s 0 by omega)]
        simp only [Option.bind_some]
        have := hj (!decide (bt s 0 ≤ 122))
        by_cases h4 : bt s 0 ≤ 122
        · rw [decide_eq_true h4] at this ⊢; simpa using this
        · rw [decide_eq_false h4] at this ⊢
          have hz : allS s 0 s.size = false := by
            obtain ⟨n, hn⟩ : ∃ n, s.size = n + 1 := ⟨s.size - 1, by omega⟩
            rw [hn]
            simp only [allS]
            have : chS (bt s ((0 : Nat) : Int)) = false := by
              unfold chS
              rw [show ((0 : Nat) : Int) = 0 from rfl, decide_eq_false h4, decide_eq_false (show ¬ bt s 0 ≤ 57 by omega)]; simp
            rw [this]; rfl
          rw [hz]
          simpa using this
      · rw [if_neg h3, decide_eq_false (show ¬ 97 ≤ bt s 0 by omega)]
        simp only [Option.bind_some]
        simpa using hj true
/-! Find. -/
def hitU (n : ByteArray) (u : Us) : Bool := decide (u.f0.toList = n.toList)
def findS (n : ByteArray) : List Us → Int × Int × Bool
  | [] => (0, 0, false)
  | u :: r => if hitU n u = true then (u.f1.f0, u.f1.f1, true) else findS n r
theorem find_l0 (n : ByteArray) (xs : List Us) (hx : xs.length ≤ 9223372036854775807) : ∀ (d i : Nat), i + d = xs.length →
    Ev (fun k => right_Find.l0 k n xs (xs.length : Int) (i : Int)) (findS n (xs.drop i)) := by
  intro d
  induction d with
  | zero =>
    intro i hi
    rw [List.drop_eq_nil_of_le (by omega)]
    refine Ev.step (f := fun _ => some (0, 0, false)) (fun k => ?_) (Ev.now _)
    simp only [right_Find.l0]
    rw [if_neg (by omega)]
  | succ d ih =>
    intro i hi
    have hlt : i < xs.length := by omega
    have hw := w64s hlt hx
    rw [List.drop_eq_getElem_cons hlt]
    refine Ev.step (f := fun k => if xs[i].f0.toList = n.toList then some (xs[i].f1.f0, xs[i].f1.f1, true) else right_Find.l0 k n xs (xs.length : Int) ((i + 1 : Nat) : Int)) (fun k => ?_) ?_
    · simp only [right_Find.l0]
      rw [if_pos (by omega), if_pos (by omega), if_pos (by omega), rdU xs i hlt, hw]
    · simp only [findS, hitU, decide_eq_true_eq]
      refine ev_ite (fun h => ?_) (fun h => ?_)
      · rw [if_pos h]; exact Ev.now _
      · rw [if_neg h]; exact ih (i + 1) (by omega)
theorem find_ev (n : ByteArray) (xs : List Us) (hx : xs.length ≤ 9223372036854775807) : Ev (fun k => right_Find.f k xs n) (findS n xs) := by
  unfold right_Find.f
  simpa using find_l0 n xs hx xs.length 0 (by omega)
/-- The first place from i on, or none. -/
def placeS (n : ByteArray) : List Us → Nat → Int
  | [], _ => -1
  | u :: r, i => if hitU n u = true then (i : Int) else placeS n r (i + 1)
theorem rfind_l0 (n : ByteArray) (xs : List Us) (hx : xs.length ≤ 9223372036854775807) : ∀ (d i : Nat), i + d = xs.length →
    Ev (fun k => oculusref06_Find.l0 k xs n (i : Int)) (placeS n (xs.drop i) i) := by
  intro d
  induction d with
  | zero =>
    intro i hi
    rw [List.drop_eq_nil_of_le (by omega)]
    refine Ev.step (f := fun _ => some (-1)) (fun k => ?_) (Ev.now _)
    simp only [oculusref06_Find.l0]
    rw [if_neg (by omega)]
  | succ d ih =>
    intro i hi
    have hlt : i < xs.length := by omega
    have hw := w64s hlt hx
    rw [List.drop_eq_getElem_cons hlt]
    refine Ev.step (f := fun k => if xs[i].f0.toList = n.toList then some (i : Int) else oculusref06_Find.l0 k xs n ((i + 1 : Nat) : Int)) (fun k => ?_) ?_
    · simp only [oculusref06_Find.l0]
      rw [if_pos (by omega), if_pos (by omega), rdU xs i hlt, hw]
    · simp only [placeS, hitU, decide_eq_true_eq]
      refine ev_ite (fun h => ?_) (fun h => ?_)
      · rw [if_pos h]; exact Ev.now _
      · rw [if_neg h]; exact ih (i + 1) (by omega)
theorem rfind_ev (n : ByteArray) (xs : List Us) (hx : xs.length ≤ 9223372036854775807) : Ev (fun k => oculusref06_Find.f k xs n) (placeS n xs 0) := by
  unfold oculusref06_Find.f
  simpa using rfind_l0 n xs hx xs.length 0 (by omega)
/-- What the place and the find say of one another. -/
theorem place_find (n : ByteArray) : ∀ (l : List Us) (i : Nat), (placeS n l i = -1 ∧ findS n l = (0, 0, false) ∧ l.any (hitU n) = false) ∨
    ∃ (j : Nat) (h : j < l.length), placeS n l i = ((i + j : Nat) : Int) ∧ findS n l = (l[j].f1.f0, l[j].f1.f1, true) ∧ l.any (hitU n) = true ∧ hitU n l[j] = true ∧ (l.take j).any (hitU n) = false
  | [], i => Or.inl ⟨rfl, rfl, rfl⟩
  | u :: r, i => by
    by_cases h : hitU n u = true
    · refine Or.inr ⟨0, by simp, ?_, ?_, ?_, ?_, ?_⟩
      · simp [placeS, h]
      · simp [findS, h]
      · simp [h]
      · simpa using h
      · simp
    · have hf : hitU n u = false := by simpa using h
      rcases place_find n r (i + 1) with ⟨h1, h2, h3⟩ | ⟨j, hj, h1, h2, h3, h4, h5⟩
      · left
        simp [placeS, findS, hf, h1, h2, h3]
      · right
        refine ⟨j + 1, by simp; omega, ?_, ?_, ?_, ?_, ?_⟩
        · simp only [placeS, if_neg h, h1]; congr 1; omega
        · simp only [findS, if_neg h, h2]; simp
        · simp only [List.any_cons, h3, Bool.or_true]
        · simpa using h4
        · simp only [List.take_succ_cons, List.any_cons, hf, h5, Bool.or_false]
theorem may_eq (a0 a1 : Int) : label_May.f a0 a1 = some (decide (a0 ≥ 0) && decide (a0 ≤ 15)) := by
  unfold label_May.f
  by_cases h : a0 ≥ 0
  · rw [if_pos h, decide_eq_true h]; rfl
  · rw [if_neg h, decide_eq_false h]; rfl
theorem rmay_eq (a0 a1 : Int) : oculusref06_may.f a0 a1 = some (decide (a0 ≥ 0) && decide (a0 ≤ 15)) := by
  unfold oculusref06_may.f
  by_cases h : a0 ≥ 0
  · rw [if_pos h, decide_eq_true h]; rfl
  · rw [if_neg h, decide_eq_false h]; rfl
def mayS (a0 : Int) : Bool := decide (a0 ≥ 0) && decide (a0 ≤ 15)
def okU (u : Us) : Prop := (Lit.int .u64 u.f1.f1).wf = true ∧ u.f0.size ≤ 9223372036854775807
/-! Acts. -/
def actsS (n : ByteArray) (xs : List Us) (a0 a1 : Int) : Int := if (findS n xs).2.2 = true then (if mayS a0 = true then (if belowS a0 a1 (findS n xs).1 (findS n xs).2.1 = true then 0 else 12) else 12) else 11
theorem acts_ev (n : ByteArray) (xs : List Us) (hx : xs.length ≤ 9223372036854775807) (a0 a1 : Int) : Ev (fun k => right_Acts.f k xs n a0 a1) (actsS n xs a0 a1) := by
  unfold right_Acts.f actsS
  refine ev_bind (find_ev n xs hx) ?_
  refine ev_ite (fun h => ?_) (fun h => ?_)
  · rw [if_pos h, may_eq]
    simp only [Option.bind_some]
    refine ev_ite (fun h2 => ?_) (fun h2 => ?_)
    · rw [if_pos (show mayS a0 = true from h2), below_eq]
      simp only [Option.bind_some]
      refine ev_ite (fun h3 => ?_) (fun h3 => ?_)
      · rw [if_pos h3]; exact Ev.now _
      · rw [if_neg h3]; exact Ev.now _
    · rw [if_neg (show ¬ mayS a0 = true from h2)]; exact Ev.now _
  · rw [if_neg h]; exact Ev.now _
theorem racts_ev (n : ByteArray) (xs : List Us) (hx : xs.length ≤ 9223372036854775807) (hu : ∀ u ∈ xs, okU u) (a0 a1 : Int) (ha : (Lit.int .u64 a1).wf = true) : Ev (fun k => oculusref06_Acts.f k xs n a0 a1) (actsS n xs a0 a1) := by
  unfold oculusref06_Acts.f actsS
  refine ev_bind (rfind_ev n xs hx) ?_
  rcases place_find n xs 0 with ⟨h1, h2, h3⟩ | ⟨j, hj, h1, h2, h3, h4, h5⟩
  · rw [h1, h2]
    exact ev_pos (by omega) (Ev.now _)
  · rw [h1, h2, Nat.zero_add]
    refine ev_neg (by omega) ?_
    rw [if_pos rfl, rmay_eq]
    simp only [Option.bind_some]
    refine ev_ite (fun h6 => ?_) (fun h6 => ?_)
    · rw [if_pos (show mayS a0 = true from h6)]
      refine ev_pos (by omega) (ev_pos (by omega) ?_)
      simp only [rdU xs j hj]
      refine ev_bind (rbelow_ev _ _ _ _ ha (hu _ (List.getElem_mem hj)).1) ?_
      refine ev_ite (fun h7 => ?_) (fun h7 => ?_)
      · rw [if_pos h7]; exact Ev.now _
      · rw [if_neg h7]; exact Ev.now _
    · rw [if_neg (show ¬ mayS a0 = true from h6)]; exact Ev.now _
/-! Users. -/
def userS (xs : List Us) (i : Nat) (u : Us) : Int := if 16 ≤ i then 10 else if nameS u.f0 = false then 1 else if (xs.take i).any (hitU u.f0) = true then 8 else if mayS u.f1.f0 = false then 7 else 0
def usersS (xs : List Us) : List Us → Nat → Int × Int
  | [], _ => (0, 0)
  | u :: r, i => if userS xs i u = 0 then usersS xs r (i + 1) else ((i : Int), userS xs i u)
theorem find_snd (n : ByteArray) (l : List Us) : (findS n l).2.2 = l.any (hitU n) := by
  rcases place_find n l 0 with ⟨_, h2, h3⟩ | ⟨j, hj, _, h2, h3, _⟩ <;> rw [h2, h3]
theorem users_l0 (xs : List Us) (hx : xs.length ≤ 9223372036854775807) (hu : ∀ u ∈ xs, okU u) : ∀ (d i : Nat), i + d = xs.length →
    Ev (fun k => right_Users.l0 k xs xs (xs.length : Int) (i : Int)) (usersS xs (xs.drop i) i) := by
  intro d
  induction d with
  | zero =>
    intro i hi
    rw [List.drop_eq_nil_of_le (by omega)]
    refine Ev.step (f := fun _ => some (0, 0)) (fun k => ?_) (Ev.now _)
    simp only [right_Users.l0]
    rw [if_neg (by omega)]
  | succ d ih =>
    intro i hi
    have hlt : i < xs.length := by omega
    have hw := w64s hlt hx
    have hok := hu _ (List.getElem_mem hlt)
    have ih' := ih (i + 1) (by omega)
    rw [List.drop_eq_getElem_cons hlt]
    simp only [usersS]
    refine Ev.step (f := fun k => (right_Find.f k (xs.take i) xs[i].f0).bind fun b => right_Users.j1 k xs (i : Int) b.2.2 xs (xs.length : Int) (i : Int) xs[i].f0 xs[i].f1.f0 xs[i].f1.f1) (fun k => ?_) ?_
    · simp only [right_Users.l0]
      rw [if_pos (by omega), if_pos (by omega), if_pos (by omega), if_pos (by omega), rdU xs i hlt]
      rfl
    · refine ev_bind (find_ev xs[i].f0 (xs.take i) (by simp; omega)) ?_
      rw [find_snd]
      refine Ev.step (f := fun k => if (i : Int) ≥ 16 then some ((i : Int), 10) else (right_Name.f k xs[i].f0).bind fun t => if t = true then (if (xs.take i).any (hitU xs[i].f0) = true then some ((i : Int), 8) else (label_May.f xs[i].f1.f0 xs[i].f1.f1).bind fun t2 => if t2 = true then right_Users.l0 k xs xs (xs.length : Int) ((i + 1 : Nat) : Int) else some ((i : Int), 7)) else some ((i : Int), 1)) (fun k => ?_) ?_
      · simp only [right_Users.j1, hw]
      · refine ev_ite (fun h => ?_) (fun h => ?_)
        · have e : userS xs i xs[i] = 10 := by unfold userS; rw [if_pos (by omega)]
          rw [e, if_neg (by decide)]; exact Ev.now _
        · have h16 : ¬ 16 ≤ i := by omega
          refine ev_bind (name_ev _ hok.2) ?_
          refine ev_ite (fun hn => ?_) (fun hn => ?_)
          · refine ev_ite (fun h2 => ?_) (fun h2 => ?_)
            · have e : userS xs i xs[i] = 8 := by unfold userS; rw [if_neg h16, hn, if_neg (by decide), if_pos h2]
              rw [e, if_neg (by decide)]; exact Ev.now _
            · rw [may_eq]
              simp only [Option.bind_some]
              refine ev_ite (fun hm => ?_) (fun hm => ?_)
              · have e : userS xs i xs[i] = 0 := by unfold userS; rw [if_neg h16, hn, if_neg (by decide), if_neg h2, show mayS xs[i].f1.f0 = true from hm, if_neg (by decide)]
                rw [e, if_pos rfl]; exact ih'
              · have e : userS xs i xs[i] = 7 := by unfold userS; rw [if_neg h16, hn, if_neg (by decide), if_neg h2, show mayS xs[i].f1.f0 = false by simpa [mayS] using hm, if_pos rfl]
                rw [e, if_neg (by decide)]; exact Ev.now _
          · have e : userS xs i xs[i] = 1 := by unfold userS; rw [if_neg h16, show nameS xs[i].f0 = false by simpa using hn, if_pos rfl]
            rw [e, if_neg (by decide)]; exact Ev.now _
theorem users_ev (xs : List Us) (hx : xs.length ≤ 9223372036854775807) (hu : ∀ u ∈ xs, okU u) : Ev (fun k => right_Users.f k xs) (usersS xs xs 0) := by
  unfold right_Users.f
  simpa using users_l0 xs hx hu xs.length 0 (by omega)
theorem place_own (xs : List Us) (i : Nat) (h : i < xs.length) : (placeS xs[i].f0 xs 0 = (i : Int)) ↔ (xs.take i).any (hitU xs[i].f0) = false := by
  have hself : hitU xs[i].f0 xs[i] = true := by unfold hitU; simp
  rcases place_find xs[i].f0 xs 0 with ⟨h1, h2, h3⟩ | ⟨j, hj, h1, h2, h3, h4, h5⟩
  · exfalso
    have := List.any_eq_false.1 h3 xs[i] (List.getElem_mem h)
    exact this hself
  · rw [h1, Nat.zero_add]
    constructor
    · intro e
      have : j = i := by omega
      subst this
      exact h5
    · intro e
      rcases Nat.lt_trichotomy j i with hlt | he | hgt
      · exfalso
        have := List.any_eq_false.1 e xs[j] (by rw [List.mem_take_iff_getElem]; exact ⟨j, by omega, rfl⟩)
        exact this h4
      · omega
      · exfalso
        have := List.any_eq_false.1 h5 xs[i] (by rw [List.mem_take_iff_getElem]; exact ⟨i, by omega, rfl⟩)
        exact this hself
theorem rusers_l0 (xs : List Us) (hx : xs.length ≤ 9223372036854775807) (hu : ∀ u ∈ xs, okU u) : ∀ (d i : Nat), i + d = xs.length →
    Ev (fun k => oculusref06_Users.l0 k xs (i : Int)) (usersS xs (xs.drop i) i) := by
  intro d
  induction d with
  | zero =>
    intro i hi
    rw [List.drop_eq_nil_of_le (by omega)]
    refine Ev.step (f := fun _ => some (0, 0)) (fun k => ?_) (Ev.now _)
    simp only [oculusref06_Users.l0]
    rw [if_neg (by omega)]
  | succ d ih =>
    intro i hi
    have hlt : i < xs.length := by omega
    have hw := w64s hlt hx
    have hok := hu _ (List.getElem_mem hlt)
    have ih' := ih (i + 1) (by omega)
    rw [List.drop_eq_getElem_cons hlt]
    simp only [usersS]
    have j3 : ∀ e : Int, (16 ≤ i ∨ e = userS xs i xs[i]) → Ev (fun k => oculusref06_Users.j3 k xs (i : Int) e) (if userS xs i xs[i] = 0 then usersS xs (xs.drop (i + 1)) (i + 1) else ((i : Int), userS xs i xs[i])) := by
      intro e he
      refine Ev.step (f := fun k => if (i : Int) > 15 then some ((i : Int), 10) else if e = 0 then oculusref06_Users.l0 k xs ((i + 1 : Nat) : Int) else some ((i : Int), e)) (fun k => by simp only [oculusref06_Users.j3, hw]) ?_
      refine ev_ite (fun h => ?_) (fun h => ?_)
      · have : userS xs i xs[i] = 10 := by unfold userS; rw [if_pos (by omega)]
        rw [this, if_neg (by omega)]; exact Ev.now _
      · have he' : e = userS xs i xs[i] := by rcases he with h' | h'; omega; exact h'
        rw [← he']
        refine ev_ite (fun h2 => ?_) (fun h2 => ?_)
        · rw [if_pos h2]; exact ih'
        · rw [if_neg h2]; exact Ev.now _
    have j2 : ∀ e : Int, (16 ≤ i ∨ nameS xs[i].f0 = false ∨ e = userS xs i xs[i]) → Ev (fun k => oculusref06_Users.j2 k xs (i : Int) e) (if userS xs i xs[i] = 0 then usersS xs (xs.drop (i + 1)) (i + 1) else ((i : Int), userS xs i xs[i])) := by
      intro e he
      refine Ev.step (f := fun k => (oculusref06_Name.f k xs[i].f0).bind fun t => if t = true then oculusref06_Users.j3 k xs (i : Int) e else oculusref06_Users.j3 k xs (i : Int) 1) (fun k => ?_) ?_
      · simp only [oculusref06_Users.j2]
        rw [if_pos (by omega), if_pos (by omega), rdU xs i hlt]
      · refine ev_bind (rname_ev _ hok.2) ?_
        refine ev_ite (fun h => ?_) (fun h => ?_)
        · refine j3 e ?_
          rcases he with h' | h' | h'
          · exact Or.inl h'
          · rw [h] at h'; cases h'
          · exact Or.inr h'
        · refine j3 1 ?_
          by_cases h16 : 16 ≤ i
          · exact Or.inl h16
          · right; unfold userS; rw [if_neg h16, if_pos (by simpa using h)]
    have j1 : ∀ e : Int, (e = if mayS xs[i].f1.f0 = true then 0 else 7) → Ev (fun k => oculusref06_Users.j1 k xs (i : Int) e) (if userS xs i xs[i] = 0 then usersS xs (xs.drop (i + 1)) (i + 1) else ((i : Int), userS xs i xs[i])) := by
      intro e he
      refine Ev.step (f := fun k => (oculusref06_Find.f k xs xs[i].f0).bind fun t => if t = (i : Int) then oculusref06_Users.j2 k xs (i : Int) e else oculusref06_Users.j2 k xs (i : Int) 8) (fun k => ?_) ?_
      · simp only [oculusref06_Users.j1]
        rw [if_pos (by omega), if_pos (by omega), rdU xs i hlt]
      · refine ev_bind (rfind_ev _ xs hx) ?_
        refine ev_ite (fun h => ?_) (fun h => ?_)
        · rw [place_own xs i hlt] at h
          refine j2 e ?_
          by_cases h16 : 16 ≤ i
          · exact Or.inl h16
          · cases hn : nameS xs[i].f0 with
            | false => exact Or.inr (Or.inl rfl)
            | true =>
              right; right
              unfold userS
              rw [if_neg h16, hn, if_neg (by simp), h, if_neg (by simp), he]
              cases mayS xs[i].f1.f0 <;> simp
        · rw [place_own xs i hlt] at h
          refine j2 8 ?_
          by_cases h16 : 16 ≤ i
          · exact Or.inl h16
          · cases hn : nameS xs[i].f0 with
            | false => exact Or.inr (Or.inl rfl)
            | true =>
              right; right
              unfold userS
              rw [if_neg h16, hn, if_neg (by simp), if_pos (by simpa using h)]
    refine Ev.step (f := fun k => (oculusref06_may.f xs[i].f1.f0 xs[i].f1.f1).bind fun t => if t = true then oculusref06_Users.j1 k xs (i : Int) 0 else oculusref06_Users.j1 k xs (i : Int) 7) (fun k => ?_) ?_
    · simp only [oculusref06_Users.l0]
      rw [if_pos (by omega), if_pos (by omega), rdU xs i hlt]
    · rw [rmay_eq]
      simp only [Option.bind_some]
      refine ev_ite (fun h => ?_) (fun h => ?_)
      · exact j1 0 (by rw [if_pos (show mayS xs[i].f1.f0 = true from h)])
      · exact j1 7 (by rw [if_neg (show ¬ mayS xs[i].f1.f0 = true from h)])
theorem rusers_ev (xs : List Us) (hx : xs.length ≤ 9223372036854775807) (hu : ∀ u ∈ xs, okU u) : Ev (fun k => oculusref06_Users.f k xs) (usersS xs xs 0) := by
  unfold oculusref06_Users.f
  simpa using rusers_l0 xs hx hu xs.length 0 (by omega)
/-! Grants. -/
def grantS (us : List Us) (i : Nat) (g : Gr) : Int := if 32 ≤ i then 10 else if us.any (hitU g.f0) = false then 11 else if (mayS g.f1.f0 && mayS g.f2.f0) = false then 7 else 0
def grantsS (us : List Us) : List Gr → Nat → Int × Int
  | [], _ => (0, 0)
  | g :: r, i => if grantS us i g = 0 then grantsS us r (i + 1) else ((i : Int), grantS us i g)
theorem grants_l0 (us : List Us) (hus : us.length ≤ 9223372036854775807) (xs : List Gr) (hx : xs.length ≤ 9223372036854775807) : ∀ (d i : Nat), i + d = xs.length →
    Ev (fun k => right_Grants.l0 k us xs (xs.length : Int) (i : Int)) (grantsS us (xs.drop i) i) := by
  intro d
  induction d with
  | zero =>
    intro i hi
    rw [List.drop_eq_nil_of_le (by omega)]
    refine Ev.step (f := fun _ => some (0, 0)) (fun k => ?_) (Ev.now _)
    simp only [right_Grants.l0]
    rw [if_neg (by omega)]
  | succ d ih =>
    intro i hi
    have hlt : i < xs.length := by omega
    have hw := w64s hlt hx
    have ih' := ih (i + 1) (by omega)
    rw [List.drop_eq_getElem_cons hlt]
    simp only [grantsS]
    refine Ev.step (f := fun k => (right_Find.f k us xs[i].f0).bind fun b => right_Grants.j1 k us (i : Int) b.2.2 xs (xs.length : Int) (i : Int) xs[i].f0 xs[i].f1.f0 xs[i].f1.f1 xs[i].f2.f0 xs[i].f2.f1) (fun k => ?_) ?_
    · simp only [right_Grants.l0]
      rw [if_pos (by omega), if_pos (by omega), if_pos (by omega), rdG xs i hlt]
    · refine ev_bind (find_ev xs[i].f0 us hus) ?_
      rw [find_snd]
      refine Ev.step (f := fun k => if (i : Int) ≥ 32 then some ((i : Int), 10) else if us.any (hitU xs[i].f0) = true then ((label_May.f xs[i].f1.f0 xs[i].f1.f1).bind fun t => if t = true then ((label_May.f xs[i].f2.f0 xs[i].f2.f1).bind fun t2 => if t2 = true then right_Grants.l0 k us xs (xs.length : Int) ((i + 1 : Nat) : Int) else some ((i : Int), 7)) else some ((i : Int), 7)) else some ((i : Int), 11)) (fun k => ?_) ?_
      · simp only [right_Grants.j1, hw]
      · refine ev_ite (fun h => ?_) (fun h => ?_)
        · have e : grantS us i xs[i] = 10 := by unfold grantS; rw [if_pos (by omega)]
          rw [e, if_neg (by decide)]; exact Ev.now _
        · have h32 : ¬ 32 ≤ i := by omega
          refine ev_ite (fun hn => ?_) (fun hn => ?_)
          · have seven : (mayS xs[i].f1.f0 && mayS xs[i].f2.f0) = false → grantS us i xs[i] = 7 := by
              intro h7; unfold grantS; rw [if_neg h32, hn, if_neg (by decide), h7, if_pos rfl]
            rw [may_eq]
            simp only [Option.bind_some]
            refine ev_ite (fun hm => ?_) (fun hm => ?_)
            · rw [may_eq]
              simp only [Option.bind_some]
              refine ev_ite (fun hm2 => ?_) (fun hm2 => ?_)
              · have e : grantS us i xs[i] = 0 := by unfold grantS; rw [if_neg h32, hn, if_neg (by decide), show mayS xs[i].f1.f0 = true from hm, show mayS xs[i].f2.f0 = true from hm2, if_neg (by decide)]
                rw [e, if_pos rfl]; exact ih'
              · rw [seven (by rw [show mayS xs[i].f2.f0 = false by simpa [mayS] using hm2, Bool.and_false]), if_neg (by decide)]; exact Ev.now _
            · rw [seven (by rw [show mayS xs[i].f1.f0 = false by simpa [mayS] using hm, Bool.false_and]), if_neg (by decide)]; exact Ev.now _
          · have e : grantS us i xs[i] = 11 := by unfold grantS; rw [if_neg h32, show us.any (hitU xs[i].f0) = false by simpa using hn, if_pos rfl]
            rw [e, if_neg (by decide)]; exact Ev.now _
theorem grants_ev (us : List Us) (hus : us.length ≤ 9223372036854775807) (xs : List Gr) (hx : xs.length ≤ 9223372036854775807) : Ev (fun k => right_Grants.f k xs us) (grantsS us xs 0) := by
  unfold right_Grants.f
  simpa using grants_l0 us hus xs hx xs.length 0 (by omega)
theorem rgrants_l0 (us : List Us) (hus : us.length ≤ 9223372036854775807) (xs : List Gr) (hx : xs.length ≤ 9223372036854775807) : ∀ (d i : Nat), i + d = xs.length →
    Ev (fun k => oculusref06_Grants.l0 k xs us (i : Int)) (grantsS us (xs.drop i) i) := by
  intro d
  induction d with
  | zero =>
    intro i hi
    rw [List.drop_eq_nil_of_le (by omega)]
    refine Ev.step (f := fun _ => some (0, 0)) (fun k => ?_) (Ev.now _)
    simp only [oculusref06_Grants.l0]
    rw [if_neg (by omega)]
  | succ d ih =>
    intro i hi
    have hlt : i < xs.length := by omega
    have hw := w64s hlt hx
    have ih' := ih (i + 1) (by omega)
    rw [List.drop_eq_getElem_cons hlt]
    simp only [grantsS]
    have j3 : ∀ e : Int, (32 ≤ i ∨ e = grantS us i xs[i]) → Ev (fun k => oculusref06_Grants.j3 k xs us (i : Int) e) (if grantS us i xs[i] = 0 then grantsS us (xs.drop (i + 1)) (i + 1) else ((i : Int), grantS us i xs[i])) := by
      intro e he
      refine Ev.step (f := fun k => if (i : Int) > 31 then some ((i : Int), 10) else if e = 0 then oculusref06_Grants.l0 k xs us ((i + 1 : Nat) : Int) else some ((i : Int), e)) (fun k => by simp only [oculusref06_Grants.j3, hw]) ?_
      refine ev_ite (fun h => ?_) (fun h => ?_)
      · have : grantS us i xs[i] = 10 := by unfold grantS; rw [if_pos (by omega)]
        rw [this, if_neg (by omega)]; exact Ev.now _
      · have he' : e = grantS us i xs[i] := by rcases he with h' | h'; omega; exact h'
        rw [← he']
        refine ev_ite (fun h2 => ?_) (fun h2 => ?_)
        · rw [if_pos h2]; exact ih'
        · rw [if_neg h2]; exact Ev.now _
    have j2 : ∀ e : Int, e = (if (mayS xs[i].f1.f0 && mayS xs[i].f2.f0) = false then 7 else 0) → Ev (fun k => oculusref06_Grants.j2 k xs us (i : Int) e) (if grantS us i xs[i] = 0 then grantsS us (xs.drop (i + 1)) (i + 1) else ((i : Int), grantS us i xs[i])) := by
      intro e he
      refine Ev.step (f := fun k => (oculusref06_Find.f k us xs[i].f0).bind fun t => if t < 0 then oculusref06_Grants.j3 k xs us (i : Int) 11 else oculusref06_Grants.j3 k xs us (i : Int) e) (fun k => ?_) ?_
      · simp only [oculusref06_Grants.j2]
        rw [if_pos (by omega), if_pos (by omega), rdG xs i hlt]
      · refine ev_bind (rfind_ev _ us hus) ?_
        rcases place_find xs[i].f0 us 0 with ⟨h1, h2, h3⟩ | ⟨j, hj, h1, h2, h3, h4, h5⟩
        · rw [h1]
          refine ev_pos (by omega) (j3 11 ?_)
          by_cases h32 : 32 ≤ i
          · exact Or.inl h32
          · right; unfold grantS; rw [if_neg h32, if_pos h3]
        · rw [h1]
          refine ev_neg (by omega) (j3 e ?_)
          by_cases h32 : 32 ≤ i
          · exact Or.inl h32
          · right; unfold grantS; rw [if_neg h32, if_neg (by rw [h3]; simp)]; exact he
    have j1 : ∀ b : Bool, b = !(mayS xs[i].f1.f0 && mayS xs[i].f2.f0) → Ev (fun k => oculusref06_Grants.j1 k xs us (i : Int) 0 b) (if grantS us i xs[i] = 0 then grantsS us (xs.drop (i + 1)) (i + 1) else ((i : Int), grantS us i xs[i])) := by
      intro b hb
      refine Ev.step (f := fun k => if b = true then oculusref06_Grants.j2 k xs us (i : Int) 7 else oculusref06_Grants.j2 k xs us (i : Int) 0) (fun k => by simp only [oculusref06_Grants.j1]) ?_
      cases hh : (mayS xs[i].f1.f0 && mayS xs[i].f2.f0) with
      | false => rw [hh] at hb; subst hb; exact ev_pos rfl (j2 7 (by rw [hh]; rfl))
      | true => rw [hh] at hb; subst hb; exact ev_neg (by simp) (j2 0 (by rw [hh]; rfl))
    refine Ev.step (f := fun k => (oculusref06_may.f xs[i].f1.f0 xs[i].f1.f1).bind fun t => if t = true then ((oculusref06_may.f xs[i].f2.f0 xs[i].f2.f1).bind fun t2 => oculusref06_Grants.j1 k xs us (i : Int) 0 (!t2)) else oculusref06_Grants.j1 k xs us (i : Int) 0 true) (fun k => ?_) ?_
    · simp only [oculusref06_Grants.l0]
      rw [if_pos (by omega), if_pos (by omega), rdG xs i hlt]
    · rw [rmay_eq, rmay_eq]
      simp only [Option.bind_some]
      refine ev_ite (fun h => ?_) (fun h => ?_)
      · exact j1 _ (by rw [show mayS xs[i].f1.f0 = true from h]; rfl)
      · exact j1 _ (by rw [show mayS xs[i].f1.f0 = false from by simpa [mayS] using h]; rfl)
theorem rgrants_ev (us : List Us) (hus : us.length ≤ 9223372036854775807) (xs : List Gr) (hx : xs.length ≤ 9223372036854775807) : Ev (fun k => oculusref06_Grants.f k xs us) (grantsS us xs 0) := by
  unfold oculusref06_Grants.f
  simpa using rgrants_l0 us hus xs hx xs.length 0 (by omega)
end Go.Proofs.Ytlchgkoafabapaa.X
/- That the statements of right live: one closed run. -/
set_option linter.unusedVariables false
set_option linter.unusedSimpArgs false
namespace Go.Proofs.Ytlchgkoafabapaa.X
open Go.RowKit Go.Proofs.YtlchgkoafabapaaW.PrintWords Go.Proofs.YtlchgkoafabapaaW.PrintLast Go.Proofs.YtlchgkoafabapaaW.PrintMore
theorem alive06_ev : Ev (fun k => oculuslaw06_alive.f k) true := by
  unfold oculuslaw06_alive.f
  refine ev_bsome ?_
  have hl : ([(⟨(⟨#[97, 110, 110]⟩ : ByteArray), (⟨3, 0⟩ : S26), (⟨1, 0⟩ : S26)⟩ : Gr)] : List Gr).length ≤ 9223372036854775807 := by decide
  refine ev_bind (holders_ev _ (by decide +kernel) 2 0) ?_
  refine ev_bind (lowers_ev _ hl _ 2 0 2 0) ?_
  refine ev_pos (by decide +kernel) ?_
  refine ev_bind (lowers_ev _ hl _ 2 0 2 0) ?_
  refine ev_neg (by decide +kernel) ?_
  refine ev_bind (lowers_ev _ hl _ 2 0 0 0) ?_
  refine ev_neg (by decide +kernel) ?_
  refine ev_bind (leaks_ev _ hl 2 0) ?_
  refine ev_pos (by decide +kernel) ?_
  refine ev_bind (leaks_ev _ hl 3 0) ?_
  refine ev_neg (by decide +kernel) ?_
  refine ev_pos (by decide +kernel) ?_
  refine ev_bind (name_ev _ (by decide +kernel)) ?_
  refine ev_pos (by decide +kernel) ?_
  refine ev_bind (acts_ev _ _ (by decide +kernel) 2 0) ?_
  exact ev_some (fun k => by decide +kernel)
end Go.Proofs.Ytlchgkoafabapaa.X
/- The pure statement of the law RightLowers: over numbers and lists alone. -/
set_option linter.unusedVariables false
set_option linter.unusedSimpArgs false
namespace Go.Proofs.Ytlchgkoafabapaa.Pure
open Go.RowKit Go.Proofs.Ytlchgkoafabapaa.X Go.Proofs.YtlchgkoafabapaaW.PrintWords Go.Proofs.YtlchgkoafabapaaW.PrintLast Go.Proofs.YtlchgkoafabapaaW.PrintMore
theorem RightLowers : oculuslaw06_RightLowers.PureX := by
  intro xs u q ⟨hxs, hxl⟩ hu hq
  have e : reachBytes = 140737488351232 := by decide
  rw [e] at hxl
  have hok : ∀ g ∈ xs, okG g := fun g hg => ⟨(hxs g hg).2.1.2, (hxs g hg).2.2.2⟩
  apply Ev.rounds
  unfold oculuslaw06_RightLowers.f
  refine ev_ite (fun h => ev_bind alive06_ev (Ev.now _)) (fun h => ?_)
  refine ev_bind (lowers_ev xs (by omega) u _ _ _ _) ?_
  refine ev_bind (rlowers_ev xs (by omega) hok u _ _ _ _ hq.1.2 hq.2.2) ?_
  refine ev_neg (by simp) ?_
  refine ev_bind (leaks_ev xs (by omega) _ _) ?_
  refine ev_bind (leaky_ev xs (by omega) hok _ _ hq.2.2) ?_
  have e2 : (xs.any (leakS q.f1.f0 q.f1.f1) != decide (((xs.filter (leakS q.f1.f0 q.f1.f1)).length : Int) > 0)) = false := by
    rw [bne_eq_false_iff_eq, Bool.eq_iff_iff]
    simp only [decide_eq_true_eq, List.any_eq_true]
    constructor
    · rintro ⟨x, hx, hl⟩
      have : x ∈ xs.filter (leakS q.f1.f0 q.f1.f1) := List.mem_filter.2 ⟨hx, hl⟩
      have := List.length_pos_of_mem this
      omega
    · intro hl
      obtain ⟨x, hx⟩ := List.exists_mem_of_length_pos (show 0 < (xs.filter (leakS q.f1.f0 q.f1.f1)).length by omega)
      exact ⟨x, (List.mem_filter.1 hx).1, (List.mem_filter.1 hx).2⟩
  rw [e2]
  refine Ev.step (fun k => by simp only [oculuslaw06_RightLowers.j0]; rfl) ?_
  refine ev_neg (by simp) ?_
  refine ev_bind (holders_ev xs (by omega) _ _) ?_
  refine ev_bind (rholders_ev xs (by omega) hok _ _ hq.2.2) ?_
  have hlen := onceS_length (xs.filter (leakS q.f1.f0 q.f1.f1)) []
  have hlen2 : (xs.filter (leakS q.f1.f0 q.f1.f1)).length ≤ xs.length := List.length_filter_le _ _
  refine ev_bind (same_ev _ (by simp at hlen; omega)) ?_
  exact ev_pos rfl (ev_bind alive06_ev (Ev.now _))
end Go.Proofs.Ytlchgkoafabapaa.Pure
/- The row of the law RightLowers: for every input the call returns true and each argument reads afterwards as before, out of its pure statement and the contract of its function. Conditions: none beyond the given statement. -/
namespace Go.Proofs.Ytlchgkoafabapaa.rightLowers
open Go.ChangeShapes Go.WideShapes Go.ChangeAt Go.RowKit
open Go.ChangeMaps (open_string shut_string)
open Go.Proofs.Ytlchgkoafabapaa.Opn Go.Proofs.Ytlchgkoafabapaa.X
open Go.Proofs.YtlchgkoafabapaaW.PrintWords (Kd Drawn0)
set_option linter.unusedVariables false
theorem own : ownKnob Try.prog.godebug = none := by kernel_rfl
theorem laidOut : laidOutB Try.prog = true := by kernel_rfl
set_option maxRecDepth 100000 in
set_option maxHeartbeats 1000000 in
theorem lifted (os : Os) (started : os.Started) (H : Type) (enc : TypeId × Value → H) :
    ReturnsInHanded {} Try.checked os 9 .any (Rows.rightLowersSpec.pre6 enc Try.prog Try.f9 Rows.rightLowersRow.domain false) (Rows.rightLowersSpec.post enc Try.prog Try.f9 false true false false) := by
  refine returnsInHanded_of_change_sized (C := Try.checked) own started (by kernel_rfl) Try.func9
    (ChangeSpec.witness6 (enc := enc) (C := Try.checked) false ⟨#[], #[.slice none 0 0, .string ByteArray.empty, .agg #[.int .i64 0, .int .u64 0, .int .i64 0, .int .u64 0]], []⟩ 8 (by kernel_rfl) (by kernel_rfl) (by kernel_rfl) (by kernel_rfl)) ?_
  intro W base args ds gs before hval0 hW hcnd hsz0 _
  have hsz : (DataW.weightsEach Try.prog (Try.f9.params.toList ++ Rows.rightLowersSpec.plain.varTypes Try.prog) (ds ++ gs)).all (· ≤ reachBytes) = true := hsz0
  have hval : ∀ (j : Nat) t v, Try.f9.params[j]? = some t → args[j]? = some v → Value.okWide Try.prog W .any base t v := hval0
  have hW' := hW
  obtain ⟨p, q, hA0, hV, rfl, hfz, hnd⟩ := hW
  have hA : DataW.TrodAll enc Try.prog W 0 (fun _ => true) true Try.f9.params.toList args.toList ds p := hA0
  rw [Try.params9] at hA hval hsz
  obtain ⟨v0, vs0, d0, ds0, p0, q0, hargs, rfl, rfl, h0, r0⟩ := trodAll_cons hA
  obtain ⟨v1, vs1, d1, ds1, p1, q1, rfl, rfl, rfl, h1, r1⟩ := trodAll_cons r0
  obtain ⟨v2, vs2, d2, ds2, p2, q2, rfl, rfl, rfl, h2, r2⟩ := trodAll_cons r1
  obtain ⟨rfl, rfl, rfl⟩ := trodAll_nil r2
  obtain rfl : args = #[v0, v1, v2] := by cases args; simp_all
  obtain ⟨rfl, rfl⟩ := trodVars_none hV
  have lt0 : ∀ x ∈ p0, x.block < W.heap.size := by obtain ⟨m, hm⟩ := h0; exact DataW.trod_lt m _ _ _ hm
  have hw0 : ∀ m ∈ d0.weights Try.prog 30, m ≤ reachBytes := fun m hm => of_decide_eq_true (List.all_eq_true.1 hsz m (DataW.weights_mem_each (j := 0) (t := 30) rfl rfl m hm))
  obtain ⟨a0, K0, g0⟩ : ∃ a, ((Kd.slice 49 k49) : Kd (List S49)).K W a v0.cells.toList ∧ ((∀ y ∈ a, good49 y) ∧ a.length * 48 ≤ reachBytes) := by
    obtain ⟨fuel, hf⟩ := h0
    exact (opens_slice Try.underlying30 (by kernel_rfl) (B := 48) (by kernel_rfl) z49 opens49) hf hw0
  obtain ⟨A0, n0, c0, rfl⟩ := okWide_slice Try.underlying30 (hval 0 30 v0 rfl rfl)
  obtain ⟨A0', c0', e0, hc0, C0⟩ := K0
  simp [Value.cells] at e0
  obtain ⟨rfl, rfl, rfl⟩ := e0
  have lt1 : ∀ x ∈ p1, x.block < W.heap.size := by obtain ⟨m, hm⟩ := h1; exact DataW.trod_lt m _ _ _ hm
  have hw1 : ∀ m ∈ d1.weights Try.prog 9, m ≤ reachBytes := fun m hm => of_decide_eq_true (List.all_eq_true.1 hsz m (DataW.weights_mem_each (j := 1) (t := 9) rfl rfl m hm))
  obtain ⟨a1, K1, g1⟩ : ∃ a, (Kd.string : Kd ByteArray).K W a v1.cells.toList ∧ (a.size ≤ reachBytes) := by
    obtain ⟨fuel, hf⟩ := h1
    exact (opens_string Try.underlying9) hf hw1
  obtain rfl : v1 = .string a1 := by
    obtain ⟨x, rfl, _⟩ := open_string Try.underlying9 (hval 1 9 v1 rfl rfl) h1
    have := K1
    simpa [Kd.string, Kd.scalar, Value.cells] using this
  have lt2 : ∀ x ∈ p2, x.block < W.heap.size := by obtain ⟨m, hm⟩ := h2; exact DataW.trod_lt m _ _ _ hm
  have hw2 : ∀ m ∈ d2.weights Try.prog 29, m ≤ reachBytes := fun m hm => of_decide_eq_true (List.all_eq_true.1 hsz m (DataW.weights_mem_each (j := 2) (t := 29) rfl rfl m hm))
  obtain ⟨a2, K2, g2⟩ : ∃ a, (k29 : Kd S29).K W a v2.cells.toList ∧ (good29 a) := by
    obtain ⟨fuel, hf⟩ := h2
    exact opens29 hf hw2
  obtain ⟨cs2, rfl, _⟩ := okWide_array Try.underlying29 (hval 2 29 v2 rfl rfl)
  have KO2 := k29_open K2
  obtain rfl : cs2 = #[.int .i64 a2.f0.f0, .int .u64 a2.f0.f1, .int .i64 a2.f1.f0, .int .u64 a2.f1.f1] := by
    have : cs2.toList = _ := KO2
    cases cs2; simp_all
  obtain ⟨k, hk⟩ := Pure.RightLowers a0 a1 a2 g0 g1 g2
  clear hA0 hval0 hsz0 hsz
  refine (oculuslaw06_RightLowers.calls k A0 c0 a0 a1 (a2.f0.f0) (a2.f0.f1) (a2.f1.f0) (a2.f1.f1) true W C0 hc0 hk).mono fun e W' ⟨he, bel0⟩ => ?_
  have bel : Below W.heap.size W W' := bel0
  subst he
  exact ⟨_, rfl, _, _, _, [], _, [], hW', trodAll_mk1 (shut_bool Try.underlying4 _), (trodAll_cons_mk (Below.trod laidOut (by kernel_rfl) (of_decide_eq_true (by kernel_rfl)) h0 bel lt0) (trodAll_cons_mk (Below.trod laidOut (by kernel_rfl) (of_decide_eq_true (by kernel_rfl)) h1 bel lt1) (trodAll_cons_mk (Below.trod laidOut (by kernel_rfl) (of_decide_eq_true (by kernel_rfl)) h2 bel lt2) trodAll_mk0))), rfl, bel.frame _, fun h => by cases h⟩
theorem over : Rows.rightLowersRow.holds Try.pinned (OpenSpec.ofChange Rows.rightLowersSpec) :=
  OpenClaim.holds_of_wide 9 Try.f9 rfl rfl rfl rfl rfl rfl rfl ⟨rfl, rfl, rfl, rfl, rfl⟩ rfl rfl rfl rfl rfl (by kernel_rfl) Try.func9 (by kernel_rfl)
    (of_decide_eq_true (by kernel_rfl)) (by unfold Func.isWrapper; first | (rw [if_pos (by decide +kernel)]; kernel_rfl) | (rw [if_neg (by decide +kernel)]; exact ⟨rfl, rfl⟩))
    (fun os started H enc _ => lifted os started H enc)
theorem proved : Rows.RightLowersSaid := over
end Go.Proofs.Ytlchgkoafabapaa.rightLowers
namespace Go.Proofs.Ytlchgkoafabapaa
/-- The row, under a short name, for the claim. -/
theorem rightLowers_holds : Rows.RightLowersSaid := rightLowers.proved
#print axioms rightLowers_holds
end Go.Proofs.Ytlchgkoafabapaa
