/- The law RightGrants: for every input the call returns true, and each argument reads afterwards as it read before: the statement Rows.RightGrantsSaid, whole, with no condition of ours. -/
import Derived.Test.YtlchgkoafabapaaRows
import Derived.WalkKit
import Derived.ProofKit
import Derived.OpenShut
import Derived.ShutString
import Derived.ChangeOld
import Derived.Below
import Derived.SizedLaws
import Derived.Carry
import Derived.Test.YtlchgkoafabapaaBRightGrants3
namespace Go.Proofs.Ytlchgkoafabapaa.X
open Go.RowKit Go.Proofs.YtlchgkoafabapaaW.PrintWords Go.Proofs.YtlchgkoafabapaaW.PrintLast Go.Proofs.YtlchgkoafabapaaW.PrintMore
attribute [local go_sem] max2_int min2_int max_two min_two max_three min_three max_four min_four   -- for this text's walks alone
set_option linter.unusedVariables false
set_option linter.unusedSimpArgs false

/-! ### right_Users: function 52 -/
mutual
def right_Users.l0 : Nat → List (S93) → List (S93) → Int → Int → Option (Int × Int)
  | 0, _, _, _, _ => none
  | k + 1, x0, x8, x9, x10 => if x10 < x9 then (if 0 ≤ x10 then (if x10 < (x8.length : Int) then (if x10 ≤ (x0.length : Int) then ((right_Find.f k (x0.take (x10 : Int).toNat) ((rd_T93 x8 x10).f0)).bind fun bt468 => (right_Users.j1 k x0 x10 bt468.2.2 x8 x9 x10 ((rd_T93 x8 x10).f0) ((rd_T93 x8 x10).f1.f0) ((rd_T93 x8 x10).f1.f1))) else (none)) else (none)) else (none)) else (some (0, 0))
def right_Users.j1 : Nat → List (S93) → Int → Bool → List (S93) → Int → Int → ByteArray → Int → Int → Option (Int × Int)
  | 0, _, _, _, _, _, _, _, _, _ => none
  | k + 1, x0, x4, x7, x8, x9, x10, x464000, x464001, x464002 => if x4 ≥ 16 then (some (x4, 10)) else ((right_Name.f k x464000).bind fun t472 => (if t472 = true then (if x7 = true then (some (x4, 8)) else ((label_May.f x464001 x464002).bind fun t473 => (if t473 = true then (right_Users.l0 k x0 x8 x9 (wrap64 (x10 + 1))) else (some (x4, 7))))) else (some (x4, 1))))
end
def right_Users.f (k : Nat) (l0 : List (S93)) : Option (Int × Int) := right_Users.l0 k l0 l0 (l0.length : Int) 0
theorem right_Users.mono_l : ∀ k, (∀ y0 y1 y2 y3, LeO (right_Users.l0 k y0 y1 y2 y3) (right_Users.l0 (k + 1) y0 y1 y2 y3)) ∧ (∀ y0 y1 y2 y3 y4 y5 y6 y7 y8, LeO (right_Users.j1 k y0 y1 y2 y3 y4 y5 y6 y7 y8) (right_Users.j1 (k + 1) y0 y1 y2 y3 y4 y5 y6 y7 y8))
  | 0 => ⟨fun _ _ _ _ r h => by simp [right_Users.l0] at h, fun _ _ _ _ _ _ _ _ _ r h => by simp [right_Users.j1] at h⟩
  | k + 1 => by
    obtain ⟨ih0, ih1⟩ := right_Users.mono_l k
    refine ⟨?_, ?_⟩
    · intro y0 y1 y2 y3
      unfold right_Users.l0
      repeat' first
      | (with_reducible exact ih0 _ _ _ _)
      | (with_reducible exact ih1 _ _ _ _ _ _ _ _ _)
      | (with_reducible exact right_Find.mono _ _ _)
      | (with_reducible exact right_Name.mono _ _)
      | (with_reducible exact LeO.refl _)
      | (with_reducible exact LeO.none _)
      | (with_reducible refine LeO.ite ?_ ?_)
      | (with_reducible refine LeO.bind ?_ (fun _ => ?_))
      | exact ih0 _ _ _ _
      | exact ih1 _ _ _ _ _ _ _ _ _
      | exact right_Find.mono _ _ _
      | exact right_Name.mono _ _
      | exact LeO.none _
      | refine LeO.ite ?_ ?_
      | refine LeO.bind ?_ (fun _ => ?_)
    · intro y0 y1 y2 y3 y4 y5 y6 y7 y8
      unfold right_Users.j1
      repeat' first
      | (with_reducible exact ih0 _ _ _ _)
      | (with_reducible exact ih1 _ _ _ _ _ _ _ _ _)
      | (with_reducible exact right_Find.mono _ _ _)
      | (with_reducible exact right_Name.mono _ _)
      | (with_reducible exact LeO.refl _)
      | (with_reducible exact LeO.none _)
      | (with_reducible refine LeO.ite ?_ ?_)
      | (with_reducible refine LeO.bind ?_ (fun _ => ?_))
      | exact ih0 _ _ _ _
      | exact ih1 _ _ _ _ _ _ _ _ _
      | exact right_Find.mono _ _ _
      | exact right_Name.mono _ _
      | exact LeO.none _
      | refine LeO.ite ?_ ?_
      | refine LeO.bind ?_ (fun _ => ?_)
theorem right_Users.mono : ∀ a0 k, LeO (right_Users.f k a0) (right_Users.f (k + 1) a0) := by
  intro a0 k
  obtain ⟨ih0, ih1⟩ := right_Users.mono_l k
  unfold right_Users.f
  repeat' first
      | (with_reducible exact ih0 _ _ _ _)
      | (with_reducible exact ih1 _ _ _ _ _ _ _ _ _)
      | (with_reducible exact right_Find.mono _ _ _)
      | (with_reducible exact right_Name.mono _ _)
      | (with_reducible exact LeO.refl _)
      | (with_reducible exact LeO.none _)
      | (with_reducible refine LeO.ite ?_ ?_)
      | (with_reducible refine LeO.bind ?_ (fun _ => ?_))
      | exact ih0 _ _ _ _
      | exact ih1 _ _ _ _ _ _ _ _ _
      | exact right_Find.mono _ _ _
      | exact right_Name.mono _ _
      | exact LeO.none _
      | refine LeO.ite ?_ ?_
      | refine LeO.bind ?_ (fun _ => ?_)
def right_Users.T4 : Bool × List (List Nat × List Nat) := (true, [([], []), ([], []), ([0, 1], [0, 1]), ([], []), ([3], [3]), ([2, 4], [2, 4]), ([5], [5]), ([6], [6]), ([6], [6]), ([], []), ([9, 7, 5, 0, 1, 2, 3, 4, 5, 6, 7, 9], [7, 9]), ([8, 10, 0, 1, 2, 3, 4, 5, 6, 7, 8, 9, 10], [8])])
def right_Users.B4 : List Nat := [0, 0, 3, 0, 8, 31, 63, 127, 127, 0, 767, 2047]
theorem right_Users.tab4 : rtab .any (opsOf Try.f52 4) = right_Users.T4 := by kernel_rfl
theorem right_Users.bits4 : waitsOk right_Users.T4.2 right_Users.B4 = true := by kernel_rfl
set_option maxHeartbeats 8000000 in
set_option maxRecDepth 100000 in
theorem right_Users.calls (k : Nat) (A0 : Option Addr) (c0 : Nat) (l0 : List (S93)) (r1 : Int) (r2 : Int) (w : World) (hr0 : Kd.C k93 w A0 l0.length l0) (hc0 : l0.length ≤ c0) (h : right_Users.f k l0 = some (r1, r2)) :
    Calls Try.prog 52 #[.slice A0 l0.length c0] w fun e w' => e = .returned (.tuple #[.int .i64 r1, .int .i64 r2]) ∧ Below w.heap.size w w' := by
  have hu93 := Try.underlying93
  have hu26 := Try.underlying26
  have HR0 := Aside0.mk hr0
  have HC0 := Aside0.mk hc0
  clear hr0 hc0
  have HB := Aside0.mk (Below.refl w.heap.size w)
  have H : (right_Users.l0 k l0 l0 (l0.length : Int) 0) = some (r1, r2) := h
  clear h
  have H' := Aside0.mk H
  clear H
  go_enter Try.func52, Try.ntmps52
  go_wp2
  go_loopg [10] k (fun kq v10 w' => ∃ (x10_1 : Int), v10 = .int .i64 x10_1 ∧ Aside0 (right_Users.l0 kq l0 l0 (l0.length : Int) x10_1 = some (r1, r2)) ∧ Aside0 (kq ≤ k) ∧ Aside0 (Below w.heap.size w w'))
  case atStart => exact ⟨(0), (by first | rfl | (simp; done) | (simp [*]; done)), H', ⟨Nat.le_refl _⟩, ⟨pbx HB⟩⟩
  case round =>
    clear H'
    obtain ⟨x10_1, rfl, HA, HK1, HB⟩ := hrel
    cases gk with
    | zero => exact absurd HA.out (by simp [right_Users.l0])
    | succ k1 =>
      have H := HA.out
      clear HA
      simp only [right_Users.l0] at H
      by_cases c2 : x10_1 < (l0.length : Int)
      · rw [if_pos c2] at H
        have c2b0 : decide (x10_1 < (l0.length : Int)) = true := decide_eq_true c2
        clear c2
        by_cases c3 : 0 ≤ x10_1
        · rw [if_pos c3] at H
          have c3b0 : decide (0 ≤ x10_1) = true := decide_eq_true c3
          clear c3
          by_cases c4 : x10_1 < (l0.length : Int)
          · rw [if_pos c4] at H
            have c4b0 : decide (x10_1 < (l0.length : Int)) = true := decide_eq_true c4
            clear c4
            have HC5 := Aside0.mk H
            clear H
            have p462 : 0 ≤ (x10_1 : Int) := of_decide_eq_true (by first | (with_reducible assumption) | assumption)
            have q462 : x10_1 < (l0.length : Int) := of_decide_eq_true (by first | (with_reducible assumption) | assumption)
            obtain ⟨ad462, e462, hx462_0, hx462_1, hx462_2⟩ := at_T93 HR0.out x10_1 p462 q462
            cases e462
            replace hx462_0 := (HB.out.cell (World.block_lt_of_cell? w _ hx462_0)).trans hx462_0
            replace hx462_1 := (HB.out.cell (World.block_lt_of_cell? w _ hx462_1)).trans hx462_1
            replace hx462_2 := (HB.out.cell (World.block_lt_of_cell? w _ hx462_2)).trans hx462_2
            replace p462 := eq_true p462
            replace q462 := eq_true q462
            go_upto_region 4 with (first | ((with_reducible refine gate_dst (N := 5) rfl ?_); refine box_event ?hg (N := 5) ?hd (cs := #[.string (⟨#[]⟩ : ByteArray), .int .i64 0, .int .u64 0]) (t := 93) ?hr ?_; (case hd => rfl); (case hg => rfl); (case hr => first | (go_simp; done) | (go_simp; rfl)); intro gb463 hg w6 hbox hb; have n0_ := Aside0.mk (below_step (pbx HB) hb); have n1_ := Aside0.mk (hbox); have n2_ := Aside0.mk ((by rw [hg]; exact (below_size (pbx HB)) : w.heap.size ≤ gb463)); have n3_ := Aside0.mk ((by rw [hg]; exact (below_size (pbx HB)) : w.heap.size ≤ gb463)); clear HB; have HB := n0_; have BK463 := n1_; have GW463 := n2_; have GE463 := n3_; clear n0_ n1_ n2_ n3_; clear hb hbox hg; have hcz7_0 : w6.cell? ⟨gb463, 0, none⟩ = some (.string (⟨#[]⟩ : ByteArray)) := (blk_cell BK463.out 0).trans rfl; have hcz7_1 : w6.cell? ⟨gb463, 1, none⟩ = some (.int .i64 0) := (blk_cell BK463.out 1).trans rfl; have hcz7_2 : w6.cell? ⟨gb463, 2, none⟩ = some (.int .u64 0) := (blk_cell BK463.out 2).trans rfl; have hfz7_0 := blk_frozen BK463.out 0; have hfz7_1 := blk_frozen BK463.out 1; have hfz7_2 := blk_frozen BK463.out 2))
            (try simp only [Act.put, List.setIfInBounds_toArray, List.set_cons_zero, List.set_cons_succ])
            go_cut [7] (fun v7 wc => ∃ (kq : Nat) (x7_4 : Bool), v7 = .bool x7_4 ∧ Aside0 (right_Users.j1 kq l0 x10_1 x7_4 l0 (l0.length : Int) x10_1 ((rd_T93 l0 x10_1).f0) ((rd_T93 l0 x10_1).f1.f0) ((rd_T93 l0 x10_1).f1.f1) = some (r1, r2)) ∧ Aside0 (kq ≤ k1) ∧ Aside0 (wc.heap[gb463]? = some (.cells #[.string ((rd_T93 l0 x10_1).f0), .int .i64 ((rd_T93 l0 x10_1).f1.f0), .int .u64 ((rd_T93 l0 x10_1).f1.f1)] 93 (0, 0))) ∧ Aside0 (Below w.heap.size w wc))
            case first =>
              have H := HC5.out
              clear HC5
              have c8b0 := eq_true (of_decide_eq_true (by first | (with_reducible assumption) | assumption) : 0 ≤ x10_1)
              by_cases c9 : x10_1 ≤ (l0.length : Int)
              · rw [if_pos c9] at H
                have c9b0 := eq_true c9
                have c9b1 : decide (x10_1 ≤ (l0.length : Int)) = true := decide_eq_true c9
                clear c9
                obtain ⟨y464, hy464⟩ : ∃ y_ : List (S93), y_ = (l0.take (x10_1 : Int).toNat) := ⟨_, rfl⟩
                replace H : ((right_Find.f k1 y464 ((rd_T93 l0 x10_1).f0)).bind fun bt468 => (right_Users.j1 k1 l0 x10_1 bt468.2.2 l0 (l0.length : Int) x10_1 ((rd_T93 l0 x10_1).f0) ((rd_T93 l0 x10_1).f1.f0) ((rd_T93 l0 x10_1).f1.f1))) = some (r1, r2) := by first | (rw [hy464]; with_reducible exact H) | (have H2_ := (Option.bind_some _ _).symm.trans H; rw [hy464]; with_reducible exact H2_) | (have H2_ := (Option.bind_some _ _).symm.trans H; with_reducible exact H2_) | with_reducible exact H | (rw [hy464]; exact H) | exact H
                have Ny464 := Aside0.mk hy464
                clear hy464
                replace H := Option.bind_eq_some_iff.mp H
                obtain ⟨⟨t468, t469, t470⟩, A100, H⟩ := H
                replace H : (right_Users.j1 k1 l0 x10_1 t470 l0 (l0.length : Int) x10_1 ((rd_T93 l0 x10_1).f0) ((rd_T93 l0 x10_1).f1.f0) ((rd_T93 l0 x10_1).f1.f1)) = some (r1, r2) := H
                have A10 := Aside0.mk A100
                clear A100
                have H' := Aside0.mk H
                clear H
                try go_wp2
                have n0_ : Aside0 ((((w6.setCell ⟨gb463, 0, none⟩ (.string ((rd_T93 l0 x10_1).f0))).setCell ⟨gb463, 1, none⟩ (.int .i64 ((rd_T93 l0 x10_1).f1.f0))).setCell ⟨gb463, 2, none⟩ (.int .u64 ((rd_T93 l0 x10_1).f1.f1))).heap[gb463]? = some (.cells #[.string ((rd_T93 l0 x10_1).f0), .int .i64 ((rd_T93 l0 x10_1).f1.f0), .int .u64 ((rd_T93 l0 x10_1).f1.f1)] 93 (0, 0))) := ⟨by (with_reducible repeat (first | refine blk_drewN ?_ _ | refine blk_drew ?_ | refine blk_alloc ?_ _)); refine blk_put (cs := #[.string ((rd_T93 l0 x10_1).f0), .int .i64 ((rd_T93 l0 x10_1).f1.f0), .int .u64 0]) ?_ 2 _ rfl; (with_reducible repeat (first | refine blk_drewN ?_ _ | refine blk_drew ?_ | refine blk_alloc ?_ _)); refine blk_put (cs := #[.string ((rd_T93 l0 x10_1).f0), .int .i64 0, .int .u64 0]) ?_ 1 _ rfl; (with_reducible repeat (first | refine blk_drewN ?_ _ | refine blk_drew ?_ | refine blk_alloc ?_ _)); refine blk_put (cs := #[.string (⟨#[]⟩ : ByteArray), .int .i64 0, .int .u64 0]) ?_ 0 _ rfl; (with_reducible repeat (first | refine blk_drewN ?_ _ | refine blk_drew ?_ | refine blk_alloc ?_ _)); exact BK463.out⟩
                have n1_ : Aside0 (Below w.heap.size w (((w6.setCell ⟨gb463, 0, none⟩ (.string ((rd_T93 l0 x10_1).f0))).setCell ⟨gb463, 1, none⟩ (.int .i64 ((rd_T93 l0 x10_1).f1.f0))).setCell ⟨gb463, 2, none⟩ (.int .u64 ((rd_T93 l0 x10_1).f1.f1)))) := ⟨by repeat (first | (with_reducible first | exact HB.out | apply below_alloc | apply pw_below_drewN | apply below_drew1 | refine below_set ?_ GE463.out) | exact HB.out)⟩
                (try clear BK463)
                (try clear HB)
                generalize (((w6.setCell ⟨gb463, 0, none⟩ (.string ((rd_T93 l0 x10_1).f0))).setCell ⟨gb463, 1, none⟩ (.int .i64 ((rd_T93 l0 x10_1).f1.f0))).setCell ⟨gb463, 2, none⟩ (.int .u64 ((rd_T93 l0 x10_1).f1.f1))) = w11 at n0_ n1_ ⊢
                have BK463 := n0_
                have HB := n1_
                clear n0_ n1_
                (try (rw [drewN_self w11]; generalize hq_ : World.drewN w11 _ = w11; have n0_ : Aside0 (w11.heap[gb463]? = some (.cells #[.string ((rd_T93 l0 x10_1).f0), .int .i64 ((rd_T93 l0 x10_1).f1.f0), .int .u64 ((rd_T93 l0 x10_1).f1.f1)] 93 (0, 0))) := ⟨by rw [← hq_]; exact (pkx BK463)⟩; have n1_ : Aside0 (Below w.heap.size w w11) := ⟨by rw [← hq_]; exact (pbx HB)⟩; clear BK463 HB hq_; have BK463 := n0_; have HB := n1_; clear n0_ n1_))
                have n0_ := Aside0.mk (blk_drew BK463.out)
                have n1_ := Aside0.mk (below_drew1 HB.out)
                clear BK463
                clear HB
                have BK463 := n0_
                have HB := n1_
                clear n0_ n1_
                have q13 : (x10_1 : Int) ≤ ((l0.length : Int) : Int) := of_decide_eq_true (by first | (with_reducible assumption) | assumption)
                obtain ⟨i013, hi013, _, hsz13, _⟩ := info_parts info93
                have hroom13 : l0.length ≤ c0 := HC0.out
                have hC13 : Kd.C k93 _ (some ad462) l0.length l0 := HR0.out
                have hcut13 := cut_to (P := Try.prog) 81 93 .i64 Try.underlying81 hi013 (some ad462) l0.length c0 x10_1 (of_decide_eq_true (by first | (with_reducible assumption) | assumption)) q13 hroom13
                have hr13 := Kd.C_take (m := (x10_1 : Int).toNat) hC13 (by omega)
                have hy13 : y464.length = (x10_1 : Int).toNat := (by rw [Ny464.out, List.length_take]; omega)
                rw [← Ny464.out] at hr13
                rw [← hy13] at hcut13
                have HR467 := Aside0.mk hr13
                have HC467 := Aside0.mk (show y464.length ≤ c0 from by omega)
                clear hr13 hC13 hroom13 hi013 hsz13
                have KY13 := Aside0.mk hy13
                clear hy13
                replace q13 := eq_true q13
                refine start_ (n := 12) (S := fun w' => w'.cell? ⟨gb463, 0, none⟩ = some (.string ((rd_T93 l0 x10_1).f0)) ∧ w'.cell? ⟨gb463, 1, none⟩ = some (.int .i64 ((rd_T93 l0 x10_1).f1.f0)) ∧ w'.cell? ⟨gb463, 2, none⟩ = some (.int .u64 ((rd_T93 l0 x10_1).f1.f1))) (ds := []) #[false, false, false, false, false, false, false, false, false, false, false, false] (by kernel_rfl) rfl rfl ⟨(blk_cell BK463.out 0).trans rfl, (blk_cell BK463.out 1).trans rfl, (blk_cell BK463.out 2).trans rfl⟩ (fun hHeld => ?_); refine with_tabW right_Users.tab4 right_Users.bits4 (fun HT_ HW_ => ?_)
                generalize w11.drew = w12 at BK463 HB HR467 hHeld ⊢
                refine pure_ (i := 0) (N := some 16) (v := ?_) (a' := ?_) #[true, false, false, false, false, false, false, false, false, false, false, false] rfl rfl (any_of HT_.out (by kernel_rfl)) (fun _ _ _ h => h) (Or.inl ⟨by rfl, ?_⟩) ?_ ?_
                rotate_left
                · intro w'
                  go_simp
                  with_reducible rfl
                rotate_left
                · simp only [Act.put, List.setIfInBounds_toArray, List.set_cons_zero, List.set_cons_succ, i64_w, i32_w]
                  rfl
                refine pure_ (i := 1) (N := some 17) (v := ?_) (a' := ?_) #[true, true, false, false, false, false, false, false, false, false, false, false] rfl rfl (any_of HT_.out (by kernel_rfl)) (fun _ _ _ h => h) (Or.inl ⟨by rfl, ?_⟩) ?_ ?_
                rotate_left
                · intro w'
                  go_simp
                  with_reducible rfl
                rotate_left
                · simp only [Act.put, List.setIfInBounds_toArray, List.set_cons_zero, List.set_cons_succ, i64_w, i32_w]
                  rfl
                refine pure_ (i := 2) (N := some 18) (v := ?_) (a' := ?_) #[true, true, true, false, false, false, false, false, false, false, false, false] rfl rfl (any_of HT_.out (by kernel_rfl)) (fun _ _ _ h => h) (Or.inl ⟨by rfl, ?_⟩) ?_ ?_
                rotate_left
                · intro w'
                  go_simp
                  with_reducible rfl
                rotate_left
                · simp only [Act.put, List.setIfInBounds_toArray, List.set_cons_zero, List.set_cons_succ, i64_w, i32_w]
                  rfl
                refine pure_ (i := 3) (N := some 19) (v := ?_) (a' := ?_) #[true, true, true, true, false, false, false, false, false, false, false, false] rfl rfl (any_of HT_.out (by kernel_rfl)) (fun _ _ _ h => h) (Or.inl ⟨by rfl, ?_⟩) ?_ ?_
                rotate_left
                · intro w'
                  go_simp
                  with_reducible rfl
                rotate_left
                · simp only [Act.put, List.setIfInBounds_toArray, List.set_cons_zero, List.set_cons_succ, i64_w, i32_w]
                  rfl
                refine take_ (i := 4) (N := some 20) (v := ?_) (a' := ?_) #[true, true, true, true, true, false, false, false, false, false, false, false] rfl rfl (take_ofW HT_.out HW_.out (by kernel_rfl)) (fun _ _ _ h => h) (Or.inl ⟨by rfl, ?_⟩) hHeld ?_ ?_
                rotate_left
                · rintro w' ⟨s0, s1, s2⟩
                  go_simp
                  with_reducible rfl
                rotate_left
                · simp only [Act.put, List.setIfInBounds_toArray, List.set_cons_zero, List.set_cons_succ, i64_w, i32_w]
                  rfl
                refine join_ (σ := Nat) 2 #[true, true, true, true, true, true, true, true, true, true, false, false] (fun s_ => [(21, .tuple #[.agg #[.int .i64 t468, .int .u64 t469], .bool t470]), (6, .pointer (some ⟨s_, 0, none⟩)), (15, .tuple #[.agg #[.int .i64 t468, .int .u64 t469], .bool t470]), (22, .agg #[.int .i64 t468, .int .u64 t469]), (23, .bool t470)]) (fun s_ w' => (w'.cell? ⟨gb463, 0, none⟩ = some (.string ((rd_T93 l0 x10_1).f0)) ∧ w'.cell? ⟨gb463, 1, none⟩ = some (.int .i64 ((rd_T93 l0 x10_1).f1.f0)) ∧ w'.cell? ⟨gb463, 2, none⟩ = some (.int .u64 ((rd_T93 l0 x10_1).f1.f1))) ∧ (w'.heap[gb463]? = some (.cells #[.string ((rd_T93 l0 x10_1).f0), .int .i64 ((rd_T93 l0 x10_1).f1.f0), .int .u64 ((rd_T93 l0 x10_1).f1.f1)] 93 (0, 0))) ∧ (w'.heap[s_]? = some (.cells #[.int .i64 0, .int .u64 0] 26 (0, 0))) ∧ (w.heap.size ≤ s_) ∧ (w.heap.size ≤ s_) ∧ (gb463 ≠ s_) ∧ (s_ ≠ gb463) ∧ (Below w.heap.size w w')) ?_ ?_
                rotate_left
                · intro hCont
                  refine two_ (i := 5) (j := 9) (Ni := some 21) (Nj := some 6) #[true, true, true, true, true, true, false, false, false, false, false, false] #[true, true, true, true, true, false, false, false, false, true, false, false] rfl rfl rfl rfl (two_of HT_.out (by kernel_rfl)) (by decide) (by decide) (fun K hK => ?_) (fun K hK => ?_)
                  · skip
                    refine goes_ Try.func48 (by kernel_rfl) rfl #[.slice (some ad462) y464.length c0, .string ((rd_T93 l0 x10_1).f0)] (by rfl) rfl rfl (by (try simp only [List.map_toArray, List.map_cons, List.map_nil]); first | done | rfl | (simp only [List.length_drop, List.length_take]; rfl)) ?_
                    with_reducible refine (right_Find.calls k1 _ _ y464 ((rd_T93 l0 x10_1).f0) t468 t469 t470 _ ?side1 ?side2 A10.out).mono ?_
                    (case side1 => repeat (first | exact (Kd.C_below HR467.out HB.out) | (with_reducible refine Kd.C_alloc ?_ _) | (with_reducible refine Kd.C_drewN ?_ _) | (with_reducible refine Kd.C_drew ?_)))
                    (case side2 => exact HC467.out)
                    rintro e w14 ⟨rfl, hb⟩
                    refine ⟨_, rfl, ?_⟩
                    have n0_ := Aside0.mk (blk_below (pkx BK463) hb)
                    have n1_ := Aside0.mk (below_step (pbx HB) hb)
                    clear BK463
                    clear HB
                    have BK463 := n0_
                    have HB := n1_
                    clear n0_ n1_
                    (try clear hb)
                    (try clear hb2)
                    (try clear hk)
                    (try clear hi)
                    refine hK.out _ _ ⟨(blk_cell BK463.out 0).trans rfl, (blk_cell BK463.out 1).trans rfl, (blk_cell BK463.out 2).trans rfl⟩ (fun hHeld => ?_)
                    clear hK K
                    refine norm_ (a' := ?_) ?_ ?_
                    rotate_left
                    · show Act.put _ (some 21) _ = _
                      simp only [Act.put, List.setIfInBounds_toArray, List.set_cons_zero, List.set_cons_succ, i64_w, i32_w]
                      rfl
                    refine pure_ (i := 6) (N := some 15) (v := ?_) (a' := ?_) #[true, true, true, true, true, true, true, false, false, false, false, false] rfl rfl (any_of HT_.out (by kernel_rfl)) (fun _ _ _ h => h) (Or.inl ⟨by rfl, ?_⟩) ?_ ?_
                    rotate_left
                    · intro w'
                      go_simp
                      with_reducible rfl
                    rotate_left
                    · simp only [Act.put, List.setIfInBounds_toArray, List.set_cons_zero, List.set_cons_succ, i64_w, i32_w]
                      rfl
                    refine pure_ (i := 7) (N := some 22) (v := ?_) (a' := ?_) #[true, true, true, true, true, true, true, true, false, false, false, false] rfl rfl (any_of HT_.out (by kernel_rfl)) (fun _ _ _ h => h) (Or.inl ⟨by rfl, ?_⟩) ?_ ?_
                    rotate_left
                    · intro w'
                      go_simp
                      with_reducible rfl
                    rotate_left
                    · simp only [Act.put, List.setIfInBounds_toArray, List.set_cons_zero, List.set_cons_succ, i64_w, i32_w]
                      rfl
                    refine pure_ (i := 8) (N := some 23) (v := ?_) (a' := ?_) #[true, true, true, true, true, true, true, true, true, false, false, false] rfl rfl (any_of HT_.out (by kernel_rfl)) (fun _ _ _ h => h) (Or.inl ⟨by rfl, ?_⟩) ?_ ?_
                    rotate_left
                    · intro w'
                      go_simp
                      with_reducible rfl
                    rotate_left
                    · simp only [Act.put, List.setIfInBounds_toArray, List.set_cons_zero, List.set_cons_succ, i64_w, i32_w]
                      rfl
                    refine one_ (i := 9) (N := some 6) #[true, true, true, true, true, true, true, true, true, true, false, false] rfl rfl (one_of HT_.out (by kernel_rfl)) (by decide) (fun K hK => ?_)
                    refine box_step ?hg (N := 6) ?hd (cs := #[.int .i64 0, .int .u64 0]) (t := 26) ?hr ?_; (case hd => rfl); (case hg => rfl); (case hr => first | (go_simp; done) | (go_simp; rfl))
                    intro gb471 hg w15 hbox hb
                    have n0_ := Aside0.mk (blk_below (pkx BK463) hb)
                    have n1_ := Aside0.mk (below_step (pbx HB) hb)
                    have n2_ := Aside0.mk (hbox)
                    have n3_ := Aside0.mk ((by rw [hg]; exact (below_size (pbx HB)) : w.heap.size ≤ gb471))
                    have n4_ := Aside0.mk ((by rw [hg]; exact (below_size (pbx HB)) : w.heap.size ≤ gb471))
                    have n5_ := Aside0.mk ((by rw [hg]; exact Nat.ne_of_lt (blk_lt (pkx BK463)) : gb463 ≠ gb471))
                    have n6_ := Aside0.mk ((by rw [hg]; exact Nat.ne_of_gt (blk_lt (pkx BK463)) : gb471 ≠ gb463))
                    clear BK463
                    clear HB
                    have BK463 := n0_
                    have HB := n1_
                    have BK471 := n2_
                    have GW471 := n3_
                    have GE471 := n4_
                    have NB463_471 := n5_
                    have NB471_463 := n6_
                    clear n0_ n1_ n2_ n3_ n4_ n5_ n6_
                    clear hb hbox hg
                    refine hK.out _ _ ⟨(blk_cell BK463.out 0).trans rfl, (blk_cell BK463.out 1).trans rfl, (blk_cell BK463.out 2).trans rfl⟩ (fun hHeld => ?_)
                    clear hK K
                    refine norm_ (a' := ?_) ?_ ?_
                    rotate_left
                    · show Act.put _ (some 6) _ = _
                      simp only [Act.put, List.setIfInBounds_toArray, List.set_cons_zero, List.set_cons_succ, i64_w, i32_w]
                      rfl
                    exact norm_ (by simp only [putAll, Act.put, List.setIfInBounds_toArray, List.set_cons_zero, List.set_cons_succ]) (hCont (gb471) _ ⟨hHeld, (pkx BK463), (pkx BK471), GW471.out, GE471.out, NB463_471.out, NB471_463.out, (pbx HB)⟩)
                  · skip
                    refine box_step ?hg (N := 6) ?hd (cs := #[.int .i64 0, .int .u64 0]) (t := 26) ?hr ?_; (case hd => rfl); (case hg => rfl); (case hr => first | (go_simp; done) | (go_simp; rfl))
                    intro gb471 hg w14 hbox hb
                    have n0_ := Aside0.mk (blk_below (pkx BK463) hb)
                    have n1_ := Aside0.mk (below_step (pbx HB) hb)
                    have n2_ := Aside0.mk (hbox)
                    have n3_ := Aside0.mk ((by rw [hg]; exact (below_size (pbx HB)) : w.heap.size ≤ gb471))
                    have n4_ := Aside0.mk ((by rw [hg]; exact (below_size (pbx HB)) : w.heap.size ≤ gb471))
                    have n5_ := Aside0.mk ((by rw [hg]; exact Nat.ne_of_lt (blk_lt (pkx BK463)) : gb463 ≠ gb471))
                    have n6_ := Aside0.mk ((by rw [hg]; exact Nat.ne_of_gt (blk_lt (pkx BK463)) : gb471 ≠ gb463))
                    clear BK463
                    clear HB
                    have BK463 := n0_
                    have HB := n1_
                    have BK471 := n2_
                    have GW471 := n3_
                    have GE471 := n4_
                    have NB463_471 := n5_
                    have NB471_463 := n6_
                    clear n0_ n1_ n2_ n3_ n4_ n5_ n6_
                    clear hb hbox hg
                    refine hK.out _ _ ⟨(blk_cell BK463.out 0).trans rfl, (blk_cell BK463.out 1).trans rfl, (blk_cell BK463.out 2).trans rfl⟩ (fun hHeld => ?_)
                    clear hK K
                    refine norm_ (a' := ?_) ?_ ?_
                    rotate_left
                    · show Act.put _ (some 6) _ = _
                      simp only [Act.put, List.setIfInBounds_toArray, List.set_cons_zero, List.set_cons_succ, i64_w, i32_w]
                      rfl
                    refine one_ (i := 5) (N := some 21) #[true, true, true, true, true, true, false, false, false, true, false, false] rfl rfl (one_of HT_.out (by kernel_rfl)) (by decide) (fun K hK => ?_)
                    refine goes_ Try.func48 (by kernel_rfl) rfl #[.slice (some ad462) y464.length c0, .string ((rd_T93 l0 x10_1).f0)] (by rfl) rfl rfl (by (try simp only [List.map_toArray, List.map_cons, List.map_nil]); first | done | rfl | (simp only [List.length_drop, List.length_take]; rfl)) ?_
                    with_reducible refine (right_Find.calls k1 _ _ y464 ((rd_T93 l0 x10_1).f0) t468 t469 t470 _ ?side1 ?side2 A10.out).mono ?_
                    (case side1 => repeat (first | exact (Kd.C_below HR467.out HB.out) | (with_reducible refine Kd.C_alloc ?_ _) | (with_reducible refine Kd.C_drewN ?_ _) | (with_reducible refine Kd.C_drew ?_)))
                    (case side2 => exact HC467.out)
                    rintro e w15 ⟨rfl, hb⟩
                    refine ⟨_, rfl, ?_⟩
                    have n0_ := Aside0.mk (blk_below (pkx BK463) hb)
                    have n1_ := Aside0.mk (blk_below (pkx BK471) hb)
                    have n2_ := Aside0.mk (below_step (pbx HB) hb)
                    clear BK463
                    clear BK471
                    clear HB
                    have BK463 := n0_
                    have BK471 := n1_
                    have HB := n2_
                    clear n0_ n1_ n2_
                    (try clear hb)
                    (try clear hb2)
                    (try clear hk)
                    (try clear hi)
                    refine hK.out _ _ ⟨(blk_cell BK463.out 0).trans rfl, (blk_cell BK463.out 1).trans rfl, (blk_cell BK463.out 2).trans rfl⟩ (fun hHeld => ?_)
                    clear hK K
                    refine norm_ (a' := ?_) ?_ ?_
                    rotate_left
                    · show Act.put _ (some 21) _ = _
                      simp only [Act.put, List.setIfInBounds_toArray, List.set_cons_zero, List.set_cons_succ, i64_w, i32_w]
                      rfl
                    refine pure_ (i := 6) (N := some 15) (v := ?_) (a' := ?_) #[true, true, true, true, true, true, true, false, false, true, false, false] rfl rfl (any_of HT_.out (by kernel_rfl)) (fun _ _ _ h => h) (Or.inl ⟨by rfl, ?_⟩) ?_ ?_
                    rotate_left
                    · intro w'
                      go_simp
                      with_reducible rfl
                    rotate_left
                    · simp only [Act.put, List.setIfInBounds_toArray, List.set_cons_zero, List.set_cons_succ, i64_w, i32_w]
                      rfl
                    refine pure_ (i := 7) (N := some 22) (v := ?_) (a' := ?_) #[true, true, true, true, true, true, true, true, false, true, false, false] rfl rfl (any_of HT_.out (by kernel_rfl)) (fun _ _ _ h => h) (Or.inl ⟨by rfl, ?_⟩) ?_ ?_
                    rotate_left
                    · intro w'
                      go_simp
                      with_reducible rfl
                    rotate_left
                    · simp only [Act.put, List.setIfInBounds_toArray, List.set_cons_zero, List.set_cons_succ, i64_w, i32_w]
                      rfl
                    refine pure_ (i := 8) (N := some 23) (v := ?_) (a' := ?_) #[true, true, true, true, true, true, true, true, true, true, false, false] rfl rfl (any_of HT_.out (by kernel_rfl)) (fun _ _ _ h => h) (Or.inl ⟨by rfl, ?_⟩) ?_ ?_
                    rotate_left
                    · intro w'
                      go_simp
                      with_reducible rfl
                    rotate_left
                    · simp only [Act.put, List.setIfInBounds_toArray, List.set_cons_zero, List.set_cons_succ, i64_w, i32_w]
                      rfl
                    exact norm_ (by simp only [putAll, Act.put, List.setIfInBounds_toArray, List.set_cons_zero, List.set_cons_succ]) (hCont (gb471) _ ⟨hHeld, (pkx BK463), (pkx BK471), GW471.out, GE471.out, NB463_471.out, NB471_463.out, (pbx HB)⟩)
                rintro gb471 w16 ⟨hS_, h0_, h1_, h2_, h3_, h4_, h5_, h6_⟩
                have n0_ : Aside0 (w16.heap[gb463]? = some (.cells #[.string ((rd_T93 l0 x10_1).f0), .int .i64 ((rd_T93 l0 x10_1).f1.f0), .int .u64 ((rd_T93 l0 x10_1).f1.f1)] 93 (0, 0))) := ⟨h0_⟩
                have n1_ : Aside0 (w16.heap[gb471]? = some (.cells #[.int .i64 0, .int .u64 0] 26 (0, 0))) := ⟨h1_⟩
                have n2_ : Aside0 (w.heap.size ≤ gb471) := ⟨h2_⟩
                have n3_ : Aside0 (w.heap.size ≤ gb471) := ⟨h3_⟩
                have n4_ : Aside0 (gb463 ≠ gb471) := ⟨h4_⟩
                have n5_ : Aside0 (gb471 ≠ gb463) := ⟨h5_⟩
                have n6_ : Aside0 (Below w.heap.size w w16) := ⟨h6_⟩
                clear BK463
                clear HB
                clear h0_ h1_ h2_ h3_ h4_ h5_ h6_
                have BK463 := n0_
                have BK471 := n1_
                have GW471 := n2_
                have GE471 := n3_
                have NB463_471 := n4_
                have NB471_463 := n5_
                have HB := n6_
                clear n0_ n1_ n2_ n3_ n4_ n5_ n6_
                have hHeld : w16.cell? ⟨gb463, 0, none⟩ = some (.string ((rd_T93 l0 x10_1).f0)) ∧ w16.cell? ⟨gb463, 1, none⟩ = some (.int .i64 ((rd_T93 l0 x10_1).f1.f0)) ∧ w16.cell? ⟨gb463, 2, none⟩ = some (.int .u64 ((rd_T93 l0 x10_1).f1.f1)) := hS_
                refine norm_ (a' := ?_) ?_ ?_
                rotate_left
                · simp only [putAll, Act.put, List.setIfInBounds_toArray, List.set_cons_zero, List.set_cons_succ]
                  rfl
                refine one_ (i := 10) (N := none) #[true, true, true, true, true, true, true, true, true, true, true, false] rfl rfl (one_of HT_.out (by kernel_rfl)) (by decide) (fun K hK => ?_)
                have hs17 : w16.cell? ⟨gb471, 0, none⟩ = some (.int .i64 0) := (blk_cell BK471.out 0).trans rfl
                have hfs17 := blk_frozen BK471.out 0
                have hns17_0 := NB463_471.out
                have hms17_0 := NB471_463.out
                have hs18 : w16.cell? ⟨gb471, 1, none⟩ = some (.int .u64 0) := (blk_cell BK471.out 1).trans rfl
                have hfs18 := blk_frozen BK471.out 1
                have hns18_0 := NB463_471.out
                have hms18_0 := NB471_463.out
                refine skip_ (w1 := ?_) (by rfl) rfl ?_ ?_
                rotate_left
                · go_simp
                  rfl
                refine hK.out _ _ ⟨((cell_far (p := ⟨gb471, _, none⟩) NB463_471.out _).trans (((cell_far (p := ⟨gb471, _, none⟩) NB463_471.out _).trans (hHeld.1)))), ((cell_far (p := ⟨gb471, _, none⟩) NB463_471.out _).trans (((cell_far (p := ⟨gb471, _, none⟩) NB463_471.out _).trans (hHeld.2.1)))), ((cell_far (p := ⟨gb471, _, none⟩) NB463_471.out _).trans (((cell_far (p := ⟨gb471, _, none⟩) NB463_471.out _).trans (hHeld.2.2))))⟩ (fun hHeld => ?_)
                clear hK K
                refine pure_ (i := 11) (N := some 7) (v := ?_) (a' := ?_) #[true, true, true, true, true, true, true, true, true, true, true, true] rfl rfl (any_of HT_.out (by kernel_rfl)) (fun _ _ _ h => h) (Or.inl ⟨by rfl, ?_⟩) ?_ ?_
                rotate_left
                · intro w'
                  go_simp
                  with_reducible rfl
                rotate_left
                · simp only [Act.put, List.setIfInBounds_toArray, List.set_cons_zero, List.set_cons_succ, i64_w, i32_w]
                  rfl
                refine done_ (done_of HT_.out (by kernel_rfl)) ?_
                try go_wp2
                go_meet
                case rel => exact ⟨_, (t470), (by first | rfl | (simp; done) | (simp [*]; done) | (cases t470 <;> simp; done)), H', ⟨by have := HK1.out; first | omega | exact Nat.le_refl _⟩, ⟨by (with_reducible repeat (first | refine blk_drewN ?_ _ | refine blk_drew ?_ | refine blk_alloc ?_ _)); refine blk_far ?_ NB463_471.out _; (with_reducible repeat (first | refine blk_drewN ?_ _ | refine blk_drew ?_ | refine blk_alloc ?_ _)); refine blk_far ?_ NB463_471.out _; (with_reducible repeat (first | refine blk_drewN ?_ _ | refine blk_drew ?_ | refine blk_alloc ?_ _)); exact BK463.out⟩, ⟨by repeat (first | (with_reducible first | exact HB.out | apply below_alloc | apply pw_below_drewN | apply below_drew1 | refine below_set ?_ GE463.out | refine below_set ?_ GE471.out) | exact HB.out)⟩⟩
              · rw [if_neg c9] at H
                exact absurd H (by simp)
            case rest =>
              clear HC5
              try clear q1
              try clear c2
              try clear c2b0
              try clear p2
              try clear c3
              try clear c3b0
              try clear c4
              try clear c4b0
              try clear p4
              try clear q4
              try clear hx4
              try clear c5
              try clear c8
              try clear c8b0
              try clear c9
              try clear c9b0
              try clear c9b1
              try clear q13
              try clear hcz7_0
              try clear hcz7_1
              try clear hcz7_2
              try clear hfz7_0
              try clear hfz7_1
              try clear hfz7_2
              try clear hx462_0
              try clear hx462_1
              try clear hx462_2
              try clear p462
              try clear q13
              try clear q462
              obtain ⟨kq, x7_4, rfl, HA, HJ4, BK463, HB⟩ := hcut
              cases kq with
              | zero => exact absurd HA.out (by simp [right_Users.j1])
              | succ kj4 =>
                have H := HA.out
                clear HA
                simp only [right_Users.j1] at H
                by_cases c19 : x10_1 ≥ 16
                · rw [if_pos c19] at H
                  have c19b0 : decide (16 ≤ x10_1) = true := decide_eq_true c19
                  clear c19
                  simp only [Option.some.injEq, Prod.mk.injEq] at H
                  obtain ⟨rfl, rfl⟩ := H
                  go_wp2
                  go_ret2
                  exact ⟨by first | rfl | (simp [errW_none, errW_some] <;> rfl) | (simp [*, errW_none, errW_some] <;> rfl), pbx HB⟩
                · rw [if_neg c19] at H
                  have c19b0 : decide (16 ≤ x10_1) = false := decide_eq_false c19
                  clear c19
                  replace H := Option.bind_eq_some_iff.mp H
                  obtain ⟨t472, A200, H⟩ := H
                  replace H : (if t472 = true then (if x7_4 = true then (some (x10_1, 8)) else ((label_May.f ((rd_T93 l0 x10_1).f1.f0) ((rd_T93 l0 x10_1).f1.f1)).bind fun t473 => (if t473 = true then (right_Users.l0 kj4 l0 l0 (l0.length : Int) (wrap64 (x10_1 + 1))) else (some (x10_1, 7))))) else (some (x10_1, 1))) = some (r1, r2) := H
                  have A20 := Aside0.mk A200
                  clear A200
                  by_cases c21 : t472 = true
                  · subst c21
                    have H1 : (if x7_4 = true then (some (x10_1, 8)) else ((label_May.f ((rd_T93 l0 x10_1).f1.f0) ((rd_T93 l0 x10_1).f1.f1)).bind fun t473 => (if t473 = true then (right_Users.l0 kj4 l0 l0 (l0.length : Int) (wrap64 (x10_1 + 1))) else (some (x10_1, 7))))) = some (r1, r2) := by rw [if_pos rfl] at H; exact H
                    clear H
                    have H := H1
                    clear H1
                    by_cases c22 : x7_4 = true
                    · subst c22
                      have H1 : (some (x10_1, 8)) = some (r1, r2) := by rw [if_pos rfl] at H; exact H
                      clear H
                      have H := H1
                      clear H1
                      simp only [Option.some.injEq, Prod.mk.injEq] at H
                      obtain ⟨rfl, rfl⟩ := H
                      have hcz23_0 : wc.cell? ⟨gb463, 0, none⟩ = some (.string ((rd_T93 l0 x10_1).f0)) := (blk_cell BK463.out 0).trans rfl
                      have hcz23_1 : wc.cell? ⟨gb463, 1, none⟩ = some (.int .i64 ((rd_T93 l0 x10_1).f1.f0)) := (blk_cell BK463.out 1).trans rfl
                      have hcz23_2 : wc.cell? ⟨gb463, 2, none⟩ = some (.int .u64 ((rd_T93 l0 x10_1).f1.f1)) := (blk_cell BK463.out 2).trans rfl
                      have hfz23_0 := blk_frozen BK463.out 0
                      have hfz23_1 := blk_frozen BK463.out 1
                      have hfz23_2 := blk_frozen BK463.out 2
                      go_wp2_with (first | ((with_reducible refine gate_callee (f := 50) rfl ?_); refine goesL_ (some 31) rfl rfl Try.func50 (by kernel_rfl) rfl #[.string ((rd_T93 l0 x10_1).f0)] rfl (by (try simp only [List.map_toArray, List.map_cons, List.map_nil]); first | done | rfl | (simp only [List.length_drop, List.length_take]; rfl)) ?_; (with_reducible refine (right_Name.calls kj4 ((rd_T93 l0 x10_1).f0) true _ A20.out).mono ?_); rintro e w' ⟨rfl, ⟨nd, rfl⟩⟩; refine ⟨_, rfl, ?_⟩))
                      go_ret2
                      exact ⟨by first | rfl | (simp [errW_none, errW_some] <;> rfl) | (simp [*, errW_none, errW_some] <;> rfl), pbx HB⟩
                    · replace c22 := Bool.eq_false_iff.mpr c22
                      subst c22
                      have H1 : ((label_May.f ((rd_T93 l0 x10_1).f1.f0) ((rd_T93 l0 x10_1).f1.f1)).bind fun t473 => (if t473 = true then (right_Users.l0 kj4 l0 l0 (l0.length : Int) (wrap64 (x10_1 + 1))) else (some (x10_1, 7)))) = some (r1, r2) := by rw [if_neg (show ¬ (false = true) by decide)] at H; exact H
                      clear H
                      have H := H1
                      clear H1
                      replace H := Option.bind_eq_some_iff.mp H
                      obtain ⟨t473, A240, H⟩ := H
                      replace H : (if t473 = true then (right_Users.l0 kj4 l0 l0 (l0.length : Int) (wrap64 (x10_1 + 1))) else (some (x10_1, 7))) = some (r1, r2) := H
                      have A24 := Aside0.mk A240
                      clear A240
                      by_cases c25 : t473 = true
                      · subst c25
                        have H1 : (right_Users.l0 kj4 l0 l0 (l0.length : Int) (wrap64 (x10_1 + 1))) = some (r1, r2) := by rw [if_pos rfl] at H; exact H
                        clear H
                        have H := H1
                        clear H1
                        have H' := Aside0.mk H
                        clear H
                        have hcz26_0 : wc.cell? ⟨gb463, 0, none⟩ = some (.string ((rd_T93 l0 x10_1).f0)) := (blk_cell BK463.out 0).trans rfl
                        have hcz26_1 : wc.cell? ⟨gb463, 1, none⟩ = some (.int .i64 ((rd_T93 l0 x10_1).f1.f0)) := (blk_cell BK463.out 1).trans rfl
                        have hcz26_2 : wc.cell? ⟨gb463, 2, none⟩ = some (.int .u64 ((rd_T93 l0 x10_1).f1.f1)) := (blk_cell BK463.out 2).trans rfl
                        have hfz26_0 := blk_frozen BK463.out 0
                        have hfz26_1 := blk_frozen BK463.out 1
                        have hfz26_2 := blk_frozen BK463.out 2
                        go_wp2_with (first | ((with_reducible refine gate_callee (f := 50) rfl ?_); refine goesL_ (some 31) rfl rfl Try.func50 (by kernel_rfl) rfl #[.string ((rd_T93 l0 x10_1).f0)] rfl (by (try simp only [List.map_toArray, List.map_cons, List.map_nil]); first | done | rfl | (simp only [List.length_drop, List.length_take]; rfl)) ?_; (with_reducible refine (right_Name.calls kj4 ((rd_T93 l0 x10_1).f0) true _ A20.out).mono ?_); rintro e w' ⟨rfl, ⟨nd, rfl⟩⟩; refine ⟨_, rfl, ?_⟩) | ((with_reducible refine gate_callee (f := 74) rfl ?_); refine goesL_ (some 40) rfl rfl Try.func74 (by kernel_rfl) rfl #[.agg #[.int .i64 ((rd_T93 l0 x10_1).f1.f0), .int .u64 ((rd_T93 l0 x10_1).f1.f1)]] rfl (by (try simp only [List.map_toArray, List.map_cons, List.map_nil]); first | done | rfl | (simp only [List.length_drop, List.length_take]; rfl)) ?_; (with_reducible refine (label_May.calls ((rd_T93 l0 x10_1).f1.f0) ((rd_T93 l0 x10_1).f1.f1) true _ A24.out).mono ?_); rintro e w27 ⟨rfl, hb⟩; refine ⟨_, rfl, ?_⟩; have n0_ := Aside0.mk (blk_below (pkx BK463) hb); have n1_ := Aside0.mk (below_step (pbx HB) hb); clear BK463; clear HB; have BK463 := n0_; have HB := n1_; clear n0_ n1_; (try clear hb); (try clear hb2); (try clear hk); (try clear hi)))
                        go_roundg kj4
                        case measure => have := HK1.out; have := HJ4.out; omega
                        case rel => exact ⟨(wrap64 (x10_1 + 1)), (by first | rfl | (simp; done) | (simp [*]; done)), H', ⟨by have := HK1.out; have := HJ4.out; omega⟩, ⟨pbx HB⟩⟩
                      · replace c25 := Bool.eq_false_iff.mpr c25
                        subst c25
                        have H1 : (some (x10_1, 7)) = some (r1, r2) := by rw [if_neg (show ¬ (false = true) by decide)] at H; exact H
                        clear H
                        have H := H1
                        clear H1
                        simp only [Option.some.injEq, Prod.mk.injEq] at H
                        obtain ⟨rfl, rfl⟩ := H
                        have hcz28_0 : wc.cell? ⟨gb463, 0, none⟩ = some (.string ((rd_T93 l0 x10_1).f0)) := (blk_cell BK463.out 0).trans rfl
                        have hcz28_1 : wc.cell? ⟨gb463, 1, none⟩ = some (.int .i64 ((rd_T93 l0 x10_1).f1.f0)) := (blk_cell BK463.out 1).trans rfl
                        have hcz28_2 : wc.cell? ⟨gb463, 2, none⟩ = some (.int .u64 ((rd_T93 l0 x10_1).f1.f1)) := (blk_cell BK463.out 2).trans rfl
                        have hfz28_0 := blk_frozen BK463.out 0
                        have hfz28_1 := blk_frozen BK463.out 1
                        have hfz28_2 := blk_frozen BK463.out 2
                        go_wp2_with (first | ((with_reducible refine gate_callee (f := 50) rfl ?_); refine goesL_ (some 31) rfl rfl Try.func50 (by kernel_rfl) rfl #[.string ((rd_T93 l0 x10_1).f0)] rfl (by (try simp only [List.map_toArray, List.map_cons, List.map_nil]); first | done | rfl | (simp only [List.length_drop, List.length_take]; rfl)) ?_; (with_reducible refine (right_Name.calls kj4 ((rd_T93 l0 x10_1).f0) true _ A20.out).mono ?_); rintro e w' ⟨rfl, ⟨nd, rfl⟩⟩; refine ⟨_, rfl, ?_⟩) | ((with_reducible refine gate_callee (f := 74) rfl ?_); refine goesL_ (some 40) rfl rfl Try.func74 (by kernel_rfl) rfl #[.agg #[.int .i64 ((rd_T93 l0 x10_1).f1.f0), .int .u64 ((rd_T93 l0 x10_1).f1.f1)]] rfl (by (try simp only [List.map_toArray, List.map_cons, List.map_nil]); first | done | rfl | (simp only [List.length_drop, List.length_take]; rfl)) ?_; (with_reducible refine (label_May.calls ((rd_T93 l0 x10_1).f1.f0) ((rd_T93 l0 x10_1).f1.f1) false _ A24.out).mono ?_); rintro e w29 ⟨rfl, hb⟩; refine ⟨_, rfl, ?_⟩; have n0_ := Aside0.mk (blk_below (pkx BK463) hb); have n1_ := Aside0.mk (below_step (pbx HB) hb); clear BK463; clear HB; have BK463 := n0_; have HB := n1_; clear n0_ n1_; (try clear hb); (try clear hb2); (try clear hk); (try clear hi)))
                        go_ret2
                        exact ⟨by first | rfl | (simp [errW_none, errW_some] <;> rfl) | (simp [*, errW_none, errW_some] <;> rfl), pbx HB⟩
                  · replace c21 := Bool.eq_false_iff.mpr c21
                    subst c21
                    have H1 : (some (x10_1, 1)) = some (r1, r2) := by rw [if_neg (show ¬ (false = true) by decide)] at H; exact H
                    clear H
                    have H := H1
                    clear H1
                    simp only [Option.some.injEq, Prod.mk.injEq] at H
                    obtain ⟨rfl, rfl⟩ := H
                    have hcz30_0 : wc.cell? ⟨gb463, 0, none⟩ = some (.string ((rd_T93 l0 x10_1).f0)) := (blk_cell BK463.out 0).trans rfl
                    have hcz30_1 : wc.cell? ⟨gb463, 1, none⟩ = some (.int .i64 ((rd_T93 l0 x10_1).f1.f0)) := (blk_cell BK463.out 1).trans rfl
                    have hcz30_2 : wc.cell? ⟨gb463, 2, none⟩ = some (.int .u64 ((rd_T93 l0 x10_1).f1.f1)) := (blk_cell BK463.out 2).trans rfl
                    have hfz30_0 := blk_frozen BK463.out 0
                    have hfz30_1 := blk_frozen BK463.out 1
                    have hfz30_2 := blk_frozen BK463.out 2
                    go_wp2_with (first | ((with_reducible refine gate_callee (f := 50) rfl ?_); refine goesL_ (some 31) rfl rfl Try.func50 (by kernel_rfl) rfl #[.string ((rd_T93 l0 x10_1).f0)] rfl (by (try simp only [List.map_toArray, List.map_cons, List.map_nil]); first | done | rfl | (simp only [List.length_drop, List.length_take]; rfl)) ?_; (with_reducible refine (right_Name.calls kj4 ((rd_T93 l0 x10_1).f0) false _ A20.out).mono ?_); rintro e w' ⟨rfl, ⟨nd, rfl⟩⟩; refine ⟨_, rfl, ?_⟩))
                    go_ret2
                    exact ⟨by first | rfl | (simp [errW_none, errW_some] <;> rfl) | (simp [*, errW_none, errW_some] <;> rfl), pbx HB⟩
          · rw [if_neg c4] at H
            exact absurd H (by simp)
        · rw [if_neg c3] at H
          exact absurd H (by simp)
      · rw [if_neg c2] at H
        have c2b0 : decide (x10_1 < (l0.length : Int)) = false := decide_eq_false c2
        clear c2
        simp only [Option.some.injEq, Prod.mk.injEq] at H
        obtain ⟨rfl, rfl⟩ := H
        go_wp2
        go_ret2
        exact ⟨by first | rfl | (simp [errW_none, errW_some] <;> rfl) | (simp [*, errW_none, errW_some] <;> rfl), pbx HB⟩

end Go.Proofs.Ytlchgkoafabapaa.X
namespace Go.Proofs.Ytlchgkoafabapaa.X
open Go.RowKit Go.Proofs.YtlchgkoafabapaaW.PrintWords Go.Proofs.YtlchgkoafabapaaW.PrintLast Go.Proofs.YtlchgkoafabapaaW.PrintMore
attribute [local go_sem] max2_int min2_int max_two min_two max_three min_three max_four min_four   -- for this text's walks alone
set_option linter.unusedVariables false
set_option linter.unusedSimpArgs false

/-! ### oculusref06_letter: function 76 -/
def oculusref06_letter.f (a0 : Int) : Option (Bool) := if a0 ≥ 97 then (some (decide (a0 ≤ 122))) else (some false)
set_option maxHeartbeats 8000000 in
set_option maxRecDepth 100000 in
theorem oculusref06_letter.calls (a0 : Int) (r : Bool) (w : World) (h : oculusref06_letter.f a0 = some r) :
    Calls Try.prog 76 #[.int .u8 a0] w fun e w' => e = .returned (.bool r) ∧ Drawn0 w w' := by
  have H : (if a0 ≥ 97 then (some (decide (a0 ≤ 122))) else (some false)) = some r := h
  clear h
  by_cases c2 : a0 ≥ 97
  · rw [if_pos c2] at H
    have c2b0 : decide (97 ≤ a0) = true := decide_eq_true c2
    clear c2
    obtain rfl := Option.some.inj H
    go_enter Try.func76, Try.ntmps76
    go_wp2
    go_ret
    exact ⟨by first | rfl | (simp; done) | (simp [*]; done), by repeat (first | exact Drawn0.refl _ | apply Drawn0.step)⟩
  · rw [if_neg c2] at H
    have c2b0 : decide (97 ≤ a0) = false := decide_eq_false c2
    clear c2
    obtain rfl := Option.some.inj H
    go_enter Try.func76, Try.ntmps76
    go_wp2
    go_ret
    exact ⟨by first | rfl | (simp; done) | (simp [*]; done), by repeat (first | exact Drawn0.refl _ | apply Drawn0.step)⟩

end Go.Proofs.Ytlchgkoafabapaa.X
namespace Go.Proofs.Ytlchgkoafabapaa.X
open Go.RowKit Go.Proofs.YtlchgkoafabapaaW.PrintWords Go.Proofs.YtlchgkoafabapaaW.PrintLast Go.Proofs.YtlchgkoafabapaaW.PrintMore
attribute [local go_sem] max2_int min2_int max_two min_two max_three min_three max_four min_four   -- for this text's walks alone
set_option linter.unusedVariables false
set_option linter.unusedSimpArgs false

/-! ### oculusref06_Name: function 51 -/
mutual
def oculusref06_Name.j0 : Nat → ByteArray → Bool → Option (Bool)
  | 0, _, _ => none
  | k + 1, x0, x17 => if x17 = true then (some false) else (oculusref06_Name.l0 k x0 0)
def oculusref06_Name.l0 : Nat → ByteArray → Int → Option (Bool)
  | 0, _, _ => none
  | k + 1, x0, x3 => if x3 < (x0.size : Int) then (if 0 ≤ x3 then ((oculusref06_letter.f (bt x0 x3)).bind fun t461 => (if t461 = true then (oculusref06_Name.l0 k x0 (wrap64 (x3 + 1))) else (if (bt x0 x3) ≥ 48 then (if ((bt x0 x3) ≤ 57) then (oculusref06_Name.l0 k x0 (wrap64 (x3 + 1))) else (some false)) else (some false)))) else (none)) else (some true)
end
def oculusref06_Name.f (k : Nat) (a0 : ByteArray) : Option (Bool) := if (a0.size : Int) < 1 then (oculusref06_Name.j0 k a0 true) else (if (a0.size : Int) > 16 then (oculusref06_Name.j0 k a0 true) else (if 0 < (a0.size : Int) then ((oculusref06_letter.f (bt a0 0)).bind fun t460 => (oculusref06_Name.j0 k a0 (!t460))) else (none)))
theorem oculusref06_Name.mono_l : ∀ k, (∀ y0 y1, LeO (oculusref06_Name.j0 k y0 y1) (oculusref06_Name.j0 (k + 1) y0 y1)) ∧ (∀ y0 y1, LeO (oculusref06_Name.l0 k y0 y1) (oculusref06_Name.l0 (k + 1) y0 y1))
  | 0 => ⟨fun _ _ r h => by simp [oculusref06_Name.j0] at h, fun _ _ r h => by simp [oculusref06_Name.l0] at h⟩
  | k + 1 => by
    obtain ⟨ih0, ih1⟩ := oculusref06_Name.mono_l k
    refine ⟨?_, ?_⟩
    · intro y0 y1
      unfold oculusref06_Name.j0
      repeat' first
      | (with_reducible exact ih0 _ _)
      | (with_reducible exact ih1 _ _)
      | (with_reducible exact LeO.refl _)
      | (with_reducible exact LeO.none _)
      | (with_reducible refine LeO.ite ?_ ?_)
      | (with_reducible refine LeO.bind ?_ (fun _ => ?_))
      | exact ih0 _ _
      | exact ih1 _ _
      | exact LeO.none _
      | refine LeO.ite ?_ ?_
      | refine LeO.bind ?_ (fun _ => ?_)
    · intro y0 y1
      unfold oculusref06_Name.l0
      repeat' first
      | (with_reducible exact ih0 _ _)
      | (with_reducible exact ih1 _ _)
      | (with_reducible exact LeO.refl _)
      | (with_reducible exact LeO.none _)
      | (with_reducible refine LeO.ite ?_ ?_)
      | (with_reducible refine LeO.bind ?_ (fun _ => ?_))
      | exact ih0 _ _
      | exact ih1 _ _
      | exact LeO.none _
      | refine LeO.ite ?_ ?_
      | refine LeO.bind ?_ (fun _ => ?_)
theorem oculusref06_Name.mono : ∀ a0 k, LeO (oculusref06_Name.f k a0) (oculusref06_Name.f (k + 1) a0) := by
  intro a0 k
  obtain ⟨ih0, ih1⟩ := oculusref06_Name.mono_l k
  unfold oculusref06_Name.f
  repeat' first
      | (with_reducible exact ih0 _ _)
      | (with_reducible exact ih1 _ _)
      | (with_reducible exact LeO.refl _)
      | (with_reducible exact LeO.none _)
      | (with_reducible refine LeO.ite ?_ ?_)
      | (with_reducible refine LeO.bind ?_ (fun _ => ?_))
      | exact ih0 _ _
      | exact ih1 _ _
      | exact LeO.none _
      | refine LeO.ite ?_ ?_
      | refine LeO.bind ?_ (fun _ => ?_)
set_option maxHeartbeats 8000000 in
set_option maxRecDepth 100000 in
theorem oculusref06_Name.calls (k : Nat) (a0 : ByteArray) (r : Bool) (w : World) (h : oculusref06_Name.f k a0 = some r) :
    Calls Try.prog 51 #[.string a0] w fun e w' => e = .returned (.bool r) ∧ Drawn0 w w' := by
  have H : (if (a0.size : Int) < 1 then (oculusref06_Name.j0 k a0 true) else (if (a0.size : Int) > 16 then (oculusref06_Name.j0 k a0 true) else (if 0 < (a0.size : Int) then ((oculusref06_letter.f (bt a0 0)).bind fun t460 => (oculusref06_Name.j0 k a0 (!t460))) else (none)))) = some r := h
  clear h
  have HC2 := Aside0.mk H
  clear H
  go_enter Try.func51, Try.ntmps51
  go_upto_region 1 with (fail)
  go_cut [17] (fun v17 wc => ∃ (kq : Nat) (x17_1 : Bool), v17 = .bool x17_1 ∧ Aside0 (oculusref06_Name.j0 kq a0 x17_1 = some r) ∧ Aside0 (kq ≤ k) ∧ Drawn0 w wc)
  case first =>
    have H := HC2.out
    clear HC2
    by_cases c3 : (a0.size : Int) < 1
    · rw [if_pos c3] at H
      have c3b0 : decide ((a0.size : Int) < 1) = true := decide_eq_true c3
      have c3b1 : decide (a0.size < 1) = true := decide_eq_true (by omega)
      clear c3
      (first | rw [c3b0] | (simp only [i64_w, i32_w]; rw [c3b0]) | skip)
      have H' := Aside0.mk H
      clear H
      go_wp2
      go_meet
      case rel => exact ⟨_, (true), (by first | rfl | (simp; done) | (simp [*]; done)), H', ⟨by first | omega | exact Nat.le_refl _⟩, by repeat (first | exact Drawn0.refl _ | apply Drawn0.step)⟩
    · rw [if_neg c3] at H
      have c3b0 : decide ((a0.size : Int) < 1) = false := decide_eq_false c3
      have c3b1 : decide (a0.size < 1) = false := decide_eq_false (by omega)
      clear c3
      (first | rw [c3b0] | (simp only [i64_w, i32_w]; rw [c3b0]) | skip)
      by_cases c4 : (a0.size : Int) > 16
      · rw [if_pos c4] at H
        have c4b0 : decide (16 < (a0.size : Int)) = true := decide_eq_true c4
        have c4b1 : decide (16 < a0.size) = true := decide_eq_true (by omega)
        clear c4
        have H' := Aside0.mk H
        clear H
        go_wp2
        go_meet
        case rel => exact ⟨_, (true), (by first | rfl | (simp; done) | (simp [*]; done)), H', ⟨by first | omega | exact Nat.le_refl _⟩, by repeat (first | exact Drawn0.refl _ | apply Drawn0.step)⟩
      · rw [if_neg c4] at H
        have c4b0 : decide (16 < (a0.size : Int)) = false := decide_eq_false c4
        have c4b1 : decide (16 < a0.size) = false := decide_eq_false (by omega)
        clear c4
        by_cases c5 : 0 < (a0.size : Int)
        · rw [if_pos c5] at H
          have c5b0 : decide (0 < (a0.size : Int)) = true := decide_eq_true c5
          have c5b1 : decide (0 < a0.size) = true := decide_eq_true (by omega)
          clear c5
          replace H := Option.bind_eq_some_iff.mp H
          obtain ⟨t460, A70, H⟩ := H
          replace H : (oculusref06_Name.j0 k a0 (!t460)) = some r := H
          have A7 := Aside0.mk A70
          clear A70
          have H' := Aside0.mk H
          clear H
          have p6 : 0 ≤ (0 : Int) := (by omega)
          have q6 : 0 < a0.size := (by have : (0 : Int) < (a0.size : Int) := of_decide_eq_true (by first | (with_reducible assumption) | assumption); omega)
          have hx6 : ∀ h : 0 < a0.size, ((a0[0]'h).toNat : Int) = bt a0 0 := bt_at a0 0
          clear p6
          have qi6 : (0 < (a0.size : Int)) = True := eq_true (of_decide_eq_true (by first | (with_reducible assumption) | assumption))
          replace q6 := eq_true q6
          go_wp2_with (first | (go_at_call 76; (with_reducible refine (oculusref06_letter.calls (bt a0 0) t460 _ A7.out).mono ?_); rintro e w' ⟨rfl, ⟨nd, rfl⟩⟩))
          go_meet
          case rel => exact ⟨_, (!t460), (by first | rfl | (simp; done) | (simp [*]; done) | (cases t460 <;> simp; done)), H', ⟨by first | omega | exact Nat.le_refl _⟩, by repeat (first | exact Drawn0.refl _ | apply Drawn0.step)⟩
        · rw [if_neg c5] at H
          exact absurd H (by simp)
  case rest =>
    clear HC2
    try clear p2
    try clear c3
    try clear c3b0
    try clear c3b1
    try clear c4
    try clear c4b0
    try clear c4b1
    try clear c5
    try clear c5b0
    try clear c5b1
    try clear p6
    try clear q6
    try clear hx6
    try clear qi6
    try clear p6
    try clear q6
    obtain ⟨kq, x17_1, rfl, HA, HJ1, ⟨mc1, rfl⟩⟩ := hcut
    cases kq with
    | zero => exact absurd HA.out (by simp [oculusref06_Name.j0])
    | succ kj1 =>
      have H := HA.out
      clear HA
      simp only [oculusref06_Name.j0] at H
      by_cases c8 : x17_1 = true
      · subst c8
        have H1 : (some false) = some r := by rw [if_pos rfl] at H; exact H
        clear H
        have H := H1
        clear H1
        obtain rfl := Option.some.inj H
        go_wp2
        go_ret
        exact ⟨by first | rfl | (simp; done) | (simp [*]; done), by repeat (first | exact Drawn0.refl _ | apply Drawn0.step)⟩
      · replace c8 := Bool.eq_false_iff.mpr c8
        subst c8
        have H1 : (oculusref06_Name.l0 kj1 a0 0) = some r := by rw [if_neg (show ¬ (false = true) by decide)] at H; exact H
        clear H
        have H := H1
        clear H1
        have H' := Aside0.mk H
        clear H
        go_wp2
        go_loopg [3] kj1 (fun kq v3 w' => ∃ (x3_2 : Int), v3 = .int .i64 x3_2 ∧ Aside0 (oculusref06_Name.l0 kq a0 x3_2 = some r) ∧ Aside0 (kq ≤ kj1) ∧ Drawn0 w w')
        case atStart => exact ⟨(0), (by first | rfl | (simp; done) | (simp [*]; done)), H', ⟨Nat.le_refl _⟩, by repeat (first | exact Drawn0.refl _ | apply Drawn0.step)⟩
        case round =>
          clear H'
          try clear c1
          try clear p2
          try clear c3
          try clear c3b0
          try clear c3b1
          try clear c4
          try clear c4b0
          try clear c4b1
          try clear c5
          try clear c5b0
          try clear c5b1
          try clear p6
          try clear q6
          try clear hx6
          try clear qi6
          try clear c8
          try clear p2
          try clear p6
          try clear q6
          obtain ⟨x3_2, rfl, HA, HK2, ⟨m2, rfl⟩⟩ := hrel
          cases gk with
          | zero => exact absurd HA.out (by simp [oculusref06_Name.l0])
          | succ k2 =>
            have H := HA.out
            clear HA
            simp only [oculusref06_Name.l0] at H
            by_cases c9 : x3_2 < (a0.size : Int)
            · rw [if_pos c9] at H
              have c9b0 : decide (x3_2 < (a0.size : Int)) = true := decide_eq_true c9
              clear c9
              by_cases c10 : 0 ≤ x3_2
              · rw [if_pos c10] at H
                have c10b0 : decide (0 ≤ x3_2) = true := decide_eq_true c10
                clear c10
                replace H := Option.bind_eq_some_iff.mp H
                obtain ⟨t461, A120, H⟩ := H
                replace H : (if t461 = true then (oculusref06_Name.l0 k2 a0 (wrap64 (x3_2 + 1))) else (if (bt a0 x3_2) ≥ 48 then (if ((bt a0 x3_2) ≤ 57) then (oculusref06_Name.l0 k2 a0 (wrap64 (x3_2 + 1))) else (some false)) else (some false))) = some r := H
                have A12 := Aside0.mk A120
                clear A120
                by_cases c13 : t461 = true
                · subst c13
                  have H1 : (oculusref06_Name.l0 k2 a0 (wrap64 (x3_2 + 1))) = some r := by rw [if_pos rfl] at H; exact H
                  clear H
                  have H := H1
                  clear H1
                  have H' := Aside0.mk H
                  clear H
                  have p11 : 0 ≤ (x3_2 : Int) := of_decide_eq_true (by first | (with_reducible assumption) | assumption)
                  have q11 : x3_2 < (a0.size : Int) := of_decide_eq_true (by first | (with_reducible assumption) | assumption)
                  have hx11 := bt_at a0 x3_2
                  replace p11 := eq_true p11
                  replace q11 := eq_true q11
                  go_wp2_with (first | ((with_reducible refine gate_callee (f := 76) rfl ?_); refine goesL_ (some 27) rfl rfl Try.func76 (by kernel_rfl) rfl #[.int .u8 (bt a0 x3_2)] rfl (by (try simp only [List.map_toArray, List.map_cons, List.map_nil]); first | done | rfl | (simp only [List.length_drop, List.length_take]; rfl)) ?_; (with_reducible refine (oculusref06_letter.calls (bt a0 x3_2) true _ A12.out).mono ?_); rintro e w' ⟨rfl, ⟨nd, rfl⟩⟩; refine ⟨_, rfl, ?_⟩))
                  go_roundg k2
                  case measure => have := HJ1.out; have := HK2.out; omega
                  case rel => exact ⟨(wrap64 (x3_2 + 1)), (by first | rfl | (simp; done) | (simp [*]; done)), H', ⟨by have := HJ1.out; have := HK2.out; omega⟩, by repeat (first | exact Drawn0.refl _ | apply Drawn0.step)⟩
                · replace c13 := Bool.eq_false_iff.mpr c13
                  subst c13
                  have H1 : (if (bt a0 x3_2) ≥ 48 then (if ((bt a0 x3_2) ≤ 57) then (oculusref06_Name.l0 k2 a0 (wrap64 (x3_2 + 1))) else (some false)) else (some false)) = some r := by rw [if_neg (show ¬ (false = true) by decide)] at H; exact H
                  clear H
                  have H := H1
                  clear H1
                  by_cases c15 : (bt a0 x3_2) ≥ 48
                  · rw [if_pos c15] at H
                    have c15b0 : decide (48 ≤ (bt a0 x3_2)) = true := decide_eq_true c15
                    clear c15
                    by_cases c17 : ((bt a0 x3_2) ≤ 57)
                    · rw [if_pos c17] at H
                      have c17b0 : decide ((bt a0 x3_2) ≤ 57) = true := decide_eq_true c17
                      clear c17
                      have H' := Aside0.mk H
                      clear H
                      have p11 : 0 ≤ (x3_2 : Int) := of_decide_eq_true (by first | (with_reducible assumption) | assumption)
                      have q11 : x3_2 < (a0.size : Int) := of_decide_eq_true (by first | (with_reducible assumption) | assumption)
                      have hx11 := bt_at a0 x3_2
                      replace p11 := eq_true p11
                      replace q11 := eq_true q11
                      go_wp2_with (first | ((with_reducible refine gate_callee (f := 76) rfl ?_); refine goesL_ (some 27) rfl rfl Try.func76 (by kernel_rfl) rfl #[.int .u8 (bt a0 x3_2)] rfl (by (try simp only [List.map_toArray, List.map_cons, List.map_nil]); first | done | rfl | (simp only [List.length_drop, List.length_take]; rfl)) ?_; (with_reducible refine (oculusref06_letter.calls (bt a0 x3_2) false _ A12.out).mono ?_); rintro e w' ⟨rfl, ⟨nd, rfl⟩⟩; refine ⟨_, rfl, ?_⟩; have p14 : 0 ≤ (x3_2 : Int) := of_decide_eq_true (by first | (with_reducible assumption) | assumption); have q14 : x3_2 < (a0.size : Int) := of_decide_eq_true (by first | (with_reducible assumption) | assumption); have hx14 := bt_at a0 x3_2; replace p14 := eq_true p14; replace q14 := eq_true q14; have p16 : 0 ≤ (x3_2 : Int) := of_decide_eq_true (by first | (with_reducible assumption) | assumption); have q16 : x3_2 < (a0.size : Int) := of_decide_eq_true (by first | (with_reducible assumption) | assumption); have hx16 := bt_at a0 x3_2; replace p16 := eq_true p16; replace q16 := eq_true q16))
                      go_roundg k2
                      case measure => have := HJ1.out; have := HK2.out; omega
                      case rel => exact ⟨(wrap64 (x3_2 + 1)), (by first | rfl | (simp; done) | (simp [*]; done)), H', ⟨by have := HJ1.out; have := HK2.out; omega⟩, by repeat (first | exact Drawn0.refl _ | apply Drawn0.step)⟩
                    · rw [if_neg c17] at H
                      have c17b0 : decide ((bt a0 x3_2) ≤ 57) = false := decide_eq_false c17
                      clear c17
                      obtain rfl := Option.some.inj H
                      have p11 : 0 ≤ (x3_2 : Int) := of_decide_eq_true (by first | (with_reducible assumption) | assumption)
                      have q11 : x3_2 < (a0.size : Int) := of_decide_eq_true (by first | (with_reducible assumption) | assumption)
                      have hx11 := bt_at a0 x3_2
                      replace p11 := eq_true p11
                      replace q11 := eq_true q11
                      go_wp2_with (first | ((with_reducible refine gate_callee (f := 76) rfl ?_); refine goesL_ (some 27) rfl rfl Try.func76 (by kernel_rfl) rfl #[.int .u8 (bt a0 x3_2)] rfl (by (try simp only [List.map_toArray, List.map_cons, List.map_nil]); first | done | rfl | (simp only [List.length_drop, List.length_take]; rfl)) ?_; (with_reducible refine (oculusref06_letter.calls (bt a0 x3_2) false _ A12.out).mono ?_); rintro e w' ⟨rfl, ⟨nd, rfl⟩⟩; refine ⟨_, rfl, ?_⟩; have p14 : 0 ≤ (x3_2 : Int) := of_decide_eq_true (by first | (with_reducible assumption) | assumption); have q14 : x3_2 < (a0.size : Int) := of_decide_eq_true (by first | (with_reducible assumption) | assumption); have hx14 := bt_at a0 x3_2; replace p14 := eq_true p14; replace q14 := eq_true q14; have p16 : 0 ≤ (x3_2 : Int) := of_decide_eq_true (by first | (with_reducible assumption) | assumption); have q16 : x3_2 < (a0.size : Int) := of_decide_eq_true (by first | (with_reducible assumption) | assumption); have hx16 := bt_at a0 x3_2; replace p16 := eq_true p16; replace q16 := eq_true q16))
                      go_ret
                      exact ⟨by first | rfl | (simp; done) | (simp [*]; done), by repeat (first | exact Drawn0.refl _ | apply Drawn0.step)⟩
                  · rw [if_neg c15] at H
                    have c15b0 : decide (48 ≤ (bt a0 x3_2)) = false := decide_eq_false c15
                    clear c15
                    obtain rfl := Option.some.inj H
                    have p11 : 0 ≤ (x3_2 : Int) := of_decide_eq_true (by first | (with_reducible assumption) | assumption)
                    have q11 : x3_2 < (a0.size : Int) := of_decide_eq_true (by first | (with_reducible assumption) | assumption)
                    have hx11 := bt_at a0 x3_2
                    replace p11 := eq_true p11
                    replace q11 := eq_true q11
                    go_wp2_with (first | ((with_reducible refine gate_callee (f := 76) rfl ?_); refine goesL_ (some 27) rfl rfl Try.func76 (by kernel_rfl) rfl #[.int .u8 (bt a0 x3_2)] rfl (by (try simp only [List.map_toArray, List.map_cons, List.map_nil]); first | done | rfl | (simp only [List.length_drop, List.length_take]; rfl)) ?_; (with_reducible refine (oculusref06_letter.calls (bt a0 x3_2) false _ A12.out).mono ?_); rintro e w' ⟨rfl, ⟨nd, rfl⟩⟩; refine ⟨_, rfl, ?_⟩; have p14 : 0 ≤ (x3_2 : Int) := of_decide_eq_true (by first | (with_reducible assumption) | assumption); have q14 : x3_2 < (a0.size : Int) := of_decide_eq_true (by first | (with_reducible assumption) | assumption); have hx14 := bt_at a0 x3_2; replace p14 := eq_true p14; replace q14 := eq_true q14))
                    go_ret
                    exact ⟨by first | rfl | (simp; done) | (simp [*]; done), by repeat (first | exact Drawn0.refl _ | apply Drawn0.step)⟩
              · rw [if_neg c10] at H
                exact absurd H (by simp)
            · rw [if_neg c9] at H
              have c9b0 : decide (x3_2 < (a0.size : Int)) = false := decide_eq_false c9
              clear c9
              obtain rfl := Option.some.inj H
              go_wp2
              go_ret
              exact ⟨by first | rfl | (simp; done) | (simp [*]; done), by repeat (first | exact Drawn0.refl _ | apply Drawn0.step)⟩

end Go.Proofs.Ytlchgkoafabapaa.X
namespace Go.Proofs.Ytlchgkoafabapaa.X
open Go.RowKit Go.Proofs.YtlchgkoafabapaaW.PrintWords Go.Proofs.YtlchgkoafabapaaW.PrintLast Go.Proofs.YtlchgkoafabapaaW.PrintMore
attribute [local go_sem] max2_int min2_int max_two min_two max_three min_three max_four min_four   -- for this text's walks alone
set_option linter.unusedVariables false
set_option linter.unusedSimpArgs false

/-! ### oculusref06_Users: function 53 -/
mutual
def oculusref06_Users.l0 : Nat → List (S93) → Int → Option (Int × Int)
  | 0, _, _ => none
  | k + 1, x0, x3 => if x3 < (x0.length : Int) then (if 0 ≤ x3 then ((oculusref06_may.f ((rd_T93 x0 x3).f1.f0) ((rd_T93 x0 x3).f1.f1)).bind fun t476 => (if t476 = true then (oculusref06_Users.j1 k x0 x3 0) else (oculusref06_Users.j1 k x0 x3 7))) else (none)) else (some (0, 0))
def oculusref06_Users.j1 : Nat → List (S93) → Int → Int → Option (Int × Int)
  | 0, _, _, _ => none
  | k + 1, x0, x3, x4 => if 0 ≤ x3 then (if x3 < (x0.length : Int) then ((oculusref06_Find.f k x0 ((rd_T93 x0 x3).f0)).bind fun t478 => (if t478 = x3 then (oculusref06_Users.j2 k x0 x3 x4) else (oculusref06_Users.j2 k x0 x3 8))) else (none)) else (none)
def oculusref06_Users.j2 : Nat → List (S93) → Int → Int → Option (Int × Int)
  | 0, _, _, _ => none
  | k + 1, x0, x3, x4 => if 0 ≤ x3 then (if x3 < (x0.length : Int) then ((oculusref06_Name.f k ((rd_T93 x0 x3).f0)).bind fun t480 => (if t480 = true then (oculusref06_Users.j3 k x0 x3 x4) else (oculusref06_Users.j3 k x0 x3 1))) else (none)) else (none)
def oculusref06_Users.j3 : Nat → List (S93) → Int → Int → Option (Int × Int)
  | 0, _, _, _ => none
  | k + 1, x0, x3, x4 => if x3 > 15 then (some (x3, 10)) else (if x4 = 0 then (oculusref06_Users.l0 k x0 (wrap64 (x3 + 1))) else (some (x3, x4)))
end
def oculusref06_Users.f (k : Nat) (l0 : List (S93)) : Option (Int × Int) := oculusref06_Users.l0 k l0 0
theorem oculusref06_Users.mono_l : ∀ k, (∀ y0 y1, LeO (oculusref06_Users.l0 k y0 y1) (oculusref06_Users.l0 (k + 1) y0 y1)) ∧ (∀ y0 y1 y2, LeO (oculusref06_Users.j1 k y0 y1 y2) (oculusref06_Users.j1 (k + 1) y0 y1 y2)) ∧ (∀ y0 y1 y2, LeO (oculusref06_Users.j2 k y0 y1 y2) (oculusref06_Users.j2 (k + 1) y0 y1 y2)) ∧ (∀ y0 y1 y2, LeO (oculusref06_Users.j3 k y0 y1 y2) (oculusref06_Users.j3 (k + 1) y0 y1 y2))
  | 0 => ⟨fun _ _ r h => by simp [oculusref06_Users.l0] at h, fun _ _ _ r h => by simp [oculusref06_Users.j1] at h, fun _ _ _ r h => by simp [oculusref06_Users.j2] at h, fun _ _ _ r h => by simp [oculusref06_Users.j3] at h⟩
  | k + 1 => by
    obtain ⟨ih0, ih1, ih2, ih3⟩ := oculusref06_Users.mono_l k
    refine ⟨?_, ?_, ?_, ?_⟩
    · intro y0 y1
      unfold oculusref06_Users.l0
      repeat' first
      | (with_reducible exact ih0 _ _)
      | (with_reducible exact ih1 _ _ _)
      | (with_reducible exact ih2 _ _ _)
      | (with_reducible exact ih3 _ _ _)
      | (with_reducible exact oculusref06_Find.mono _ _ _)
      | (with_reducible exact oculusref06_Name.mono _ _)
      | (with_reducible exact LeO.refl _)
      | (with_reducible exact LeO.none _)
      | (with_reducible refine LeO.ite ?_ ?_)
      | (with_reducible refine LeO.bind ?_ (fun _ => ?_))
      | exact ih0 _ _
      | exact ih1 _ _ _
      | exact ih2 _ _ _
      | exact ih3 _ _ _
      | exact oculusref06_Find.mono _ _ _
      | exact oculusref06_Name.mono _ _
      | exact LeO.none _
      | refine LeO.ite ?_ ?_
      | refine LeO.bind ?_ (fun _ => ?_)
    · intro y0 y1 y2
      unfold oculusref06_Users.j1
      repeat' first
      | (with_reducible exact ih0 _ _)
      | (with_reducible exact ih1 _ _ _)
      | (with_reducible exact ih2 _ _ _)
      | (with_reducible exact ih3 _ _ _)
      | (with_reducible exact oculusref06_Find.mono _ _ _)
      | (with_reducible exact oculusref06_Name.mono _ _)
      | (with_reducible exact LeO.refl _)
      | (with_reducible exact LeO.none _)
      | (with_reducible refine LeO.ite ?_ ?_)
      | (with_reducible refine LeO.bind ?_ (fun _ => ?_))
      | exact ih0 _ _
      | exact ih1 _ _ _
      | exact ih2 _ _ _
      | exact ih3 _ _ _
      | exact oculusref06_Find.mono _ _ _
      | exact oculusref06_Name.mono _ _
      | exact LeO.none _
      | refine LeO.ite ?_ ?_
      | refine LeO.bind ?_ (fun _ => ?_)
    · intro y0 y1 y2
      unfold oculusref06_Users.j2
      repeat' first
      | (with_reducible exact ih0 _ _)
      | (with_reducible exact ih1 _ _ _)
      | (with_reducible exact ih2 _ _ _)
      | (with_reducible exact ih3 _ _ _)
      | (with_reducible exact oculusref06_Find.mono _ _ _)
      | (with_reducible exact oculusref06_Name.mono _ _)
      | (with_reducible exact LeO.refl _)
      | (with_reducible exact LeO.none _)
      | (with_reducible refine LeO.ite ?_ ?_)
      | (with_reducible refine LeO.bind ?_ (fun _ => ?_))
      | exact ih0 _ _
      | exact ih1 _ _ _
      | exact ih2 _ _ _
      | exact ih3 _ _ _
      | exact oculusref06_Find.mono _ _ _
      | exact oculusref06_Name.mono _ _
      | exact LeO.none _
      | refine LeO.ite ?_ ?_
      | refine LeO.bind ?_ (fun _ => ?_)
    · intro y0 y1 y2
      unfold oculusref06_Users.j3
      repeat' first
      | (with_reducible exact ih0 _ _)
      | (with_reducible exact ih1 _ _ _)
      | (with_reducible exact ih2 _ _ _)
      | (with_reducible exact ih3 _ _ _)
      | (with_reducible exact oculusref06_Find.mono _ _ _)
      | (with_reducible exact oculusref06_Name.mono _ _)
      | (with_reducible exact LeO.refl _)
      | (with_reducible exact LeO.none _)
      | (with_reducible refine LeO.ite ?_ ?_)
      | (with_reducible refine LeO.bind ?_ (fun _ => ?_))
      | exact ih0 _ _
      | exact ih1 _ _ _
      | exact ih2 _ _ _
      | exact ih3 _ _ _
      | exact oculusref06_Find.mono _ _ _
      | exact oculusref06_Name.mono _ _
      | exact LeO.none _
      | refine LeO.ite ?_ ?_
      | refine LeO.bind ?_ (fun _ => ?_)
theorem oculusref06_Users.mono : ∀ a0 k, LeO (oculusref06_Users.f k a0) (oculusref06_Users.f (k + 1) a0) := by
  intro a0 k
  obtain ⟨ih0, ih1, ih2, ih3⟩ := oculusref06_Users.mono_l k
  unfold oculusref06_Users.f
  repeat' first
      | (with_reducible exact ih0 _ _)
      | (with_reducible exact ih1 _ _ _)
      | (with_reducible exact ih2 _ _ _)
      | (with_reducible exact ih3 _ _ _)
      | (with_reducible exact oculusref06_Find.mono _ _ _)
      | (with_reducible exact oculusref06_Name.mono _ _)
      | (with_reducible exact LeO.refl _)
      | (with_reducible exact LeO.none _)
      | (with_reducible refine LeO.ite ?_ ?_)
      | (with_reducible refine LeO.bind ?_ (fun _ => ?_))
      | exact ih0 _ _
      | exact ih1 _ _ _
      | exact ih2 _ _ _
      | exact ih3 _ _ _
      | exact oculusref06_Find.mono _ _ _
      | exact oculusref06_Name.mono _ _
      | exact LeO.none _
      | refine LeO.ite ?_ ?_
      | refine LeO.bind ?_ (fun _ => ?_)
set_option maxHeartbeats 8000000 in
set_option maxRecDepth 100000 in
theorem oculusref06_Users.calls (k : Nat) (A0 : Option Addr) (c0 : Nat) (l0 : List (S93)) (r1 : Int) (r2 : Int) (w : World) (hr0 : Kd.C k93 w A0 l0.length l0) (hc0 : l0.length ≤ c0) (h : oculusref06_Users.f k l0 = some (r1, r2)) :
    Calls Try.prog 53 #[.slice A0 l0.length c0] w fun e w' => e = .returned (.agg #[.int .i64 r1, .int .i64 r2]) ∧ Below w.heap.size w w' := by
  have hu86 := Try.underlying86
  have hu26 := Try.underlying26
  have HR0 := Aside0.mk hr0
  have HC0 := Aside0.mk hc0
  clear hr0 hc0
  have HB := Aside0.mk (Below.refl w.heap.size w)
  have H : (oculusref06_Users.l0 k l0 0) = some (r1, r2) := h
  clear h
  have H' := Aside0.mk H
  clear H
  go_enter Try.func53, Try.ntmps53
  go_wp2_with (first | ((with_reducible refine gate_dst (N := 2) rfl ?_); refine box_event ?hg (N := 2) ?hd (cs := #[.int .i64 0, .int .i64 0]) (t := 86) ?hr ?_; (case hd => rfl); (case hg => rfl); (case hr => first | (go_simp; done) | (go_simp; rfl)); intro gb474 hg w2 hbox hb; have n0_ := Aside0.mk (below_step (pbx HB) hb); have n1_ := Aside0.mk (hbox); have n2_ := Aside0.mk ((by rw [hg]; exact (below_size (pbx HB)) : w.heap.size ≤ gb474)); have n3_ := Aside0.mk ((by rw [hg]; exact (below_size (pbx HB)) : w.heap.size ≤ gb474)); clear HB; have HB := n0_; have BK474 := n1_; have GW474 := n2_; have GE474 := n3_; clear n0_ n1_ n2_ n3_; clear hb hbox hg))
  go_loopg [3] k (fun kq v3 w' => ∃ (x3_1 : Int) (x475000_1 : Int) (x475001_1 : Int), v3 = .int .i64 x3_1 ∧ Aside0 (oculusref06_Users.l0 kq l0 x3_1 = some (r1, r2)) ∧ Aside0 (kq ≤ k) ∧ Aside0 (w'.heap[gb474]? = some (.cells #[.int .i64 x475000_1, .int .i64 x475001_1] 86 (0, 0))) ∧ Aside0 (Below w.heap.size w w'))
  case atStart => exact ⟨(0), (0), (0), (by first | rfl | (simp; done) | (simp [*]; done)), H', ⟨Nat.le_refl _⟩, ⟨pkx BK474⟩, ⟨pbx HB⟩⟩
  case round =>
    clear H'
    try clear p2
    obtain ⟨x3_1, x475000_1, x475001_1, rfl, HA, HK1, BK474, HB⟩ := hrel
    cases gk with
    | zero => exact absurd HA.out (by simp [oculusref06_Users.l0])
    | succ k1 =>
      have H := HA.out
      clear HA
      simp only [oculusref06_Users.l0] at H
      by_cases c3 : x3_1 < (l0.length : Int)
      · rw [if_pos c3] at H
        have c3b0 : decide (x3_1 < (l0.length : Int)) = true := decide_eq_true c3
        clear c3
        by_cases c4 : 0 ≤ x3_1
        · rw [if_pos c4] at H
          have c4b0 : decide (0 ≤ x3_1) = true := decide_eq_true c4
          clear c4
          replace H := Option.bind_eq_some_iff.mp H
          obtain ⟨t476, A50, H⟩ := H
          replace H : (if t476 = true then (oculusref06_Users.j1 k1 l0 x3_1 0) else (oculusref06_Users.j1 k1 l0 x3_1 7)) = some (r1, r2) := H
          have A5 := Aside0.mk A50
          clear A50
          have HC6 := Aside0.mk H
          clear H
          have p475 : 0 ≤ (x3_1 : Int) := of_decide_eq_true (by first | (with_reducible assumption) | assumption)
          have q475 : x3_1 < (l0.length : Int) := of_decide_eq_true (by first | (with_reducible assumption) | assumption)
          obtain ⟨ad475, e475, hx475_0, hx475_1, hx475_2⟩ := at_T93 HR0.out x3_1 p475 q475
          cases e475
          replace hx475_0 := (HB.out.cell (World.block_lt_of_cell? w _ hx475_0)).trans hx475_0
          replace hx475_1 := (HB.out.cell (World.block_lt_of_cell? w _ hx475_1)).trans hx475_1
          replace hx475_2 := (HB.out.cell (World.block_lt_of_cell? w _ hx475_2)).trans hx475_2
          replace p475 := eq_true p475
          replace q475 := eq_true q475
          go_upto_if 17 with (first | ((with_reducible refine gate_callee (f := 75) rfl ?_); refine goesL_ (some 16) rfl rfl Try.func75 (by kernel_rfl) rfl #[.agg #[.int .i64 ((rd_T93 l0 x3_1).f1.f0), .int .u64 ((rd_T93 l0 x3_1).f1.f1)]] rfl (by (try simp only [List.map_toArray, List.map_cons, List.map_nil]); first | done | rfl | (simp only [List.length_drop, List.length_take]; rfl)) ?_; (with_reducible refine (oculusref06_may.calls ((rd_T93 l0 x3_1).f1.f0) ((rd_T93 l0 x3_1).f1.f1) t476 _ A5.out).mono ?_); rintro e w7 ⟨rfl, hb⟩; refine ⟨_, rfl, ?_⟩; have n0_ := Aside0.mk (blk_below (pkx BK474) hb); have n1_ := Aside0.mk (below_step (pbx HB) hb); clear BK474; clear HB; have BK474 := n0_; have HB := n1_; clear n0_ n1_; (try clear hb); (try clear hb2); (try clear hk); (try clear hi)))
          (try simp only [Act.put, List.setIfInBounds_toArray, List.set_cons_zero, List.set_cons_succ])
          go_cut [4] (fun v4 wc => ∃ (kq : Nat) (x4_5 : Int), v4 = .int .i64 x4_5 ∧ Aside0 (oculusref06_Users.j1 kq l0 x3_1 x4_5 = some (r1, r2)) ∧ Aside0 (kq ≤ k1) ∧ Aside0 (wc.heap[gb474]? = some (.cells #[.int .i64 x475000_1, .int .i64 x475001_1] 86 (0, 0))) ∧ Aside0 (Below w.heap.size w wc))
          case first =>
            have H := HC6.out
            clear HC6
            by_cases c8 : t476 = true
            · subst c8
              have H1 : (oculusref06_Users.j1 k1 l0 x3_1 0) = some (r1, r2) := by rw [if_pos rfl] at H; exact H
              clear H
              have H := H1
              clear H1
              have H' := Aside0.mk H
              clear H
              go_wp2
              go_meet
              case rel => exact ⟨_, (0), (by first | rfl | (simp; done) | (simp [*]; done)), H', ⟨by have := HK1.out; first | omega | exact Nat.le_refl _⟩, ⟨pkx BK474⟩, ⟨pbx HB⟩⟩
            · replace c8 := Bool.eq_false_iff.mpr c8
              subst c8
              have H1 : (oculusref06_Users.j1 k1 l0 x3_1 7) = some (r1, r2) := by rw [if_neg (show ¬ (false = true) by decide)] at H; exact H
              clear H
              have H := H1
              clear H1
              have H' := Aside0.mk H
              clear H
              go_wp2
              go_meet
              case rel => exact ⟨_, (7), (by first | rfl | (simp; done) | (simp [*]; done)), H', ⟨by have := HK1.out; first | omega | exact Nat.le_refl _⟩, ⟨pkx BK474⟩, ⟨pbx HB⟩⟩
          case rest =>
            clear HC6
            try clear p2
            try clear c3
            try clear c3b0
            try clear c4
            try clear c4b0
            try clear p4
            try clear q4
            try clear hx4
            try clear c5
            try clear c7
            try clear c8
            try clear hx475_0
            try clear hx475_1
            try clear hx475_2
            try clear p2
            try clear p475
            try clear q475
            obtain ⟨kq, x4_5, rfl, HA, HJ5, BK474, HB⟩ := hcut
            cases kq with
            | zero => exact absurd HA.out (by simp [oculusref06_Users.j1])
            | succ kj5 =>
              have H := HA.out
              clear HA
              simp only [oculusref06_Users.j1] at H
              by_cases c9 : 0 ≤ x3_1
              · rw [if_pos c9] at H
                have c9b0 : decide (0 ≤ x3_1) = true := decide_eq_true c9
                clear c9
                by_cases c10 : x3_1 < (l0.length : Int)
                · rw [if_pos c10] at H
                  have c10b0 : decide (x3_1 < (l0.length : Int)) = true := decide_eq_true c10
                  clear c10
                  replace H := Option.bind_eq_some_iff.mp H
                  obtain ⟨t478, A110, H⟩ := H
                  replace H : (if t478 = x3_1 then (oculusref06_Users.j2 kj5 l0 x3_1 x4_5) else (oculusref06_Users.j2 kj5 l0 x3_1 8)) = some (r1, r2) := H
                  have A11 := Aside0.mk A110
                  clear A110
                  have HC12 := Aside0.mk H
                  clear H
                  have p477 : 0 ≤ (x3_1 : Int) := of_decide_eq_true (by first | (with_reducible assumption) | assumption)
                  have q477 : x3_1 < (l0.length : Int) := of_decide_eq_true (by first | (with_reducible assumption) | assumption)
                  obtain ⟨ad477, e477, hx477_0, hx477_1, hx477_2⟩ := at_T93 HR0.out x3_1 p477 q477
                  obtain rfl : ad475 = ad477 := (by injection e477)
                  replace hx477_0 := (HB.out.cell (World.block_lt_of_cell? w _ hx477_0)).trans hx477_0
                  replace hx477_1 := (HB.out.cell (World.block_lt_of_cell? w _ hx477_1)).trans hx477_1
                  replace hx477_2 := (HB.out.cell (World.block_lt_of_cell? w _ hx477_2)).trans hx477_2
                  replace p477 := eq_true p477
                  replace q477 := eq_true q477
                  go_upto_if 26 with (first | ((with_reducible refine gate_callee (f := 49) rfl ?_); refine goesL_ (some 24) rfl rfl Try.func49 (by kernel_rfl) rfl #[.slice (some ad475) l0.length c0, .string ((rd_T93 l0 x3_1).f0)] rfl (by (try simp only [List.map_toArray, List.map_cons, List.map_nil]); first | done | rfl | (simp only [List.length_drop, List.length_take]; rfl)) ?_; (with_reducible refine (oculusref06_Find.calls kj5 _ _ l0 ((rd_T93 l0 x3_1).f0) t478 _ ?side1 ?side2 A11.out).mono ?_); (case side1 => repeat (first | exact (Kd.C_below HR0.out HB.out) | (with_reducible refine Kd.C_alloc ?_ _) | (with_reducible refine Kd.C_drewN ?_ _) | (with_reducible refine Kd.C_drew ?_))); (case side2 => exact HC0.out); rintro e w' ⟨rfl, ⟨nd, rfl⟩⟩; refine ⟨_, rfl, ?_⟩))
                  (try simp only [Act.put, List.setIfInBounds_toArray, List.set_cons_zero, List.set_cons_succ])
                  go_cut [4] (fun v4 wc => ∃ (kq : Nat) (x4_11 : Int), v4 = .int .i64 x4_11 ∧ Aside0 (oculusref06_Users.j2 kq l0 x3_1 x4_11 = some (r1, r2)) ∧ Aside0 (kq ≤ kj5) ∧ Aside0 (wc.heap[gb474]? = some (.cells #[.int .i64 x475000_1, .int .i64 x475001_1] 86 (0, 0))) ∧ Aside0 (Below w.heap.size w wc))
                  case first =>
                    have H := HC12.out
                    clear HC12
                    by_cases c13 : t478 = x3_1
                    · rw [if_pos c13] at H
                      have c13b0 : (t478 == x3_1) = true := beq_iff_eq.mpr c13
                      have c13b1 : (t478 != x3_1) = false := bne_eq_false_iff_eq.mpr c13
                      clear c13
                      (first | rw [c13b0] | (simp only [i64_w, i32_w]; rw [c13b0]) | skip)
                      have H' := Aside0.mk H
                      clear H
                      go_wp2
                      go_meet
                      case rel => exact ⟨_, (x4_5), (by first | rfl | (simp; done) | (simp [*]; done)), H', ⟨by have := HK1.out; have := HJ5.out; first | omega | exact Nat.le_refl _⟩, ⟨pkx BK474⟩, ⟨pbx HB⟩⟩
                    · rw [if_neg c13] at H
                      have c13b0 : (t478 == x3_1) = false := beq_eq_false_iff_ne.mpr c13
                      have c13b1 : (t478 != x3_1) = true := bne_iff_ne.mpr c13
                      (first | rw [c13b0] | (simp only [i64_w, i32_w]; rw [c13b0]) | skip)
                      have H' := Aside0.mk H
                      clear H
                      go_wp2
                      go_meet
                      case rel => exact ⟨_, (8), (by first | rfl | (simp; done) | (simp [*]; done)), H', ⟨by have := HK1.out; have := HJ5.out; first | omega | exact Nat.le_refl _⟩, ⟨pkx BK474⟩, ⟨pbx HB⟩⟩
                  case rest =>
                    clear HC12
                    try clear c1
                    try clear p2
                    try clear c3
                    try clear c3b0
                    try clear c4
                    try clear c4b0
                    try clear p4
                    try clear q4
                    try clear hx4
                    try clear c5
                    try clear c7
                    try clear c8
                    try clear c9
                    try clear c9b0
                    try clear c10
                    try clear c10b0
                    try clear c13
                    try clear c13b0
                    try clear c13b1
                    try clear hx475_0
                    try clear hx475_1
                    try clear hx475_2
                    try clear hx477_0
                    try clear hx477_1
                    try clear hx477_2
                    try clear p2
                    try clear p4
                    try clear p475
                    try clear p477
                    try clear q4
                    try clear q475
                    try clear q477
                    obtain ⟨kq, x4_11, rfl, HA, HJ11, BK474, HB⟩ := hcut
                    cases kq with
                    | zero => exact absurd HA.out (by simp [oculusref06_Users.j2])
                    | succ kj11 =>
                      have H := HA.out
                      clear HA
                      simp only [oculusref06_Users.j2] at H
                      by_cases c14 : 0 ≤ x3_1
                      · rw [if_pos c14] at H
                        have c14b0 : decide (0 ≤ x3_1) = true := decide_eq_true c14
                        clear c14
                        by_cases c15 : x3_1 < (l0.length : Int)
                        · rw [if_pos c15] at H
                          have c15b0 : decide (x3_1 < (l0.length : Int)) = true := decide_eq_true c15
                          clear c15
                          replace H := Option.bind_eq_some_iff.mp H
                          obtain ⟨t480, A160, H⟩ := H
                          replace H : (if t480 = true then (oculusref06_Users.j3 kj11 l0 x3_1 x4_11) else (oculusref06_Users.j3 kj11 l0 x3_1 1)) = some (r1, r2) := H
                          have A16 := Aside0.mk A160
                          clear A160
                          have HC17 := Aside0.mk H
                          clear H
                          have p479 : 0 ≤ (x3_1 : Int) := of_decide_eq_true (by first | (with_reducible assumption) | assumption)
                          have q479 : x3_1 < (l0.length : Int) := of_decide_eq_true (by first | (with_reducible assumption) | assumption)
                          obtain ⟨ad479, e479, hx479_0, hx479_1, hx479_2⟩ := at_T93 HR0.out x3_1 p479 q479
                          obtain rfl : ad475 = ad479 := (by injection e479)
                          replace hx479_0 := (HB.out.cell (World.block_lt_of_cell? w _ hx479_0)).trans hx479_0
                          replace hx479_1 := (HB.out.cell (World.block_lt_of_cell? w _ hx479_1)).trans hx479_1
                          replace hx479_2 := (HB.out.cell (World.block_lt_of_cell? w _ hx479_2)).trans hx479_2
                          replace p479 := eq_true p479
                          replace q479 := eq_true q479
                          go_upto_if 33 with (first | ((with_reducible refine gate_callee (f := 51) rfl ?_); refine goesL_ (some 32) rfl rfl Try.func51 (by kernel_rfl) rfl #[.string ((rd_T93 l0 x3_1).f0)] rfl (by (try simp only [List.map_toArray, List.map_cons, List.map_nil]); first | done | rfl | (simp only [List.length_drop, List.length_take]; rfl)) ?_; (with_reducible refine (oculusref06_Name.calls kj11 ((rd_T93 l0 x3_1).f0) t480 _ A16.out).mono ?_); rintro e w' ⟨rfl, ⟨nd, rfl⟩⟩; refine ⟨_, rfl, ?_⟩))
                          (try simp only [Act.put, List.setIfInBounds_toArray, List.set_cons_zero, List.set_cons_succ])
                          go_cut [4] (fun v4 wc => ∃ (kq : Nat) (x4_16 : Int), v4 = .int .i64 x4_16 ∧ Aside0 (oculusref06_Users.j3 kq l0 x3_1 x4_16 = some (r1, r2)) ∧ Aside0 (kq ≤ kj11) ∧ Aside0 (wc.heap[gb474]? = some (.cells #[.int .i64 x475000_1, .int .i64 x475001_1] 86 (0, 0))) ∧ Aside0 (Below w.heap.size w wc))
                          case first =>
                            have H := HC17.out
                            clear HC17
                            by_cases c18 : t480 = true
                            · subst c18
                              have H1 : (oculusref06_Users.j3 kj11 l0 x3_1 x4_11) = some (r1, r2) := by rw [if_pos rfl] at H; exact H
                              clear H
                              have H := H1
                              clear H1
                              have H' := Aside0.mk H
                              clear H
                              go_wp2
                              go_meet
                              case rel => exact ⟨_, (x4_11), (by first | rfl | (simp; done) | (simp [*]; done)), H', ⟨by have := HK1.out; have := HJ5.out; have := HJ11.out; first | omega | exact Nat.le_refl _⟩, ⟨pkx BK474⟩, ⟨pbx HB⟩⟩
                            · replace c18 := Bool.eq_false_iff.mpr c18
                              subst c18
                              have H1 : (oculusref06_Users.j3 kj11 l0 x3_1 1) = some (r1, r2) := by rw [if_neg (show ¬ (false = true) by decide)] at H; exact H
                              clear H
                              have H := H1
                              clear H1
                              have H' := Aside0.mk H
                              clear H
                              go_wp2
                              go_meet
                              case rel => exact ⟨_, (1), (by first | rfl | (simp; done) | (simp [*]; done)), H', ⟨by have := HK1.out; have := HJ5.out; have := HJ11.out; first | omega | exact Nat.le_refl _⟩, ⟨pkx BK474⟩, ⟨pbx HB⟩⟩
                          case rest =>
                            clear HC17
                            try clear c1
                            try clear p2
                            try clear c3
                            try clear c3b0
                            try clear c4
                            try clear c4b0
                            try clear p4
                            try clear q4
                            try clear hx4
                            try clear c5
                            try clear c7
                            try clear c8
                            try clear c9
                            try clear c9b0
                            try clear c10
                            try clear c10b0
                            try clear c13
                            try clear c13b0
                            try clear c13b1
                            try clear c14
                            try clear c14b0
                            try clear c15
                            try clear c15b0
                            try clear c18
                            try clear hx475_0
                            try clear hx475_1
                            try clear hx475_2
                            try clear hx477_0
                            try clear hx477_1
                            try clear hx477_2
                            try clear hx479_0
                            try clear hx479_1
                            try clear hx479_2
                            try clear p2
                            try clear p4
                            try clear p475
                            try clear p477
                            try clear p479
                            try clear q4
                            try clear q475
                            try clear q477
                            try clear q479
                            obtain ⟨kq, x4_16, rfl, HA, HJ16, BK474, HB⟩ := hcut
                            cases kq with
                            | zero => exact absurd HA.out (by simp [oculusref06_Users.j3])
                            | succ kj16 =>
                              have H := HA.out
                              clear HA
                              simp only [oculusref06_Users.j3] at H
                              by_cases c19 : x3_1 > 15
                              · rw [if_pos c19] at H
                                have c19b0 : decide (15 < x3_1) = true := decide_eq_true c19
                                clear c19
                                simp only [Option.some.injEq, Prod.mk.injEq] at H
                                obtain ⟨rfl, rfl⟩ := H
                                have hcz20_0 : wc.cell? ⟨gb474, 0, none⟩ = some (.int .i64 x475000_1) := (blk_cell BK474.out 0).trans rfl
                                have hcz20_1 : wc.cell? ⟨gb474, 1, none⟩ = some (.int .i64 x475001_1) := (blk_cell BK474.out 1).trans rfl
                                have hfz20_0 := blk_frozen BK474.out 0
                                have hfz20_1 := blk_frozen BK474.out 1
                                go_wp2
                                refine bodyPost_ret (results_cell_row rfl _ _ gb474 86 #[.int .i64 x3_1, .int .i64 10] (0, 0) _ rfl (by (with_reducible repeat (first | refine blk_drewN ?_ _ | refine blk_drew ?_ | refine blk_alloc ?_ _)); refine blk_put (cs := #[.int .i64 x3_1, .int .i64 x475001_1]) ?_ 1 _ rfl; (with_reducible repeat (first | refine blk_drewN ?_ _ | refine blk_drew ?_ | refine blk_alloc ?_ _)); refine blk_put (cs := #[.int .i64 x475000_1, .int .i64 x475001_1]) ?_ 0 _ rfl; (with_reducible repeat (first | refine blk_drewN ?_ _ | refine blk_drew ?_ | refine blk_alloc ?_ _)); exact BK474.out) Try.underlying86 rfl (by kernel_rfl)) rfl ?_
                                exact ⟨by first | rfl | (simp [errW_none, errW_some] <;> rfl) | (simp [*, errW_none, errW_some] <;> rfl), by repeat (first | (with_reducible first | exact HB.out | apply below_alloc | apply pw_below_drewN | apply below_drew1 | refine below_set ?_ GE474.out) | exact HB.out)⟩
                              · rw [if_neg c19] at H
                                have c19b0 : decide (15 < x3_1) = false := decide_eq_false c19
                                clear c19
                                by_cases c21 : x4_16 = 0
                                · rw [if_pos c21] at H
                                  have c21b0 : (x4_16 == 0) = true := beq_iff_eq.mpr c21
                                  have c21b1 : (x4_16 != 0) = false := bne_eq_false_iff_eq.mpr c21
                                  clear c21
                                  have H' := Aside0.mk H
                                  clear H
                                  go_wp2
                                  go_roundg kj16
                                  case measure => have := HK1.out; have := HJ5.out; have := HJ11.out; have := HJ16.out; omega
                                  case rel => exact ⟨(wrap64 (x3_1 + 1)), (x475000_1), (x475001_1), (by first | rfl | (simp; done) | (simp [*]; done)), H', ⟨by have := HK1.out; have := HJ5.out; have := HJ11.out; have := HJ16.out; omega⟩, ⟨pkx BK474⟩, ⟨pbx HB⟩⟩
                                · rw [if_neg c21] at H
                                  have c21b0 : (x4_16 == 0) = false := beq_eq_false_iff_ne.mpr c21
                                  have c21b1 : (x4_16 != 0) = true := bne_iff_ne.mpr c21
                                  simp only [Option.some.injEq, Prod.mk.injEq] at H
                                  obtain ⟨rfl, rfl⟩ := H
                                  have hcz22_0 : wc.cell? ⟨gb474, 0, none⟩ = some (.int .i64 x475000_1) := (blk_cell BK474.out 0).trans rfl
                                  have hcz22_1 : wc.cell? ⟨gb474, 1, none⟩ = some (.int .i64 x475001_1) := (blk_cell BK474.out 1).trans rfl
                                  have hfz22_0 := blk_frozen BK474.out 0
                                  have hfz22_1 := blk_frozen BK474.out 1
                                  go_wp2
                                  refine bodyPost_ret (results_cell_row rfl _ _ gb474 86 #[.int .i64 x3_1, .int .i64 x4_16] (0, 0) _ rfl (by (with_reducible repeat (first | refine blk_drewN ?_ _ | refine blk_drew ?_ | refine blk_alloc ?_ _)); refine blk_put (cs := #[.int .i64 x3_1, .int .i64 x475001_1]) ?_ 1 _ rfl; (with_reducible repeat (first | refine blk_drewN ?_ _ | refine blk_drew ?_ | refine blk_alloc ?_ _)); refine blk_put (cs := #[.int .i64 x475000_1, .int .i64 x475001_1]) ?_ 0 _ rfl; (with_reducible repeat (first | refine blk_drewN ?_ _ | refine blk_drew ?_ | refine blk_alloc ?_ _)); exact BK474.out) Try.underlying86 rfl (by kernel_rfl)) rfl ?_
                                  exact ⟨by first | rfl | (simp [errW_none, errW_some] <;> rfl) | (simp [*, errW_none, errW_some] <;> rfl), by repeat (first | (with_reducible first | exact HB.out | apply below_alloc | apply pw_below_drewN | apply below_drew1 | refine below_set ?_ GE474.out) | exact HB.out)⟩
                        · rw [if_neg c15] at H
                          exact absurd H (by simp)
                      · rw [if_neg c14] at H
                        exact absurd H (by simp)
                · rw [if_neg c10] at H
                  exact absurd H (by simp)
              · rw [if_neg c9] at H
                exact absurd H (by simp)
        · rw [if_neg c4] at H
          exact absurd H (by simp)
      · rw [if_neg c3] at H
        have c3b0 : decide (x3_1 < (l0.length : Int)) = false := decide_eq_false c3
        clear c3
        simp only [Option.some.injEq, Prod.mk.injEq] at H
        obtain ⟨rfl, rfl⟩ := H
        have hcz23_0 : wr.cell? ⟨gb474, 0, none⟩ = some (.int .i64 x475000_1) := (blk_cell BK474.out 0).trans rfl
        have hcz23_1 : wr.cell? ⟨gb474, 1, none⟩ = some (.int .i64 x475001_1) := (blk_cell BK474.out 1).trans rfl
        have hfz23_0 := blk_frozen BK474.out 0
        have hfz23_1 := blk_frozen BK474.out 1
        go_wp2
        refine bodyPost_ret (results_cell_row rfl _ _ gb474 86 #[.int .i64 0, .int .i64 0] (0, 0) _ rfl (by (with_reducible repeat (first | refine blk_drewN ?_ _ | refine blk_drew ?_ | refine blk_alloc ?_ _)); refine blk_put (cs := #[.int .i64 0, .int .i64 x475001_1]) ?_ 1 _ rfl; (with_reducible repeat (first | refine blk_drewN ?_ _ | refine blk_drew ?_ | refine blk_alloc ?_ _)); refine blk_put (cs := #[.int .i64 x475000_1, .int .i64 x475001_1]) ?_ 0 _ rfl; (with_reducible repeat (first | refine blk_drewN ?_ _ | refine blk_drew ?_ | refine blk_alloc ?_ _)); exact BK474.out) Try.underlying86 rfl (by kernel_rfl)) rfl ?_
        exact ⟨by first | rfl | (simp [errW_none, errW_some] <;> rfl) | (simp [*, errW_none, errW_some] <;> rfl), by repeat (first | (with_reducible first | exact HB.out | apply below_alloc | apply pw_below_drewN | apply below_drew1 | refine below_set ?_ GE474.out) | exact HB.out)⟩

end Go.Proofs.Ytlchgkoafabapaa.X
/- What the functions of right on users, and those of its reference, answer. -/
set_option linter.unusedVariables false
set_option linter.unusedSimpArgs false
namespace Go.Proofs.Ytlchgkoafabapaa.X
open Go.RowKit Go.Proofs.YtlchgkoafabapaaW.PrintWords Go.Proofs.YtlchgkoafabapaaW.PrintLast Go.Proofs.YtlchgkoafabapaaW.PrintMore

abbrev Us := S93
theorem rdU (xs : List Us) (i : Nat) (h : i < xs.length) : rd_T93 xs (i : Int) = xs[i] := by
  simp [rd_T93, List.getD_eq_getElem?_getD, h]
/-! Names. -/
def chS (c : Int) : Bool := (decide (97 ≤ c) && decide (c ≤ 122)) || (decide (48 ≤ c) && decide (c ≤ 57))
def allS (s : ByteArray) (i : Nat) : Nat → Bool
  | 0 => true
  | d + 1 => chS (bt s (i : Int)) && allS s (i + 1) d
theorem name_l0 (s : ByteArray) (hs : s.size ≤ 9223372036854775807) : ∀ (d i : Nat), i + d = s.size → Ev (fun k => right_Name.l0 k s (s.size : Int) (i : Int)) (allS s i d) := by
  intro d
  induction d with
  | zero =>
    intro i hi
    refine Ev.step (f := fun _ => some true) (fun k => ?_) (Ev.now _)
    simp only [right_Name.l0]
    rw [if_neg (by omega)]
  | succ d ih =>
    intro i hi
    have hw := w64s (i := i) (n := s.size) (by omega) hs
    have ih' := ih (i + 1) (by omega)
    refine Ev.step (f := fun k => if chS (bt s (i : Int)) = true then right_Name.l0 k s (s.size : Int) ((i + 1 : Nat) : Int) else some false) (fun k => ?_) ?_
    · simp only [right_Name.l0]
      rw [if_pos (by omega), if_pos (by omega), if_pos (by omega), hw]
      unfold chS
      generalize bt s (i : Int) = c
      by_cases h1 : c < 97
      · rw [if_pos h1, decide_eq_false (show ¬ 97 ≤ c by omega)]
        by_cases h2 : c < 48
        · rw [if_pos h2, decide_eq_false (show ¬ 48 ≤ c by omega)]; simp
        · rw [if_neg h2, decide_eq_true (show 48 ≤ c by omega)]
          by_cases h3 : c > 57
          · rw [if_pos h3, decide_eq_false (show ¬ c ≤ 57 by omega)]; simp
          · rw [if_neg h3, decide_eq_true (show c ≤ 57 by omega)]; simp
      · rw [if_neg h1, decide_eq_true (show 97 ≤ c by omega)]
        by_cases h2 : c > 122
        · rw [if_pos h2, if_neg (by omega), if_pos (by omega), decide_eq_false (show ¬ c ≤ 122 by omega), decide_eq_false (show ¬ c ≤ 57 by omega)]; simp
        · rw [if_neg h2, decide_eq_true (show c ≤ 122 by omega)]; simp
    · simp only [allS]
      refine ev_ite (fun h => ?_) (fun h => ?_)
      · rw [h]; simpa using ih'
      · rw [show chS (bt s (i : Int)) = false by simpa using h]; exact Ev.now _
theorem rname_l0 (s : ByteArray) (hs : s.size ≤ 9223372036854775807) : ∀ (d i : Nat), i + d = s.size → Ev (fun k => oculusref06_Name.l0 k s (i : Int)) (allS s i d) := by
  intro d
  induction d with
  | zero =>
    intro i hi
    refine Ev.step (f := fun _ => some true) (fun k => ?_) (Ev.now _)
    simp only [oculusref06_Name.l0]
    rw [if_neg (by omega)]
  | succ d ih =>
    intro i hi
    have hw := w64s (i := i) (n := s.size) (by omega) hs
    have ih' := ih (i + 1) (by omega)
    refine Ev.step (f := fun k => if chS (bt s (i : Int)) = true then oculusref06_Name.l0 k s ((i + 1 : Nat) : Int) else some false) (fun k => ?_) ?_
    · simp only [oculusref06_Name.l0]
      rw [if_pos (by omega), if_pos (by omega), hw]
      unfold chS oculusref06_letter.f
      generalize bt s (i : Int) = c
      by_cases h1 : c ≥ 97
      · rw [if_pos h1, decide_eq_true (show 97 ≤ c by omega)]
        simp only [Option.bind_some]
        by_cases h2 : c ≤ 122
        · rw [decide_eq_true h2]; simp
        · rw [decide_eq_false h2, if_pos (show c ≥ 48 by omega), if_neg (show ¬ c ≤ 57 by omega), decide_eq_false (show ¬ c ≤ 57 by omega)]; simp
      · rw [if_neg h1, decide_eq_false (show ¬ 97 ≤ c by omega)]
        simp only [Option.bind_some]
        by_cases h2 : c ≥ 48
        · rw [if_pos h2, decide_eq_true (show 48 ≤ c by omega)]
          by_cases h3 : c ≤ 57
          · rw [if_pos h3, decide_eq_true h3]; simp
          · rw [if_neg h3, decide_eq_false h3]; simp
        · rw [if_neg h2, decide_eq_false (show ¬ 48 ≤ c by omega)]; simp
    · simp only [allS]
      refine ev_ite (fun h => ?_) (fun h => ?_)
      · rw [h]; simpa using ih'
      · rw [show chS (bt s (i : Int)) = false by simpa using h]; exact Ev.now _
/-- Is a text a name? -/
def nameS (s : ByteArray) : Bool := decide (1 ≤ s.size) && (decide (s.size ≤ 16) && (decide (97 ≤ bt s 0) && allS s 0 s.size))
theorem name_ev (s : ByteArray) (hs : s.size ≤ 9223372036854775807) : Ev (fun k => right_Name.f k s) (nameS s) := by
  unfold right_Name.f nameS
  have hj : ∀ b, Ev (fun k => right_Name.j0 k s b) (!b && allS s 0 s.size) := by
    intro b
    refine Ev.step (f := fun k => if b = true then some false else right_Name.l0 k s (s.size : Int) 0) (fun k => by simp only [right_Name.j0]) ?_
    cases b with
    | true => exact ev_pos rfl (Ev.now _)
    | false => exact ev_neg (by simp) (by simpa using name_l0 s hs s.size 0 (by omega))
  by_cases h1 : (s.size : Int) < 1
  · simp only [if_pos h1]; rw [decide_eq_false (show ¬ 1 ≤ s.size by omega)]; exact hj true
  · simp only [if_neg h1]; rw [decide_eq_true (show 1 ≤ s.size by omega)]
    by_cases h2 : (s.size : Int) > 16
    · simp only [if_pos h2]; rw [decide_eq_false (show ¬ s.size ≤ 16 by omega)]; exact hj true
    · simp only [if_neg h2]; rw [decide_eq_true (show s.size ≤ 16 by omega)]; simp only [if_pos (show (0 : Int) < (s.size : Int) by omega)]
      have := hj (decide (bt s 0 < 97))
      rw [show (!decide (bt s 0 < 97)) = decide (97 ≤ bt s 0) by rw [Bool.eq_iff_iff]; simp] at this
      simpa using this
theorem rname_ev (s : ByteArray) (hs : s.size ≤ 9223372036854775807) : Ev (fun k => oculusref06_Name.f k s) (nameS s) := by
  unfold oculusref06_Name.f nameS
  have hj : ∀ b, Ev (fun k => oculusref06_Name.j0 k s b) (!b && allS s 0 s.size) := by
    intro b
    refine Ev.step (f := fun k => if b = true then some false else oculusref06_Name.l0 k s 0) (fun k => by simp only [oculusref06_Name.j0]) ?_
    cases b with
    | true => exact ev_pos rfl (Ev.now _)
    | false => exact ev_neg (by simp) (by simpa using rname_l0 s hs s.size 0 (by omega))
  by_cases h1 : (s.size : Int) < 1
  · simp only [if_pos h1]; rw [decide_eq_false (show ¬ 1 ≤ s.size by omega)]; exact hj true
  · simp only [if_neg h1]; rw [decide_eq_true (show 1 ≤ s.size by omega)]
    by_cases h2 : (s.size : Int) > 16
    · simp only [if_pos h2]; rw [decide_eq_false (show ¬ s.size ≤ 16 by omega)]; exact hj true
    · simp only [if_neg h2]; rw [decide_eq_true (show s.size ≤ 16 by omega)]; simp only [if_pos (show (0 : Int) < (s.size : Int) by omega)]
      unfold oculusref06_letter.f
      by_cases h3 : bt s 0 ≥ 97
      · rw [if_pos h3, decide_eq_true (show 97 ≤ bt s 0 by omega)]
        simp only [Option.bind_some]
        have := hj (!decide (bt s 0 ≤ 122))
        by_cases h4 : bt s 0 ≤ 122
        · rw [decide_eq_true h4] at this ⊢; simpa using this
        · rw [decide_eq_false h4] at this ⊢
          have hz : allS s 0 s.size = false := by
            obtain ⟨n, hn⟩ : ∃ n, s.size = n + 1 := ⟨s.size - 1, by omega⟩
            rw [hn]
            simp only [allS]
            have : chS (bt s ((0 : Nat) : Int)) = false := by
              unfold chS
              rw [show ((0 : Nat) : Int) = 0 from rfl, decide_eq_false h4, decide_eq_false (show ¬ bt s 0 ≤ 57 by omega)]; simp
            rw [this]; rfl
          rw [hz]
          simpa using this
      · rw [if_neg h3, decide_eq_false (show ¬ 97 ≤ bt s 0 by omega)]
        simp only [Option.bind_some]
        simpa using hj true
/-! Find. -/
def hitU (n : ByteArray) (u : Us) : Bool := decide (u.f0.toList = n.toList)
def findS (n : ByteArray) : List Us → Int × Int × Bool
  | [] => (0, 0, false)
  | u :: r => if hitU n u = true then (u.f1.f0, u.f1.f1, true) else findS n r
theorem find_l0 (n : ByteArray) (xs : List Us) (hx : xs.length ≤ 9223372036854775807) : ∀ (d i : Nat), i + d = xs.length →
    Ev (fun k => right_Find.l0 k n xs (xs.length : Int) (i : Int)) (findS n (xs.drop i)) := by
  intro d
  induction d with
  | zero =>
    intro i hi
    rw [List.drop_eq_nil_of_le (by omega)]
    refine Ev.step (f := fun _ => some (0, 0, false)) (fun k => ?_) (Ev.now _)
    simp only [right_Find.l0]
    rw [if_neg (by omega)]
  | succ d ih =>
    intro i hi
    have hlt : i < xs.length := by omega
    have hw := w64s hlt hx
    rw [List.drop_eq_getElem_cons hlt]
    refine Ev.step (f := fun k => if xs[i].f0.toList = n.toList then some (xs[i].f1.f0, xs[i].f1.f1, true) else right_Find.l0 k n xs (xs.length : Int) ((i + 1 : Nat) : Int)) (fun k => ?_) ?_
    · simp only [right_Find.l0]
      rw [if_pos (by omega), if_pos (by omega), if_pos (by omega), rdU xs i hlt, hw]
    · simp only [findS, hitU, decide_eq_true_eq]
      refine ev_ite (fun h => ?_) (fun h => ?_)
      · rw [if_pos h]; exact Ev.now _
      · rw [if_neg h]; exact ih (i + 1) (by omega)
theorem find_ev (n : ByteArray) (xs : List Us) (hx : xs.length ≤ 9223372036854775807) : Ev (fun k => right_Find.f k xs n) (findS n xs) := by
  unfold right_Find.f
  simpa using find_l0 n xs hx xs.length 0 (by omega)
/-- The first place from i on, or none. -/
def placeS (n : ByteArray) : List Us → Nat → Int
  | [], _ => -1
  | u :: r, i => if hitU n u = true then (i : Int) else placeS n r (i + 1)
theorem rfind_l0 (n : ByteArray) (xs : List Us) (hx : xs.length ≤ 9223372036854775807) : ∀ (d i : Nat), i + d = xs.length →
    Ev (fun k => oculusref06_Find.l0 k xs n (i : Int)) (placeS n (xs.drop i) i) := by
  intro d
  induction d with
  | zero =>
    intro i hi
    rw [List.drop_eq_nil_of_le (by omega)]
    refine Ev.step (f := fun _ => some (-1)) (fun k => ?_) (Ev.now _)
    simp only [oculusref06_Find.l0]
    rw [if_neg (by omega)]
  | succ d ih =>
    intro i hi
    have hlt : i < xs.length := by omega
    have hw := w64s hlt hx
    rw [List.drop_eq_getElem_cons hlt]
    refine Ev.step (f := fun k => if xs[i].f0.toList = n.toList then some (i : Int) else oculusref06_Find.l0 k xs n ((i + 1 : Nat) : Int)) (fun k => ?_) ?_
    · simp only [oculusref06_Find.l0]
      rw [if_pos (by omega), if_pos (by omega), rdU xs i hlt, hw]
    · simp only [placeS, hitU, decide_eq_true_eq]
      refine ev_ite (fun h => ?_) (fun h => ?_)
      · rw [if_pos h]; exact Ev.now _
      · rw [if_neg h]; exact ih (i + 1) (by omega)
theorem rfind_ev (n : ByteArray) (xs : List Us) (hx : xs.length ≤ 9223372036854775807) : Ev (fun k => oculusref06_Find.f k xs n) (placeS n xs 0) := by
  unfold oculusref06_Find.f
  simpa using rfind_l0 n xs hx xs.length 0 (by omega)
/-- What the place and the find say of one another. -/
theorem place_find (n : ByteArray) : ∀ (l : List Us) (i : Nat), (placeS n l i = -1 ∧ findS n l = (0, 0, false) ∧ l.any (hitU n) = false) ∨
    ∃ (j : Nat) (h : j < l.length), placeS n l i = ((i + j : Nat) : Int) ∧ findS n l = (l[j].f1.f0, l[j].f1.f1, true) ∧ l.any (hitU n) = true ∧ hitU n l[j] = true ∧ (l.take j).any (hitU n) = false
  | [], i => Or.inl ⟨rfl, rfl, rfl⟩
  | u :: r, i => by
    by_cases h : hitU n u = true
    · refine Or.inr ⟨0, by simp, ?_, ?_, ?_, ?_, ?_⟩
      · simp [placeS, h]
      · simp [findS, h]
      · simp [h]
      · simpa using h
      · simp
    · have hf : hitU n u = false := by simpa using h
      rcases place_find n r (i + 1) with ⟨h1, h2, h3⟩ | ⟨j, hj, h1, h2, h3, h4, h5⟩
      · left
        simp [placeS, findS, hf, h1, h2, h3]
      · right
        refine ⟨j + 1, by simp; omega, ?_, ?_, ?_, ?_, ?_⟩
        · simp only [placeS, if_neg h, h1]; congr 1; omega
        · simp only [findS, if_neg h, h2]; simp
        · simp only [List.any_cons, h3, Bool.or_true]
        · simpa using h4
        · simp only [List.take_succ_cons, List.any_cons, hf, h5, Bool.or_false]
theorem may_eq (a0 a1 : Int) : label_May.f a0 a1 = some (decide (a0 ≥ 0) && decide (a0 ≤ 15)) := by
  unfold label_May.f
  by_cases h : a0 ≥ 0
  · rw [if_pos h, decide_eq_true h]; rfl
  · rw [if_neg h, decide_eq_false h]; rfl
theorem rmay_eq (a0 a1 : Int) : oculusref06_may.f a0 a1 = some (decide (a0 ≥ 0) && decide (a0 ≤ 15)) := by
  unfold oculusref06_may.f
  by_cases h : a0 ≥ 0
  · rw [if_pos h, decide_eq_true h]; rfl
  · rw [if_neg h, decide_eq_false h]; rfl
def mayS (a0 : Int) : Bool := decide (a0 ≥ 0) && decide (a0 ≤ 15)
def okU (u : Us) : Prop := (Lit.int .u64 u.f1.f1).wf = true ∧ u.f0.size ≤ 9223372036854775807
/-! Acts. -/
def actsS (n : ByteArray) (xs : List Us) (a0 a1 : Int) : Int := if (findS n xs).2.2 = true then (if mayS a0 = true then (if belowS a0 a1 (findS n xs).1 (findS n xs).2.1 = true then 0 else 12) else 12) else 11
theorem acts_ev (n : ByteArray) (xs : List Us) (hx : xs.length ≤ 9223372036854775807) (a0 a1 : Int) : Ev (fun k => right_Acts.f k xs n a0 a1) (actsS n xs a0 a1) := by
  unfold right_Acts.f actsS
  refine ev_bind (find_ev n xs hx) ?_
  refine ev_ite (fun h => ?_) (fun h => ?_)
  · rw [if_pos h, may_eq]
    simp only [Option.bind_some]
    refine ev_ite (fun h2 => ?_) (fun h2 => ?_)
    · rw [if_pos (show mayS a0 = true from h2), below_eq]
      simp only [Option.bind_some]
      refine ev_ite (fun h3 => ?_) (fun h3 => ?_)
      · rw [if_pos h3]; exact Ev.now _
      · rw [if_neg h3]; exact Ev.now _
    · rw [if_neg (show ¬ mayS a0 = true from h2)]; exact Ev.now _
  · rw [if_neg h]; exact Ev.now _
theorem racts_ev (n : ByteArray) (xs : List Us) (hx : xs.length ≤ 9223372036854775807) (hu : ∀ u ∈ xs, okU u) (a0 a1 : Int) (ha : (Lit.int .u64 a1).wf = true) : Ev (fun k => oculusref06_Acts.f k xs n a0 a1) (actsS n xs a0 a1) := by
  unfold oculusref06_Acts.f actsS
  refine ev_bind (rfind_ev n xs hx) ?_
  rcases place_find n xs 0 with ⟨h1, h2, h3⟩ | ⟨j, hj, h1, h2, h3, h4, h5⟩
  · rw [h1, h2]
    exact ev_pos (by omega) (Ev.now _)
  · rw [h1, h2, Nat.zero_add]
    refine ev_neg (by omega) ?_
    rw [if_pos rfl, rmay_eq]
    simp only [Option.bind_some]
    refine ev_ite (fun h6 => ?_) (fun h6 => ?_)
    · rw [if_pos (show mayS a0 = true from h6)]
      refine ev_pos (by omega) (ev_pos (by omega) ?_)
      simp only [rdU xs j hj]
      refine ev_bind (rbelow_ev _ _ _ _ ha (hu _ (List.getElem_mem hj)).1) ?_
      refine ev_ite (fun h7 => ?_) (fun h7 => ?_)
      · rw [if_pos h7]; exact Ev.now _
      · rw [if_neg h7]; exact Ev.now _
    · rw [if_neg (show ¬ mayS a0 = true from h6)]; exact Ev.now _
/-! Users. -/
def userS (xs : List Us) (i : Nat) (u : Us) : Int := if 16 ≤ i then 10 else if nameS u.f0 = false then 1 else if (xs.take i).any (hitU u.f0) = true then 8 else if mayS u.f1.f0 = false then 7 else 0
def usersS (xs : List Us) : List Us → Nat → Int × Int
  | [], _ => (0, 0)
  | u :: r, i => if userS xs i u = 0 then usersS xs r (i + 1) else ((i : Int), userS xs i u)
theorem find_snd (n : ByteArray) (l : List Us) : (findS n l).2.2 = l.any (hitU n) := by
  rcases place_find n l 0 with ⟨_, h2, h3⟩ | ⟨j, hj, _, h2, h3, _⟩ <;> rw [h2, h3]
theorem users_l0 (xs : List Us) (hx : xs.length ≤ 9223372036854775807) (hu : ∀ u ∈ xs, okU u) : ∀ (d i : Nat), i + d = xs.length →
    Ev (fun k => right_Users.l0 k xs xs (xs.length : Int) (i : Int)) (usersS xs (xs.drop i) i) := by
  intro d
  induction d with
  | zero =>
    intro i hi
    rw [List.drop_eq_nil_of_le (by omega)]
    refine Ev.step (f := fun _ => some (0, 0)) (fun k => ?_) (Ev.now _)
    simp only [right_Users.l0]
    rw [if_neg (by omega)]
  | succ d ih =>
    intro i hi
    have hlt : i < xs.length := by omega
    have hw := w64s hlt hx
    have hok := hu _ (List.getElem_mem hlt)
    have ih' := ih (i + 1) (by omega)
    rw [List.drop_eq_getElem_cons hlt]
    simp only [usersS]
    refine Ev.step (f := fun k => (right_Find.f k (xs.take i) xs[i].f0).bind fun b => right_Users.j1 k xs (i : Int) b.2.2 xs (xs.length : Int) (i : Int) xs[i].f0 xs[i].f1.f0 xs[i].f1.f1) (fun k => ?_) ?_
    · simp only [right_Users.l0]
      rw [if_pos (by omega), if_pos (by omega), if_pos (by omega), if_pos (by omega), rdU xs i hlt]
      rfl
    · refine ev_bind (find_ev xs[i].f0 (xs.take i) (by simp; omega)) ?_
      rw [find_snd]
      refine Ev.step (f := fun k => if (i : Int) ≥ 16 then some ((i : Int), 10) else (right_Name.f k xs[i].f0).bind fun t => if t = true then (if (xs.take i).any (hitU xs[i].f0) = true then some ((i : Int), 8) else (label_May.f xs[i].f1.f0 xs[i].f1.f1).bind fun t2 => if t2 = true then right_Users.l0 k xs xs (xs.length : Int) ((i + 1 : Nat) : Int) else some ((i : Int), 7)) else some ((i : Int), 1)) (fun k => ?_) ?_
      · simp only [right_Users.j1, hw]
      · refine ev_ite (fun h => ?_) (fun h => ?_)
        · have e : userS xs i xs[i] = 10 := by unfold userS; rw [if_pos (by omega)]
          rw [e, if_neg (by decide)]; exact Ev.now _
        · have h16 : ¬ 16 ≤ i := by omega
          refine ev_bind (name_ev _ hok.2) ?_
          refine ev_ite (fun hn => ?_) (fun hn => ?_)
          · refine ev_ite (fun h2 => ?_) (fun h2 => ?_)
            · have e : userS xs i xs[i] = 8 := by unfold userS; rw [if_neg h16, hn, if_neg (by decide), if_pos h2]
              rw [e, if_neg (by decide)]; exact Ev.now _
            · rw [may_eq]
              simp only [Option.bind_some]
              refine ev_ite (fun hm => ?_) (fun hm => ?_)
              · have e : userS xs i xs[i] = 0 := by unfold userS; rw [if_neg h16, hn, if_neg (by decide), if_neg h2, show mayS xs[i].f1.f0 = true from hm, if_neg (by decide)]
                rw [e, if_pos rfl]; exact ih'
              · have e : userS xs i xs[i] = 7 := by unfold userS; rw [if_neg h16, hn, if_neg (by decide), if_neg h2, show mayS xs[i].f1.f0 = false by simpa [mayS] using hm, if_pos rfl]
                rw [e, if_neg (by decide)]; exact Ev.now _
          · have e : userS xs i xs[i] = 1 := by unfold userS; rw [if_neg h16, show nameS xs[i].f0 = false by simpa using hn, if_pos rfl]
            rw [e, if_neg (by decide)]; exact Ev.now _
theorem users_ev (xs : List Us) (hx : xs.length ≤ 9223372036854775807) (hu : ∀ u ∈ xs, okU u) : Ev (fun k => right_Users.f k xs) (usersS xs xs 0) := by
  unfold right_Users.f
  simpa using users_l0 xs hx hu xs.length 0 (by omega)
theorem place_own (xs : List Us) (i : Nat) (h : i < xs.length) : (placeS xs[i].f0 xs 0 = (i : Int)) ↔ (xs.take i).any (hitU xs[i].f0) = false := by
  have hself : hitU xs[i].f0 xs[i] = true := by unfold hitU; simp
  rcases place_find xs[i].f0 xs 0 with ⟨h1, h2, h3⟩ | ⟨j, hj, h1, h2, h3, h4, h5⟩
  · exfalso
    have := List.any_eq_false.1 h3 xs[i] (List.getElem_mem h)
    exact this hself
  · rw [h1, Nat.zero_add]
    constructor
    · intro e
      have : j = i := by omega
      subst this
      exact h5
    · intro e
      rcases Nat.lt_trichotomy j i with hlt | he | hgt
      · exfalso
        have := List.any_eq_false.1 e xs[j] (by rw [List.mem_take_iff_getElem]; exact ⟨j, by omega, rfl⟩)
        exact this h4
      · omega
      · exfalso
        have := List.any_eq_false.1 h5 xs[i] (by rw [List.mem_take_iff_getElem]; exact ⟨i, by omega, rfl⟩)
        exact this hself
theorem rusers_l0 (xs : List Us) (hx : xs.length ≤ 9223372036854775807) (hu : ∀ u ∈ xs, okU u) : ∀ (d i : Nat), i + d = xs.length →
    Ev (fun k => oculusref06_Users.l0 k xs (i : Int)) (usersS xs (xs.drop i) i) := by
  intro d
  induction d with
  | zero =>
    intro i hi
    rw [List.drop_eq_nil_of_le (by omega)]
    refine Ev.step (f := fun _ => some (0, 0)) (fun k => ?_) (Ev.now _)
    simp only [oculusref06_Users.l0]
    rw [if_neg (by omega)]
  | succ d ih =>
    intro i hi
    have hlt : i < xs.length := by omega
    have hw := w64s hlt hx
    have hok := hu _ (List.getElem_mem hlt)
    have ih' := ih (i + 1) (by omega)
    rw [List.drop_eq_getElem_cons hlt]
    simp only [usersS]
    have j3 : ∀ e : Int, (16 ≤ i ∨ e = userS xs i xs[i]) → Ev (fun k => oculusref06_Users.j3 k xs (i : Int) e) (if userS xs i xs[i] = 0 then usersS xs (xs.drop (i + 1)) (i + 1) else ((i : Int), userS xs i xs[i])) := by
      intro e he
      refine Ev.step (f := fun k => if (i : Int) > 15 then some ((i : Int), 10) else if e = 0 then oculusref06_Users.l0 k xs ((i + 1 : Nat) : Int) else some ((i : Int), e)) (fun k => by simp only [oculusref06_Users.j3, hw]) ?_
      refine ev_ite (fun h => ?_) (fun h => ?_)
      · have : userS xs i xs[i] = 10 := by unfold userS; rw [if_pos (by omega)]
        rw [this, if_neg (by omega)]; exact Ev.now _
      · have he' : e = userS xs i xs[i] := by rcases he with h' | h'; omega; exact h'
        rw [← he']
        refine ev_ite (fun h2 => ?_) (fun h2 => ?_)
        · rw [if_pos h2]; exact ih'
        · rw [if_neg h2]; exact Ev.now _
    have j2 : ∀ e : Int, (16 ≤ i ∨ nameS xs[i].f0 = false ∨ e = userS xs i xs[i]) → Ev (fun k => oculusref06_Users.j2 k xs (i : Int) e) (if userS xs i xs[i] = 0 then usersS xs (xs.drop (i + 1)) (i + 1) else ((i : Int), userS xs i xs[i])) := by
      intro e he
      refine Ev.step (f := fun k => (oculusref06_Name.f k xs[i].f0).bind fun t => if t = true then oculusref06_Users.j3 k xs (i : Int) e else oculusref06_Users.j3 k xs (i : Int) 1) (fun k => ?_) ?_
      · simp only [oculusref06_Users.j2]
        rw [if_pos (by omega), if_pos (by omega), rdU xs i hlt]
      · refine ev_bind (rname_ev _ hok.2) ?_
        refine ev_ite (fun h => ?_) (fun h => ?_)
        · refine j3 e ?_
          rcases he with h' | h' | h'
          · exact Or.inl h'
          · rw [h] at h'; cases h'
          · exact Or.inr h'
        · refine j3 1 ?_
          by_cases h16 : 16 ≤ i
          · exact Or.inl h16
          · right; unfold userS; rw [if_neg h16, if_pos (by simpa using h)]
    have j1 : ∀ e : Int, (e = if mayS xs[i].f1.f0 = true then 0 else 7) → Ev (fun k => oculusref06_Users.j1 k xs (i : Int) e) (if userS xs i xs[i] = 0 then usersS xs (xs.drop (i + 1)) (i + 1) else ((i : Int), userS xs i xs[i])) := by
      intro e he
      refine Ev.step (f := fun k => (oculusref06_Find.f k xs xs[i].f0).bind fun t => if t = (i : Int) then oculusref06_Users.j2 k xs (i : Int) e else oculusref06_Users.j2 k xs (i : Int) 8) (fun k => ?_) ?_
      · simp only [oculusref06_Users.j1]
        rw [if_pos (by omega), if_pos (by omega), rdU xs i hlt]
      · refine ev_bind (rfind_ev _ xs hx) ?_
        refine ev_ite (fun h => ?_) (fun h => ?_)
        · rw [place_own xs i hlt] at h
          refine j2 e ?_
          by_cases h16 : 16 ≤ i
          · exact Or.inl h16
          · cases hn : nameS xs[i].f0 with
            | false => exact Or.inr (Or.inl rfl)
            | true =>
              right; right
              unfold userS
              rw [if_neg h16, hn, if_neg (by simp), h, if_neg (by simp), he]
              cases mayS xs[i].f1.f0 <;> simp
        · rw [place_own xs i hlt] at h
          refine j2 8 ?_
          by_cases h16 : 16 ≤ i
          · exact Or.inl h16
          · cases hn : nameS xs[i].f0 with
            | false => exact Or.inr (Or.inl rfl)
            | true =>
              right; right
              unfold userS
              rw [if_neg h16, hn, if_neg (by simp), if_pos (by simpa using h)]
    refine Ev.step (f := fun k => (oculusref06_may.f xs[i].f1.f0 xs[i].f1.f1).bind fun t => if t = true then oculusref06_Users.j1 k xs (i : Int) 0 else oculusref06_Users.j1 k xs (i : Int) 7) (fun k => ?_) ?_
    · simp only [oculusref06_Users.l0]
      rw [if_pos (by omega), if_pos (by omega), rdU xs i hlt]
    · rw [rmay_eq]
      simp only [Option.bind_some]
      refine ev_ite (fun h => ?_) (fun h => ?_)
      · exact j1 0 (by rw [if_pos (show mayS xs[i].f1.f0 = true from h)])
      · exact j1 7 (by rw [if_neg (show ¬ mayS xs[i].f1.f0 = true from h)])
theorem rusers_ev (xs : List Us) (hx : xs.length ≤ 9223372036854775807) (hu : ∀ u ∈ xs, okU u) : Ev (fun k => oculusref06_Users.f k xs) (usersS xs xs 0) := by
  unfold oculusref06_Users.f
  simpa using rusers_l0 xs hx hu xs.length 0 (by omega)
/-! Grants. -/
def grantS (us : List Us) (i : Nat) (g : Gr) : Int := if 32 ≤ i then 10 else if us.any (hitU g.f0) = false then 11 else if (mayS g.f1.f0 && mayS g.f2.f0) = false then 7 else 0
def grantsS (us : List Us) : List Gr → Nat → Int × Int
  | [], _ => (0, 0)
  | g :: r, i => if grantS us i g = 0 then grantsS us r (i + 1) else ((i : Int), grantS us i g)
theorem grants_l0 (us : List Us) (hus : us.length ≤ 9223372036854775807) (xs : List Gr) (hx : xs.length ≤ 9223372036854775807) : ∀ (d i : Nat), i + d = xs.length →
    Ev (fun k => right_Grants.l0 k us xs (xs.length : Int) (i : Int)) (grantsS us (xs.drop i) i) := by
  intro d
  induction d with
  | zero =>
    intro i hi
    rw [List.drop_eq_nil_of_le (by omega)]
    refine Ev.step (f := fun _ => some (0, 0)) (fun k => ?_) (Ev.now _)
    simp only [right_Grants.l0]
    rw [if_neg (by omega)]
  | succ d ih =>
    intro i hi
    have hlt : i < xs.length := by omega
    have hw := w64s hlt hx
    have ih' := ih (i + 1) (by omega)
    rw [List.drop_eq_getElem_cons hlt]
    simp only [grantsS]
    refine Ev.step (f := fun k => (right_Find.f k us xs[i].f0).bind fun b => right_Grants.j1 k us (i : Int) b.2.2 xs (xs.length : Int) (i : Int) xs[i].f0 xs[i].f1.f0 xs[i].f1.f1 xs[i].f2.f0 xs[i].f2.f1) (fun k => ?_) ?_
    · simp only [right_Grants.l0]
      rw [if_pos (by omega), if_pos (by omega), if_pos (by omega), rdG xs i hlt]
    · refine ev_bind (find_ev xs[i].f0 us hus) ?_
      rw [find_snd]
      refine Ev.step (f := fun k => if (i : Int) ≥ 32 then some ((i : Int), 10) else if us.any (hitU xs[i].f0) = true then ((label_May.f xs[i].f1.f0 xs[i].f1.f1).bind fun t => if t = true then ((label_May.f xs[i].f2.f0 xs[i].f2.f1).bind fun t2 => if t2 = true then right_Grants.l0 k us xs (xs.length : Int) ((i + 1 : Nat) : Int) else some ((i : Int), 7)) else some ((i : Int), 7)) else some ((i : Int), 11)) (fun k => ?_) ?_
      · simp only [right_Grants.j1, hw]
      · refine ev_ite (fun h => ?_) (fun h => ?_)
        · have e : grantS us i xs[i] = 10 := by unfold grantS; rw [if_pos (by omega)]
          rw [e, if_neg (by decide)]; exact Ev.now _
        · have h32 : ¬ 32 ≤ i := by omega
          refine ev_ite (fun hn => ?_) (fun hn => ?_)
          · have seven : (mayS xs[i].f1.f0 && mayS xs[i].f2.f0) = false → grantS us i xs[i] = 7 := by
              intro h7; unfold grantS; rw [if_neg h32, hn, if_neg (by decide), h7, if_pos rfl]
            rw [may_eq]
            simp only [Option.bind_some]
            refine ev_ite (fun hm => ?_) (fun hm => ?_)
            · rw [may_eq]
              simp only [Option.bind_some]
              refine ev_ite (fun hm2 => ?_) (fun hm2 => ?_)
              · have e : grantS us i xs[i] = 0 := by unfold grantS; rw [if_neg h32, hn, if_neg (by decide), show mayS xs[i].f1.f0 = true from hm, show mayS xs[i].f2.f0 = true from hm2, if_neg (by decide)]
                rw [e, if_pos rfl]; exact ih'
              · rw [seven (by rw [show mayS xs[i].f2.f0 = false by simpa [mayS] using hm2, Bool.and_false]), if_neg (by decide)]; exact Ev.now _
            · rw [seven (by rw [show mayS xs[i].f1.f0 = false by simpa [mayS] using hm, Bool.false_and]), if_neg (by decide)]; exact Ev.now _
          · have e : grantS us i xs[i] = 11 := by unfold grantS; rw [if_neg h32, show us.any (hitU xs[i].f0) = false by simpa using hn, if_pos rfl]
            rw [e, if_neg (by decide)]; exact Ev.now _
theorem grants_ev (us : List Us) (hus : us.length ≤ 9223372036854775807) (xs : List Gr) (hx : xs.length ≤ 9223372036854775807) : Ev (fun k => right_Grants.f k xs us) (grantsS us xs 0) := by
  unfold right_Grants.f
  simpa using grants_l0 us hus xs hx xs.length 0 (by omega)
theorem rgrants_l0 (us : List Us) (hus : us.length ≤ 9223372036854775807) (xs : List Gr) (hx : xs.length ≤ 9223372036854775807) : ∀ (d i : Nat), i + d = xs.length →
    Ev (fun k => oculusref06_Grants.l0 k xs us (i : Int)) (grantsS us (xs.drop i) i) := by
  intro d
  induction d with
  | zero =>
    intro i hi
    rw [List.drop_eq_nil_of_le (by omega)]
    refine Ev.step (f := fun _ => some (0, 0)) (fun k => ?_) (Ev.now _)
    simp only [oculusref06_Grants.l0]
    rw [if_neg (by omega)]
  | succ d ih =>
    intro i hi
    have hlt : i < xs.length := by omega
    have hw := w64s hlt hx
    have ih' := ih (i + 1) (by omega)
    rw [List.drop_eq_getElem_cons hlt]
    simp only [grantsS]
    have j3 : ∀ e : Int, (32 ≤ i ∨ e = grantS us i xs[i]) → Ev (fun k => oculusref06_Grants.j3 k xs us (i : Int) e) (if grantS us i xs[i] = 0 then grantsS us (xs.drop (i + 1)) (i + 1) else ((i : Int), grantS us i xs[i])) := by
      intro e he
      refine Ev.step (f := fun k => if (i : Int) > 31 then some ((i : Int), 10) else if e = 0 then oculusref06_Grants.l0 k xs us ((i + 1 : Nat) : Int) else some ((i : Int), e)) (fun k => by simp only [oculusref06_Grants.j3, hw]) ?_
      refine ev_ite (fun h => ?_) (fun h => ?_)
      · have : grantS us i xs[i] = 10 := by unfold grantS; rw [if_pos (by omega)]
        rw [this, if_neg (by omega)]; exact Ev.now _
      · have he' : e = grantS us i xs[i] := by rcases he with h' | h'; omega; exact h'
        rw [← he']
        refine ev_ite (fun h2 => ?_) (fun h2 => ?_)
        · rw [if_pos h2]; exact ih'
        · rw [if_neg h2]; exact Ev.now _
    have j2 : ∀ e : Int, e = (if (mayS xs[i].f1.f0 && mayS xs[i].f2.f0) = false then 7 else 0) → Ev (fun k => oculusref06_Grants.j2 k xs us (i : Int) e) (if grantS us i xs[i] = 0 then grantsS us (xs.drop (i + 1)) (i + 1) else ((i : Int), grantS us i xs[i])) := by
      intro e he
      refine Ev.step (f := fun k => (oculusref06_Find.f k us xs[i].f0).bind fun t => if t < 0 then oculusref06_Grants.j3 k xs us (i : Int) 11 else oculusref06_Grants.j3 k xs us (i : Int) e) (fun k => ?_) ?_
      · simp only [oculusref06_Grants.j2]
        rw [if_pos (by omega), if_pos (by omega), rdG xs i hlt]
      · refine ev_bind (rfind_ev _ us hus) ?_
        rcases place_find xs[i].f0 us 0 with ⟨h1, h2, h3⟩ | ⟨j, hj, h1, h2, h3, h4, h5⟩
        · rw [h1]
          refine ev_pos (by omega) (j3 11 ?_)
          by_cases h32 : 32 ≤ i
          · exact Or.inl h32
          · right; unfold grantS; rw [if_neg h32, if_pos h3]
        · rw [h1]
          refine ev_neg (by omega) (j3 e ?_)
          by_cases h32 : 32 ≤ i
          · exact Or.inl h32
          · right; unfold grantS; rw [if_neg h32, if_neg (by rw [h3]; simp)]; exact he
    have j1 : ∀ b : Bool, b = !(mayS xs[i].f1.f0 && mayS xs[i].f2.f0) → Ev (fun k => oculusref06_Grants.j1 k xs us (i : Int) 0 b) (if grantS us i xs[i] = 0 then grantsS us (xs.drop (i + 1)) (i + 1) else ((i : Int), grantS us i xs[i])) := by
      intro b hb
      refine Ev.step (f := fun k => if b = true then oculusref06_Grants.j2 k xs us (i : Int) 7 else oculusref06_Grants.j2 k xs us (i : Int) 0) (fun k => by simp only [oculusref06_Grants.j1]) ?_
      cases hh : (mayS xs[i].f1.f0 && mayS xs[i].f2.f0) with
      | false => rw [hh] at hb; subst hb; exact ev_pos rfl (j2 7 (by rw [hh]; rfl))
      | true => rw [hh] at hb; subst hb; exact ev_neg (by simp) (j2 0 (by rw [hh]; rfl))
    refine Ev.step (f := fun k => (oculusref06_may.f xs[i].f1.f0 xs[i].f1.f1).bind fun t => if t = true then ((oculusref06_may.f xs[i].f2.f0 xs[i].f2.f1).bind fun t2 => oculusref06_Grants.j1 k xs us (i : Int) 0 (!t2)) else oculusref06_Grants.j1 k xs us (i : Int) 0 true) (fun k => ?_) ?_
    · simp only [oculusref06_Grants.l0]
      rw [if_pos (by omega), if_pos (by omega), rdG xs i hlt]
    · rw [rmay_eq, rmay_eq]
      simp only [Option.bind_some]
      refine ev_ite (fun h => ?_) (fun h => ?_)
      · exact j1 _ (by rw [show mayS xs[i].f1.f0 = true from h]; rfl)
      · exact j1 _ (by rw [show mayS xs[i].f1.f0 = false from by simpa [mayS] using h]; rfl)
theorem rgrants_ev (us : List Us) (hus : us.length ≤ 9223372036854775807) (xs : List Gr) (hx : xs.length ≤ 9223372036854775807) : Ev (fun k => oculusref06_Grants.f k xs us) (grantsS us xs 0) := by
  unfold oculusref06_Grants.f
  simpa using rgrants_l0 us hus xs hx xs.length 0 (by omega)
end Go.Proofs.Ytlchgkoafabapaa.X
/- That the statements of right live: one closed run. -/
set_option linter.unusedVariables false
set_option linter.unusedSimpArgs false
namespace Go.Proofs.Ytlchgkoafabapaa.X
open Go.RowKit Go.Proofs.YtlchgkoafabapaaW.PrintWords Go.Proofs.YtlchgkoafabapaaW.PrintLast Go.Proofs.YtlchgkoafabapaaW.PrintMore
theorem alive06_ev : Ev (fun k => oculuslaw06_alive.f k) true := by
  unfold oculuslaw06_alive.f
  refine ev_bsome ?_
  have hl : ([(⟨(⟨#[97, 110, 110]⟩ : ByteArray), (⟨3, 0⟩ : S26), (⟨1, 0⟩ : S26)⟩ : Gr)] : List Gr).length ≤ 9223372036854775807 := by decide
  refine ev_bind (holders_ev _ (by decide +kernel) 2 0) ?_
  refine ev_bind (lowers_ev _ hl _ 2 0 2 0) ?_
  refine ev_pos (by decide +kernel) ?_
  refine ev_bind (lowers_ev _ hl _ 2 0 2 0) ?_
  refine ev_neg (by decide +kernel) ?_
  refine ev_bind (lowers_ev _ hl _ 2 0 0 0) ?_
  refine ev_neg (by decide +kernel) ?_
  refine ev_bind (leaks_ev _ hl 2 0) ?_
  refine ev_pos (by decide +kernel) ?_
  refine ev_bind (leaks_ev _ hl 3 0) ?_
  refine ev_neg (by decide +kernel) ?_
  refine ev_pos (by decide +kernel) ?_
  refine ev_bind (name_ev _ (by decide +kernel)) ?_
  refine ev_pos (by decide +kernel) ?_
  refine ev_bind (acts_ev _ _ (by decide +kernel) 2 0) ?_
  exact ev_some (fun k => by decide +kernel)
end Go.Proofs.Ytlchgkoafabapaa.X
/- The pure statement of the law RightGrants: over numbers and lists alone. -/
set_option linter.unusedVariables false
set_option linter.unusedSimpArgs false
namespace Go.Proofs.Ytlchgkoafabapaa.Pure
open Go.RowKit Go.Proofs.Ytlchgkoafabapaa.X Go.Proofs.YtlchgkoafabapaaW.PrintWords Go.Proofs.YtlchgkoafabapaaW.PrintLast Go.Proofs.YtlchgkoafabapaaW.PrintMore
theorem RightGrants : oculuslaw06_RightGrants.PureX := by
  intro xs us ⟨hxs, hxl⟩ ⟨hus, hul⟩
  have e : reachBytes = 140737488351232 := by decide
  rw [e] at hxl hul
  apply Ev.rounds
  unfold oculuslaw06_RightGrants.f
  have hj : ∀ b, Ev (fun k => oculuslaw06_RightGrants.j0 k xs us b) true := by
    intro b
    refine Ev.step (fun k => by simp only [oculuslaw06_RightGrants.j0]; rfl) ?_
    refine ev_ite (fun h => ?_) (fun h => ?_)
    · exact ev_bind alive06_ev (Ev.now _)
    · refine ev_bind (grants_ev us (by omega) xs (by omega)) ?_
      refine ev_bind (rgrants_ev us (by omega) xs (by omega)) ?_
      exact ev_pos rfl (ev_pos rfl (ev_bind alive06_ev (Ev.now _)))
  exact ev_ite (fun h => hj true) (fun h => hj _)
end Go.Proofs.Ytlchgkoafabapaa.Pure
/- The row of the law RightGrants: for every input the call returns true and each argument reads afterwards as before, out of its pure statement and the contract of its function. Conditions: none beyond the given statement. -/
namespace Go.Proofs.Ytlchgkoafabapaa.rightGrants
open Go.ChangeShapes Go.WideShapes Go.ChangeAt Go.RowKit
open Go.ChangeMaps (open_string shut_string)
open Go.Proofs.Ytlchgkoafabapaa.Opn Go.Proofs.Ytlchgkoafabapaa.X
open Go.Proofs.YtlchgkoafabapaaW.PrintWords (Kd Drawn0)
set_option linter.unusedVariables false
theorem own : ownKnob Try.prog.godebug = none := by kernel_rfl
theorem laidOut : laidOutB Try.prog = true := by kernel_rfl
set_option maxRecDepth 100000 in
set_option maxHeartbeats 1000000 in
theorem lifted (os : Os) (started : os.Started) (H : Type) (enc : TypeId × Value → H) :
    ReturnsInHanded {} Try.checked os 11 .any (Rows.rightGrantsSpec.pre6 enc Try.prog Try.f11 Rows.rightGrantsRow.domain false) (Rows.rightGrantsSpec.post enc Try.prog Try.f11 false true false false) := by
  refine returnsInHanded_of_change_sized (C := Try.checked) own started (by kernel_rfl) Try.func11
    (ChangeSpec.witness6 (enc := enc) (C := Try.checked) false ⟨#[], #[.slice none 0 0, .slice none 0 0], []⟩ 8 (by kernel_rfl) (by kernel_rfl) (by kernel_rfl) (by kernel_rfl)) ?_
  intro W base args ds gs before hval0 hW hcnd hsz0 _
  have hsz : (DataW.weightsEach Try.prog (Try.f11.params.toList ++ Rows.rightGrantsSpec.plain.varTypes Try.prog) (ds ++ gs)).all (· ≤ reachBytes) = true := hsz0
  have hval : ∀ (j : Nat) t v, Try.f11.params[j]? = some t → args[j]? = some v → Value.okWide Try.prog W .any base t v := hval0
  have hW' := hW
  obtain ⟨p, q, hA0, hV, rfl, hfz, hnd⟩ := hW
  have hA : DataW.TrodAll enc Try.prog W 0 (fun _ => true) true Try.f11.params.toList args.toList ds p := hA0
  rw [Try.params11] at hA hval hsz
  obtain ⟨v0, vs0, d0, ds0, p0, q0, hargs, rfl, rfl, h0, r0⟩ := trodAll_cons hA
  obtain ⟨v1, vs1, d1, ds1, p1, q1, rfl, rfl, rfl, h1, r1⟩ := trodAll_cons r0
  obtain ⟨rfl, rfl, rfl⟩ := trodAll_nil r1
  obtain rfl : args = #[v0, v1] := by cases args; simp_all
  obtain ⟨rfl, rfl⟩ := trodVars_none hV
  have lt0 : ∀ x ∈ p0, x.block < W.heap.size := by obtain ⟨m, hm⟩ := h0; exact DataW.trod_lt m _ _ _ hm
  have hw0 : ∀ m ∈ d0.weights Try.prog 30, m ≤ reachBytes := fun m hm => of_decide_eq_true (List.all_eq_true.1 hsz m (DataW.weights_mem_each (j := 0) (t := 30) rfl rfl m hm))
  obtain ⟨a0, K0, g0⟩ : ∃ a, ((Kd.slice 49 k49) : Kd (List S49)).K W a v0.cells.toList ∧ ((∀ x ∈ a, good49 x) ∧ a.length * 48 ≤ reachBytes) := by
    obtain ⟨fuel, hf⟩ := h0
    exact (opens_slice Try.underlying30 (by kernel_rfl) (B := 48) (by kernel_rfl) z49 opens49) hf hw0
  obtain ⟨A0, n0, c0, rfl⟩ := okWide_slice Try.underlying30 (hval 0 30 v0 rfl rfl)
  obtain ⟨A0', c0', e0, hc0, C0⟩ := K0
  simp [Value.cells] at e0
  obtain ⟨rfl, rfl, rfl⟩ := e0
  have lt1 : ∀ x ∈ p1, x.block < W.heap.size := by obtain ⟨m, hm⟩ := h1; exact DataW.trod_lt m _ _ _ hm
  have hw1 : ∀ m ∈ d1.weights Try.prog 81, m ≤ reachBytes := fun m hm => of_decide_eq_true (List.all_eq_true.1 hsz m (DataW.weights_mem_each (j := 1) (t := 81) rfl rfl m hm))
  obtain ⟨a1, K1, g1⟩ : ∃ a, ((Kd.slice 93 k93) : Kd (List S93)).K W a v1.cells.toList ∧ ((∀ x ∈ a, good93 x) ∧ a.length * 32 ≤ reachBytes) := by
    obtain ⟨fuel, hf⟩ := h1
    exact (opens_slice Try.underlying81 (by kernel_rfl) (B := 32) (by kernel_rfl) z93 opens93) hf hw1
  obtain ⟨A1, n1, c1, rfl⟩ := okWide_slice Try.underlying81 (hval 1 81 v1 rfl rfl)
  obtain ⟨A1', c1', e1, hc1, C1⟩ := K1
  simp [Value.cells] at e1
  obtain ⟨rfl, rfl, rfl⟩ := e1
  obtain ⟨k, hk⟩ := Pure.RightGrants a0 a1 g0 g1
  clear hA0 hval0 hsz0 hsz
  refine (oculuslaw06_RightGrants.calls k A0 c0 a0 A1 c1 a1 true W C0 hc0 C1 hc1 hk).mono fun e W' ⟨he, bel0⟩ => ?_
  have bel : Below W.heap.size W W' := bel0
  subst he
  exact ⟨_, rfl, _, _, _, [], _, [], hW', trodAll_mk1 (shut_bool Try.underlying4 _), (trodAll_cons_mk (Below.trod laidOut (by kernel_rfl) (of_decide_eq_true (by kernel_rfl)) h0 bel lt0) (trodAll_cons_mk (Below.trod laidOut (by kernel_rfl) (of_decide_eq_true (by kernel_rfl)) h1 bel lt1) trodAll_mk0)), rfl, bel.frame _, fun h => by cases h⟩
theorem over : Rows.rightGrantsRow.holds Try.pinned (OpenSpec.ofChange Rows.rightGrantsSpec) :=
  OpenClaim.holds_of_wide 11 Try.f11 rfl rfl rfl rfl rfl rfl rfl ⟨rfl, rfl, rfl, rfl, rfl⟩ rfl rfl rfl rfl rfl (by kernel_rfl) Try.func11 (by kernel_rfl)
    (of_decide_eq_true (by kernel_rfl)) (by unfold Func.isWrapper; first | (rw [if_pos (by decide +kernel)]; kernel_rfl) | (rw [if_neg (by decide +kernel)]; exact ⟨rfl, rfl⟩))
    (fun os started H enc _ => lifted os started H enc)
theorem proved : Rows.RightGrantsSaid := over
end Go.Proofs.Ytlchgkoafabapaa.rightGrants
namespace Go.Proofs.Ytlchgkoafabapaa
/-- The row, under a short name, for the claim. -/
theorem rightGrants_holds : Rows.RightGrantsSaid := rightGrants.proved
#print axioms rightGrants_holds
end Go.Proofs.Ytlchgkoafabapaa
