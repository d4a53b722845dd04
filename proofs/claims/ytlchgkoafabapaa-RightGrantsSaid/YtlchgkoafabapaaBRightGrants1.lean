/- Contracts of the functions that the law RightGrants reaches, and what they answer (a session's own texts, joined; part 1). -/
import Derived.Test.YtlchgkoafabapaaBRightGrants0
namespace Go.Proofs.Ytlchgkoafabapaa.X
open Go.RowKit Go.Proofs.YtlchgkoafabapaaW.PrintWords Go.Proofs.YtlchgkoafabapaaW.PrintLast Go.Proofs.YtlchgkoafabapaaW.PrintMore
attribute [local go_sem] max2_int min2_int max_two min_two max_three min_three max_four min_four   -- for this text's walks alone
set_option linter.unusedVariables false
set_option linter.unusedSimpArgs false

/-! ### right_Find: function 48 -/
def right_Find.l0 : Nat → ByteArray → List (S93) → Int → Int → Option (Int × Int × Bool)
  | 0, _, _, _, _ => none
  | k + 1, x1, x8, x9, x10 => if x10 < x9 then (if 0 ≤ x10 then (if x10 < (x8.length : Int) then (if ((rd_T93 x8 x10).f0).toList = x1.toList then (some ((rd_T93 x8 x10).f1.f0, (rd_T93 x8 x10).f1.f1, true)) else (right_Find.l0 k x1 x8 x9 (wrap64 (x10 + 1)))) else (none)) else (none)) else (some (0, 0, false))
def right_Find.f (k : Nat) (l0 : List (S93)) (a1 : ByteArray) : Option (Int × Int × Bool) := right_Find.l0 k a1 l0 (l0.length : Int) 0
theorem right_Find.mono_l : ∀ k, (∀ y0 y1 y2 y3, LeO (right_Find.l0 k y0 y1 y2 y3) (right_Find.l0 (k + 1) y0 y1 y2 y3))
  | 0 => fun _ _ _ _ r h => by simp [right_Find.l0] at h
  | k + 1 => by
    have ih0 := right_Find.mono_l k
    · intro y0 y1 y2 y3
      unfold right_Find.l0
      repeat' first
      | (with_reducible exact ih0 _ _ _ _)
      | (with_reducible exact LeO.refl _)
      | (with_reducible exact LeO.none _)
      | (with_reducible refine LeO.ite ?_ ?_)
      | (with_reducible refine LeO.bind ?_ (fun _ => ?_))
      | exact ih0 _ _ _ _
      | exact LeO.none _
      | refine LeO.ite ?_ ?_
      | refine LeO.bind ?_ (fun _ => ?_)
theorem right_Find.mono : ∀ a0 a1 k, LeO (right_Find.f k a0 a1) (right_Find.f (k + 1) a0 a1) := by
  intro a0 a1 k
  have ih0 := right_Find.mono_l k
  unfold right_Find.f
  repeat' first
      | (with_reducible exact ih0 _ _ _ _)
      | (with_reducible exact LeO.refl _)
      | (with_reducible exact LeO.none _)
      | (with_reducible refine LeO.ite ?_ ?_)
      | (with_reducible refine LeO.bind ?_ (fun _ => ?_))
      | exact ih0 _ _ _ _
      | exact LeO.none _
      | refine LeO.ite ?_ ?_
      | refine LeO.bind ?_ (fun _ => ?_)
set_option maxHeartbeats 8000000 in
set_option maxRecDepth 100000 in
theorem right_Find.calls (k : Nat) (A0 : Option Addr) (c0 : Nat) (l0 : List (S93)) (a1 : ByteArray) (r1 : Int) (r2 : Int) (r3 : Bool) (w : World) (hr0 : Kd.C k93 w A0 l0.length l0) (hc0 : l0.length ≤ c0) (h : right_Find.f k l0 a1 = some (r1, r2, r3)) :
    Calls Try.prog 48 #[.slice A0 l0.length c0, .string a1] w fun e w' => e = .returned (.tuple #[.agg #[.int .i64 r1, .int .u64 r2], .bool r3]) ∧ Below w.heap.size w w' := by
  have hu26 := Try.underlying26
  have hu93 := Try.underlying93
  have HR0 := Aside0.mk hr0
  have HC0 := Aside0.mk hc0
  clear hr0 hc0
  have HB := Aside0.mk (Below.refl w.heap.size w)
  have H : (right_Find.l0 k a1 l0 (l0.length : Int) 0) = some (r1, r2, r3) := h
  clear h
  have H' := Aside0.mk H
  clear H
  go_enter Try.func48, Try.ntmps48
  go_wp2_with (first | ((with_reducible refine gate_dst (N := 4) rfl ?_); refine box_event ?hg (N := 4) ?hd (cs := #[.int .i64 0, .int .u64 0]) (t := 26) ?hr ?_; (case hd => rfl); (case hg => rfl); (case hr => first | (go_simp; done) | (go_simp; rfl)); intro gb359 hg w3 hbox hb; have n0_ := Aside0.mk (below_step (pbx HB) hb); have n1_ := Aside0.mk (hbox); have n2_ := Aside0.mk ((by rw [hg]; exact (below_size (pbx HB)) : w.heap.size ≤ gb359)); have n3_ := Aside0.mk ((by rw [hg]; exact (below_size (pbx HB)) : w.heap.size ≤ gb359)); clear HB; have HB := n0_; have BK359 := n1_; have GW359 := n2_; have GE359 := n3_; clear n0_ n1_ n2_ n3_; clear hb hbox hg))
  go_loopg [10] k (fun kq v10 w' => ∃ (x10_1 : Int) (x360000_1 : Int) (x360001_1 : Int), v10 = .int .i64 x10_1 ∧ Aside0 (right_Find.l0 kq a1 l0 (l0.length : Int) x10_1 = some (r1, r2, r3)) ∧ Aside0 (kq ≤ k) ∧ Aside0 (w'.heap[gb359]? = some (.cells #[.int .i64 x360000_1, .int .u64 x360001_1] 26 (0, 0))) ∧ Aside0 (Below w.heap.size w w'))
  case atStart => exact ⟨(0), (0), (0), (by first | rfl | (simp; done) | (simp [*]; done)), H', ⟨Nat.le_refl _⟩, ⟨pkx BK359⟩, ⟨pbx HB⟩⟩
  case round =>
    clear H'
    try clear p2
    obtain ⟨x10_1, x360000_1, x360001_1, rfl, HA, HK1, BK359, HB⟩ := hrel
    cases gk with
    | zero => exact absurd HA.out (by simp [right_Find.l0])
    | succ k1 =>
      have H := HA.out
      clear HA
      simp only [right_Find.l0] at H
      by_cases c4 : x10_1 < (l0.length : Int)
      · rw [if_pos c4] at H
        have c4b0 : decide (x10_1 < (l0.length : Int)) = true := decide_eq_true c4
        clear c4
        by_cases c5 : 0 ≤ x10_1
        · rw [if_pos c5] at H
          have c5b0 : decide (0 ≤ x10_1) = true := decide_eq_true c5
          clear c5
          by_cases c6 : x10_1 < (l0.length : Int)
          · rw [if_pos c6] at H
            have c6b0 : decide (x10_1 < (l0.length : Int)) = true := decide_eq_true c6
            clear c6
            by_cases c7 : ((rd_T93 l0 x10_1).f0).toList = a1.toList
            · rw [if_pos c7] at H
              have c7b0 : (((rd_T93 l0 x10_1).f0).toList == a1.toList) = true := beq_iff_eq.mpr c7
              have c7b1 : (((rd_T93 l0 x10_1).f0).toList != a1.toList) = false := bne_eq_false_iff_eq.mpr c7
              clear c7
              simp only [Option.some.injEq, Prod.mk.injEq] at H
              obtain ⟨rfl, rfl, rfl⟩ := H
              have p360 : 0 ≤ (x10_1 : Int) := of_decide_eq_true (by first | (with_reducible assumption) | assumption)
              have q360 : x10_1 < (l0.length : Int) := of_decide_eq_true (by first | (with_reducible assumption) | assumption)
              obtain ⟨ad360, e360, hx360_0, hx360_1, hx360_2⟩ := at_T93 HR0.out x10_1 p360 q360
              cases e360
              replace hx360_0 := (HB.out.cell (World.block_lt_of_cell? w _ hx360_0)).trans hx360_0
              replace hx360_1 := (HB.out.cell (World.block_lt_of_cell? w _ hx360_1)).trans hx360_1
              replace hx360_2 := (HB.out.cell (World.block_lt_of_cell? w _ hx360_2)).trans hx360_2
              replace p360 := eq_true p360
              replace q360 := eq_true q360
              go_wp2_with (first | ((with_reducible refine gate_dst (N := 7) rfl ?_); refine box_event ?hg (N := 7) ?hd (cs := #[.string (⟨#[]⟩ : ByteArray), .int .i64 0, .int .u64 0]) (t := 93) ?hr ?_; (case hd => rfl); (case hg => rfl); (case hr => first | (go_simp; done) | (go_simp; rfl)); intro gb361 hg w8 hbox hb; have n0_ := Aside0.mk (blk_below (pkx BK359) hb); have n1_ := Aside0.mk (below_step (pbx HB) hb); have n2_ := Aside0.mk (hbox); have n3_ := Aside0.mk ((by rw [hg]; exact (below_size (pbx HB)) : w.heap.size ≤ gb361)); have n4_ := Aside0.mk ((by rw [hg]; exact (below_size (pbx HB)) : w.heap.size ≤ gb361)); have n5_ := Aside0.mk ((by rw [hg]; exact Nat.ne_of_lt (blk_lt (pkx BK359)) : gb359 ≠ gb361)); have n6_ := Aside0.mk ((by rw [hg]; exact Nat.ne_of_gt (blk_lt (pkx BK359)) : gb361 ≠ gb359)); clear BK359; clear HB; have BK359 := n0_; have HB := n1_; have BK361 := n2_; have GW361 := n3_; have GE361 := n4_; have NB359_361 := n5_; have NB361_359 := n6_; clear n0_ n1_ n2_ n3_ n4_ n5_ n6_; clear hb hbox hg; have hnb9 := NB361_359.out; have hnc9 := NB359_361.out; have hcz10_0 : w8.cell? ⟨gb361, 0, none⟩ = some (.string (⟨#[]⟩ : ByteArray)) := (blk_cell BK361.out 0).trans rfl; have hcz10_1 : w8.cell? ⟨gb361, 1, none⟩ = some (.int .i64 0) := (blk_cell BK361.out 1).trans rfl; have hcz10_2 : w8.cell? ⟨gb361, 2, none⟩ = some (.int .u64 0) := (blk_cell BK361.out 2).trans rfl; have hfz10_0 := blk_frozen BK361.out 0; have hfz10_1 := blk_frozen BK361.out 1; have hfz10_2 := blk_frozen BK361.out 2; have hcz11_0 : w8.cell? ⟨gb359, 0, none⟩ = some (.int .i64 x360000_1) := (blk_cell BK359.out 0).trans rfl; have hcz11_1 : w8.cell? ⟨gb359, 1, none⟩ = some (.int .u64 x360001_1) := (blk_cell BK359.out 1).trans rfl; have hfz11_0 := blk_frozen BK359.out 0; have hfz11_1 := blk_frozen BK359.out 1))
              refine bodyPost_ret (results_ct rfl _ _ gb359 26 #[.int .i64 ((rd_T93 l0 x10_1).f1.f0), .int .u64 ((rd_T93 l0 x10_1).f1.f1)] (0, 0) _ rfl (by (with_reducible repeat (first | refine blk_drewN ?_ _ | refine blk_drew ?_ | refine blk_alloc ?_ _)); refine blk_put (cs := #[.int .i64 ((rd_T93 l0 x10_1).f1.f0), .int .u64 x360001_1]) ?_ 1 _ rfl; (with_reducible repeat (first | refine blk_drewN ?_ _ | refine blk_drew ?_ | refine blk_alloc ?_ _)); refine blk_put (cs := #[.int .i64 x360000_1, .int .u64 x360001_1]) ?_ 0 _ rfl; (with_reducible repeat (first | refine blk_drewN ?_ _ | refine blk_drew ?_ | refine blk_alloc ?_ _)); refine blk_far ?_ NB359_361.out _; (with_reducible repeat (first | refine blk_drewN ?_ _ | refine blk_drew ?_ | refine blk_alloc ?_ _)); refine blk_far ?_ NB359_361.out _; (with_reducible repeat (first | refine blk_drewN ?_ _ | refine blk_drew ?_ | refine blk_alloc ?_ _)); refine blk_far ?_ NB359_361.out _; (with_reducible repeat (first | refine blk_drewN ?_ _ | refine blk_drew ?_ | refine blk_alloc ?_ _)); exact BK359.out) Try.underlying26 rfl (by kernel_rfl)) rfl ?_
              exact ⟨by first | rfl | (simp [errW_none, errW_some] <;> rfl) | (simp [*, errW_none, errW_some] <;> rfl), by repeat (first | (with_reducible first | exact HB.out | apply below_alloc | apply pw_below_drewN | apply below_drew1 | refine below_set ?_ GE359.out | refine below_set ?_ GE361.out) | exact HB.out)⟩
            · rw [if_neg c7] at H
              have c7b0 : (((rd_T93 l0 x10_1).f0).toList == a1.toList) = false := beq_eq_false_iff_ne.mpr c7
              have c7b1 : (((rd_T93 l0 x10_1).f0).toList != a1.toList) = true := bne_iff_ne.mpr c7
              have H' := Aside0.mk H
              clear H
              have p360 : 0 ≤ (x10_1 : Int) := of_decide_eq_true (by first | (with_reducible assumption) | assumption)
              have q360 : x10_1 < (l0.length : Int) := of_decide_eq_true (by first | (with_reducible assumption) | assumption)
              obtain ⟨ad360, e360, hx360_0, hx360_1, hx360_2⟩ := at_T93 HR0.out x10_1 p360 q360
              cases e360
              replace hx360_0 := (HB.out.cell (World.block_lt_of_cell? w _ hx360_0)).trans hx360_0
              replace hx360_1 := (HB.out.cell (World.block_lt_of_cell? w _ hx360_1)).trans hx360_1
              replace hx360_2 := (HB.out.cell (World.block_lt_of_cell? w _ hx360_2)).trans hx360_2
              replace p360 := eq_true p360
              replace q360 := eq_true q360
              go_wp2_with (first | ((with_reducible refine gate_dst (N := 7) rfl ?_); refine box_event ?hg (N := 7) ?hd (cs := #[.string (⟨#[]⟩ : ByteArray), .int .i64 0, .int .u64 0]) (t := 93) ?hr ?_; (case hd => rfl); (case hg => rfl); (case hr => first | (go_simp; done) | (go_simp; rfl)); intro gb361 hg w12 hbox hb; have n0_ := Aside0.mk (blk_below (pkx BK359) hb); have n1_ := Aside0.mk (below_step (pbx HB) hb); have n2_ := Aside0.mk (hbox); have n3_ := Aside0.mk ((by rw [hg]; exact (below_size (pbx HB)) : w.heap.size ≤ gb361)); have n4_ := Aside0.mk ((by rw [hg]; exact (below_size (pbx HB)) : w.heap.size ≤ gb361)); have n5_ := Aside0.mk ((by rw [hg]; exact Nat.ne_of_lt (blk_lt (pkx BK359)) : gb359 ≠ gb361)); have n6_ := Aside0.mk ((by rw [hg]; exact Nat.ne_of_gt (blk_lt (pkx BK359)) : gb361 ≠ gb359)); clear BK359; clear HB; have BK359 := n0_; have HB := n1_; have BK361 := n2_; have GW361 := n3_; have GE361 := n4_; have NB359_361 := n5_; have NB361_359 := n6_; clear n0_ n1_ n2_ n3_ n4_ n5_ n6_; clear hb hbox hg; have hnb13 := NB361_359.out; have hnc13 := NB359_361.out; have hcz14_0 : w12.cell? ⟨gb361, 0, none⟩ = some (.string (⟨#[]⟩ : ByteArray)) := (blk_cell BK361.out 0).trans rfl; have hcz14_1 : w12.cell? ⟨gb361, 1, none⟩ = some (.int .i64 0) := (blk_cell BK361.out 1).trans rfl; have hcz14_2 : w12.cell? ⟨gb361, 2, none⟩ = some (.int .u64 0) := (blk_cell BK361.out 2).trans rfl; have hfz14_0 := blk_frozen BK361.out 0; have hfz14_1 := blk_frozen BK361.out 1; have hfz14_2 := blk_frozen BK361.out 2))
              go_roundg k1
              case measure => have := HK1.out; omega
              case rel => exact ⟨(wrap64 (x10_1 + 1)), (x360000_1), (x360001_1), (by first | rfl | (simp; done) | (simp [*]; done)), H', ⟨by have := HK1.out; omega⟩, ⟨by (with_reducible repeat (first | refine blk_drewN ?_ _ | refine blk_drew ?_ | refine blk_alloc ?_ _)); refine blk_far ?_ NB359_361.out _; (with_reducible repeat (first | refine blk_drewN ?_ _ | refine blk_drew ?_ | refine blk_alloc ?_ _)); refine blk_far ?_ NB359_361.out _; (with_reducible repeat (first | refine blk_drewN ?_ _ | refine blk_drew ?_ | refine blk_alloc ?_ _)); refine blk_far ?_ NB359_361.out _; (with_reducible repeat (first | refine blk_drewN ?_ _ | refine blk_drew ?_ | refine blk_alloc ?_ _)); exact BK359.out⟩, ⟨by repeat (first | (with_reducible first | exact HB.out | apply below_alloc | apply pw_below_drewN | apply below_drew1 | refine below_set ?_ GE359.out | refine below_set ?_ GE361.out) | exact HB.out)⟩⟩
          · rw [if_neg c6] at H
            exact absurd H (by simp)
        · rw [if_neg c5] at H
          exact absurd H (by simp)
      · rw [if_neg c4] at H
        have c4b0 : decide (x10_1 < (l0.length : Int)) = false := decide_eq_false c4
        clear c4
        simp only [Option.some.injEq, Prod.mk.injEq] at H
        obtain ⟨rfl, rfl, rfl⟩ := H
        have hcz15_0 : wr.cell? ⟨gb359, 0, none⟩ = some (.int .i64 x360000_1) := (blk_cell BK359.out 0).trans rfl
        have hcz15_1 : wr.cell? ⟨gb359, 1, none⟩ = some (.int .u64 x360001_1) := (blk_cell BK359.out 1).trans rfl
        have hfz15_0 := blk_frozen BK359.out 0
        have hfz15_1 := blk_frozen BK359.out 1
        go_wp2
        refine bodyPost_ret (results_ct rfl _ _ gb359 26 #[.int .i64 0, .int .u64 0] (0, 0) _ rfl (by (with_reducible repeat (first | refine blk_drewN ?_ _ | refine blk_drew ?_ | refine blk_alloc ?_ _)); refine blk_put (cs := #[.int .i64 0, .int .u64 x360001_1]) ?_ 1 _ rfl; (with_reducible repeat (first | refine blk_drewN ?_ _ | refine blk_drew ?_ | refine blk_alloc ?_ _)); refine blk_put (cs := #[.int .i64 x360000_1, .int .u64 x360001_1]) ?_ 0 _ rfl; (with_reducible repeat (first | refine blk_drewN ?_ _ | refine blk_drew ?_ | refine blk_alloc ?_ _)); exact BK359.out) Try.underlying26 rfl (by kernel_rfl)) rfl ?_
        exact ⟨by first | rfl | (simp [errW_none, errW_some] <;> rfl) | (simp [*, errW_none, errW_some] <;> rfl), by repeat (first | (with_reducible first | exact HB.out | apply below_alloc | apply pw_below_drewN | apply below_drew1 | refine below_set ?_ GE359.out) | exact HB.out)⟩

end Go.Proofs.Ytlchgkoafabapaa.X
namespace Go.Proofs.Ytlchgkoafabapaa.X
open Go.RowKit Go.Proofs.YtlchgkoafabapaaW.PrintWords Go.Proofs.YtlchgkoafabapaaW.PrintLast Go.Proofs.YtlchgkoafabapaaW.PrintMore
attribute [local go_sem] max2_int min2_int max_two min_two max_three min_three max_four min_four   -- for this text's walks alone
set_option linter.unusedVariables false
set_option linter.unusedSimpArgs false

/-! ### label_May: function 74 -/
def label_May.f (a0_0 : Int) (a0_1 : Int) : Option (Bool) := if a0_0 ≥ 0 then (some (decide (a0_0 ≤ 15))) else (some false)
set_option maxHeartbeats 8000000 in
set_option maxRecDepth 100000 in
theorem label_May.calls (a0_0 : Int) (a0_1 : Int) (r : Bool) (w : World) (h : label_May.f a0_0 a0_1 = some r) :
    Calls Try.prog 74 #[.agg #[.int .i64 a0_0, .int .u64 a0_1]] w fun e w' => e = .returned (.bool r) ∧ Below w.heap.size w w' := by
  have hu26 := Try.underlying26
  have HB := Aside0.mk (Below.refl w.heap.size w)
  have H : (if a0_0 ≥ 0 then (some (decide (a0_0 ≤ 15))) else (some false)) = some r := h
  clear h
  by_cases c2 : a0_0 ≥ 0
  · rw [if_pos c2] at H
    have c2b0 : decide (0 ≤ a0_0) = true := decide_eq_true c2
    clear c2
    obtain rfl := Option.some.inj H
    go_enter Try.func74, Try.ntmps74
    go_wp2_with (first | ((with_reducible refine gate_dst (N := 1) rfl ?_); refine box_event ?hg (N := 1) ?hd (cs := #[.int .i64 a0_0, .int .u64 a0_1]) (t := 26) ?hr ?_; (case hd => rfl); (case hg => rfl); (case hr => first | (go_simp; done) | (go_simp; rfl)); intro gb362 hg w3 hbox hb; have BK362 := Aside0.mk (hbox); replace HB := Aside0.mk (below_step (pbx HB) hb); clear hb hbox hg; have hcz4_0 : w3.cell? ⟨gb362, 0, none⟩ = some (.int .i64 a0_0) := (blk_cell BK362.out 0).trans rfl; have hcz4_1 : w3.cell? ⟨gb362, 1, none⟩ = some (.int .u64 a0_1) := (blk_cell BK362.out 1).trans rfl))
    go_ret
    exact ⟨by first | rfl | (simp [errW_none, errW_some] <;> rfl) | (simp [*, errW_none, errW_some] <;> rfl), pbx HB⟩
  · rw [if_neg c2] at H
    have c2b0 : decide (0 ≤ a0_0) = false := decide_eq_false c2
    clear c2
    obtain rfl := Option.some.inj H
    go_enter Try.func74, Try.ntmps74
    go_wp2_with (first | ((with_reducible refine gate_dst (N := 1) rfl ?_); refine box_event ?hg (N := 1) ?hd (cs := #[.int .i64 a0_0, .int .u64 a0_1]) (t := 26) ?hr ?_; (case hd => rfl); (case hg => rfl); (case hr => first | (go_simp; done) | (go_simp; rfl)); intro gb362 hg w5 hbox hb; have BK362 := Aside0.mk (hbox); replace HB := Aside0.mk (below_step (pbx HB) hb); clear hb hbox hg; have hcz6_0 : w5.cell? ⟨gb362, 0, none⟩ = some (.int .i64 a0_0) := (blk_cell BK362.out 0).trans rfl; have hcz6_1 : w5.cell? ⟨gb362, 1, none⟩ = some (.int .u64 a0_1) := (blk_cell BK362.out 1).trans rfl))
    go_ret
    exact ⟨by first | rfl | (simp [errW_none, errW_some] <;> rfl) | (simp [*, errW_none, errW_some] <;> rfl), pbx HB⟩

end Go.Proofs.Ytlchgkoafabapaa.X
namespace Go.Proofs.Ytlchgkoafabapaa.X
open Go.RowKit Go.Proofs.YtlchgkoafabapaaW.PrintWords Go.Proofs.YtlchgkoafabapaaW.PrintLast Go.Proofs.YtlchgkoafabapaaW.PrintMore
attribute [local go_sem] max2_int min2_int max_two min_two max_three min_three max_four min_four   -- for this text's walks alone
set_option linter.unusedVariables false
set_option linter.unusedSimpArgs false

/-! ### right_Acts: function 54 -/
def right_Acts.f (k : Nat) (l0 : List (S93)) (a1 : ByteArray) (a2_0 : Int) (a2_1 : Int) : Option (Int) := (right_Find.f k l0 a1).bind fun bt364 => (if bt364.2.2 = true then ((label_May.f a2_0 a2_1).bind fun t368 => (if t368 = true then ((label_Below.f a2_0 a2_1 bt364.1 bt364.2.1).bind fun t369 => (if t369 = true then (some 0) else (some 12))) else (some 12))) else (some 11))
theorem right_Acts.mono : ∀ a0 a1 a2 a3 k, LeO (right_Acts.f k a0 a1 a2 a3) (right_Acts.f (k + 1) a0 a1 a2 a3) := by
  intro a0 a1 a2 a3 k
  unfold right_Acts.f
  repeat' first
      | (with_reducible exact right_Find.mono _ _ _)
      | (with_reducible exact LeO.refl _)
      | (with_reducible exact LeO.none _)
      | (with_reducible refine LeO.ite ?_ ?_)
      | (with_reducible refine LeO.bind ?_ (fun _ => ?_))
      | exact right_Find.mono _ _ _
      | exact LeO.none _
      | refine LeO.ite ?_ ?_
      | refine LeO.bind ?_ (fun _ => ?_)
set_option maxHeartbeats 8000000 in
set_option maxRecDepth 100000 in
theorem right_Acts.calls (k : Nat) (A0 : Option Addr) (c0 : Nat) (l0 : List (S93)) (a1 : ByteArray) (a2_0 : Int) (a2_1 : Int) (r : Int) (w : World) (hr0 : Kd.C k93 w A0 l0.length l0) (hc0 : l0.length ≤ c0) (h : right_Acts.f k l0 a1 a2_0 a2_1 = some r) :
    Calls Try.prog 54 #[.slice A0 l0.length c0, .string a1, .agg #[.int .i64 a2_0, .int .u64 a2_1]] w fun e w' => e = .returned (.int .i64 r) ∧ Below w.heap.size w w' := by
  have hu26 := Try.underlying26
  have HR0 := Aside0.mk hr0
  have HC0 := Aside0.mk hc0
  clear hr0 hc0
  have HB := Aside0.mk (Below.refl w.heap.size w)
  have H : ((right_Find.f k l0 a1).bind fun bt364 => (if bt364.2.2 = true then ((label_May.f a2_0 a2_1).bind fun t368 => (if t368 = true then ((label_Below.f a2_0 a2_1 bt364.1 bt364.2.1).bind fun t369 => (if t369 = true then (some 0) else (some 12))) else (some 12))) else (some 11))) = some r := h
  clear h
  replace H := Option.bind_eq_some_iff.mp H
  obtain ⟨⟨t364, t365, t366⟩, A40, H⟩ := H
  replace H : (if t366 = true then ((label_May.f a2_0 a2_1).bind fun t368 => (if t368 = true then ((label_Below.f a2_0 a2_1 t364 t365).bind fun t369 => (if t369 = true then (some 0) else (some 12))) else (some 12))) else (some 11)) = some r := H
  have A4 := Aside0.mk A40
  clear A40
  by_cases c5 : t366 = true
  · subst c5
    have H1 : ((label_May.f a2_0 a2_1).bind fun t368 => (if t368 = true then ((label_Below.f a2_0 a2_1 t364 t365).bind fun t369 => (if t369 = true then (some 0) else (some 12))) else (some 12))) = some r := by rw [if_pos rfl] at H; exact H
    clear H
    have H := H1
    clear H1
    replace H := Option.bind_eq_some_iff.mp H
    obtain ⟨t368, A60, H⟩ := H
    replace H : (if t368 = true then ((label_Below.f a2_0 a2_1 t364 t365).bind fun t369 => (if t369 = true then (some 0) else (some 12))) else (some 12)) = some r := H
    have A6 := Aside0.mk A60
    clear A60
    by_cases c7 : t368 = true
    · subst c7
      have H1 : ((label_Below.f a2_0 a2_1 t364 t365).bind fun t369 => (if t369 = true then (some 0) else (some 12))) = some r := by rw [if_pos rfl] at H; exact H
      clear H
      have H := H1
      clear H1
      replace H := Option.bind_eq_some_iff.mp H
      obtain ⟨t369, A80, H⟩ := H
      replace H : (if t369 = true then (some 0) else (some 12)) = some r := H
      have A8 := Aside0.mk A80
      clear A80
      by_cases c9 : t369 = true
      · subst c9
        have H1 : (some 0) = some r := by rw [if_pos rfl] at H; exact H
        clear H
        have H := H1
        clear H1
        obtain rfl := Option.some.inj H
        go_enter Try.func54, Try.ntmps54
        go_wp2_with (first | ((with_reducible refine gate_dst (N := 5) rfl ?_); refine box_event ?hg (N := 5) ?hd (cs := #[.int .i64 a2_0, .int .u64 a2_1]) (t := 26) ?hr ?_; (case hd => rfl); (case hg => rfl); (case hr => first | (go_simp; done) | (go_simp; rfl)); intro gb363 hg w10 hbox hb; have n0_ := Aside0.mk (below_step (pbx HB) hb); have n1_ := Aside0.mk (hbox); have n2_ := Aside0.mk ((by rw [hg]; exact (below_size (pbx HB)) : w.heap.size ≤ gb363)); have n3_ := Aside0.mk ((by rw [hg]; exact (below_size (pbx HB)) : w.heap.size ≤ gb363)); clear HB; have HB := n0_; have BK363 := n1_; have GW363 := n2_; have GE363 := n3_; clear n0_ n1_ n2_ n3_; clear hb hbox hg) | ((with_reducible refine gate_callee (f := 48) rfl ?_); refine goesL_ (some 12) rfl rfl Try.func48 (by kernel_rfl) rfl #[.slice A0 l0.length c0, .string a1] rfl (by (try simp only [List.map_toArray, List.map_cons, List.map_nil]); first | done | rfl | (simp only [List.length_drop, List.length_take]; rfl)) ?_; (with_reducible refine (right_Find.calls k _ _ l0 a1 t364 t365 true _ ?side1 ?side2 A4.out).mono ?_); (case side1 => repeat (first | exact (Kd.C_below HR0.out HB.out) | (with_reducible refine Kd.C_alloc ?_ _) | (with_reducible refine Kd.C_drewN ?_ _) | (with_reducible refine Kd.C_drew ?_))); (case side2 => exact HC0.out); rintro e w11 ⟨rfl, hb⟩; refine ⟨_, rfl, ?_⟩; have n0_ := Aside0.mk (blk_below (pkx BK363) hb); have n1_ := Aside0.mk (below_step (pbx HB) hb); clear BK363; clear HB; have BK363 := n0_; have HB := n1_; clear n0_ n1_; (try clear hb); (try clear hb2); (try clear hk); (try clear hi)) | ((with_reducible refine gate_dst (N := 7) rfl ?_); refine box_event ?hg (N := 7) ?hd (cs := #[.int .i64 0, .int .u64 0]) (t := 26) ?hr ?_; (case hd => rfl); (case hg => rfl); (case hr => first | (go_simp; done) | (go_simp; rfl)); intro gb367 hg w12 hbox hb; have n0_ := Aside0.mk (blk_below (pkx BK363) hb); have n1_ := Aside0.mk (below_step (pbx HB) hb); have n2_ := Aside0.mk (hbox); have n3_ := Aside0.mk ((by rw [hg]; exact (below_size (pbx HB)) : w.heap.size ≤ gb367)); have n4_ := Aside0.mk ((by rw [hg]; exact (below_size (pbx HB)) : w.heap.size ≤ gb367)); have n5_ := Aside0.mk ((by rw [hg]; exact Nat.ne_of_lt (blk_lt (pkx BK363)) : gb363 ≠ gb367)); have n6_ := Aside0.mk ((by rw [hg]; exact Nat.ne_of_gt (blk_lt (pkx BK363)) : gb367 ≠ gb363)); clear BK363; clear HB; have BK363 := n0_; have HB := n1_; have BK367 := n2_; have GW367 := n3_; have GE367 := n4_; have NB363_367 := n5_; have NB367_363 := n6_; clear n0_ n1_ n2_ n3_ n4_ n5_ n6_; clear hb hbox hg; have hnb13 := NB367_363.out; have hnc13 := NB363_367.out; have hcz14_0 : w12.cell? ⟨gb367, 0, none⟩ = some (.int .i64 0) := (blk_cell BK367.out 0).trans rfl; have hcz14_1 : w12.cell? ⟨gb367, 1, none⟩ = some (.int .u64 0) := (blk_cell BK367.out 1).trans rfl; have hfz14_0 := blk_frozen BK367.out 0; have hfz14_1 := blk_frozen BK367.out 1; have hcz15_0 : w12.cell? ⟨gb363, 0, none⟩ = some (.int .i64 a2_0) := (blk_cell BK363.out 0).trans rfl; have hcz15_1 : w12.cell? ⟨gb363, 1, none⟩ = some (.int .u64 a2_1) := (blk_cell BK363.out 1).trans rfl; have hfz15_0 := blk_frozen BK363.out 0; have hfz15_1 := blk_frozen BK363.out 1) | ((with_reducible refine gate_callee (f := 74) rfl ?_); refine goesL_ (some 20) rfl rfl Try.func74 (by kernel_rfl) rfl #[.agg #[.int .i64 a2_0, .int .u64 a2_1]] rfl (by (try simp only [List.map_toArray, List.map_cons, List.map_nil]); first | done | rfl | (simp only [List.length_drop, List.length_take]; rfl)) ?_; (with_reducible refine (label_May.calls a2_0 a2_1 true _ A6.out).mono ?_); rintro e w16 ⟨rfl, hb⟩; refine ⟨_, rfl, ?_⟩; have n0_ := Aside0.mk (blk_below (g := gb363) (o := .cells #[.int .i64 a2_0, .int .u64 a2_1] 26 (0, 0)) (by (with_reducible repeat (first | refine blk_drewN ?_ _ | refine blk_drew ?_ | refine blk_alloc ?_ _)); refine blk_far ?_ NB363_367.out _; (with_reducible repeat (first | refine blk_drewN ?_ _ | refine blk_drew ?_ | refine blk_alloc ?_ _)); refine blk_far ?_ NB363_367.out _; (with_reducible repeat (first | refine blk_drewN ?_ _ | refine blk_drew ?_ | refine blk_alloc ?_ _)); exact BK363.out) hb); have n1_ := Aside0.mk (blk_below (g := gb367) (o := .cells #[.int .i64 t364, .int .u64 t365] 26 (0, 0)) (by (with_reducible repeat (first | refine blk_drewN ?_ _ | refine blk_drew ?_ | refine blk_alloc ?_ _)); refine blk_put (cs := #[.int .i64 t364, .int .u64 0]) ?_ 1 _ rfl; (with_reducible repeat (first | refine blk_drewN ?_ _ | refine blk_drew ?_ | refine blk_alloc ?_ _)); refine blk_put (cs := #[.int .i64 0, .int .u64 0]) ?_ 0 _ rfl; (with_reducible repeat (first | refine blk_drewN ?_ _ | refine blk_drew ?_ | refine blk_alloc ?_ _)); exact BK367.out) hb); have n2_ := Aside0.mk (below_step (by repeat (first | (with_reducible first | exact HB.out | apply below_alloc | apply pw_below_drewN | apply below_drew1 | refine below_set ?_ GE363.out | refine below_set ?_ GE367.out) | exact HB.out)) hb); clear BK363; clear BK367; clear HB; have BK363 := n0_; have BK367 := n1_; have HB := n2_; clear n0_ n1_ n2_; (try clear hb); (try clear hb2); (try clear hk); (try clear hi); have hcz17_0 : w16.cell? ⟨gb363, 0, none⟩ = some (.int .i64 a2_0) := (blk_cell BK363.out 0).trans rfl; have hcz17_1 : w16.cell? ⟨gb363, 1, none⟩ = some (.int .u64 a2_1) := (blk_cell BK363.out 1).trans rfl; have hfz17_0 := blk_frozen BK363.out 0; have hfz17_1 := blk_frozen BK363.out 1; have hcz18_0 : w16.cell? ⟨gb367, 0, none⟩ = some (.int .i64 t364) := (blk_cell BK367.out 0).trans rfl; have hcz18_1 : w16.cell? ⟨gb367, 1, none⟩ = some (.int .u64 t365) := (blk_cell BK367.out 1).trans rfl; have hfz18_0 := blk_frozen BK367.out 0; have hfz18_1 := blk_frozen BK367.out 1) | (go_at_call 45; (with_reducible refine (label_Below.calls a2_0 a2_1 t364 t365 true _ A8.out).mono ?_); rintro e w19 ⟨rfl, hb⟩; have n0_ := Aside0.mk (blk_below (pkx BK363) hb); have n1_ := Aside0.mk (blk_below (pkx BK367) hb); have n2_ := Aside0.mk (below_step (pbx HB) hb); clear BK363; clear BK367; clear HB; have BK363 := n0_; have BK367 := n1_; have HB := n2_; clear n0_ n1_ n2_; (try clear hb); (try clear hb2); (try clear hk); (try clear hi)))
        go_ret
        exact ⟨by first | rfl | (simp [errW_none, errW_some] <;> rfl) | (simp [*, errW_none, errW_some] <;> rfl), pbx HB⟩
      · replace c9 := Bool.eq_false_iff.mpr c9
        subst c9
        have H1 : (some 12) = some r := by rw [if_neg (show ¬ (false = true) by decide)] at H; exact H
        clear H
        have H := H1
        clear H1
        obtain rfl := Option.some.inj H
        go_enter Try.func54, Try.ntmps54
        go_wp2_with (first | ((with_reducible refine gate_dst (N := 5) rfl ?_); refine box_event ?hg (N := 5) ?hd (cs := #[.int .i64 a2_0, .int .u64 a2_1]) (t := 26) ?hr ?_; (case hd => rfl); (case hg => rfl); (case hr => first | (go_simp; done) | (go_simp; rfl)); intro gb363 hg w20 hbox hb; have n0_ := Aside0.mk (below_step (pbx HB) hb); have n1_ := Aside0.mk (hbox); have n2_ := Aside0.mk ((by rw [hg]; exact (below_size (pbx HB)) : w.heap.size ≤ gb363)); have n3_ := Aside0.mk ((by rw [hg]; exact (below_size (pbx HB)) : w.heap.size ≤ gb363)); clear HB; have HB := n0_; have BK363 := n1_; have GW363 := n2_; have GE363 := n3_; clear n0_ n1_ n2_ n3_; clear hb hbox hg) | ((with_reducible refine gate_callee (f := 48) rfl ?_); refine goesL_ (some 12) rfl rfl Try.func48 (by kernel_rfl) rfl #[.slice A0 l0.length c0, .string a1] rfl (by (try simp only [List.map_toArray, List.map_cons, List.map_nil]); first | done | rfl | (simp only [List.length_drop, List.length_take]; rfl)) ?_; (with_reducible refine (right_Find.calls k _ _ l0 a1 t364 t365 true _ ?side1 ?side2 A4.out).mono ?_); (case side1 => repeat (first | exact (Kd.C_below HR0.out HB.out) | (with_reducible refine Kd.C_alloc ?_ _) | (with_reducible refine Kd.C_drewN ?_ _) | (with_reducible refine Kd.C_drew ?_))); (case side2 => exact HC0.out); rintro e w21 ⟨rfl, hb⟩; refine ⟨_, rfl, ?_⟩; have n0_ := Aside0.mk (blk_below (pkx BK363) hb); have n1_ := Aside0.mk (below_step (pbx HB) hb); clear BK363; clear HB; have BK363 := n0_; have HB := n1_; clear n0_ n1_; (try clear hb); (try clear hb2); (try clear hk); (try clear hi)) | ((with_reducible refine gate_dst (N := 7) rfl ?_); refine box_event ?hg (N := 7) ?hd (cs := #[.int .i64 0, .int .u64 0]) (t := 26) ?hr ?_; (case hd => rfl); (case hg => rfl); (case hr => first | (go_simp; done) | (go_simp; rfl)); intro gb367 hg w22 hbox hb; have n0_ := Aside0.mk (blk_below (pkx BK363) hb); have n1_ := Aside0.mk (below_step (pbx HB) hb); have n2_ := Aside0.mk (hbox); have n3_ := Aside0.mk ((by rw [hg]; exact (below_size (pbx HB)) : w.heap.size ≤ gb367)); have n4_ := Aside0.mk ((by rw [hg]; exact (below_size (pbx HB)) : w.heap.size ≤ gb367)); have n5_ := Aside0.mk ((by rw [hg]; exact Nat.ne_of_lt (blk_lt (pkx BK363)) : gb363 ≠ gb367)); have n6_ := Aside0.mk ((by rw [hg]; exact Nat.ne_of_gt (blk_lt (pkx BK363)) : gb367 ≠ gb363)); clear BK363; clear HB; have BK363 := n0_; have HB := n1_; have BK367 := n2_; have GW367 := n3_; have GE367 := n4_; have NB363_367 := n5_; have NB367_363 := n6_; clear n0_ n1_ n2_ n3_ n4_ n5_ n6_; clear hb hbox hg; have hnb23 := NB367_363.out; have hnc23 := NB363_367.out; have hcz24_0 : w22.cell? ⟨gb367, 0, none⟩ = some (.int .i64 0) := (blk_cell BK367.out 0).trans rfl; have hcz24_1 : w22.cell? ⟨gb367, 1, none⟩ = some (.int .u64 0) := (blk_cell BK367.out 1).trans rfl; have hfz24_0 := blk_frozen BK367.out 0; have hfz24_1 := blk_frozen BK367.out 1; have hcz25_0 : w22.cell? ⟨gb363, 0, none⟩ = some (.int .i64 a2_0) := (blk_cell BK363.out 0).trans rfl; have hcz25_1 : w22.cell? ⟨gb363, 1, none⟩ = some (.int .u64 a2_1) := (blk_cell BK363.out 1).trans rfl; have hfz25_0 := blk_frozen BK363.out 0; have hfz25_1 := blk_frozen BK363.out 1) | ((with_reducible refine gate_callee (f := 74) rfl ?_); refine goesL_ (some 20) rfl rfl Try.func74 (by kernel_rfl) rfl #[.agg #[.int .i64 a2_0, .int .u64 a2_1]] rfl (by (try simp only [List.map_toArray, List.map_cons, List.map_nil]); first | done | rfl | (simp only [List.length_drop, List.length_take]; rfl)) ?_; (with_reducible refine (label_May.calls a2_0 a2_1 true _ A6.out).mono ?_); rintro e w26 ⟨rfl, hb⟩; refine ⟨_, rfl, ?_⟩; have n0_ := Aside0.mk (blk_below (g := gb363) (o := .cells #[.int .i64 a2_0, .int .u64 a2_1] 26 (0, 0)) (by (with_reducible repeat (first | refine blk_drewN ?_ _ | refine blk_drew ?_ | refine blk_alloc ?_ _)); refine blk_far ?_ NB363_367.out _; (with_reducible repeat (first | refine blk_drewN ?_ _ | refine blk_drew ?_ | refine blk_alloc ?_ _)); refine blk_far ?_ NB363_367.out _; (with_reducible repeat (first | refine blk_drewN ?_ _ | refine blk_drew ?_ | refine blk_alloc ?_ _)); exact BK363.out) hb); have n1_ := Aside0.mk (blk_below (g := gb367) (o := .cells #[.int .i64 t364, .int .u64 t365] 26 (0, 0)) (by (with_reducible repeat (first | refine blk_drewN ?_ _ | refine blk_drew ?_ | refine blk_alloc ?_ _)); refine blk_put (cs := #[.int .i64 t364, .int .u64 0]) ?_ 1 _ rfl; (with_reducible repeat (first | refine blk_drewN ?_ _ | refine blk_drew ?_ | refine blk_alloc ?_ _)); refine blk_put (cs := #[.int .i64 0, .int .u64 0]) ?_ 0 _ rfl; (with_reducible repeat (first | refine blk_drewN ?_ _ | refine blk_drew ?_ | refine blk_alloc ?_ _)); exact BK367.out) hb); have n2_ := Aside0.mk (below_step (by repeat (first | (with_reducible first | exact HB.out | apply below_alloc | apply pw_below_drewN | apply below_drew1 | refine below_set ?_ GE363.out | refine below_set ?_ GE367.out) | exact HB.out)) hb); clear BK363; clear BK367; clear HB; have BK363 := n0_; have BK367 := n1_; have HB := n2_; clear n0_ n1_ n2_; (try clear hb); (try clear hb2); (try clear hk); (try clear hi); have hcz27_0 : w26.cell? ⟨gb363, 0, none⟩ = some (.int .i64 a2_0) := (blk_cell BK363.out 0).trans rfl; have hcz27_1 : w26.cell? ⟨gb363, 1, none⟩ = some (.int .u64 a2_1) := (blk_cell BK363.out 1).trans rfl; have hfz27_0 := blk_frozen BK363.out 0; have hfz27_1 := blk_frozen BK363.out 1; have hcz28_0 : w26.cell? ⟨gb367, 0, none⟩ = some (.int .i64 t364) := (blk_cell BK367.out 0).trans rfl; have hcz28_1 : w26.cell? ⟨gb367, 1, none⟩ = some (.int .u64 t365) := (blk_cell BK367.out 1).trans rfl; have hfz28_0 := blk_frozen BK367.out 0; have hfz28_1 := blk_frozen BK367.out 1) | (go_at_call 45; (with_reducible refine (label_Below.calls a2_0 a2_1 t364 t365 false _ A8.out).mono ?_); rintro e w29 ⟨rfl, hb⟩; have n0_ := Aside0.mk (blk_below (pkx BK363) hb); have n1_ := Aside0.mk (blk_below (pkx BK367) hb); have n2_ := Aside0.mk (below_step (pbx HB) hb); clear BK363; clear BK367; clear HB; have BK363 := n0_; have BK367 := n1_; have HB := n2_; clear n0_ n1_ n2_; (try clear hb); (try clear hb2); (try clear hk); (try clear hi)))
        go_ret
        exact ⟨by first | rfl | (simp [errW_none, errW_some] <;> rfl) | (simp [*, errW_none, errW_some] <;> rfl), pbx HB⟩
    · replace c7 := Bool.eq_false_iff.mpr c7
      subst c7
      have H1 : (some 12) = some r := by rw [if_neg (show ¬ (false = true) by decide)] at H; exact H
      clear H
      have H := H1
      clear H1
      obtain rfl := Option.some.inj H
      go_enter Try.func54, Try.ntmps54
      go_wp2_with (first | ((with_reducible refine gate_dst (N := 5) rfl ?_); refine box_event ?hg (N := 5) ?hd (cs := #[.int .i64 a2_0, .int .u64 a2_1]) (t := 26) ?hr ?_; (case hd => rfl); (case hg => rfl); (case hr => first | (go_simp; done) | (go_simp; rfl)); intro gb363 hg w30 hbox hb; have n0_ := Aside0.mk (below_step (pbx HB) hb); have n1_ := Aside0.mk (hbox); have n2_ := Aside0.mk ((by rw [hg]; exact (below_size (pbx HB)) : w.heap.size ≤ gb363)); have n3_ := Aside0.mk ((by rw [hg]; exact (below_size (pbx HB)) : w.heap.size ≤ gb363)); clear HB; have HB := n0_; have BK363 := n1_; have GW363 := n2_; have GE363 := n3_; clear n0_ n1_ n2_ n3_; clear hb hbox hg) | ((with_reducible refine gate_callee (f := 48) rfl ?_); refine goesL_ (some 12) rfl rfl Try.func48 (by kernel_rfl) rfl #[.slice A0 l0.length c0, .string a1] rfl (by (try simp only [List.map_toArray, List.map_cons, List.map_nil]); first | done | rfl | (simp only [List.length_drop, List.length_take]; rfl)) ?_; (with_reducible refine (right_Find.calls k _ _ l0 a1 t364 t365 true _ ?side1 ?side2 A4.out).mono ?_); (case side1 => repeat (first | exact (Kd.C_below HR0.out HB.out) | (with_reducible refine Kd.C_alloc ?_ _) | (with_reducible refine Kd.C_drewN ?_ _) | (with_reducible refine Kd.C_drew ?_))); (case side2 => exact HC0.out); rintro e w31 ⟨rfl, hb⟩; refine ⟨_, rfl, ?_⟩; have n0_ := Aside0.mk (blk_below (pkx BK363) hb); have n1_ := Aside0.mk (below_step (pbx HB) hb); clear BK363; clear HB; have BK363 := n0_; have HB := n1_; clear n0_ n1_; (try clear hb); (try clear hb2); (try clear hk); (try clear hi)) | ((with_reducible refine gate_dst (N := 7) rfl ?_); refine box_event ?hg (N := 7) ?hd (cs := #[.int .i64 0, .int .u64 0]) (t := 26) ?hr ?_; (case hd => rfl); (case hg => rfl); (case hr => first | (go_simp; done) | (go_simp; rfl)); intro gb367 hg w32 hbox hb; have n0_ := Aside0.mk (blk_below (pkx BK363) hb); have n1_ := Aside0.mk (below_step (pbx HB) hb); have n2_ := Aside0.mk (hbox); have n3_ := Aside0.mk ((by rw [hg]; exact (below_size (pbx HB)) : w.heap.size ≤ gb367)); have n4_ := Aside0.mk ((by rw [hg]; exact (below_size (pbx HB)) : w.heap.size ≤ gb367)); have n5_ := Aside0.mk ((by rw [hg]; exact Nat.ne_of_lt (blk_lt (pkx BK363)) : gb363 ≠ gb367)); have n6_ := Aside0.mk ((by rw [hg]; exact Nat.ne_of_gt (blk_lt (pkx BK363)) : gb367 ≠ gb363)); clear BK363; clear HB; have BK363 := n0_; have HB := n1_; have BK367 := n2_; have GW367 := n3_; have GE367 := n4_; have NB363_367 := n5_; have NB367_363 := n6_; clear n0_ n1_ n2_ n3_ n4_ n5_ n6_; clear hb hbox hg; have hnb33 := NB367_363.out; have hnc33 := NB363_367.out; have hcz34_0 : w32.cell? ⟨gb367, 0, none⟩ = some (.int .i64 0) := (blk_cell BK367.out 0).trans rfl; have hcz34_1 : w32.cell? ⟨gb367, 1, none⟩ = some (.int .u64 0) := (blk_cell BK367.out 1).trans rfl; have hfz34_0 := blk_frozen BK367.out 0; have hfz34_1 := blk_frozen BK367.out 1; have hcz35_0 : w32.cell? ⟨gb363, 0, none⟩ = some (.int .i64 a2_0) := (blk_cell BK363.out 0).trans rfl; have hcz35_1 : w32.cell? ⟨gb363, 1, none⟩ = some (.int .u64 a2_1) := (blk_cell BK363.out 1).trans rfl; have hfz35_0 := blk_frozen BK363.out 0; have hfz35_1 := blk_frozen BK363.out 1) | ((with_reducible refine gate_callee (f := 74) rfl ?_); refine goesL_ (some 20) rfl rfl Try.func74 (by kernel_rfl) rfl #[.agg #[.int .i64 a2_0, .int .u64 a2_1]] rfl (by (try simp only [List.map_toArray, List.map_cons, List.map_nil]); first | done | rfl | (simp only [List.length_drop, List.length_take]; rfl)) ?_; (with_reducible refine (label_May.calls a2_0 a2_1 false _ A6.out).mono ?_); rintro e w36 ⟨rfl, hb⟩; refine ⟨_, rfl, ?_⟩; have n0_ := Aside0.mk (blk_below (g := gb363) (o := .cells #[.int .i64 a2_0, .int .u64 a2_1] 26 (0, 0)) (by (with_reducible repeat (first | refine blk_drewN ?_ _ | refine blk_drew ?_ | refine blk_alloc ?_ _)); refine blk_far ?_ NB363_367.out _; (with_reducible repeat (first | refine blk_drewN ?_ _ | refine blk_drew ?_ | refine blk_alloc ?_ _)); refine blk_far ?_ NB363_367.out _; (with_reducible repeat (first | refine blk_drewN ?_ _ | refine blk_drew ?_ | refine blk_alloc ?_ _)); exact BK363.out) hb); have n1_ := Aside0.mk (blk_below (g := gb367) (o := .cells #[.int .i64 t364, .int .u64 t365] 26 (0, 0)) (by (with_reducible repeat (first | refine blk_drewN ?_ _ | refine blk_drew ?_ | refine blk_alloc ?_ _)); refine blk_put (cs := #[.int .i64 t364, .int .u64 0]) ?_ 1 _ rfl; (with_reducible repeat (first | refine blk_drewN ?_ _ | refine blk_drew ?_ | refine blk_alloc ?_ _)); refine blk_put (cs := #[.int .i64 0, .int .u64 0]) ?_ 0 _ rfl; (with_reducible repeat (first | refine blk_drewN ?_ _ | refine blk_drew ?_ | refine blk_alloc ?_ _)); exact BK367.out) hb); have n2_ := Aside0.mk (below_step (by repeat (first | (with_reducible first | exact HB.out | apply below_alloc | apply pw_below_drewN | apply below_drew1 | refine below_set ?_ GE363.out | refine below_set ?_ GE367.out) | exact HB.out)) hb); clear BK363; clear BK367; clear HB; have BK363 := n0_; have BK367 := n1_; have HB := n2_; clear n0_ n1_ n2_; (try clear hb); (try clear hb2); (try clear hk); (try clear hi)))
      go_ret
      exact ⟨by first | rfl | (simp [errW_none, errW_some] <;> rfl) | (simp [*, errW_none, errW_some] <;> rfl), pbx HB⟩
  · replace c5 := Bool.eq_false_iff.mpr c5
    subst c5
    have H1 : (some 11) = some r := by rw [if_neg (show ¬ (false = true) by decide)] at H; exact H
    clear H
    have H := H1
    clear H1
    obtain rfl := Option.some.inj H
    go_enter Try.func54, Try.ntmps54
    go_wp2_with (first | ((with_reducible refine gate_dst (N := 5) rfl ?_); refine box_event ?hg (N := 5) ?hd (cs := #[.int .i64 a2_0, .int .u64 a2_1]) (t := 26) ?hr ?_; (case hd => rfl); (case hg => rfl); (case hr => first | (go_simp; done) | (go_simp; rfl)); intro gb363 hg w37 hbox hb; have n0_ := Aside0.mk (below_step (pbx HB) hb); have n1_ := Aside0.mk (hbox); have n2_ := Aside0.mk ((by rw [hg]; exact (below_size (pbx HB)) : w.heap.size ≤ gb363)); have n3_ := Aside0.mk ((by rw [hg]; exact (below_size (pbx HB)) : w.heap.size ≤ gb363)); clear HB; have HB := n0_; have BK363 := n1_; have GW363 := n2_; have GE363 := n3_; clear n0_ n1_ n2_ n3_; clear hb hbox hg) | ((with_reducible refine gate_callee (f := 48) rfl ?_); refine goesL_ (some 12) rfl rfl Try.func48 (by kernel_rfl) rfl #[.slice A0 l0.length c0, .string a1] rfl (by (try simp only [List.map_toArray, List.map_cons, List.map_nil]); first | done | rfl | (simp only [List.length_drop, List.length_take]; rfl)) ?_; (with_reducible refine (right_Find.calls k _ _ l0 a1 t364 t365 false _ ?side1 ?side2 A4.out).mono ?_); (case side1 => repeat (first | exact (Kd.C_below HR0.out HB.out) | (with_reducible refine Kd.C_alloc ?_ _) | (with_reducible refine Kd.C_drewN ?_ _) | (with_reducible refine Kd.C_drew ?_))); (case side2 => exact HC0.out); rintro e w38 ⟨rfl, hb⟩; refine ⟨_, rfl, ?_⟩; have n0_ := Aside0.mk (blk_below (pkx BK363) hb); have n1_ := Aside0.mk (below_step (pbx HB) hb); clear BK363; clear HB; have BK363 := n0_; have HB := n1_; clear n0_ n1_; (try clear hb); (try clear hb2); (try clear hk); (try clear hi)) | ((with_reducible refine gate_dst (N := 7) rfl ?_); refine box_event ?hg (N := 7) ?hd (cs := #[.int .i64 0, .int .u64 0]) (t := 26) ?hr ?_; (case hd => rfl); (case hg => rfl); (case hr => first | (go_simp; done) | (go_simp; rfl)); intro gb367 hg w39 hbox hb; have n0_ := Aside0.mk (blk_below (pkx BK363) hb); have n1_ := Aside0.mk (below_step (pbx HB) hb); have n2_ := Aside0.mk (hbox); have n3_ := Aside0.mk ((by rw [hg]; exact (below_size (pbx HB)) : w.heap.size ≤ gb367)); have n4_ := Aside0.mk ((by rw [hg]; exact (below_size (pbx HB)) : w.heap.size ≤ gb367)); have n5_ := Aside0.mk ((by rw [hg]; exact Nat.ne_of_lt (blk_lt (pkx BK363)) : gb363 ≠ gb367)); have n6_ := Aside0.mk ((by rw [hg]; exact Nat.ne_of_gt (blk_lt (pkx BK363)) : gb367 ≠ gb363)); clear BK363; clear HB; have BK363 := n0_; have HB := n1_; have BK367 := n2_; have GW367 := n3_; have GE367 := n4_; have NB363_367 := n5_; have NB367_363 := n6_; clear n0_ n1_ n2_ n3_ n4_ n5_ n6_; clear hb hbox hg; have hnb40 := NB367_363.out; have hnc40 := NB363_367.out; have hcz41_0 : w39.cell? ⟨gb367, 0, none⟩ = some (.int .i64 0) := (blk_cell BK367.out 0).trans rfl; have hcz41_1 : w39.cell? ⟨gb367, 1, none⟩ = some (.int .u64 0) := (blk_cell BK367.out 1).trans rfl; have hfz41_0 := blk_frozen BK367.out 0; have hfz41_1 := blk_frozen BK367.out 1))
    go_ret
    exact ⟨by first | rfl | (simp [errW_none, errW_some] <;> rfl) | (simp [*, errW_none, errW_some] <;> rfl), by repeat (first | (with_reducible first | exact HB.out | apply below_alloc | apply pw_below_drewN | apply below_drew1 | refine below_set ?_ GE363.out | refine below_set ?_ GE367.out) | exact HB.out)⟩

end Go.Proofs.Ytlchgkoafabapaa.X
namespace Go.Proofs.Ytlchgkoafabapaa.X
open Go.RowKit Go.Proofs.YtlchgkoafabapaaW.PrintWords Go.Proofs.YtlchgkoafabapaaW.PrintLast Go.Proofs.YtlchgkoafabapaaW.PrintMore
attribute [local go_sem] max2_int min2_int max_two min_two max_three min_three max_four min_four   -- for this text's walks alone
set_option linter.unusedVariables false
set_option linter.unusedSimpArgs false

/-! ### oculuslaw06_alive: function 37 -/
def oculuslaw06_alive.f (k : Nat)  : Option (Bool) := (some (([(⟨(⟨#[97, 110, 110]⟩ : ByteArray), (⟨3, 0⟩ : S26), (⟨1, 0⟩ : S26)⟩ : S49)] : List (S49)) : List (S49))).bind fun y370 => ((right_Holders.f k y370 2 0).bind fun t374 => ((right_Lowers.f k y370 (⟨#[97, 110, 110]⟩ : ByteArray) 2 0 2 0).bind fun t377 => (if t377 = true then ((right_Lowers.f k y370 (⟨#[98, 111, 98]⟩ : ByteArray) 2 0 2 0).bind fun t378 => (if t378 = true then (none) else ((right_Lowers.f k y370 (⟨#[97, 110, 110]⟩ : ByteArray) 2 0 0 0).bind fun t379 => (if t379 = true then (none) else ((right_Leaks.f k y370 2 0).bind fun t380 => (if t380 = true then ((right_Leaks.f k y370 3 0).bind fun t381 => (if t381 = true then (none) else (if (t374.length : Int) = 1 then ((right_Name.f k (⟨#[97, 49]⟩ : ByteArray)).bind fun t382 => (if t382 = true then ((right_Acts.f k ([] : List (S93)) (⟨#[97, 110, 110]⟩ : ByteArray) 2 0).bind fun t383 => (some (t383 == 11))) else (none))) else (none)))) else (none))))))) else (none))))
theorem oculuslaw06_alive.mono : ∀ k, LeO (oculuslaw06_alive.f k ) (oculuslaw06_alive.f (k + 1) ) := by
  intro  k
  unfold oculuslaw06_alive.f
  repeat' first
      | (with_reducible exact right_Acts.mono _ _ _ _ _)
      | (with_reducible exact right_Holders.mono _ _ _ _)
      | (with_reducible exact right_Leaks.mono _ _ _ _)
      | (with_reducible exact right_Lowers.mono _ _ _ _ _ _ _)
      | (with_reducible exact right_Name.mono _ _)
      | (with_reducible exact LeO.refl _)
      | (with_reducible exact LeO.none _)
      | (with_reducible refine LeO.ite ?_ ?_)
      | (with_reducible refine LeO.bind ?_ (fun _ => ?_))
      | exact right_Acts.mono _ _ _ _ _
      | exact right_Holders.mono _ _ _ _
      | exact right_Leaks.mono _ _ _ _
      | exact right_Lowers.mono _ _ _ _ _ _ _
      | exact right_Name.mono _ _
      | exact LeO.none _
      | refine LeO.ite ?_ ?_
      | refine LeO.bind ?_ (fun _ => ?_)
set_option maxHeartbeats 8000000 in
set_option maxRecDepth 100000 in
theorem oculuslaw06_alive.calls (k : Nat)  (r : Bool) (w : World) (h : oculuslaw06_alive.f k  = some r) :
    Calls Try.prog 37 #[] w fun e w' => e = .returned (.bool r) ∧ Below w.heap.size w w' := by
  have hu26 := Try.underlying26
  have hu49 := Try.underlying49
  have HB := Aside0.mk (Below.refl w.heap.size w)
  have H : ((some (([(⟨(⟨#[97, 110, 110]⟩ : ByteArray), (⟨3, 0⟩ : S26), (⟨1, 0⟩ : S26)⟩ : S49)] : List (S49)) : List (S49))).bind fun y370 => ((right_Holders.f k y370 2 0).bind fun t374 => ((right_Lowers.f k y370 (⟨#[97, 110, 110]⟩ : ByteArray) 2 0 2 0).bind fun t377 => (if t377 = true then ((right_Lowers.f k y370 (⟨#[98, 111, 98]⟩ : ByteArray) 2 0 2 0).bind fun t378 => (if t378 = true then (none) else ((right_Lowers.f k y370 (⟨#[97, 110, 110]⟩ : ByteArray) 2 0 0 0).bind fun t379 => (if t379 = true then (none) else ((right_Leaks.f k y370 2 0).bind fun t380 => (if t380 = true then ((right_Leaks.f k y370 3 0).bind fun t381 => (if t381 = true then (none) else (if (t374.length : Int) = 1 then ((right_Name.f k (⟨#[97, 49]⟩ : ByteArray)).bind fun t382 => (if t382 = true then ((right_Acts.f k ([] : List (S93)) (⟨#[97, 110, 110]⟩ : ByteArray) 2 0).bind fun t383 => (some (t383 == 11))) else (none))) else (none)))) else (none))))))) else (none))))) = some r := h
  clear h
  obtain ⟨y370, hy370⟩ : ∃ y_ : List (S49), y_ = (([(⟨(⟨#[97, 110, 110]⟩ : ByteArray), (⟨3, 0⟩ : S26), (⟨1, 0⟩ : S26)⟩ : S49)] : List (S49))) := ⟨_, rfl⟩
  replace H : ((right_Holders.f k y370 2 0).bind fun t374 => ((right_Lowers.f k y370 (⟨#[97, 110, 110]⟩ : ByteArray) 2 0 2 0).bind fun t377 => (if t377 = true then ((right_Lowers.f k y370 (⟨#[98, 111, 98]⟩ : ByteArray) 2 0 2 0).bind fun t378 => (if t378 = true then (none) else ((right_Lowers.f k y370 (⟨#[97, 110, 110]⟩ : ByteArray) 2 0 0 0).bind fun t379 => (if t379 = true then (none) else ((right_Leaks.f k y370 2 0).bind fun t380 => (if t380 = true then ((right_Leaks.f k y370 3 0).bind fun t381 => (if t381 = true then (none) else (if (t374.length : Int) = 1 then ((right_Name.f k (⟨#[97, 49]⟩ : ByteArray)).bind fun t382 => (if t382 = true then ((right_Acts.f k ([] : List (S93)) (⟨#[97, 110, 110]⟩ : ByteArray) 2 0).bind fun t383 => (some (t383 == 11))) else (none))) else (none)))) else (none))))))) else (none)))) = some r := by first | (rw [hy370]; with_reducible exact H) | (have H2_ := (Option.bind_some _ _).symm.trans H; rw [hy370]; with_reducible exact H2_) | (have H2_ := (Option.bind_some _ _).symm.trans H; with_reducible exact H2_) | with_reducible exact H | (rw [hy370]; exact H) | exact H
  have Ny370 := Aside0.mk hy370
  clear hy370
  replace H := Option.bind_eq_some_iff.mp H
  obtain ⟨t374, A10, H⟩ := H
  replace H : ((right_Lowers.f k y370 (⟨#[97, 110, 110]⟩ : ByteArray) 2 0 2 0).bind fun t377 => (if t377 = true then ((right_Lowers.f k y370 (⟨#[98, 111, 98]⟩ : ByteArray) 2 0 2 0).bind fun t378 => (if t378 = true then (none) else ((right_Lowers.f k y370 (⟨#[97, 110, 110]⟩ : ByteArray) 2 0 0 0).bind fun t379 => (if t379 = true then (none) else ((right_Leaks.f k y370 2 0).bind fun t380 => (if t380 = true then ((right_Leaks.f k y370 3 0).bind fun t381 => (if t381 = true then (none) else (if (t374.length : Int) = 1 then ((right_Name.f k (⟨#[97, 49]⟩ : ByteArray)).bind fun t382 => (if t382 = true then ((right_Acts.f k ([] : List (S93)) (⟨#[97, 110, 110]⟩ : ByteArray) 2 0).bind fun t383 => (some (t383 == 11))) else (none))) else (none)))) else (none))))))) else (none))) = some r := H
  have A1 := Aside0.mk A10
  clear A10
  replace H := Option.bind_eq_some_iff.mp H
  obtain ⟨t377, A20, H⟩ := H
  replace H : (if t377 = true then ((right_Lowers.f k y370 (⟨#[98, 111, 98]⟩ : ByteArray) 2 0 2 0).bind fun t378 => (if t378 = true then (none) else ((right_Lowers.f k y370 (⟨#[97, 110, 110]⟩ : ByteArray) 2 0 0 0).bind fun t379 => (if t379 = true then (none) else ((right_Leaks.f k y370 2 0).bind fun t380 => (if t380 = true then ((right_Leaks.f k y370 3 0).bind fun t381 => (if t381 = true then (none) else (if (t374.length : Int) = 1 then ((right_Name.f k (⟨#[97, 49]⟩ : ByteArray)).bind fun t382 => (if t382 = true then ((right_Acts.f k ([] : List (S93)) (⟨#[97, 110, 110]⟩ : ByteArray) 2 0).bind fun t383 => (some (t383 == 11))) else (none))) else (none)))) else (none))))))) else (none)) = some r := H
  have A2 := Aside0.mk A20
  clear A20
  by_cases c3 : t377 = true
  · subst c3
    have H1 : ((right_Lowers.f k y370 (⟨#[98, 111, 98]⟩ : ByteArray) 2 0 2 0).bind fun t378 => (if t378 = true then (none) else ((right_Lowers.f k y370 (⟨#[97, 110, 110]⟩ : ByteArray) 2 0 0 0).bind fun t379 => (if t379 = true then (none) else ((right_Leaks.f k y370 2 0).bind fun t380 => (if t380 = true then ((right_Leaks.f k y370 3 0).bind fun t381 => (if t381 = true then (none) else (if (t374.length : Int) = 1 then ((right_Name.f k (⟨#[97, 49]⟩ : ByteArray)).bind fun t382 => (if t382 = true then ((right_Acts.f k ([] : List (S93)) (⟨#[97, 110, 110]⟩ : ByteArray) 2 0).bind fun t383 => (some (t383 == 11))) else (none))) else (none)))) else (none))))))) = some r := by rw [if_pos rfl] at H; exact H
    clear H
    have H := H1
    clear H1
    replace H := Option.bind_eq_some_iff.mp H
    obtain ⟨t378, A40, H⟩ := H
    replace H : (if t378 = true then (none) else ((right_Lowers.f k y370 (⟨#[97, 110, 110]⟩ : ByteArray) 2 0 0 0).bind fun t379 => (if t379 = true then (none) else ((right_Leaks.f k y370 2 0).bind fun t380 => (if t380 = true then ((right_Leaks.f k y370 3 0).bind fun t381 => (if t381 = true then (none) else (if (t374.length : Int) = 1 then ((right_Name.f k (⟨#[97, 49]⟩ : ByteArray)).bind fun t382 => (if t382 = true then ((right_Acts.f k ([] : List (S93)) (⟨#[97, 110, 110]⟩ : ByteArray) 2 0).bind fun t383 => (some (t383 == 11))) else (none))) else (none)))) else (none)))))) = some r := H
    have A4 := Aside0.mk A40
    clear A40
    by_cases c5 : t378 = true
    · subst c5
      have H1 : (none) = some r := by rw [if_pos rfl] at H; exact H
      clear H
      have H := H1
      clear H1
      exact absurd H (by simp)
    · replace c5 := Bool.eq_false_iff.mpr c5
      subst c5
      have H1 : ((right_Lowers.f k y370 (⟨#[97, 110, 110]⟩ : ByteArray) 2 0 0 0).bind fun t379 => (if t379 = true then (none) else ((right_Leaks.f k y370 2 0).bind fun t380 => (if t380 = true then ((right_Leaks.f k y370 3 0).bind fun t381 => (if t381 = true then (none) else (if (t374.length : Int) = 1 then ((right_Name.f k (⟨#[97, 49]⟩ : ByteArray)).bind fun t382 => (if t382 = true then ((right_Acts.f k ([] : List (S93)) (⟨#[97, 110, 110]⟩ : ByteArray) 2 0).bind fun t383 => (some (t383 == 11))) else (none))) else (none)))) else (none))))) = some r := by rw [if_neg (show ¬ (false = true) by decide)] at H; exact H
      clear H
      have H := H1
      clear H1
      replace H := Option.bind_eq_some_iff.mp H
      obtain ⟨t379, A60, H⟩ := H
      replace H : (if t379 = true then (none) else ((right_Leaks.f k y370 2 0).bind fun t380 => (if t380 = true then ((right_Leaks.f k y370 3 0).bind fun t381 => (if t381 = true then (none) else (if (t374.length : Int) = 1 then ((right_Name.f k (⟨#[97, 49]⟩ : ByteArray)).bind fun t382 => (if t382 = true then ((right_Acts.f k ([] : List (S93)) (⟨#[97, 110, 110]⟩ : ByteArray) 2 0).bind fun t383 => (some (t383 == 11))) else (none))) else (none)))) else (none)))) = some r := H
      have A6 := Aside0.mk A60
      clear A60
      by_cases c7 : t379 = true
      · subst c7
        have H1 : (none) = some r := by rw [if_pos rfl] at H; exact H
        clear H
        have H := H1
        clear H1
        exact absurd H (by simp)
      · replace c7 := Bool.eq_false_iff.mpr c7
        subst c7
        have H1 : ((right_Leaks.f k y370 2 0).bind fun t380 => (if t380 = true then ((right_Leaks.f k y370 3 0).bind fun t381 => (if t381 = true then (none) else (if (t374.length : Int) = 1 then ((right_Name.f k (⟨#[97, 49]⟩ : ByteArray)).bind fun t382 => (if t382 = true then ((right_Acts.f k ([] : List (S93)) (⟨#[97, 110, 110]⟩ : ByteArray) 2 0).bind fun t383 => (some (t383 == 11))) else (none))) else (none)))) else (none))) = some r := by rw [if_neg (show ¬ (false = true) by decide)] at H; exact H
        clear H
        have H := H1
        clear H1
        replace H := Option.bind_eq_some_iff.mp H
        obtain ⟨t380, A80, H⟩ := H
        replace H : (if t380 = true then ((right_Leaks.f k y370 3 0).bind fun t381 => (if t381 = true then (none) else (if (t374.length : Int) = 1 then ((right_Name.f k (⟨#[97, 49]⟩ : ByteArray)).bind fun t382 => (if t382 = true then ((right_Acts.f k ([] : List (S93)) (⟨#[97, 110, 110]⟩ : ByteArray) 2 0).bind fun t383 => (some (t383 == 11))) else (none))) else (none)))) else (none)) = some r := H
        have A8 := Aside0.mk A80
        clear A80
        by_cases c9 : t380 = true
        · subst c9
          have H1 : ((right_Leaks.f k y370 3 0).bind fun t381 => (if t381 = true then (none) else (if (t374.length : Int) = 1 then ((right_Name.f k (⟨#[97, 49]⟩ : ByteArray)).bind fun t382 => (if t382 = true then ((right_Acts.f k ([] : List (S93)) (⟨#[97, 110, 110]⟩ : ByteArray) 2 0).bind fun t383 => (some (t383 == 11))) else (none))) else (none)))) = some r := by rw [if_pos rfl] at H; exact H
          clear H
          have H := H1
          clear H1
          replace H := Option.bind_eq_some_iff.mp H
          obtain ⟨t381, A100, H⟩ := H
          replace H : (if t381 = true then (none) else (if (t374.length : Int) = 1 then ((right_Name.f k (⟨#[97, 49]⟩ : ByteArray)).bind fun t382 => (if t382 = true then ((right_Acts.f k ([] : List (S93)) (⟨#[97, 110, 110]⟩ : ByteArray) 2 0).bind fun t383 => (some (t383 == 11))) else (none))) else (none))) = some r := H
          have A10 := Aside0.mk A100
          clear A100
          by_cases c11 : t381 = true
          · subst c11
            have H1 : (none) = some r := by rw [if_pos rfl] at H; exact H
            clear H
            have H := H1
            clear H1
            exact absurd H (by simp)
          · replace c11 := Bool.eq_false_iff.mpr c11
            subst c11
            have H1 : (if (t374.length : Int) = 1 then ((right_Name.f k (⟨#[97, 49]⟩ : ByteArray)).bind fun t382 => (if t382 = true then ((right_Acts.f k ([] : List (S93)) (⟨#[97, 110, 110]⟩ : ByteArray) 2 0).bind fun t383 => (some (t383 == 11))) else (none))) else (none)) = some r := by rw [if_neg (show ¬ (false = true) by decide)] at H; exact H
            clear H
            have H := H1
            clear H1
            by_cases c12 : (t374.length : Int) = 1
            · rw [if_pos c12] at H
              have c12b0 : ((t374.length : Int) == 1) = true := beq_iff_eq.mpr c12
              have c12b1 : ((t374.length : Int) != 1) = false := bne_eq_false_iff_eq.mpr c12
              clear c12
              replace H := Option.bind_eq_some_iff.mp H
              obtain ⟨t382, A130, H⟩ := H
              replace H : (if t382 = true then ((right_Acts.f k ([] : List (S93)) (⟨#[97, 110, 110]⟩ : ByteArray) 2 0).bind fun t383 => (some (t383 == 11))) else (none)) = some r := H
              have A13 := Aside0.mk A130
              clear A130
              by_cases c14 : t382 = true
              · subst c14
                have H1 : ((right_Acts.f k ([] : List (S93)) (⟨#[97, 110, 110]⟩ : ByteArray) 2 0).bind fun t383 => (some (t383 == 11))) = some r := by rw [if_pos rfl] at H; exact H
                clear H
                have H := H1
                clear H1
                replace H := Option.bind_eq_some_iff.mp H
                obtain ⟨t383, A150, H⟩ := H
                replace H : (some (t383 == 11)) = some r := H
                have A15 := Aside0.mk A150
                clear A150
                obtain rfl := Option.some.inj H
                go_enter Try.func37, Try.ntmps37
                go_wp2_with (first | ((with_reducible refine gate_dst (N := 7) rfl ?_); (try (refine gate_guard (by rfl) ?_; dsimp only)); refine Kd.R_lit k49 _ 49 ?hg (N := 7) ?hd (xs := ([(⟨(⟨#[97, 110, 110]⟩ : ByteArray), (⟨3, 0⟩ : S26), (⟨1, 0⟩ : S26)⟩ : S49)] : List (S49))) (inner := [.string (⟨#[97, 110, 110]⟩ : ByteArray), .int .i64 3, .int .u64 0, .int .i64 1, .int .u64 0]) (ok := fun _ => True) (okp := fun _ => True) ?hr ?hp (fun _ hk => hk) trivial (Below.refl _ _) (Nat.le_refl _) (by simp) ?_; (case hd => rfl); (case hg => rfl); (case hr => first | (go_simp; done) | (go_simp; rfl)); (case hp => exact (Reps.c5 (show Kd.M k49 _ _ _ (⟨(⟨#[97, 110, 110]⟩ : ByteArray), (⟨3, 0⟩ : S26), (⟨1, 0⟩ : S26)⟩ : S49) [.string (⟨#[97, 110, 110]⟩ : ByteArray), .int .i64 3, .int .u64 0, .int .i64 1, .int .u64 0] from (k49_mkM _ _ _ (⟨(⟨#[97, 110, 110]⟩ : ByteArray), (⟨3, 0⟩ : S26), (⟨1, 0⟩ : S26)⟩ : S49) )) (Reps.none _ _))); intro v371 w16 ho17 hb hg_ hnew_; clear hg_ hnew_; (first | rw [← Ny370.out] at ho17 | (simp only [Int.reduceToNat] at ho17; rw [← Ny370.out] at ho17)); have n0_ := Aside0.mk (Kd.R_lower ho17 (below_size (pbx HB))); have n1_ := Aside0.mk (below_step (pbx HB) hb); clear HB; have HO372 := n0_; have HB := n1_; clear n0_ n1_; clear hb ho17) | ((with_reducible refine gate_dst (N := 2) rfl ?_); (try (refine gate_guard (by rfl) ?_; dsimp only)); refine box_event ?hg (N := 2) ?hd (cs := #[.int .i64 0, .int .u64 0]) (t := 26) ?hr ?_; (case hd => rfl); (case hg => rfl); (case hr => first | (go_simp; done) | (go_simp; rfl)); intro gb373 hg w18 hbox hb; have n0_ := Aside0.mk (Kd.R_below (by (with_reducible repeat (first | apply Kd.R_alloc | apply Kd.R_drewN | apply Kd.R_drew)); exact HO372.out) hb); have n1_ := Aside0.mk (below_step (pbx HB) hb); have n2_ := Aside0.mk (hbox); have n3_ := Aside0.mk ((by rw [hg]; exact (below_size (pbx HB)) : w.heap.size ≤ gb373)); have n4_ := Aside0.mk ((by rw [hg]; exact (below_size (pbx HB)) : w.heap.size ≤ gb373)); clear HO372; clear HB; have HO372 := n0_; have HB := n1_; have BK373 := n2_; have GW373 := n3_; have GE373 := n4_; clear n0_ n1_ n2_ n3_ n4_; clear hb hbox hg; have hcz19_0 : w18.cell? ⟨gb373, 0, none⟩ = some (.int .i64 0) := (blk_cell BK373.out 0).trans rfl; have hcz19_1 : w18.cell? ⟨gb373, 1, none⟩ = some (.int .u64 0) := (blk_cell BK373.out 1).trans rfl; have hfz19_0 := blk_frozen BK373.out 0; have hfz19_1 := blk_frozen BK373.out 1; obtain ⟨Ao20, co20, eo20⟩ := Kd.R_slice HO372.out; subst eo20) | ((with_reducible refine gate_callee (f := 41) rfl ?_); refine goesL_ (some 11) rfl rfl Try.func41 (by kernel_rfl) rfl #[.slice Ao20 y370.length co20, .agg #[.int .i64 2, .int .u64 0]] rfl (by (try simp only [List.map_toArray, List.map_cons, List.map_nil]); first | done | rfl | (simp only [List.length_drop, List.length_take]; rfl)) ?_; (with_reducible refine (right_Holders.calls k _ _ y370 2 0 t374 _ ?side1 ?side2 A1.out).mono ?_); (case side1 => refine (Kd.R_reads' (e := 49) (base := w.heap.size) (ok := fun k_ => True) (n := y370.length) (c := co20) ?_).2.2; exact (by (with_reducible repeat (first | apply Kd.R_alloc | apply Kd.R_drewN | apply Kd.R_drew)); exact (Kd.R_mono (Kd.R_far (p := ⟨gb373, 1, none⟩) (Kd.R_far (p := ⟨gb373, 0, none⟩) (Kd.R_types HO372.out BK373.out (by decide)) (fun _ hk => hk.2) (.int .i64 2)) (fun _ hk => hk.2) (.int .u64 0)) (fun _ h_ => h_.1)))); (case side2 => exact (Kd.R_reads' HO372.out).2.1); rintro e w21 ⟨v375, rfl, ho0, hb⟩; refine ⟨_, rfl, ?_⟩; have n0_ := Aside0.mk (Kd.R_below (by (with_reducible repeat (first | apply Kd.R_alloc | apply Kd.R_drewN | apply Kd.R_drew)); exact (Kd.R_mono (Kd.R_far (p := ⟨gb373, 1, none⟩) (Kd.R_far (p := ⟨gb373, 0, none⟩) (Kd.R_types HO372.out BK373.out (by decide)) (fun _ hk => hk.2) (.int .i64 2)) (fun _ hk => hk.2) (.int .u64 0)) (fun _ h_ => h_.1))) hb); have n1_ := Aside0.mk (Kd.R_lower ho0 (below_size (by repeat (first | (with_reducible first | exact HB.out | apply below_alloc | apply pw_below_drewN | apply below_drew1 | refine below_set ?_ GE373.out) | exact HB.out)))); have n2_ := Aside0.mk (blk_below (g := gb373) (o := .cells #[.int .i64 2, .int .u64 0] 26 (0, 0)) (by (with_reducible repeat (first | refine blk_drewN ?_ _ | refine blk_drew ?_ | refine blk_alloc ?_ _)); refine blk_put (cs := #[.int .i64 2, .int .u64 0]) ?_ 1 _ rfl; (with_reducible repeat (first | refine blk_drewN ?_ _ | refine blk_drew ?_ | refine blk_alloc ?_ _)); refine blk_put (cs := #[.int .i64 0, .int .u64 0]) ?_ 0 _ rfl; (with_reducible repeat (first | refine blk_drewN ?_ _ | refine blk_drew ?_ | refine blk_alloc ?_ _)); exact BK373.out) hb); have n3_ := Aside0.mk (below_step (by repeat (first | (with_reducible first | exact HB.out | apply below_alloc | apply pw_below_drewN | apply below_drew1 | refine below_set ?_ GE373.out) | exact HB.out)) hb); clear HO372; clear BK373; clear HB; have HO372 := n0_; have HO376 := n1_; have BK373 := n2_; have HB := n3_; clear n0_ n1_ n2_ n3_; (try clear hb); (try clear hb2); (try clear hk); (try clear hi); (try clear ho0); have hcz22_0 : w21.cell? ⟨gb373, 0, none⟩ = some (.int .i64 2) := (blk_cell BK373.out 0).trans rfl; have hcz22_1 : w21.cell? ⟨gb373, 1, none⟩ = some (.int .u64 0) := (blk_cell BK373.out 1).trans rfl; have hfz22_0 := blk_frozen BK373.out 0; have hfz22_1 := blk_frozen BK373.out 1) | ((with_reducible refine gate_callee (f := 38) rfl ?_); refine goesL_ (some 15) rfl rfl Try.func38 (by kernel_rfl) rfl #[.slice Ao20 y370.length co20, .string (⟨#[97, 110, 110]⟩ : ByteArray), .agg #[.int .i64 2, .int .u64 0], .agg #[.int .i64 2, .int .u64 0]] rfl (by (try simp only [List.map_toArray, List.map_cons, List.map_nil]); first | done | rfl | (simp only [List.length_drop, List.length_take]; rfl)) ?_; (with_reducible refine (right_Lowers.calls k _ _ y370 (⟨#[97, 110, 110]⟩ : ByteArray) 2 0 2 0 true _ ?side1 ?side2 A2.out).mono ?_); (case side1 => repeat (first | exact (Kd.R_reads' HO372.out).2.2 | (with_reducible refine Kd.C_alloc ?_ _) | (with_reducible refine Kd.C_drewN ?_ _) | (with_reducible refine Kd.C_drew ?_))); (case side2 => exact (Kd.R_reads' HO372.out).2.1); rintro e w23 ⟨rfl, hb⟩; refine ⟨_, rfl, ?_⟩; have n0_ := Aside0.mk (Kd.R_below (by (with_reducible repeat (first | apply Kd.R_alloc | apply Kd.R_drewN | apply Kd.R_drew)); exact HO372.out) hb); have n1_ := Aside0.mk (Kd.R_below (by (with_reducible repeat (first | apply Kd.R_alloc | apply Kd.R_drewN | apply Kd.R_drew)); exact HO376.out) hb); have n2_ := Aside0.mk (blk_below (pkx BK373) hb); have n3_ := Aside0.mk (below_step (pbx HB) hb); clear HO372; clear HO376; clear BK373; clear HB; have HO372 := n0_; have HO376 := n1_; have BK373 := n2_; have HB := n3_; clear n0_ n1_ n2_ n3_; (try clear hb); (try clear hb2); (try clear hk); (try clear hi); have hcz24_0 : w23.cell? ⟨gb373, 0, none⟩ = some (.int .i64 2) := (blk_cell BK373.out 0).trans rfl; have hcz24_1 : w23.cell? ⟨gb373, 1, none⟩ = some (.int .u64 0) := (blk_cell BK373.out 1).trans rfl; have hfz24_0 := blk_frozen BK373.out 0; have hfz24_1 := blk_frozen BK373.out 1) | (go_at_call 38; (with_reducible refine (right_Lowers.calls k _ _ y370 (⟨#[98, 111, 98]⟩ : ByteArray) 2 0 2 0 false _ ?side1 ?side2 A4.out).mono ?_); (case side1 => repeat (first | exact (Kd.R_reads' HO372.out).2.2 | (with_reducible refine Kd.C_alloc ?_ _) | (with_reducible refine Kd.C_drewN ?_ _) | (with_reducible refine Kd.C_drew ?_))); (case side2 => exact (Kd.R_reads' HO372.out).2.1); rintro e w25 ⟨rfl, hb⟩; have n0_ := Aside0.mk (Kd.R_below (by (with_reducible repeat (first | apply Kd.R_alloc | apply Kd.R_drewN | apply Kd.R_drew)); exact HO372.out) hb); have n1_ := Aside0.mk (Kd.R_below (by (with_reducible repeat (first | apply Kd.R_alloc | apply Kd.R_drewN | apply Kd.R_drew)); exact HO376.out) hb); have n2_ := Aside0.mk (blk_below (pkx BK373) hb); have n3_ := Aside0.mk (below_step (pbx HB) hb); clear HO372; clear HO376; clear BK373; clear HB; have HO372 := n0_; have HO376 := n1_; have BK373 := n2_; have HB := n3_; clear n0_ n1_ n2_ n3_; (try clear hb); (try clear hb2); (try clear hk); (try clear hi); have hcz26_0 : w25.cell? ⟨gb373, 0, none⟩ = some (.int .i64 2) := (blk_cell BK373.out 0).trans rfl; have hcz26_1 : w25.cell? ⟨gb373, 1, none⟩ = some (.int .u64 0) := (blk_cell BK373.out 1).trans rfl; have hfz26_0 := blk_frozen BK373.out 0; have hfz26_1 := blk_frozen BK373.out 1) | (go_at_call 38; (with_reducible refine (right_Lowers.calls k _ _ y370 (⟨#[97, 110, 110]⟩ : ByteArray) 2 0 0 0 false _ ?side1 ?side2 A6.out).mono ?_); (case side1 => repeat (first | exact (Kd.R_reads' HO372.out).2.2 | (with_reducible refine Kd.C_alloc ?_ _) | (with_reducible refine Kd.C_drewN ?_ _) | (with_reducible refine Kd.C_drew ?_))); (case side2 => exact (Kd.R_reads' HO372.out).2.1); rintro e w27 ⟨rfl, hb⟩; have n0_ := Aside0.mk (Kd.R_below (by (with_reducible repeat (first | apply Kd.R_alloc | apply Kd.R_drewN | apply Kd.R_drew)); exact HO372.out) hb); have n1_ := Aside0.mk (Kd.R_below (by (with_reducible repeat (first | apply Kd.R_alloc | apply Kd.R_drewN | apply Kd.R_drew)); exact HO376.out) hb); have n2_ := Aside0.mk (blk_below (pkx BK373) hb); have n3_ := Aside0.mk (below_step (pbx HB) hb); clear HO372; clear HO376; clear BK373; clear HB; have HO372 := n0_; have HO376 := n1_; have BK373 := n2_; have HB := n3_; clear n0_ n1_ n2_ n3_; (try clear hb); (try clear hb2); (try clear hk); (try clear hi); have hcz28_0 : w27.cell? ⟨gb373, 0, none⟩ = some (.int .i64 2) := (blk_cell BK373.out 0).trans rfl; have hcz28_1 : w27.cell? ⟨gb373, 1, none⟩ = some (.int .u64 0) := (blk_cell BK373.out 1).trans rfl; have hfz28_0 := blk_frozen BK373.out 0; have hfz28_1 := blk_frozen BK373.out 1) | (go_at_call 21; (with_reducible refine (right_Leaks.calls k _ _ y370 2 0 true _ ?side1 ?side2 A8.out).mono ?_); (case side1 => repeat (first | exact (Kd.R_reads' HO372.out).2.2 | (with_reducible refine Kd.C_alloc ?_ _) | (with_reducible refine Kd.C_drewN ?_ _) | (with_reducible refine Kd.C_drew ?_))); (case side2 => exact (Kd.R_reads' HO372.out).2.1); rintro e w29 ⟨rfl, hb⟩; have n0_ := Aside0.mk (Kd.R_below (by (with_reducible repeat (first | apply Kd.R_alloc | apply Kd.R_drewN | apply Kd.R_drew)); exact HO372.out) hb); have n1_ := Aside0.mk (Kd.R_below (by (with_reducible repeat (first | apply Kd.R_alloc | apply Kd.R_drewN | apply Kd.R_drew)); exact HO376.out) hb); have n2_ := Aside0.mk (blk_below (pkx BK373) hb); have n3_ := Aside0.mk (below_step (pbx HB) hb); clear HO372; clear HO376; clear BK373; clear HB; have HO372 := n0_; have HO376 := n1_; have BK373 := n2_; have HB := n3_; clear n0_ n1_ n2_ n3_; (try clear hb); (try clear hb2); (try clear hk); (try clear hi)) | (go_at_call 21; (with_reducible refine (right_Leaks.calls k _ _ y370 3 0 false _ ?side1 ?side2 A10.out).mono ?_); (case side1 => repeat (first | exact (Kd.R_reads' HO372.out).2.2 | (with_reducible refine Kd.C_alloc ?_ _) | (with_reducible refine Kd.C_drewN ?_ _) | (with_reducible refine Kd.C_drew ?_))); (case side2 => exact (Kd.R_reads' HO372.out).2.1); rintro e w30 ⟨rfl, hb⟩; have n0_ := Aside0.mk (Kd.R_below (by (with_reducible repeat (first | apply Kd.R_alloc | apply Kd.R_drewN | apply Kd.R_drew)); exact HO372.out) hb); have n1_ := Aside0.mk (Kd.R_below (by (with_reducible repeat (first | apply Kd.R_alloc | apply Kd.R_drewN | apply Kd.R_drew)); exact HO376.out) hb); have n2_ := Aside0.mk (blk_below (pkx BK373) hb); have n3_ := Aside0.mk (below_step (pbx HB) hb); clear HO372; clear HO376; clear BK373; clear HB; have HO372 := n0_; have HO376 := n1_; have BK373 := n2_; have HB := n3_; clear n0_ n1_ n2_ n3_; (try clear hb); (try clear hb2); (try clear hk); (try clear hi); obtain ⟨Ao31, co31, eo31⟩ := Kd.R_slice HO376.out; subst eo31) | (go_at_call 50; (with_reducible refine (right_Name.calls k (⟨#[97, 49]⟩ : ByteArray) true _ A13.out).mono ?_); rintro e w' ⟨rfl, ⟨nd, rfl⟩⟩; have hcz32_0 : w30.cell? ⟨gb373, 0, none⟩ = some (.int .i64 2) := (blk_cell BK373.out 0).trans rfl; have hcz32_1 : w30.cell? ⟨gb373, 1, none⟩ = some (.int .u64 0) := (blk_cell BK373.out 1).trans rfl; have hfz32_0 := blk_frozen BK373.out 0; have hfz32_1 := blk_frozen BK373.out 1) | (go_at_call 54; (refine (right_Acts.calls k _ _ ([] : List (S93)) (⟨#[97, 110, 110]⟩ : ByteArray) 2 0 t383 _ ?side1 ?side2 A15.out).mono ?_); (case side1 => exact Kd.C_nil _ _); (case side2 => exact Nat.le_refl _); rintro e w33 ⟨rfl, hb⟩; have n0_ := Aside0.mk (Kd.R_below (by (with_reducible repeat (first | apply Kd.R_alloc | apply Kd.R_drewN | apply Kd.R_drew)); exact HO372.out) hb); have n1_ := Aside0.mk (Kd.R_below (by (with_reducible repeat (first | apply Kd.R_alloc | apply Kd.R_drewN | apply Kd.R_drew)); exact HO376.out) hb); have n2_ := Aside0.mk (blk_below (pkx BK373) hb); have n3_ := Aside0.mk (below_step (pbx HB) hb); clear HO372; clear HO376; clear BK373; clear HB; have HO372 := n0_; have HO376 := n1_; have BK373 := n2_; have HB := n3_; clear n0_ n1_ n2_ n3_; (try clear hb); (try clear hb2); (try clear hk); (try clear hi)))
                go_ret
                exact ⟨by first | rfl | (simp [errW_none, errW_some] <;> rfl) | (simp [*, errW_none, errW_some] <;> rfl), pbx HB⟩
              · replace c14 := Bool.eq_false_iff.mpr c14
                subst c14
                have H1 : (none) = some r := by rw [if_neg (show ¬ (false = true) by decide)] at H; exact H
                clear H
                have H := H1
                clear H1
                exact absurd H (by simp)
            · rw [if_neg c12] at H
              exact absurd H (by simp)
        · replace c9 := Bool.eq_false_iff.mpr c9
          subst c9
          have H1 : (none) = some r := by rw [if_neg (show ¬ (false = true) by decide)] at H; exact H
          clear H
          have H := H1
          clear H1
          exact absurd H (by simp)
  · replace c3 := Bool.eq_false_iff.mpr c3
    subst c3
    have H1 : (none) = some r := by rw [if_neg (show ¬ (false = true) by decide)] at H; exact H
    clear H
    have H := H1
    clear H1
    exact absurd H (by simp)

end Go.Proofs.Ytlchgkoafabapaa.X
namespace Go.Proofs.Ytlchgkoafabapaa.X
open Go.RowKit Go.Proofs.YtlchgkoafabapaaW.PrintWords Go.Proofs.YtlchgkoafabapaaW.PrintLast Go.Proofs.YtlchgkoafabapaaW.PrintMore
attribute [local go_sem] max2_int min2_int max_two min_two max_three min_three max_four min_four   -- for this text's walks alone
set_option linter.unusedVariables false
set_option linter.unusedSimpArgs false

/-! ### right_Grants: function 46 -/
mutual
def right_Grants.l0 : Nat → List (S93) → List (S49) → Int → Int → Option (Int × Int)
  | 0, _, _, _, _ => none
  | k + 1, x1, x10, x11, x12 => if x12 < x11 then (if 0 ≤ x12 then (if x12 < (x10.length : Int) then ((right_Find.f k x1 ((rd_T49 x10 x12).f0)).bind fun bt438 => (right_Grants.j1 k x1 x12 bt438.2.2 x10 x11 x12 ((rd_T49 x10 x12).f0) ((rd_T49 x10 x12).f1.f0) ((rd_T49 x10 x12).f1.f1) ((rd_T49 x10 x12).f2.f0) ((rd_T49 x10 x12).f2.f1))) else (none)) else (none)) else (some (0, 0))
def right_Grants.j1 : Nat → List (S93) → Int → Bool → List (S49) → Int → Int → ByteArray → Int → Int → Int → Int → Option (Int × Int)
  | 0, _, _, _, _, _, _, _, _, _, _, _ => none
  | k + 1, x1, x6, x9, x10, x11, x12, x438000, x438001, x438002, x438003, x438004 => if x6 ≥ 32 then (some (x6, 10)) else (if x9 = true then ((label_May.f x438001 x438002).bind fun t442 => (if t442 = true then ((label_May.f x438003 x438004).bind fun t443 => (if t443 = true then (right_Grants.l0 k x1 x10 x11 (wrap64 (x12 + 1))) else (some (x6, 7)))) else (some (x6, 7)))) else (some (x6, 11)))
end
def right_Grants.f (k : Nat) (l0 : List (S49)) (l1 : List (S93)) : Option (Int × Int) := right_Grants.l0 k l1 l0 (l0.length : Int) 0
theorem right_Grants.mono_l : ∀ k, (∀ y0 y1 y2 y3, LeO (right_Grants.l0 k y0 y1 y2 y3) (right_Grants.l0 (k + 1) y0 y1 y2 y3)) ∧ (∀ y0 y1 y2 y3 y4 y5 y6 y7 y8 y9 y10, LeO (right_Grants.j1 k y0 y1 y2 y3 y4 y5 y6 y7 y8 y9 y10) (right_Grants.j1 (k + 1) y0 y1 y2 y3 y4 y5 y6 y7 y8 y9 y10))
  | 0 => ⟨fun _ _ _ _ r h => by simp [right_Grants.l0] at h, fun _ _ _ _ _ _ _ _ _ _ _ r h => by simp [right_Grants.j1] at h⟩
  | k + 1 => by
    obtain ⟨ih0, ih1⟩ := right_Grants.mono_l k
    refine ⟨?_, ?_⟩
    · intro y0 y1 y2 y3
      unfold right_Grants.l0
      repeat' first
      | (with_reducible exact ih0 _ _ _ _)
      | (with_reducible exact ih1 _ _ _ _ _ _ _ _ _ _ _)
      | (with_reducible exact right_Find.mono _ _ _)
      | (with_reducible exact LeO.refl _)
      | (with_reducible exact LeO.none _)
      | (with_reducible refine LeO.ite ?_ ?_)
      | (with_reducible refine LeO.bind ?_ (fun _ => ?_))
      | exact ih0 _ _ _ _
      | exact ih1 _ _ _ _ _ _ _ _ _ _ _
      | exact right_Find.mono _ _ _
      | exact LeO.none _
      | refine LeO.ite ?_ ?_
      | refine LeO.bind ?_ (fun _ => ?_)
    · intro y0 y1 y2 y3 y4 y5 y6 y7 y8 y9 y10
      unfold right_Grants.j1
      repeat' first
      | (with_reducible exact ih0 _ _ _ _)
      | (with_reducible exact ih1 _ _ _ _ _ _ _ _ _ _ _)
      | (with_reducible exact right_Find.mono _ _ _)
      | (with_reducible exact LeO.refl _)
      | (with_reducible exact LeO.none _)
      | (with_reducible refine LeO.ite ?_ ?_)
      | (with_reducible refine LeO.bind ?_ (fun _ => ?_))
      | exact ih0 _ _ _ _
      | exact ih1 _ _ _ _ _ _ _ _ _ _ _
      | exact right_Find.mono _ _ _
      | exact LeO.none _
      | refine LeO.ite ?_ ?_
      | refine LeO.bind ?_ (fun _ => ?_)
theorem right_Grants.mono : ∀ a0 a1 k, LeO (right_Grants.f k a0 a1) (right_Grants.f (k + 1) a0 a1) := by
  intro a0 a1 k
  obtain ⟨ih0, ih1⟩ := right_Grants.mono_l k
  unfold right_Grants.f
  repeat' first
      | (with_reducible exact ih0 _ _ _ _)
      | (with_reducible exact ih1 _ _ _ _ _ _ _ _ _ _ _)
      | (with_reducible exact right_Find.mono _ _ _)
      | (with_reducible exact LeO.refl _)
      | (with_reducible exact LeO.none _)
      | (with_reducible refine LeO.ite ?_ ?_)
      | (with_reducible refine LeO.bind ?_ (fun _ => ?_))
      | exact ih0 _ _ _ _
      | exact ih1 _ _ _ _ _ _ _ _ _ _ _
      | exact right_Find.mono _ _ _
      | exact LeO.none _
      | refine LeO.ite ?_ ?_
      | refine LeO.bind ?_ (fun _ => ?_)
set_option maxHeartbeats 8000000 in
set_option maxRecDepth 100000 in
theorem right_Grants.calls (k : Nat) (A0 : Option Addr) (c0 : Nat) (l0 : List (S49)) (A1 : Option Addr) (c1 : Nat) (l1 : List (S93)) (r1 : Int) (r2 : Int) (w : World) (hr0 : Kd.C k49 w A0 l0.length l0) (hc0 : l0.length ≤ c0) (hr1 : Kd.C k93 w A1 l1.length l1) (hc1 : l1.length ≤ c1) (h : right_Grants.f k l0 l1 = some (r1, r2)) :
    Calls Try.prog 46 #[.slice A0 l0.length c0, .slice A1 l1.length c1] w fun e w' => e = .returned (.tuple #[.int .i64 r1, .int .i64 r2]) ∧ Below w.heap.size w w' := by
  have hu49 := Try.underlying49
  have hu26 := Try.underlying26
  have HR0 := Aside0.mk hr0
  have HC0 := Aside0.mk hc0
  clear hr0 hc0
  have HR1 := Aside0.mk hr1
  have HC1 := Aside0.mk hc1
  clear hr1 hc1
  have HB := Aside0.mk (Below.refl w.heap.size w)
  have H : (right_Grants.l0 k l1 l0 (l0.length : Int) 0) = some (r1, r2) := h
  clear h
  have H' := Aside0.mk H
  clear H
  go_enter Try.func46, Try.ntmps46
  go_wp2
  go_loopg [12] k (fun kq v12 w' => ∃ (x12_1 : Int), v12 = .int .i64 x12_1 ∧ Aside0 (right_Grants.l0 kq l1 l0 (l0.length : Int) x12_1 = some (r1, r2)) ∧ Aside0 (kq ≤ k) ∧ Aside0 (Below w.heap.size w w'))
  case atStart => exact ⟨(0), (by first | rfl | (simp; done) | (simp [*]; done)), H', ⟨Nat.le_refl _⟩, ⟨pbx HB⟩⟩
  case round =>
    clear H'
    try clear c1
    try clear p2
    obtain ⟨x12_1, rfl, HA, HK1, HB⟩ := hrel
    cases gk with
    | zero => exact absurd HA.out (by simp [right_Grants.l0])
    | succ k1 =>
      have H := HA.out
      clear HA
      simp only [right_Grants.l0] at H
      by_cases c3 : x12_1 < (l0.length : Int)
      · rw [if_pos c3] at H
        have c3b0 : decide (x12_1 < (l0.length : Int)) = true := decide_eq_true c3
        clear c3
        by_cases c4 : 0 ≤ x12_1
        · rw [if_pos c4] at H
          have c4b0 : decide (0 ≤ x12_1) = true := decide_eq_true c4
          clear c4
          by_cases c5 : x12_1 < (l0.length : Int)
          · rw [if_pos c5] at H
            have c5b0 : decide (x12_1 < (l0.length : Int)) = true := decide_eq_true c5
            clear c5
            have HC6 := Aside0.mk H
            clear H
            have p436 : 0 ≤ (x12_1 : Int) := of_decide_eq_true (by first | (with_reducible assumption) | assumption)
            have q436 : x12_1 < (l0.length : Int) := of_decide_eq_true (by first | (with_reducible assumption) | assumption)
            obtain ⟨ad436, e436, hx436_0, hx436_1, hx436_2, hx436_3, hx436_4⟩ := at_T49 HR0.out x12_1 p436 q436
            cases e436
            replace hx436_0 := (HB.out.cell (World.block_lt_of_cell? w _ hx436_0)).trans hx436_0
            replace hx436_1 := (HB.out.cell (World.block_lt_of_cell? w _ hx436_1)).trans hx436_1
            replace hx436_2 := (HB.out.cell (World.block_lt_of_cell? w _ hx436_2)).trans hx436_2
            replace hx436_3 := (HB.out.cell (World.block_lt_of_cell? w _ hx436_3)).trans hx436_3
            replace hx436_4 := (HB.out.cell (World.block_lt_of_cell? w _ hx436_4)).trans hx436_4
            replace p436 := eq_true p436
            replace q436 := eq_true q436
            go_upto_region 4 with (first | ((with_reducible refine gate_dst (N := 7) rfl ?_); refine box_event ?hg (N := 7) ?hd (cs := #[.string (⟨#[]⟩ : ByteArray), .int .i64 0, .int .u64 0, .int .i64 0, .int .u64 0]) (t := 49) ?hr ?_; (case hd => rfl); (case hg => rfl); (case hr => first | (go_simp; done) | (go_simp; rfl)); intro gb437 hg w7 hbox hb; have n0_ := Aside0.mk (below_step (pbx HB) hb); have n1_ := Aside0.mk (hbox); have n2_ := Aside0.mk ((by rw [hg]; exact (below_size (pbx HB)) : w.heap.size ≤ gb437)); have n3_ := Aside0.mk ((by rw [hg]; exact (below_size (pbx HB)) : w.heap.size ≤ gb437)); clear HB; have HB := n0_; have BK437 := n1_; have GW437 := n2_; have GE437 := n3_; clear n0_ n1_ n2_ n3_; clear hb hbox hg; have hcz8_0 : w7.cell? ⟨gb437, 0, none⟩ = some (.string (⟨#[]⟩ : ByteArray)) := (blk_cell BK437.out 0).trans rfl; have hcz8_1 : w7.cell? ⟨gb437, 1, none⟩ = some (.int .i64 0) := (blk_cell BK437.out 1).trans rfl; have hcz8_2 : w7.cell? ⟨gb437, 2, none⟩ = some (.int .u64 0) := (blk_cell BK437.out 2).trans rfl; have hcz8_3 : w7.cell? ⟨gb437, 3, none⟩ = some (.int .i64 0) := (blk_cell BK437.out 3).trans rfl; have hcz8_4 : w7.cell? ⟨gb437, 4, none⟩ = some (.int .u64 0) := (blk_cell BK437.out 4).trans rfl; have hfz8_0 := blk_frozen BK437.out 0; have hfz8_1 := blk_frozen BK437.out 1; have hfz8_2 := blk_frozen BK437.out 2; have hfz8_3 := blk_frozen BK437.out 3; have hfz8_4 := blk_frozen BK437.out 4))
            (try simp only [Act.put, List.setIfInBounds_toArray, List.set_cons_zero, List.set_cons_succ])
            go_cut [9] (fun v9 wc => ∃ (kq : Nat) (x9_5 : Bool), v9 = .bool x9_5 ∧ Aside0 (right_Grants.j1 kq l1 x12_1 x9_5 l0 (l0.length : Int) x12_1 ((rd_T49 l0 x12_1).f0) ((rd_T49 l0 x12_1).f1.f0) ((rd_T49 l0 x12_1).f1.f1) ((rd_T49 l0 x12_1).f2.f0) ((rd_T49 l0 x12_1).f2.f1) = some (r1, r2)) ∧ Aside0 (kq ≤ k1) ∧ Aside0 (wc.heap[gb437]? = some (.cells #[.string ((rd_T49 l0 x12_1).f0), .int .i64 ((rd_T49 l0 x12_1).f1.f0), .int .u64 ((rd_T49 l0 x12_1).f1.f1), .int .i64 ((rd_T49 l0 x12_1).f2.f0), .int .u64 ((rd_T49 l0 x12_1).f2.f1)] 49 (0, 0))) ∧ Aside0 (Below w.heap.size w wc))
            case first =>
              have H := HC6.out
              clear HC6
              replace H := Option.bind_eq_some_iff.mp H
              obtain ⟨⟨t438, t439, t440⟩, A90, H⟩ := H
              replace H : (right_Grants.j1 k1 l1 x12_1 t440 l0 (l0.length : Int) x12_1 ((rd_T49 l0 x12_1).f0) ((rd_T49 l0 x12_1).f1.f0) ((rd_T49 l0 x12_1).f1.f1) ((rd_T49 l0 x12_1).f2.f0) ((rd_T49 l0 x12_1).f2.f1)) = some (r1, r2) := H
              have A9 := Aside0.mk A90
              clear A90
              have H' := Aside0.mk H
              clear H
              have hcz10_0 : w7.cell? ⟨gb437, 0, none⟩ = some (.string (⟨#[]⟩ : ByteArray)) := (blk_cell BK437.out 0).trans rfl
              have hcz10_1 : w7.cell? ⟨gb437, 1, none⟩ = some (.int .i64 0) := (blk_cell BK437.out 1).trans rfl
              have hcz10_2 : w7.cell? ⟨gb437, 2, none⟩ = some (.int .u64 0) := (blk_cell BK437.out 2).trans rfl
              have hcz10_3 : w7.cell? ⟨gb437, 3, none⟩ = some (.int .i64 0) := (blk_cell BK437.out 3).trans rfl
              have hcz10_4 : w7.cell? ⟨gb437, 4, none⟩ = some (.int .u64 0) := (blk_cell BK437.out 4).trans rfl
              have hfz10_0 := blk_frozen BK437.out 0
              have hfz10_1 := blk_frozen BK437.out 1
              have hfz10_2 := blk_frozen BK437.out 2
              have hfz10_3 := blk_frozen BK437.out 3
              have hfz10_4 := blk_frozen BK437.out 4
              go_wp2_with (first | ((with_reducible refine gate_callee (f := 48) rfl ?_); refine goesL_ (some 21) rfl rfl Try.func48 (by kernel_rfl) rfl #[.slice A1 l1.length c1, .string ((rd_T49 l0 x12_1).f0)] rfl (by (try simp only [List.map_toArray, List.map_cons, List.map_nil]); first | done | rfl | (simp only [List.length_drop, List.length_take]; rfl)) ?_; (with_reducible refine (right_Find.calls k1 _ _ l1 ((rd_T49 l0 x12_1).f0) t438 t439 t440 _ ?side1 ?side2 A9.out).mono ?_); (case side1 => exact Kd.C_below HR1.out (by repeat (first | (with_reducible first | exact HB.out | apply below_alloc | apply pw_below_drewN | apply below_drew1 | refine below_set ?_ GE437.out) | exact HB.out))); (case side2 => exact HC1.out); rintro e w11 ⟨rfl, hb⟩; refine ⟨_, rfl, ?_⟩; have n0_ := Aside0.mk (blk_below (g := gb437) (o := .cells #[.string ((rd_T49 l0 x12_1).f0), .int .i64 ((rd_T49 l0 x12_1).f1.f0), .int .u64 ((rd_T49 l0 x12_1).f1.f1), .int .i64 ((rd_T49 l0 x12_1).f2.f0), .int .u64 ((rd_T49 l0 x12_1).f2.f1)] 49 (0, 0)) (by (with_reducible repeat (first | refine blk_drewN ?_ _ | refine blk_drew ?_ | refine blk_alloc ?_ _)); refine blk_put (cs := #[.string ((rd_T49 l0 x12_1).f0), .int .i64 ((rd_T49 l0 x12_1).f1.f0), .int .u64 ((rd_T49 l0 x12_1).f1.f1), .int .i64 ((rd_T49 l0 x12_1).f2.f0), .int .u64 0]) ?_ 4 _ rfl; (with_reducible repeat (first | refine blk_drewN ?_ _ | refine blk_drew ?_ | refine blk_alloc ?_ _)); refine blk_put (cs := #[.string ((rd_T49 l0 x12_1).f0), .int .i64 ((rd_T49 l0 x12_1).f1.f0), .int .u64 ((rd_T49 l0 x12_1).f1.f1), .int .i64 0, .int .u64 0]) ?_ 3 _ rfl; (with_reducible repeat (first | refine blk_drewN ?_ _ | refine blk_drew ?_ | refine blk_alloc ?_ _)); refine blk_put (cs := #[.string ((rd_T49 l0 x12_1).f0), .int .i64 ((rd_T49 l0 x12_1).f1.f0), .int .u64 0, .int .i64 0, .int .u64 0]) ?_ 2 _ rfl; (with_reducible repeat (first | refine blk_drewN ?_ _ | refine blk_drew ?_ | refine blk_alloc ?_ _)); refine blk_put (cs := #[.string ((rd_T49 l0 x12_1).f0), .int .i64 0, .int .u64 0, .int .i64 0, .int .u64 0]) ?_ 1 _ rfl; (with_reducible repeat (first | refine blk_drewN ?_ _ | refine blk_drew ?_ | refine blk_alloc ?_ _)); refine blk_put (cs := #[.string (⟨#[]⟩ : ByteArray), .int .i64 0, .int .u64 0, .int .i64 0, .int .u64 0]) ?_ 0 _ rfl; (with_reducible repeat (first | refine blk_drewN ?_ _ | refine blk_drew ?_ | refine blk_alloc ?_ _)); exact BK437.out) hb); have n1_ := Aside0.mk (below_step (by repeat (first | (with_reducible first | exact HB.out | apply below_alloc | apply pw_below_drewN | apply below_drew1 | refine below_set ?_ GE437.out) | exact HB.out)) hb); clear BK437; clear HB; have BK437 := n0_; have HB := n1_; clear n0_ n1_; (try clear hb); (try clear hb2); (try clear hk); (try clear hi)) | ((with_reducible refine gate_dst (N := 8) rfl ?_); refine box_event ?hg (N := 8) ?hd (cs := #[.int .i64 0, .int .u64 0]) (t := 26) ?hr ?_; (case hd => rfl); (case hg => rfl); (case hr => first | (go_simp; done) | (go_simp; rfl)); intro gb441 hg w12 hbox hb; have n0_ := Aside0.mk (blk_below (pkx BK437) hb); have n1_ := Aside0.mk (below_step (pbx HB) hb); have n2_ := Aside0.mk (hbox); have n3_ := Aside0.mk ((by rw [hg]; exact (below_size (pbx HB)) : w.heap.size ≤ gb441)); have n4_ := Aside0.mk ((by rw [hg]; exact (below_size (pbx HB)) : w.heap.size ≤ gb441)); have n5_ := Aside0.mk ((by rw [hg]; exact Nat.ne_of_lt (blk_lt (pkx BK437)) : gb437 ≠ gb441)); have n6_ := Aside0.mk ((by rw [hg]; exact Nat.ne_of_gt (blk_lt (pkx BK437)) : gb441 ≠ gb437)); clear BK437; clear HB; have BK437 := n0_; have HB := n1_; have BK441 := n2_; have GW441 := n3_; have GE441 := n4_; have NB437_441 := n5_; have NB441_437 := n6_; clear n0_ n1_ n2_ n3_ n4_ n5_ n6_; clear hb hbox hg; have hnb13 := NB441_437.out; have hnc13 := NB437_441.out; have hcz14_0 : w12.cell? ⟨gb441, 0, none⟩ = some (.int .i64 0) := (blk_cell BK441.out 0).trans rfl; have hcz14_1 : w12.cell? ⟨gb441, 1, none⟩ = some (.int .u64 0) := (blk_cell BK441.out 1).trans rfl; have hfz14_0 := blk_frozen BK441.out 0; have hfz14_1 := blk_frozen BK441.out 1))
              go_meet
              case rel => exact ⟨_, (t440), (by first | rfl | (simp; done) | (simp [*]; done) | (cases t440 <;> simp; done)), H', ⟨by have := HK1.out; first | omega | exact Nat.le_refl _⟩, ⟨by (with_reducible repeat (first | refine blk_drewN ?_ _ | refine blk_drew ?_ | refine blk_alloc ?_ _)); refine blk_far ?_ NB437_441.out _; (with_reducible repeat (first | refine blk_drewN ?_ _ | refine blk_drew ?_ | refine blk_alloc ?_ _)); refine blk_far ?_ NB437_441.out _; (with_reducible repeat (first | refine blk_drewN ?_ _ | refine blk_drew ?_ | refine blk_alloc ?_ _)); exact BK437.out⟩, ⟨by repeat (first | (with_reducible first | exact HB.out | apply below_alloc | apply pw_below_drewN | apply below_drew1 | refine below_set ?_ GE437.out | refine below_set ?_ GE441.out) | exact HB.out)⟩⟩
            case rest =>
              clear HC6
              try clear c1
              try clear p2
              try clear c3
              try clear c3b0
              try clear c4
              try clear c4b0
              try clear p4
              try clear q4
              try clear hx4
              try clear c5
              try clear c5b0
              try clear c13
              try clear hcz10_0
              try clear hcz10_1
              try clear hcz10_2
              try clear hcz10_3
              try clear hcz10_4
              try clear hcz14_0
              try clear hcz14_1
              try clear hcz8_0
              try clear hcz8_1
              try clear hcz8_2
              try clear hcz8_3
              try clear hcz8_4
              try clear hfz10_0
              try clear hfz10_1
              try clear hfz10_2
              try clear hfz10_3
              try clear hfz10_4
              try clear hfz14_0
              try clear hfz14_1
              try clear hfz8_0
              try clear hfz8_1
              try clear hfz8_2
              try clear hfz8_3
              try clear hfz8_4
              try clear hx436_0
              try clear hx436_1
              try clear hx436_2
              try clear hx436_3
              try clear hx436_4
              try clear p2
              try clear p436
              try clear q436
              obtain ⟨kq, x9_5, rfl, HA, HJ5, BK437, HB⟩ := hcut
              cases kq with
              | zero => exact absurd HA.out (by simp [right_Grants.j1])
              | succ kj5 =>
                have H := HA.out
                clear HA
                simp only [right_Grants.j1] at H
                by_cases c15 : x12_1 ≥ 32
                · rw [if_pos c15] at H
                  have c15b0 : decide (32 ≤ x12_1) = true := decide_eq_true c15
                  clear c15
                  simp only [Option.some.injEq, Prod.mk.injEq] at H
                  obtain ⟨rfl, rfl⟩ := H
                  go_wp2
                  go_ret2
                  exact ⟨by first | rfl | (simp [errW_none, errW_some] <;> rfl) | (simp [*, errW_none, errW_some] <;> rfl), pbx HB⟩
                · rw [if_neg c15] at H
                  have c15b0 : decide (32 ≤ x12_1) = false := decide_eq_false c15
                  clear c15
                  by_cases c16 : x9_5 = true
                  · subst c16
                    have H1 : ((label_May.f ((rd_T49 l0 x12_1).f1.f0) ((rd_T49 l0 x12_1).f1.f1)).bind fun t442 => (if t442 = true then ((label_May.f ((rd_T49 l0 x12_1).f2.f0) ((rd_T49 l0 x12_1).f2.f1)).bind fun t443 => (if t443 = true then (right_Grants.l0 kj5 l1 l0 (l0.length : Int) (wrap64 (x12_1 + 1))) else (some (x12_1, 7)))) else (some (x12_1, 7)))) = some (r1, r2) := by rw [if_pos rfl] at H; exact H
                    clear H
                    have H := H1
                    clear H1
                    replace H := Option.bind_eq_some_iff.mp H
                    obtain ⟨t442, A170, H⟩ := H
                    replace H : (if t442 = true then ((label_May.f ((rd_T49 l0 x12_1).f2.f0) ((rd_T49 l0 x12_1).f2.f1)).bind fun t443 => (if t443 = true then (right_Grants.l0 kj5 l1 l0 (l0.length : Int) (wrap64 (x12_1 + 1))) else (some (x12_1, 7)))) else (some (x12_1, 7))) = some (r1, r2) := H
                    have A17 := Aside0.mk A170
                    clear A170
                    by_cases c18 : t442 = true
                    · subst c18
                      have H1 : ((label_May.f ((rd_T49 l0 x12_1).f2.f0) ((rd_T49 l0 x12_1).f2.f1)).bind fun t443 => (if t443 = true then (right_Grants.l0 kj5 l1 l0 (l0.length : Int) (wrap64 (x12_1 + 1))) else (some (x12_1, 7)))) = some (r1, r2) := by rw [if_pos rfl] at H; exact H
                      clear H
                      have H := H1
                      clear H1
                      replace H := Option.bind_eq_some_iff.mp H
                      obtain ⟨t443, A190, H⟩ := H
                      replace H : (if t443 = true then (right_Grants.l0 kj5 l1 l0 (l0.length : Int) (wrap64 (x12_1 + 1))) else (some (x12_1, 7))) = some (r1, r2) := H
                      have A19 := Aside0.mk A190
                      clear A190
                      by_cases c20 : t443 = true
                      · subst c20
                        have H1 : (right_Grants.l0 kj5 l1 l0 (l0.length : Int) (wrap64 (x12_1 + 1))) = some (r1, r2) := by rw [if_pos rfl] at H; exact H
                        clear H
                        have H := H1
                        clear H1
                        have H' := Aside0.mk H
                        clear H
                        have hcz21_0 : wc.cell? ⟨gb437, 0, none⟩ = some (.string ((rd_T49 l0 x12_1).f0)) := (blk_cell BK437.out 0).trans rfl
                        have hcz21_1 : wc.cell? ⟨gb437, 1, none⟩ = some (.int .i64 ((rd_T49 l0 x12_1).f1.f0)) := (blk_cell BK437.out 1).trans rfl
                        have hcz21_2 : wc.cell? ⟨gb437, 2, none⟩ = some (.int .u64 ((rd_T49 l0 x12_1).f1.f1)) := (blk_cell BK437.out 2).trans rfl
                        have hcz21_3 : wc.cell? ⟨gb437, 3, none⟩ = some (.int .i64 ((rd_T49 l0 x12_1).f2.f0)) := (blk_cell BK437.out 3).trans rfl
                        have hcz21_4 : wc.cell? ⟨gb437, 4, none⟩ = some (.int .u64 ((rd_T49 l0 x12_1).f2.f1)) := (blk_cell BK437.out 4).trans rfl
                        have hfz21_0 := blk_frozen BK437.out 0
                        have hfz21_1 := blk_frozen BK437.out 1
                        have hfz21_2 := blk_frozen BK437.out 2
                        have hfz21_3 := blk_frozen BK437.out 3
                        have hfz21_4 := blk_frozen BK437.out 4
                        go_wp2_with (first | ((with_reducible refine gate_callee (f := 74) rfl ?_); refine goesL_ (some 35) rfl rfl Try.func74 (by kernel_rfl) rfl #[.agg #[.int .i64 ((rd_T49 l0 x12_1).f1.f0), .int .u64 ((rd_T49 l0 x12_1).f1.f1)]] rfl (by (try simp only [List.map_toArray, List.map_cons, List.map_nil]); first | done | rfl | (simp only [List.length_drop, List.length_take]; rfl)) ?_; (with_reducible refine (label_May.calls ((rd_T49 l0 x12_1).f1.f0) ((rd_T49 l0 x12_1).f1.f1) true _ A17.out).mono ?_); rintro e w22 ⟨rfl, hb⟩; refine ⟨_, rfl, ?_⟩; have n0_ := Aside0.mk (blk_below (pkx BK437) hb); have n1_ := Aside0.mk (below_step (pbx HB) hb); clear BK437; clear HB; have BK437 := n0_; have HB := n1_; clear n0_ n1_; (try clear hb); (try clear hb2); (try clear hk); (try clear hi); have hcz23_0 : w22.cell? ⟨gb437, 0, none⟩ = some (.string ((rd_T49 l0 x12_1).f0)) := (blk_cell BK437.out 0).trans rfl; have hcz23_1 : w22.cell? ⟨gb437, 1, none⟩ = some (.int .i64 ((rd_T49 l0 x12_1).f1.f0)) := (blk_cell BK437.out 1).trans rfl; have hcz23_2 : w22.cell? ⟨gb437, 2, none⟩ = some (.int .u64 ((rd_T49 l0 x12_1).f1.f1)) := (blk_cell BK437.out 2).trans rfl; have hcz23_3 : w22.cell? ⟨gb437, 3, none⟩ = some (.int .i64 ((rd_T49 l0 x12_1).f2.f0)) := (blk_cell BK437.out 3).trans rfl; have hcz23_4 : w22.cell? ⟨gb437, 4, none⟩ = some (.int .u64 ((rd_T49 l0 x12_1).f2.f1)) := (blk_cell BK437.out 4).trans rfl; have hfz23_0 := blk_frozen BK437.out 0; have hfz23_1 := blk_frozen BK437.out 1; have hfz23_2 := blk_frozen BK437.out 2; have hfz23_3 := blk_frozen BK437.out 3; have hfz23_4 := blk_frozen BK437.out 4) | (go_at_call 74; (with_reducible refine (label_May.calls ((rd_T49 l0 x12_1).f2.f0) ((rd_T49 l0 x12_1).f2.f1) true _ A19.out).mono ?_); rintro e w24 ⟨rfl, hb⟩; have n0_ := Aside0.mk (blk_below (pkx BK437) hb); have n1_ := Aside0.mk (below_step (pbx HB) hb); clear BK437; clear HB; have BK437 := n0_; have HB := n1_; clear n0_ n1_; (try clear hb); (try clear hb2); (try clear hk); (try clear hi)))
                        go_roundg kj5
                        case measure => have := HK1.out; have := HJ5.out; omega
                        case rel => exact ⟨(wrap64 (x12_1 + 1)), (by first | rfl | (simp; done) | (simp [*]; done)), H', ⟨by have := HK1.out; have := HJ5.out; omega⟩, ⟨pbx HB⟩⟩
                      · replace c20 := Bool.eq_false_iff.mpr c20
                        subst c20
                        have H1 : (some (x12_1, 7)) = some (r1, r2) := by rw [if_neg (show ¬ (false = true) by decide)] at H; exact H
                        clear H
                        have H := H1
                        clear H1
                        simp only [Option.some.injEq, Prod.mk.injEq] at H
                        obtain ⟨rfl, rfl⟩ := H
                        have hcz25_0 : wc.cell? ⟨gb437, 0, none⟩ = some (.string ((rd_T49 l0 x12_1).f0)) := (blk_cell BK437.out 0).trans rfl
                        have hcz25_1 : wc.cell? ⟨gb437, 1, none⟩ = some (.int .i64 ((rd_T49 l0 x12_1).f1.f0)) := (blk_cell BK437.out 1).trans rfl
                        have hcz25_2 : wc.cell? ⟨gb437, 2, none⟩ = some (.int .u64 ((rd_T49 l0 x12_1).f1.f1)) := (blk_cell BK437.out 2).trans rfl
                        have hcz25_3 : wc.cell? ⟨gb437, 3, none⟩ = some (.int .i64 ((rd_T49 l0 x12_1).f2.f0)) := (blk_cell BK437.out 3).trans rfl
                        have hcz25_4 : wc.cell? ⟨gb437, 4, none⟩ = some (.int .u64 ((rd_T49 l0 x12_1).f2.f1)) := (blk_cell BK437.out 4).trans rfl
                        have hfz25_0 := blk_frozen BK437.out 0
                        have hfz25_1 := blk_frozen BK437.out 1
                        have hfz25_2 := blk_frozen BK437.out 2
                        have hfz25_3 := blk_frozen BK437.out 3
                        have hfz25_4 := blk_frozen BK437.out 4
                        go_wp2_with (first | ((with_reducible refine gate_callee (f := 74) rfl ?_); refine goesL_ (some 35) rfl rfl Try.func74 (by kernel_rfl) rfl #[.agg #[.int .i64 ((rd_T49 l0 x12_1).f1.f0), .int .u64 ((rd_T49 l0 x12_1).f1.f1)]] rfl (by (try simp only [List.map_toArray, List.map_cons, List.map_nil]); first | done | rfl | (simp only [List.length_drop, List.length_take]; rfl)) ?_; (with_reducible refine (label_May.calls ((rd_T49 l0 x12_1).f1.f0) ((rd_T49 l0 x12_1).f1.f1) true _ A17.out).mono ?_); rintro e w26 ⟨rfl, hb⟩; refine ⟨_, rfl, ?_⟩; have n0_ := Aside0.mk (blk_below (pkx BK437) hb); have n1_ := Aside0.mk (below_step (pbx HB) hb); clear BK437; clear HB; have BK437 := n0_; have HB := n1_; clear n0_ n1_; (try clear hb); (try clear hb2); (try clear hk); (try clear hi); have hcz27_0 : w26.cell? ⟨gb437, 0, none⟩ = some (.string ((rd_T49 l0 x12_1).f0)) := (blk_cell BK437.out 0).trans rfl; have hcz27_1 : w26.cell? ⟨gb437, 1, none⟩ = some (.int .i64 ((rd_T49 l0 x12_1).f1.f0)) := (blk_cell BK437.out 1).trans rfl; have hcz27_2 : w26.cell? ⟨gb437, 2, none⟩ = some (.int .u64 ((rd_T49 l0 x12_1).f1.f1)) := (blk_cell BK437.out 2).trans rfl; have hcz27_3 : w26.cell? ⟨gb437, 3, none⟩ = some (.int .i64 ((rd_T49 l0 x12_1).f2.f0)) := (blk_cell BK437.out 3).trans rfl; have hcz27_4 : w26.cell? ⟨gb437, 4, none⟩ = some (.int .u64 ((rd_T49 l0 x12_1).f2.f1)) := (blk_cell BK437.out 4).trans rfl; have hfz27_0 := blk_frozen BK437.out 0; have hfz27_1 := blk_frozen BK437.out 1; have hfz27_2 := blk_frozen BK437.out 2; have hfz27_3 := blk_frozen BK437.out 3; have hfz27_4 := blk_frozen BK437.out 4) | (go_at_call 74; (with_reducible refine (label_May.calls ((rd_T49 l0 x12_1).f2.f0) ((rd_T49 l0 x12_1).f2.f1) false _ A19.out).mono ?_); rintro e w28 ⟨rfl, hb⟩; have n0_ := Aside0.mk (blk_below (pkx BK437) hb); have n1_ := Aside0.mk (below_step (pbx HB) hb); clear BK437; clear HB; have BK437 := n0_; have HB := n1_; clear n0_ n1_; (try clear hb); (try clear hb2); (try clear hk); (try clear hi)))
                        go_ret2
                        exact ⟨by first | rfl | (simp [errW_none, errW_some] <;> rfl) | (simp [*, errW_none, errW_some] <;> rfl), pbx HB⟩
                    · replace c18 := Bool.eq_false_iff.mpr c18
                      subst c18
                      have H1 : (some (x12_1, 7)) = some (r1, r2) := by rw [if_neg (show ¬ (false = true) by decide)] at H; exact H
                      clear H
                      have H := H1
                      clear H1
                      simp only [Option.some.injEq, Prod.mk.injEq] at H
                      obtain ⟨rfl, rfl⟩ := H
                      have hcz29_0 : wc.cell? ⟨gb437, 0, none⟩ = some (.string ((rd_T49 l0 x12_1).f0)) := (blk_cell BK437.out 0).trans rfl
                      have hcz29_1 : wc.cell? ⟨gb437, 1, none⟩ = some (.int .i64 ((rd_T49 l0 x12_1).f1.f0)) := (blk_cell BK437.out 1).trans rfl
                      have hcz29_2 : wc.cell? ⟨gb437, 2, none⟩ = some (.int .u64 ((rd_T49 l0 x12_1).f1.f1)) := (blk_cell BK437.out 2).trans rfl
                      have hcz29_3 : wc.cell? ⟨gb437, 3, none⟩ = some (.int .i64 ((rd_T49 l0 x12_1).f2.f0)) := (blk_cell BK437.out 3).trans rfl
                      have hcz29_4 : wc.cell? ⟨gb437, 4, none⟩ = some (.int .u64 ((rd_T49 l0 x12_1).f2.f1)) := (blk_cell BK437.out 4).trans rfl
                      have hfz29_0 := blk_frozen BK437.out 0
                      have hfz29_1 := blk_frozen BK437.out 1
                      have hfz29_2 := blk_frozen BK437.out 2
                      have hfz29_3 := blk_frozen BK437.out 3
                      have hfz29_4 := blk_frozen BK437.out 4
                      go_wp2_with (first | ((with_reducible refine gate_callee (f := 74) rfl ?_); refine goesL_ (some 35) rfl rfl Try.func74 (by kernel_rfl) rfl #[.agg #[.int .i64 ((rd_T49 l0 x12_1).f1.f0), .int .u64 ((rd_T49 l0 x12_1).f1.f1)]] rfl (by (try simp only [List.map_toArray, List.map_cons, List.map_nil]); first | done | rfl | (simp only [List.length_drop, List.length_take]; rfl)) ?_; (with_reducible refine (label_May.calls ((rd_T49 l0 x12_1).f1.f0) ((rd_T49 l0 x12_1).f1.f1) false _ A17.out).mono ?_); rintro e w30 ⟨rfl, hb⟩; refine ⟨_, rfl, ?_⟩; have n0_ := Aside0.mk (blk_below (pkx BK437) hb); have n1_ := Aside0.mk (below_step (pbx HB) hb); clear BK437; clear HB; have BK437 := n0_; have HB := n1_; clear n0_ n1_; (try clear hb); (try clear hb2); (try clear hk); (try clear hi)))
                      go_ret2
                      exact ⟨by first | rfl | (simp [errW_none, errW_some] <;> rfl) | (simp [*, errW_none, errW_some] <;> rfl), pbx HB⟩
                  · replace c16 := Bool.eq_false_iff.mpr c16
                    subst c16
                    have H1 : (some (x12_1, 11)) = some (r1, r2) := by rw [if_neg (show ¬ (false = true) by decide)] at H; exact H
                    clear H
                    have H := H1
                    clear H1
                    simp only [Option.some.injEq, Prod.mk.injEq] at H
                    obtain ⟨rfl, rfl⟩ := H
                    go_wp2
                    go_ret2
                    exact ⟨by first | rfl | (simp [errW_none, errW_some] <;> rfl) | (simp [*, errW_none, errW_some] <;> rfl), pbx HB⟩
          · rw [if_neg c5] at H
            exact absurd H (by simp)
        · rw [if_neg c4] at H
          exact absurd H (by simp)
      · rw [if_neg c3] at H
        have c3b0 : decide (x12_1 < (l0.length : Int)) = false := decide_eq_false c3
        clear c3
        simp only [Option.some.injEq, Prod.mk.injEq] at H
        obtain ⟨rfl, rfl⟩ := H
        go_wp2
        go_ret2
        exact ⟨by first | rfl | (simp [errW_none, errW_some] <;> rfl) | (simp [*, errW_none, errW_some] <;> rfl), pbx HB⟩

end Go.Proofs.Ytlchgkoafabapaa.X
namespace Go.Proofs.Ytlchgkoafabapaa.X
open Go.RowKit Go.Proofs.YtlchgkoafabapaaW.PrintWords Go.Proofs.YtlchgkoafabapaaW.PrintLast Go.Proofs.YtlchgkoafabapaaW.PrintMore
attribute [local go_sem] max2_int min2_int max_two min_two max_three min_three max_four min_four   -- for this text's walks alone
set_option linter.unusedVariables false
set_option linter.unusedSimpArgs false

/-! ### oculusref06_Find: function 49 -/
def oculusref06_Find.l0 : Nat → List (S93) → ByteArray → Int → Option (Int)
  | 0, _, _, _ => none
  | k + 1, x0, x1, x5 => if x5 < (x0.length : Int) then (if 0 ≤ x5 then (if ((rd_T93 x0 x5).f0).toList = x1.toList then (some x5) else (oculusref06_Find.l0 k x0 x1 (wrap64 (x5 + 1)))) else (none)) else (some (-1))
def oculusref06_Find.f (k : Nat) (l0 : List (S93)) (a1 : ByteArray) : Option (Int) := oculusref06_Find.l0 k l0 a1 0
theorem oculusref06_Find.mono_l : ∀ k, (∀ y0 y1 y2, LeO (oculusref06_Find.l0 k y0 y1 y2) (oculusref06_Find.l0 (k + 1) y0 y1 y2))
  | 0 => fun _ _ _ r h => by simp [oculusref06_Find.l0] at h
  | k + 1 => by
    have ih0 := oculusref06_Find.mono_l k
    · intro y0 y1 y2
      unfold oculusref06_Find.l0
      repeat' first
      | (with_reducible exact ih0 _ _ _)
      | (with_reducible exact LeO.refl _)
      | (with_reducible exact LeO.none _)
      | (with_reducible refine LeO.ite ?_ ?_)
      | (with_reducible refine LeO.bind ?_ (fun _ => ?_))
      | exact ih0 _ _ _
      | exact LeO.none _
      | refine LeO.ite ?_ ?_
      | refine LeO.bind ?_ (fun _ => ?_)
theorem oculusref06_Find.mono : ∀ a0 a1 k, LeO (oculusref06_Find.f k a0 a1) (oculusref06_Find.f (k + 1) a0 a1) := by
  intro a0 a1 k
  have ih0 := oculusref06_Find.mono_l k
  unfold oculusref06_Find.f
  repeat' first
      | (with_reducible exact ih0 _ _ _)
      | (with_reducible exact LeO.refl _)
      | (with_reducible exact LeO.none _)
      | (with_reducible refine LeO.ite ?_ ?_)
      | (with_reducible refine LeO.bind ?_ (fun _ => ?_))
      | exact ih0 _ _ _
      | exact LeO.none _
      | refine LeO.ite ?_ ?_
      | refine LeO.bind ?_ (fun _ => ?_)
set_option maxHeartbeats 8000000 in
set_option maxRecDepth 100000 in
theorem oculusref06_Find.calls (k : Nat) (A0 : Option Addr) (c0 : Nat) (l0 : List (S93)) (a1 : ByteArray) (r : Int) (w : World) (hr0 : Kd.C k93 w A0 l0.length l0) (hc0 : l0.length ≤ c0) (h : oculusref06_Find.f k l0 a1 = some r) :
    Calls Try.prog 49 #[.slice A0 l0.length c0, .string a1] w fun e w' => e = .returned (.int .i64 r) ∧ Drawn0 w w' := by
  have HR0 := Aside0.mk hr0
  have HC0 := Aside0.mk hc0
  clear hr0 hc0
  have H : (oculusref06_Find.l0 k l0 a1 0) = some r := h
  clear h
  have H' := Aside0.mk H
  clear H
  go_enter Try.func49, Try.ntmps49
  go_wp2
  go_loopg [5] k (fun kq v5 w' => ∃ (x5_1 : Int), v5 = .int .i64 x5_1 ∧ Aside0 (oculusref06_Find.l0 kq l0 a1 x5_1 = some r) ∧ Aside0 (kq ≤ k) ∧ Drawn0 w w')
  case atStart => exact ⟨(0), (by first | rfl | (simp; done) | (simp [*]; done)), H', ⟨Nat.le_refl _⟩, by repeat (first | exact Drawn0.refl _ | apply Drawn0.step)⟩
  case round =>
    clear H'
    try clear p2
    obtain ⟨x5_1, rfl, HA, HK1, ⟨m1, rfl⟩⟩ := hrel
    cases gk with
    | zero => exact absurd HA.out (by simp [oculusref06_Find.l0])
    | succ k1 =>
      have H := HA.out
      clear HA
      simp only [oculusref06_Find.l0] at H
      by_cases c3 : x5_1 < (l0.length : Int)
      · rw [if_pos c3] at H
        have c3b0 : decide (x5_1 < (l0.length : Int)) = true := decide_eq_true c3
        clear c3
        by_cases c4 : 0 ≤ x5_1
        · rw [if_pos c4] at H
          have c4b0 : decide (0 ≤ x5_1) = true := decide_eq_true c4
          clear c4
          by_cases c5 : ((rd_T93 l0 x5_1).f0).toList = a1.toList
          · rw [if_pos c5] at H
            have c5b0 : (((rd_T93 l0 x5_1).f0).toList == a1.toList) = true := beq_iff_eq.mpr c5
            have c5b1 : (((rd_T93 l0 x5_1).f0).toList != a1.toList) = false := bne_eq_false_iff_eq.mpr c5
            clear c5
            obtain rfl := Option.some.inj H
            have p444 : 0 ≤ (x5_1 : Int) := of_decide_eq_true (by first | (with_reducible assumption) | assumption)
            have q444 : x5_1 < (l0.length : Int) := of_decide_eq_true (by first | (with_reducible assumption) | assumption)
            obtain ⟨ad444, e444, hx444_0, hx444_1, hx444_2⟩ := at_T93 HR0.out x5_1 p444 q444
            cases e444
            replace p444 := eq_true p444
            replace q444 := eq_true q444
            go_wp2
            go_ret
            exact ⟨by first | rfl | (simp; done) | (simp [*]; done), by repeat (first | exact Drawn0.refl _ | apply Drawn0.step)⟩
          · rw [if_neg c5] at H
            have c5b0 : (((rd_T93 l0 x5_1).f0).toList == a1.toList) = false := beq_eq_false_iff_ne.mpr c5
            have c5b1 : (((rd_T93 l0 x5_1).f0).toList != a1.toList) = true := bne_iff_ne.mpr c5
            have H' := Aside0.mk H
            clear H
            have p444 : 0 ≤ (x5_1 : Int) := of_decide_eq_true (by first | (with_reducible assumption) | assumption)
            have q444 : x5_1 < (l0.length : Int) := of_decide_eq_true (by first | (with_reducible assumption) | assumption)
            obtain ⟨ad444, e444, hx444_0, hx444_1, hx444_2⟩ := at_T93 HR0.out x5_1 p444 q444
            cases e444
            replace p444 := eq_true p444
            replace q444 := eq_true q444
            go_wp2
            go_roundg k1
            case measure => have := HK1.out; omega
            case rel => exact ⟨(wrap64 (x5_1 + 1)), (by first | rfl | (simp; done) | (simp [*]; done)), H', ⟨by have := HK1.out; omega⟩, by repeat (first | exact Drawn0.refl _ | apply Drawn0.step)⟩
        · rw [if_neg c4] at H
          exact absurd H (by simp)
      · rw [if_neg c3] at H
        have c3b0 : decide (x5_1 < (l0.length : Int)) = false := decide_eq_false c3
        clear c3
        obtain rfl := Option.some.inj H
        go_wp2
        go_ret
        exact ⟨by first | rfl | (simp; done) | (simp [*]; done), by repeat (first | exact Drawn0.refl _ | apply Drawn0.step)⟩

end Go.Proofs.Ytlchgkoafabapaa.X
namespace Go.Proofs.Ytlchgkoafabapaa.X
open Go.RowKit Go.Proofs.YtlchgkoafabapaaW.PrintWords Go.Proofs.YtlchgkoafabapaaW.PrintLast Go.Proofs.YtlchgkoafabapaaW.PrintMore
attribute [local go_sem] max2_int min2_int max_two min_two max_three min_three max_four min_four   -- for this text's walks alone
set_option linter.unusedVariables false
set_option linter.unusedSimpArgs false

/-! ### oculusref06_may: function 75 -/
def oculusref06_may.f (a0_0 : Int) (a0_1 : Int) : Option (Bool) := if a0_0 ≥ 0 then (some (decide (a0_0 ≤ 15))) else (some false)
set_option maxHeartbeats 8000000 in
set_option maxRecDepth 100000 in
theorem oculusref06_may.calls (a0_0 : Int) (a0_1 : Int) (r : Bool) (w : World) (h : oculusref06_may.f a0_0 a0_1 = some r) :
    Calls Try.prog 75 #[.agg #[.int .i64 a0_0, .int .u64 a0_1]] w fun e w' => e = .returned (.bool r) ∧ Below w.heap.size w w' := by
  have hu26 := Try.underlying26
  have HB := Aside0.mk (Below.refl w.heap.size w)
  have H : (if a0_0 ≥ 0 then (some (decide (a0_0 ≤ 15))) else (some false)) = some r := h
  clear h
  by_cases c2 : a0_0 ≥ 0
  · rw [if_pos c2] at H
    have c2b0 : decide (0 ≤ a0_0) = true := decide_eq_true c2
    clear c2
    obtain rfl := Option.some.inj H
    go_enter Try.func75, Try.ntmps75
    go_wp2_with (first | ((with_reducible refine gate_dst (N := 1) rfl ?_); refine box_event ?hg (N := 1) ?hd (cs := #[.int .i64 a0_0, .int .u64 a0_1]) (t := 26) ?hr ?_; (case hd => rfl); (case hg => rfl); (case hr => first | (go_simp; done) | (go_simp; rfl)); intro gb445 hg w3 hbox hb; have BK445 := Aside0.mk (hbox); replace HB := Aside0.mk (below_step (pbx HB) hb); clear hb hbox hg; have hcz4_0 : w3.cell? ⟨gb445, 0, none⟩ = some (.int .i64 a0_0) := (blk_cell BK445.out 0).trans rfl; have hcz4_1 : w3.cell? ⟨gb445, 1, none⟩ = some (.int .u64 a0_1) := (blk_cell BK445.out 1).trans rfl))
    go_ret
    exact ⟨by first | rfl | (simp [errW_none, errW_some] <;> rfl) | (simp [*, errW_none, errW_some] <;> rfl), pbx HB⟩
  · rw [if_neg c2] at H
    have c2b0 : decide (0 ≤ a0_0) = false := decide_eq_false c2
    clear c2
    obtain rfl := Option.some.inj H
    go_enter Try.func75, Try.ntmps75
    go_wp2_with (first | ((with_reducible refine gate_dst (N := 1) rfl ?_); refine box_event ?hg (N := 1) ?hd (cs := #[.int .i64 a0_0, .int .u64 a0_1]) (t := 26) ?hr ?_; (case hd => rfl); (case hg => rfl); (case hr => first | (go_simp; done) | (go_simp; rfl)); intro gb445 hg w5 hbox hb; have BK445 := Aside0.mk (hbox); replace HB := Aside0.mk (below_step (pbx HB) hb); clear hb hbox hg; have hcz6_0 : w5.cell? ⟨gb445, 0, none⟩ = some (.int .i64 a0_0) := (blk_cell BK445.out 0).trans rfl; have hcz6_1 : w5.cell? ⟨gb445, 1, none⟩ = some (.int .u64 a0_1) := (blk_cell BK445.out 1).trans rfl))
    go_ret
    exact ⟨by first | rfl | (simp [errW_none, errW_some] <;> rfl) | (simp [*, errW_none, errW_some] <;> rfl), pbx HB⟩

end Go.Proofs.Ytlchgkoafabapaa.X
namespace Go.Proofs.Ytlchgkoafabapaa.X
open Go.RowKit Go.Proofs.YtlchgkoafabapaaW.PrintWords Go.Proofs.YtlchgkoafabapaaW.PrintLast Go.Proofs.YtlchgkoafabapaaW.PrintMore
attribute [local go_sem] max2_int min2_int max_two min_two max_three min_three max_four min_four   -- for this text's walks alone
set_option linter.unusedVariables false
set_option linter.unusedSimpArgs false

/-! ### oculusref06_Grants: function 47 -/
mutual
def oculusref06_Grants.l0 : Nat → List (S49) → List (S93) → Int → Option (Int × Int)
  | 0, _, _, _ => none
  | k + 1, x0, x1, x5 => if x5 < (x0.length : Int) then (if 0 ≤ x5 then ((oculusref06_may.f ((rd_T49 x0 x5).f1.f0) ((rd_T49 x0 x5).f1.f1)).bind fun t448 => (if t448 = true then ((oculusref06_may.f ((rd_T49 x0 x5).f2.f0) ((rd_T49 x0 x5).f2.f1)).bind fun t450 => (oculusref06_Grants.j1 k x0 x1 x5 0 (!t450))) else (oculusref06_Grants.j1 k x0 x1 x5 0 true))) else (none)) else (some (0, 0))
def oculusref06_Grants.j1 : Nat → List (S49) → List (S93) → Int → Int → Bool → Option (Int × Int)
  | 0, _, _, _, _, _ => none
  | k + 1, x0, x1, x5, x6, x28 => if x28 = true then (oculusref06_Grants.j2 k x0 x1 x5 7) else (oculusref06_Grants.j2 k x0 x1 x5 x6)
def oculusref06_Grants.j2 : Nat → List (S49) → List (S93) → Int → Int → Option (Int × Int)
  | 0, _, _, _, _ => none
  | k + 1, x0, x1, x5, x6 => if 0 ≤ x5 then (if x5 < (x0.length : Int) then ((oculusref06_Find.f k x1 ((rd_T49 x0 x5).f0)).bind fun t452 => (if t452 < 0 then (oculusref06_Grants.j3 k x0 x1 x5 11) else (oculusref06_Grants.j3 k x0 x1 x5 x6))) else (none)) else (none)
def oculusref06_Grants.j3 : Nat → List (S49) → List (S93) → Int → Int → Option (Int × Int)
  | 0, _, _, _, _ => none
  | k + 1, x0, x1, x5, x6 => if x5 > 31 then (some (x5, 10)) else (if x6 = 0 then (oculusref06_Grants.l0 k x0 x1 (wrap64 (x5 + 1))) else (some (x5, x6)))
end
def oculusref06_Grants.f (k : Nat) (l0 : List (S49)) (l1 : List (S93)) : Option (Int × Int) := oculusref06_Grants.l0 k l0 l1 0
theorem oculusref06_Grants.mono_l : ∀ k, (∀ y0 y1 y2, LeO (oculusref06_Grants.l0 k y0 y1 y2) (oculusref06_Grants.l0 (k + 1) y0 y1 y2)) ∧ (∀ y0 y1 y2 y3 y4, LeO (oculusref06_Grants.j1 k y0 y1 y2 y3 y4) (oculusref06_Grants.j1 (k + 1) y0 y1 y2 y3 y4)) ∧ (∀ y0 y1 y2 y3, LeO (oculusref06_Grants.j2 k y0 y1 y2 y3) (oculusref06_Grants.j2 (k + 1) y0 y1 y2 y3)) ∧ (∀ y0 y1 y2 y3, LeO (oculusref06_Grants.j3 k y0 y1 y2 y3) (oculusref06_Grants.j3 (k + 1) y0 y1 y2 y3))
  | 0 => ⟨fun _ _ _ r h => by simp [oculusref06_Grants.l0] at h, fun _ _ _ _ _ r h => by simp [oculusref06_Grants.j1] at h, fun _ _ _ _ r h => by simp [oculusref06_Grants.j2] at h, fun _ _ _ _ r h => by simp [oculusref06_Grants.j3] at h⟩
  | k + 1 => by
    obtain ⟨ih0, ih1, ih2, ih3⟩ := oculusref06_Grants.mono_l k
    refine ⟨?_, ?_, ?_, ?_⟩
    · intro y0 y1 y2
      unfold oculusref06_Grants.l0
      repeat' first
      | (with_reducible exact ih0 _ _ _)
      | (with_reducible exact ih1 _ _ _ _ _)
      | (with_reducible exact ih2 _ _ _ _)
      | (with_reducible exact ih3 _ _ _ _)
      | (with_reducible exact oculusref06_Find.mono _ _ _)
      | (with_reducible exact LeO.refl _)
      | (with_reducible exact LeO.none _)
      | (with_reducible refine LeO.ite ?_ ?_)
      | (with_reducible refine LeO.bind ?_ (fun _ => ?_))
      | exact ih0 _ _ _
      | exact ih1 _ _ _ _ _
      | exact ih2 _ _ _ _
      | exact ih3 _ _ _ _
      | exact oculusref06_Find.mono _ _ _
      | exact LeO.none _
      | refine LeO.ite ?_ ?_
      | refine LeO.bind ?_ (fun _ => ?_)
    · intro y0 y1 y2 y3 y4
      unfold oculusref06_Grants.j1
      repeat' first
      | (with_reducible exact ih0 _ _ _)
      | (with_reducible exact ih1 _ _ _ _ _)
      | (with_reducible exact ih2 _ _ _ _)
      | (with_reducible exact ih3 _ _ _ _)
      | (with_reducible exact oculusref06_Find.mono _ _ _)
      | (with_reducible exact LeO.refl _)
      | (with_reducible exact LeO.none _)
      | (with_reducible refine LeO.ite ?_ ?_)
      | (with_reducible refine LeO.bind ?_ (fun _ => ?_))
      | exact ih0 _ _ _
      | exact ih1 _ _ _ _ _
      | exact ih2 _ _ _ _
      | exact ih3 _ _ _ _
      | exact oculusref06_Find.mono _ _ _
      | exact LeO.none _
      | refine LeO.ite ?_ ?_
      | refine LeO.bind ?_ (fun _ => ?_)
    · intro y0 y1 y2 y3
      unfold oculusref06_Grants.j2
      repeat' first
      | (with_reducible exact ih0 _ _ _)
      | (with_reducible exact ih1 _ _ _ _ _)
      | (with_reducible exact ih2 _ _ _ _)
      | (with_reducible exact ih3 _ _ _ _)
      | (with_reducible exact oculusref06_Find.mono _ _ _)
      | (with_reducible exact LeO.refl _)
      | (with_reducible exact LeO.none _)
      | (with_reducible refine LeO.ite ?_ ?_)
      | (with_reducible refine LeO.bind ?_ (fun _ => ?_))
      | exact ih0 _ _ _
      | exact ih1 _ _ _ _ _
      | exact ih2 _ _ _ _
      | exact ih3 _ _ _ _
      | exact oculusref06_Find.mono _ _ _
      | exact LeO.none _
      | refine LeO.ite ?_ ?_
      | refine LeO.bind ?_ (fun _ => ?_)
    · intro y0 y1 y2 y3
      unfold oculusref06_Grants.j3
      repeat' first
      | (with_reducible exact ih0 _ _ _)
      | (with_reducible exact ih1 _ _ _ _ _)
      | (with_reducible exact ih2 _ _ _ _)
      | (with_reducible exact ih3 _ _ _ _)
      | (with_reducible exact oculusref06_Find.mono _ _ _)
      | (with_reducible exact LeO.refl _)
      | (with_reducible exact LeO.none _)
      | (with_reducible refine LeO.ite ?_ ?_)
      | (with_reducible refine LeO.bind ?_ (fun _ => ?_))
      | exact ih0 _ _ _
      | exact ih1 _ _ _ _ _
      | exact ih2 _ _ _ _
      | exact ih3 _ _ _ _
      | exact oculusref06_Find.mono _ _ _
      | exact LeO.none _
      | refine LeO.ite ?_ ?_
      | refine LeO.bind ?_ (fun _ => ?_)
theorem oculusref06_Grants.mono : ∀ a0 a1 k, LeO (oculusref06_Grants.f k a0 a1) (oculusref06_Grants.f (k + 1) a0 a1) := by
  intro a0 a1 k
  obtain ⟨ih0, ih1, ih2, ih3⟩ := oculusref06_Grants.mono_l k
  unfold oculusref06_Grants.f
  repeat' first
      | (with_reducible exact ih0 _ _ _)
      | (with_reducible exact ih1 _ _ _ _ _)
      | (with_reducible exact ih2 _ _ _ _)
      | (with_reducible exact ih3 _ _ _ _)
      | (with_reducible exact oculusref06_Find.mono _ _ _)
      | (with_reducible exact LeO.refl _)
      | (with_reducible exact LeO.none _)
      | (with_reducible refine LeO.ite ?_ ?_)
      | (with_reducible refine LeO.bind ?_ (fun _ => ?_))
      | exact ih0 _ _ _
      | exact ih1 _ _ _ _ _
      | exact ih2 _ _ _ _
      | exact ih3 _ _ _ _
      | exact oculusref06_Find.mono _ _ _
      | exact LeO.none _
      | refine LeO.ite ?_ ?_
      | refine LeO.bind ?_ (fun _ => ?_)
set_option maxHeartbeats 8000000 in
set_option maxRecDepth 100000 in
theorem oculusref06_Grants.calls (k : Nat) (A0 : Option Addr) (c0 : Nat) (l0 : List (S49)) (A1 : Option Addr) (c1 : Nat) (l1 : List (S93)) (r1 : Int) (r2 : Int) (w : World) (hr0 : Kd.C k49 w A0 l0.length l0) (hc0 : l0.length ≤ c0) (hr1 : Kd.C k93 w A1 l1.length l1) (hc1 : l1.length ≤ c1) (h : oculusref06_Grants.f k l0 l1 = some (r1, r2)) :
    Calls Try.prog 47 #[.slice A0 l0.length c0, .slice A1 l1.length c1] w fun e w' => e = .returned (.agg #[.int .i64 r1, .int .i64 r2]) ∧ Below w.heap.size w w' := by
  have hu86 := Try.underlying86
  have hu26 := Try.underlying26
  have HR0 := Aside0.mk hr0
  have HC0 := Aside0.mk hc0
  clear hr0 hc0
  have HR1 := Aside0.mk hr1
  have HC1 := Aside0.mk hc1
  clear hr1 hc1
  have HB := Aside0.mk (Below.refl w.heap.size w)
  have H : (oculusref06_Grants.l0 k l0 l1 0) = some (r1, r2) := h
  clear h
  have H' := Aside0.mk H
  clear H
  go_enter Try.func47, Try.ntmps47
  go_wp2_with (first | ((with_reducible refine gate_dst (N := 4) rfl ?_); refine box_event ?hg (N := 4) ?hd (cs := #[.int .i64 0, .int .i64 0]) (t := 86) ?hr ?_; (case hd => rfl); (case hg => rfl); (case hr => first | (go_simp; done) | (go_simp; rfl)); intro gb446 hg w3 hbox hb; have n0_ := Aside0.mk (below_step (pbx HB) hb); have n1_ := Aside0.mk (hbox); have n2_ := Aside0.mk ((by rw [hg]; exact (below_size (pbx HB)) : w.heap.size ≤ gb446)); have n3_ := Aside0.mk ((by rw [hg]; exact (below_size (pbx HB)) : w.heap.size ≤ gb446)); clear HB; have HB := n0_; have BK446 := n1_; have GW446 := n2_; have GE446 := n3_; clear n0_ n1_ n2_ n3_; clear hb hbox hg))
  go_loopg [5] k (fun kq v5 w' => ∃ (x5_1 : Int) (x447000_1 : Int) (x447001_1 : Int), v5 = .int .i64 x5_1 ∧ Aside0 (oculusref06_Grants.l0 kq l0 l1 x5_1 = some (r1, r2)) ∧ Aside0 (kq ≤ k) ∧ Aside0 (w'.heap[gb446]? = some (.cells #[.int .i64 x447000_1, .int .i64 x447001_1] 86 (0, 0))) ∧ Aside0 (Below w.heap.size w w'))
  case atStart => exact ⟨(0), (0), (0), (by first | rfl | (simp; done) | (simp [*]; done)), H', ⟨Nat.le_refl _⟩, ⟨pkx BK446⟩, ⟨pbx HB⟩⟩
  case round =>
    clear H'
    try clear c1
    try clear p2
    obtain ⟨x5_1, x447000_1, x447001_1, rfl, HA, HK1, BK446, HB⟩ := hrel
    cases gk with
    | zero => exact absurd HA.out (by simp [oculusref06_Grants.l0])
    | succ k1 =>
      have H := HA.out
      clear HA
      simp only [oculusref06_Grants.l0] at H
      by_cases c4 : x5_1 < (l0.length : Int)
      · rw [if_pos c4] at H
        have c4b0 : decide (x5_1 < (l0.length : Int)) = true := decide_eq_true c4
        clear c4
        have HC5 := Aside0.mk H
        clear H
        go_upto_region 5 with (fail)
        go_cut [28] (fun v28 wc => ∃ (kq : Nat) (x28_4 : Bool), v28 = .bool x28_4 ∧ Aside0 (oculusref06_Grants.j1 kq l0 l1 x5_1 0 x28_4 = some (r1, r2)) ∧ Aside0 (kq ≤ k1) ∧ Aside0 (wc.heap[gb446]? = some (.cells #[.int .i64 x447000_1, .int .i64 x447001_1] 86 (0, 0))) ∧ Aside0 (Below w.heap.size w wc))
        case first =>
          have H := HC5.out
          clear HC5
          by_cases c6 : 0 ≤ x5_1
          · rw [if_pos c6] at H
            have c6b0 : decide (0 ≤ x5_1) = true := decide_eq_true c6
            clear c6
            (first | rw [c6b0] | (simp only [i64_w, i32_w]; rw [c6b0]) | skip)
            replace H := Option.bind_eq_some_iff.mp H
            obtain ⟨t448, A70, H⟩ := H
            replace H : (if t448 = true then ((oculusref06_may.f ((rd_T49 l0 x5_1).f2.f0) ((rd_T49 l0 x5_1).f2.f1)).bind fun t450 => (oculusref06_Grants.j1 k1 l0 l1 x5_1 0 (!t450))) else (oculusref06_Grants.j1 k1 l0 l1 x5_1 0 true)) = some (r1, r2) := H
            have A7 := Aside0.mk A70
            clear A70
            by_cases c8 : t448 = true
            · subst c8
              have H1 : ((oculusref06_may.f ((rd_T49 l0 x5_1).f2.f0) ((rd_T49 l0 x5_1).f2.f1)).bind fun t450 => (oculusref06_Grants.j1 k1 l0 l1 x5_1 0 (!t450))) = some (r1, r2) := by rw [if_pos rfl] at H; exact H
              clear H
              have H := H1
              clear H1
              replace H := Option.bind_eq_some_iff.mp H
              obtain ⟨t450, A90, H⟩ := H
              replace H : (oculusref06_Grants.j1 k1 l0 l1 x5_1 0 (!t450)) = some (r1, r2) := H
              have A9 := Aside0.mk A90
              clear A90
              have H' := Aside0.mk H
              clear H
              have p447 : 0 ≤ (x5_1 : Int) := of_decide_eq_true (by first | (with_reducible assumption) | assumption)
              have q447 : x5_1 < (l0.length : Int) := of_decide_eq_true (by first | (with_reducible assumption) | assumption)
              obtain ⟨ad447, e447, hx447_0, hx447_1, hx447_2, hx447_3, hx447_4⟩ := at_T49 HR0.out x5_1 p447 q447
              cases e447
              replace hx447_0 := (HB.out.cell (World.block_lt_of_cell? w _ hx447_0)).trans hx447_0
              replace hx447_1 := (HB.out.cell (World.block_lt_of_cell? w _ hx447_1)).trans hx447_1
              replace hx447_2 := (HB.out.cell (World.block_lt_of_cell? w _ hx447_2)).trans hx447_2
              replace hx447_3 := (HB.out.cell (World.block_lt_of_cell? w _ hx447_3)).trans hx447_3
              replace hx447_4 := (HB.out.cell (World.block_lt_of_cell? w _ hx447_4)).trans hx447_4
              replace p447 := eq_true p447
              replace q447 := eq_true q447
              go_wp2_with (first | ((with_reducible refine gate_callee (f := 75) rfl ?_); refine goesL_ (some 18) rfl rfl Try.func75 (by kernel_rfl) rfl #[.agg #[.int .i64 ((rd_T49 l0 x5_1).f1.f0), .int .u64 ((rd_T49 l0 x5_1).f1.f1)]] rfl (by (try simp only [List.map_toArray, List.map_cons, List.map_nil]); first | done | rfl | (simp only [List.length_drop, List.length_take]; rfl)) ?_; (with_reducible refine (oculusref06_may.calls ((rd_T49 l0 x5_1).f1.f0) ((rd_T49 l0 x5_1).f1.f1) true _ A7.out).mono ?_); rintro e w10 ⟨rfl, hb⟩; refine ⟨_, rfl, ?_⟩; have n0_ := Aside0.mk (blk_below (pkx BK446) hb); have n1_ := Aside0.mk (below_step (pbx HB) hb); clear BK446; clear HB; have BK446 := n0_; have HB := n1_; clear n0_ n1_; (try clear hb); (try clear hb2); (try clear hk); (try clear hi); have p449 : 0 ≤ (x5_1 : Int) := of_decide_eq_true (by first | (with_reducible assumption) | assumption); have q449 : x5_1 < (l0.length : Int) := of_decide_eq_true (by first | (with_reducible assumption) | assumption); obtain ⟨ad449, e449, hx449_0, hx449_1, hx449_2, hx449_3, hx449_4⟩ := at_T49 HR0.out x5_1 p449 q449; obtain rfl : ad447 = ad449 := (by injection e449); replace hx449_0 := (HB.out.cell (World.block_lt_of_cell? w _ hx449_0)).trans hx449_0; replace hx449_1 := (HB.out.cell (World.block_lt_of_cell? w _ hx449_1)).trans hx449_1; replace hx449_2 := (HB.out.cell (World.block_lt_of_cell? w _ hx449_2)).trans hx449_2; replace hx449_3 := (HB.out.cell (World.block_lt_of_cell? w _ hx449_3)).trans hx449_3; replace hx449_4 := (HB.out.cell (World.block_lt_of_cell? w _ hx449_4)).trans hx449_4; replace p449 := eq_true p449; replace q449 := eq_true q449) | (go_at_call 75; (with_reducible refine (oculusref06_may.calls ((rd_T49 l0 x5_1).f2.f0) ((rd_T49 l0 x5_1).f2.f1) t450 _ A9.out).mono ?_); rintro e w11 ⟨rfl, hb⟩; have n0_ := Aside0.mk (blk_below (pkx BK446) hb); have n1_ := Aside0.mk (below_step (pbx HB) hb); clear BK446; clear HB; have BK446 := n0_; have HB := n1_; clear n0_ n1_; (try clear hb); (try clear hb2); (try clear hk); (try clear hi)))
              go_meet
              case rel => exact ⟨_, (!t450), (by first | rfl | (simp; done) | (simp [*]; done) | (cases t450 <;> simp; done)), H', ⟨by have := HK1.out; first | omega | exact Nat.le_refl _⟩, ⟨pkx BK446⟩, ⟨pbx HB⟩⟩
            · replace c8 := Bool.eq_false_iff.mpr c8
              subst c8
              have H1 : (oculusref06_Grants.j1 k1 l0 l1 x5_1 0 true) = some (r1, r2) := by rw [if_neg (show ¬ (false = true) by decide)] at H; exact H
              clear H
              have H := H1
              clear H1
              have H' := Aside0.mk H
              clear H
              have p447 : 0 ≤ (x5_1 : Int) := of_decide_eq_true (by first | (with_reducible assumption) | assumption)
              have q447 : x5_1 < (l0.length : Int) := of_decide_eq_true (by first | (with_reducible assumption) | assumption)
              obtain ⟨ad447, e447, hx447_0, hx447_1, hx447_2, hx447_3, hx447_4⟩ := at_T49 HR0.out x5_1 p447 q447
              cases e447
              replace hx447_0 := (HB.out.cell (World.block_lt_of_cell? w _ hx447_0)).trans hx447_0
              replace hx447_1 := (HB.out.cell (World.block_lt_of_cell? w _ hx447_1)).trans hx447_1
              replace hx447_2 := (HB.out.cell (World.block_lt_of_cell? w _ hx447_2)).trans hx447_2
              replace hx447_3 := (HB.out.cell (World.block_lt_of_cell? w _ hx447_3)).trans hx447_3
              replace hx447_4 := (HB.out.cell (World.block_lt_of_cell? w _ hx447_4)).trans hx447_4
              replace p447 := eq_true p447
              replace q447 := eq_true q447
              go_wp2_with (first | ((with_reducible refine gate_callee (f := 75) rfl ?_); refine goesL_ (some 18) rfl rfl Try.func75 (by kernel_rfl) rfl #[.agg #[.int .i64 ((rd_T49 l0 x5_1).f1.f0), .int .u64 ((rd_T49 l0 x5_1).f1.f1)]] rfl (by (try simp only [List.map_toArray, List.map_cons, List.map_nil]); first | done | rfl | (simp only [List.length_drop, List.length_take]; rfl)) ?_; (with_reducible refine (oculusref06_may.calls ((rd_T49 l0 x5_1).f1.f0) ((rd_T49 l0 x5_1).f1.f1) false _ A7.out).mono ?_); rintro e w12 ⟨rfl, hb⟩; refine ⟨_, rfl, ?_⟩; have n0_ := Aside0.mk (blk_below (pkx BK446) hb); have n1_ := Aside0.mk (below_step (pbx HB) hb); clear BK446; clear HB; have BK446 := n0_; have HB := n1_; clear n0_ n1_; (try clear hb); (try clear hb2); (try clear hk); (try clear hi)))
              go_meet
              case rel => exact ⟨_, (true), (by first | rfl | (simp; done) | (simp [*]; done)), H', ⟨by have := HK1.out; first | omega | exact Nat.le_refl _⟩, ⟨pkx BK446⟩, ⟨pbx HB⟩⟩
          · rw [if_neg c6] at H
            exact absurd H (by simp)
        case rest =>
          clear HC5
          try clear c1
          try clear p2
          try clear c4
          try clear c4b0
          try clear p4
          try clear q4
          try clear hx4
          try clear c6
          try clear c6b0
          try clear c7
          try clear c8
          try clear hx447_0
          try clear hx447_1
          try clear hx447_2
          try clear hx447_3
          try clear hx447_4
          try clear hx449_0
          try clear hx449_1
          try clear hx449_2
          try clear hx449_3
          try clear hx449_4
          try clear p2
          try clear p447
          try clear p449
          try clear q447
          try clear q449
          obtain ⟨kq, x28_4, rfl, HA, HJ4, BK446, HB⟩ := hcut
          cases kq with
          | zero => exact absurd HA.out (by simp [oculusref06_Grants.j1])
          | succ kj4 =>
            have H := HA.out
            clear HA
            simp only [oculusref06_Grants.j1] at H
            have HC13 := Aside0.mk H
            clear H
            go_upto_if 28 with (fail)
            go_cut [6] (fun v6 wc => ∃ (kq : Nat) (x6_12 : Int), v6 = .int .i64 x6_12 ∧ Aside0 (oculusref06_Grants.j2 kq l0 l1 x5_1 x6_12 = some (r1, r2)) ∧ Aside0 (kq ≤ kj4) ∧ Aside0 (wc.heap[gb446]? = some (.cells #[.int .i64 x447000_1, .int .i64 x447001_1] 86 (0, 0))) ∧ Aside0 (Below w.heap.size w wc))
            case first =>
              have H := HC13.out
              clear HC13
              by_cases c14 : x28_4 = true
              · subst c14
                have H1 : (oculusref06_Grants.j2 kj4 l0 l1 x5_1 7) = some (r1, r2) := by rw [if_pos rfl] at H; exact H
                clear H
                have H := H1
                clear H1
                have H' := Aside0.mk H
                clear H
                go_wp2
                go_meet
                case rel => exact ⟨_, (7), (by first | rfl | (simp; done) | (simp [*]; done)), H', ⟨by have := HK1.out; have := HJ4.out; first | omega | exact Nat.le_refl _⟩, ⟨pkx BK446⟩, ⟨pbx HB⟩⟩
              · replace c14 := Bool.eq_false_iff.mpr c14
                subst c14
                have H1 : (oculusref06_Grants.j2 kj4 l0 l1 x5_1 0) = some (r1, r2) := by rw [if_neg (show ¬ (false = true) by decide)] at H; exact H
                clear H
                have H := H1
                clear H1
                have H' := Aside0.mk H
                clear H
                go_wp2
                go_meet
                case rel => exact ⟨_, (0), (by first | rfl | (simp; done) | (simp [*]; done)), H', ⟨by have := HK1.out; have := HJ4.out; first | omega | exact Nat.le_refl _⟩, ⟨pkx BK446⟩, ⟨pbx HB⟩⟩
            case rest =>
              clear HC13
              try clear c1
              try clear p2
              try clear c4
              try clear c4b0
              try clear p4
              try clear q4
              try clear hx4
              try clear c6
              try clear c6b0
              try clear c7
              try clear c8
              try clear c14
              try clear hx447_0
              try clear hx447_1
              try clear hx447_2
              try clear hx447_3
              try clear hx447_4
              try clear hx449_0
              try clear hx449_1
              try clear hx449_2
              try clear hx449_3
              try clear hx449_4
              try clear p2
              try clear p4
              try clear p447
              try clear p449
              try clear q4
              try clear q447
              try clear q449
              obtain ⟨kq, x6_12, rfl, HA, HJ12, BK446, HB⟩ := hcut
              cases kq with
              | zero => exact absurd HA.out (by simp [oculusref06_Grants.j2])
              | succ kj12 =>
                have H := HA.out
                clear HA
                simp only [oculusref06_Grants.j2] at H
                by_cases c15 : 0 ≤ x5_1
                · rw [if_pos c15] at H
                  have c15b0 : decide (0 ≤ x5_1) = true := decide_eq_true c15
                  clear c15
                  by_cases c16 : x5_1 < (l0.length : Int)
                  · rw [if_pos c16] at H
                    have c16b0 : decide (x5_1 < (l0.length : Int)) = true := decide_eq_true c16
                    clear c16
                    replace H := Option.bind_eq_some_iff.mp H
                    obtain ⟨t452, A170, H⟩ := H
                    replace H : (if t452 < 0 then (oculusref06_Grants.j3 kj12 l0 l1 x5_1 11) else (oculusref06_Grants.j3 kj12 l0 l1 x5_1 x6_12)) = some (r1, r2) := H
                    have A17 := Aside0.mk A170
                    clear A170
                    have HC18 := Aside0.mk H
                    clear H
                    have p451 : 0 ≤ (x5_1 : Int) := of_decide_eq_true (by first | (with_reducible assumption) | assumption)
                    have q451 : x5_1 < (l0.length : Int) := of_decide_eq_true (by first | (with_reducible assumption) | assumption)
                    obtain ⟨ad451, e451, hx451_0, hx451_1, hx451_2, hx451_3, hx451_4⟩ := at_T49 HR0.out x5_1 p451 q451
                    cases e451
                    replace hx451_0 := (HB.out.cell (World.block_lt_of_cell? w _ hx451_0)).trans hx451_0
                    replace hx451_1 := (HB.out.cell (World.block_lt_of_cell? w _ hx451_1)).trans hx451_1
                    replace hx451_2 := (HB.out.cell (World.block_lt_of_cell? w _ hx451_2)).trans hx451_2
                    replace hx451_3 := (HB.out.cell (World.block_lt_of_cell? w _ hx451_3)).trans hx451_3
                    replace hx451_4 := (HB.out.cell (World.block_lt_of_cell? w _ hx451_4)).trans hx451_4
                    replace p451 := eq_true p451
                    replace q451 := eq_true q451
                    go_upto_if 36 with (first | ((with_reducible refine gate_callee (f := 49) rfl ?_); refine goesL_ (some 35) rfl rfl Try.func49 (by kernel_rfl) rfl #[.slice A1 l1.length c1, .string ((rd_T49 l0 x5_1).f0)] rfl (by (try simp only [List.map_toArray, List.map_cons, List.map_nil]); first | done | rfl | (simp only [List.length_drop, List.length_take]; rfl)) ?_; (with_reducible refine (oculusref06_Find.calls kj12 _ _ l1 ((rd_T49 l0 x5_1).f0) t452 _ ?side1 ?side2 A17.out).mono ?_); (case side1 => repeat (first | exact (Kd.C_below HR1.out HB.out) | (with_reducible refine Kd.C_alloc ?_ _) | (with_reducible refine Kd.C_drewN ?_ _) | (with_reducible refine Kd.C_drew ?_))); (case side2 => exact HC1.out); rintro e w' ⟨rfl, ⟨nd, rfl⟩⟩; refine ⟨_, rfl, ?_⟩))
                    (try simp only [Act.put, List.setIfInBounds_toArray, List.set_cons_zero, List.set_cons_succ])
                    go_cut [6] (fun v6 wc => ∃ (kq : Nat) (x6_17 : Int), v6 = .int .i64 x6_17 ∧ Aside0 (oculusref06_Grants.j3 kq l0 l1 x5_1 x6_17 = some (r1, r2)) ∧ Aside0 (kq ≤ kj12) ∧ Aside0 (wc.heap[gb446]? = some (.cells #[.int .i64 x447000_1, .int .i64 x447001_1] 86 (0, 0))) ∧ Aside0 (Below w.heap.size w wc))
                    case first =>
                      have H := HC18.out
                      clear HC18
                      by_cases c19 : t452 < 0
                      · rw [if_pos c19] at H
                        have c19b0 : decide (t452 < 0) = true := decide_eq_true c19
                        clear c19
                        (first | rw [c19b0] | (simp only [i64_w, i32_w]; rw [c19b0]) | skip)
                        have H' := Aside0.mk H
                        clear H
                        go_wp2
                        go_meet
                        case rel => exact ⟨_, (11), (by first | rfl | (simp; done) | (simp [*]; done)), H', ⟨by have := HK1.out; have := HJ4.out; have := HJ12.out; first | omega | exact Nat.le_refl _⟩, ⟨pkx BK446⟩, ⟨pbx HB⟩⟩
                      · rw [if_neg c19] at H
                        have c19b0 : decide (t452 < 0) = false := decide_eq_false c19
                        clear c19
                        (first | rw [c19b0] | (simp only [i64_w, i32_w]; rw [c19b0]) | skip)
                        have H' := Aside0.mk H
                        clear H
                        go_wp2
                        go_meet
                        case rel => exact ⟨_, (x6_12), (by first | rfl | (simp; done) | (simp [*]; done)), H', ⟨by have := HK1.out; have := HJ4.out; have := HJ12.out; first | omega | exact Nat.le_refl _⟩, ⟨pkx BK446⟩, ⟨pbx HB⟩⟩
                    case rest =>
                      clear HC18
                      try clear c1
                      try clear p2
                      try clear c4
                      try clear c4b0
                      try clear p4
                      try clear q4
                      try clear hx4
                      try clear c6
                      try clear c6b0
                      try clear c7
                      try clear c8
                      try clear c14
                      try clear c15
                      try clear c15b0
                      try clear c16
                      try clear c16b0
                      try clear c19
                      try clear c19b0
                      try clear hx447_0
                      try clear hx447_1
                      try clear hx447_2
                      try clear hx447_3
                      try clear hx447_4
                      try clear hx449_0
                      try clear hx449_1
                      try clear hx449_2
                      try clear hx449_3
                      try clear hx449_4
                      try clear hx451_0
                      try clear hx451_1
                      try clear hx451_2
                      try clear hx451_3
                      try clear hx451_4
                      try clear p2
                      try clear p4
                      try clear p447
                      try clear p449
                      try clear p451
                      try clear q4
                      try clear q447
                      try clear q449
                      try clear q451
                      obtain ⟨kq, x6_17, rfl, HA, HJ17, BK446, HB⟩ := hcut
                      cases kq with
                      | zero => exact absurd HA.out (by simp [oculusref06_Grants.j3])
                      | succ kj17 =>
                        have H := HA.out
                        clear HA
                        simp only [oculusref06_Grants.j3] at H
                        by_cases c20 : x5_1 > 31
                        · rw [if_pos c20] at H
                          have c20b0 : decide (31 < x5_1) = true := decide_eq_true c20
                          clear c20
                          simp only [Option.some.injEq, Prod.mk.injEq] at H
                          obtain ⟨rfl, rfl⟩ := H
                          have hcz21_0 : wc.cell? ⟨gb446, 0, none⟩ = some (.int .i64 x447000_1) := (blk_cell BK446.out 0).trans rfl
                          have hcz21_1 : wc.cell? ⟨gb446, 1, none⟩ = some (.int .i64 x447001_1) := (blk_cell BK446.out 1).trans rfl
                          have hfz21_0 := blk_frozen BK446.out 0
                          have hfz21_1 := blk_frozen BK446.out 1
                          go_wp2
                          refine bodyPost_ret (results_cell_row rfl _ _ gb446 86 #[.int .i64 x5_1, .int .i64 10] (0, 0) _ rfl (by (with_reducible repeat (first | refine blk_drewN ?_ _ | refine blk_drew ?_ | refine blk_alloc ?_ _)); refine blk_put (cs := #[.int .i64 x5_1, .int .i64 x447001_1]) ?_ 1 _ rfl; (with_reducible repeat (first | refine blk_drewN ?_ _ | refine blk_drew ?_ | refine blk_alloc ?_ _)); refine blk_put (cs := #[.int .i64 x447000_1, .int .i64 x447001_1]) ?_ 0 _ rfl; (with_reducible repeat (first | refine blk_drewN ?_ _ | refine blk_drew ?_ | refine blk_alloc ?_ _)); exact BK446.out) Try.underlying86 rfl (by kernel_rfl)) rfl ?_
                          exact ⟨by first | rfl | (simp [errW_none, errW_some] <;> rfl) | (simp [*, errW_none, errW_some] <;> rfl), by repeat (first | (with_reducible first | exact HB.out | apply below_alloc | apply pw_below_drewN | apply below_drew1 | refine below_set ?_ GE446.out) | exact HB.out)⟩
                        · rw [if_neg c20] at H
                          have c20b0 : decide (31 < x5_1) = false := decide_eq_false c20
                          clear c20
                          by_cases c22 : x6_17 = 0
                          · rw [if_pos c22] at H
                            have c22b0 : (x6_17 == 0) = true := beq_iff_eq.mpr c22
                            have c22b1 : (x6_17 != 0) = false := bne_eq_false_iff_eq.mpr c22
                            clear c22
                            have H' := Aside0.mk H
                            clear H
                            go_wp2
                            go_roundg kj17
                            case measure => have := HK1.out; have := HJ4.out; have := HJ12.out; have := HJ17.out; omega
                            case rel => exact ⟨(wrap64 (x5_1 + 1)), (x447000_1), (x447001_1), (by first | rfl | (simp; done) | (simp [*]; done)), H', ⟨by have := HK1.out; have := HJ4.out; have := HJ12.out; have := HJ17.out; omega⟩, ⟨pkx BK446⟩, ⟨pbx HB⟩⟩
                          · rw [if_neg c22] at H
                            have c22b0 : (x6_17 == 0) = false := beq_eq_false_iff_ne.mpr c22
                            have c22b1 : (x6_17 != 0) = true := bne_iff_ne.mpr c22
                            simp only [Option.some.injEq, Prod.mk.injEq] at H
                            obtain ⟨rfl, rfl⟩ := H
                            have hcz23_0 : wc.cell? ⟨gb446, 0, none⟩ = some (.int .i64 x447000_1) := (blk_cell BK446.out 0).trans rfl
                            have hcz23_1 : wc.cell? ⟨gb446, 1, none⟩ = some (.int .i64 x447001_1) := (blk_cell BK446.out 1).trans rfl
                            have hfz23_0 := blk_frozen BK446.out 0
                            have hfz23_1 := blk_frozen BK446.out 1
                            go_wp2
                            refine bodyPost_ret (results_cell_row rfl _ _ gb446 86 #[.int .i64 x5_1, .int .i64 x6_17] (0, 0) _ rfl (by (with_reducible repeat (first | refine blk_drewN ?_ _ | refine blk_drew ?_ | refine blk_alloc ?_ _)); refine blk_put (cs := #[.int .i64 x5_1, .int .i64 x447001_1]) ?_ 1 _ rfl; (with_reducible repeat (first | refine blk_drewN ?_ _ | refine blk_drew ?_ | refine blk_alloc ?_ _)); refine blk_put (cs := #[.int .i64 x447000_1, .int .i64 x447001_1]) ?_ 0 _ rfl; (with_reducible repeat (first | refine blk_drewN ?_ _ | refine blk_drew ?_ | refine blk_alloc ?_ _)); exact BK446.out) Try.underlying86 rfl (by kernel_rfl)) rfl ?_
                            exact ⟨by first | rfl | (simp [errW_none, errW_some] <;> rfl) | (simp [*, errW_none, errW_some] <;> rfl), by repeat (first | (with_reducible first | exact HB.out | apply below_alloc | apply pw_below_drewN | apply below_drew1 | refine below_set ?_ GE446.out) | exact HB.out)⟩
                  · rw [if_neg c16] at H
                    exact absurd H (by simp)
                · rw [if_neg c15] at H
                  exact absurd H (by simp)
      · rw [if_neg c4] at H
        have c4b0 : decide (x5_1 < (l0.length : Int)) = false := decide_eq_false c4
        clear c4
        simp only [Option.some.injEq, Prod.mk.injEq] at H
        obtain ⟨rfl, rfl⟩ := H
        have hcz24_0 : wr.cell? ⟨gb446, 0, none⟩ = some (.int .i64 x447000_1) := (blk_cell BK446.out 0).trans rfl
        have hcz24_1 : wr.cell? ⟨gb446, 1, none⟩ = some (.int .i64 x447001_1) := (blk_cell BK446.out 1).trans rfl
        have hfz24_0 := blk_frozen BK446.out 0
        have hfz24_1 := blk_frozen BK446.out 1
        go_wp2
        refine bodyPost_ret (results_cell_row rfl _ _ gb446 86 #[.int .i64 0, .int .i64 0] (0, 0) _ rfl (by (with_reducible repeat (first | refine blk_drewN ?_ _ | refine blk_drew ?_ | refine blk_alloc ?_ _)); refine blk_put (cs := #[.int .i64 0, .int .i64 x447001_1]) ?_ 1 _ rfl; (with_reducible repeat (first | refine blk_drewN ?_ _ | refine blk_drew ?_ | refine blk_alloc ?_ _)); refine blk_put (cs := #[.int .i64 x447000_1, .int .i64 x447001_1]) ?_ 0 _ rfl; (with_reducible repeat (first | refine blk_drewN ?_ _ | refine blk_drew ?_ | refine blk_alloc ?_ _)); exact BK446.out) Try.underlying86 rfl (by kernel_rfl)) rfl ?_
        exact ⟨by first | rfl | (simp [errW_none, errW_some] <;> rfl) | (simp [*, errW_none, errW_some] <;> rfl), by repeat (first | (with_reducible first | exact HB.out | apply below_alloc | apply pw_below_drewN | apply below_drew1 | refine below_set ?_ GE446.out) | exact HB.out)⟩

end Go.Proofs.Ytlchgkoafabapaa.X
namespace Go.Proofs.Ytlchgkoafabapaa.X
open Go.RowKit Go.Proofs.YtlchgkoafabapaaW.PrintWords Go.Proofs.YtlchgkoafabapaaW.PrintLast Go.Proofs.YtlchgkoafabapaaW.PrintMore
attribute [local go_sem] max2_int min2_int max_two min_two max_three min_three max_four min_four   -- for this text's walks alone
set_option linter.unusedVariables false
set_option linter.unusedSimpArgs false

/-! ### oculuslaw06_RightGrants: function 11 -/
def oculuslaw06_RightGrants.j0 : Nat → List (S49) → List (S93) → Bool → Option (Bool)
  | 0, _, _, _ => none
  | k + 1, x0, x1, x15 => if x15 = true then ((oculuslaw06_alive.f k).bind fun t453 => (some t453)) else ((right_Grants.f k x0 x1).bind fun bt454 => ((oculusref06_Grants.f k x0 x1).bind fun bt456 => (if bt454.1 = bt456.1 then (if bt454.2 = bt456.2 then ((oculuslaw06_alive.f k).bind fun t459 => (some t459)) else (none)) else (none))))
def oculuslaw06_RightGrants.f (k : Nat) (l0 : List (S49)) (l1 : List (S93)) : Option (Bool) := if (l0.length : Int) > 60 then (oculuslaw06_RightGrants.j0 k l0 l1 true) else (oculuslaw06_RightGrants.j0 k l0 l1 (decide ((l1.length : Int) > 40)))
theorem oculuslaw06_RightGrants.mono_l : ∀ k, (∀ y0 y1 y2, LeO (oculuslaw06_RightGrants.j0 k y0 y1 y2) (oculuslaw06_RightGrants.j0 (k + 1) y0 y1 y2))
  | 0 => fun _ _ _ r h => by simp [oculuslaw06_RightGrants.j0] at h
  | k + 1 => by
    have ih0 := oculuslaw06_RightGrants.mono_l k
    · intro y0 y1 y2
      unfold oculuslaw06_RightGrants.j0
      repeat' first
      | (with_reducible exact ih0 _ _ _)
      | (with_reducible exact oculuslaw06_alive.mono _)
      | (with_reducible exact oculusref06_Grants.mono _ _ _)
      | (with_reducible exact right_Grants.mono _ _ _)
      | (with_reducible exact LeO.refl _)
      | (with_reducible exact LeO.none _)
      | (with_reducible refine LeO.ite ?_ ?_)
      | (with_reducible refine LeO.bind ?_ (fun _ => ?_))
      | exact ih0 _ _ _
      | exact oculuslaw06_alive.mono _
      | exact oculusref06_Grants.mono _ _ _
      | exact right_Grants.mono _ _ _
      | exact LeO.none _
      | refine LeO.ite ?_ ?_
      | refine LeO.bind ?_ (fun _ => ?_)
theorem oculuslaw06_RightGrants.mono : ∀ a0 a1 k, LeO (oculuslaw06_RightGrants.f k a0 a1) (oculuslaw06_RightGrants.f (k + 1) a0 a1) := by
  intro a0 a1 k
  have ih0 := oculuslaw06_RightGrants.mono_l k
  unfold oculuslaw06_RightGrants.f
  repeat' first
      | (with_reducible exact ih0 _ _ _)
      | (with_reducible exact oculuslaw06_alive.mono _)
      | (with_reducible exact oculusref06_Grants.mono _ _ _)
      | (with_reducible exact right_Grants.mono _ _ _)
      | (with_reducible exact LeO.refl _)
      | (with_reducible exact LeO.none _)
      | (with_reducible refine LeO.ite ?_ ?_)
      | (with_reducible refine LeO.bind ?_ (fun _ => ?_))
      | exact ih0 _ _ _
      | exact oculuslaw06_alive.mono _
      | exact oculusref06_Grants.mono _ _ _
      | exact right_Grants.mono _ _ _
      | exact LeO.none _
      | refine LeO.ite ?_ ?_
      | refine LeO.bind ?_ (fun _ => ?_)
set_option maxHeartbeats 8000000 in
set_option maxRecDepth 100000 in
theorem oculuslaw06_RightGrants.calls (k : Nat) (A0 : Option Addr) (c0 : Nat) (l0 : List (S49)) (A1 : Option Addr) (c1 : Nat) (l1 : List (S93)) (r : Bool) (w : World) (hr0 : Kd.C k49 w A0 l0.length l0) (hc0 : l0.length ≤ c0) (hr1 : Kd.C k93 w A1 l1.length l1) (hc1 : l1.length ≤ c1) (h : oculuslaw06_RightGrants.f k l0 l1 = some r) :
    Calls Try.prog 11 #[.slice A0 l0.length c0, .slice A1 l1.length c1] w fun e w' => e = .returned (.bool r) ∧ Below w.heap.size w w' := by
  have hu86 := Try.underlying86
  have HR0 := Aside0.mk hr0
  have HC0 := Aside0.mk hc0
  clear hr0 hc0
  have HR1 := Aside0.mk hr1
  have HC1 := Aside0.mk hc1
  clear hr1 hc1
  have HB := Aside0.mk (Below.refl w.heap.size w)
  have H : (if (l0.length : Int) > 60 then (oculuslaw06_RightGrants.j0 k l0 l1 true) else (oculuslaw06_RightGrants.j0 k l0 l1 (decide ((l1.length : Int) > 40)))) = some r := h
  clear h
  have HC3 := Aside0.mk H
  clear H
  go_enter Try.func11, Try.ntmps11
  go_upto_region 1 with (fail)
  go_cut [15] (fun v15 wc => ∃ (kq : Nat) (x15_2 : Bool), v15 = .bool x15_2 ∧ Aside0 (oculuslaw06_RightGrants.j0 kq l0 l1 x15_2 = some r) ∧ Aside0 (kq ≤ k) ∧ Aside0 (Below w.heap.size w wc))
  case first =>
    have H := HC3.out
    clear HC3
    by_cases c4 : (l0.length : Int) > 60
    · rw [if_pos c4] at H
      have c4b0 : decide (60 < (l0.length : Int)) = true := decide_eq_true c4
      have c4b1 : decide (60 < l0.length) = true := decide_eq_true (by omega)
      clear c4
      (first | rw [c4b0] | (simp only [i64_w, i32_w]; rw [c4b0]) | skip)
      have H' := Aside0.mk H
      clear H
      go_wp2
      go_meet
      case rel => exact ⟨_, (true), (by first | rfl | (simp; done) | (simp [*]; done)), H', ⟨by first | omega | exact Nat.le_refl _⟩, ⟨pbx HB⟩⟩
    · rw [if_neg c4] at H
      have c4b0 : decide (60 < (l0.length : Int)) = false := decide_eq_false c4
      have c4b1 : decide (60 < l0.length) = false := decide_eq_false (by omega)
      clear c4
      (first | rw [c4b0] | (simp only [i64_w, i32_w]; rw [c4b0]) | skip)
      have H' := Aside0.mk H
      clear H
      go_wp2
      go_meet
      case rel => exact ⟨_, (decide ((l1.length : Int) > 40)), (by first | rfl | (simp; done) | (simp [*]; done)), H', ⟨by first | omega | exact Nat.le_refl _⟩, ⟨pbx HB⟩⟩
  case rest =>
    clear HC3
    try clear c1
    try clear p2
    try clear c4
    try clear c4b0
    try clear c4b1
    obtain ⟨kq, x15_2, rfl, HA, HJ2, HB⟩ := hcut
    cases kq with
    | zero => exact absurd HA.out (by simp [oculuslaw06_RightGrants.j0])
    | succ kj2 =>
      have H := HA.out
      clear HA
      simp only [oculuslaw06_RightGrants.j0] at H
      by_cases c5 : x15_2 = true
      · subst c5
        have H1 : ((oculuslaw06_alive.f kj2).bind fun t453 => (some t453)) = some r := by rw [if_pos rfl] at H; exact H
        clear H
        have H := H1
        clear H1
        replace H := Option.bind_eq_some_iff.mp H
        obtain ⟨t453, A60, H⟩ := H
        replace H : (some t453) = some r := H
        have A6 := Aside0.mk A60
        clear A60
        obtain rfl := Option.some.inj H
        go_wp2_with (first | ((with_reducible refine gate_callee (f := 37) rfl ?_); refine goesL_ (some 16) rfl rfl Try.func37 (by kernel_rfl) rfl #[] rfl (by (try simp only [List.map_toArray, List.map_cons, List.map_nil]); first | done | rfl | (simp only [List.length_drop, List.length_take]; rfl)) ?_; (with_reducible refine (oculuslaw06_alive.calls kj2  t453 _ A6.out).mono ?_); rintro e w7 ⟨rfl, hb⟩; refine ⟨_, rfl, ?_⟩; have n0_ := Aside0.mk (below_step (pbx HB) hb); clear HB; have HB := n0_; clear n0_; (try clear hb); (try clear hb2); (try clear hk); (try clear hi)))
        go_ret
        exact ⟨by first | rfl | (simp [errW_none, errW_some] <;> rfl) | (simp [*, errW_none, errW_some] <;> rfl), pbx HB⟩
      · replace c5 := Bool.eq_false_iff.mpr c5
        subst c5
        have H1 : ((right_Grants.f kj2 l0 l1).bind fun bt454 => ((oculusref06_Grants.f kj2 l0 l1).bind fun bt456 => (if bt454.1 = bt456.1 then (if bt454.2 = bt456.2 then ((oculuslaw06_alive.f kj2).bind fun t459 => (some t459)) else (none)) else (none)))) = some r := by rw [if_neg (show ¬ (false = true) by decide)] at H; exact H
        clear H
        have H := H1
        clear H1
        replace H := Option.bind_eq_some_iff.mp H
        obtain ⟨⟨t454, t455⟩, A80, H⟩ := H
        replace H : ((oculusref06_Grants.f kj2 l0 l1).bind fun bt456 => (if t454 = bt456.1 then (if t455 = bt456.2 then ((oculuslaw06_alive.f kj2).bind fun t459 => (some t459)) else (none)) else (none))) = some r := H
        have A8 := Aside0.mk A80
        clear A80
        replace H := Option.bind_eq_some_iff.mp H
        obtain ⟨⟨t456, t457⟩, A90, H⟩ := H
        replace H : (if t454 = t456 then (if t455 = t457 then ((oculuslaw06_alive.f kj2).bind fun t459 => (some t459)) else (none)) else (none)) = some r := H
        have A9 := Aside0.mk A90
        clear A90
        by_cases c10 : t454 = t456
        · rw [if_pos c10] at H
          have c10b0 : (t454 == t456) = true := beq_iff_eq.mpr c10
          have c10b1 : (t454 != t456) = false := bne_eq_false_iff_eq.mpr c10
          clear c10
          by_cases c11 : t455 = t457
          · rw [if_pos c11] at H
            have c11b0 : (t455 == t457) = true := beq_iff_eq.mpr c11
            have c11b1 : (t455 != t457) = false := bne_eq_false_iff_eq.mpr c11
            clear c11
            replace H := Option.bind_eq_some_iff.mp H
            obtain ⟨t459, A120, H⟩ := H
            replace H : (some t459) = some r := H
            have A12 := Aside0.mk A120
            clear A120
            obtain rfl := Option.some.inj H
            go_wp2_with (first | ((with_reducible refine gate_callee (f := 46) rfl ?_); refine goesL_ (some 20) rfl rfl Try.func46 (by kernel_rfl) rfl #[.slice A0 l0.length c0, .slice A1 l1.length c1] rfl (by (try simp only [List.map_toArray, List.map_cons, List.map_nil]); first | done | rfl | (simp only [List.length_drop, List.length_take]; rfl)) ?_; (with_reducible refine (right_Grants.calls kj2 _ _ l0 _ _ l1 t454 t455 _ ?side1 ?side2 ?side3 ?side4 A8.out).mono ?_); (case side1 => repeat (first | exact (Kd.C_below HR0.out HB.out) | (with_reducible refine Kd.C_alloc ?_ _) | (with_reducible refine Kd.C_drewN ?_ _) | (with_reducible refine Kd.C_drew ?_))); (case side2 => exact HC0.out); (case side3 => repeat (first | exact (Kd.C_below HR1.out HB.out) | (with_reducible refine Kd.C_alloc ?_ _) | (with_reducible refine Kd.C_drewN ?_ _) | (with_reducible refine Kd.C_drew ?_))); (case side4 => exact HC1.out); rintro e w13 ⟨rfl, hb⟩; refine ⟨_, rfl, ?_⟩; have n0_ := Aside0.mk (below_step (pbx HB) hb); clear HB; have HB := n0_; clear n0_; (try clear hb); (try clear hb2); (try clear hk); (try clear hi)) | ((with_reducible refine gate_callee (f := 47) rfl ?_); refine goesL_ (some 25) rfl rfl Try.func47 (by kernel_rfl) rfl #[.slice A0 l0.length c0, .slice A1 l1.length c1] rfl (by (try simp only [List.map_toArray, List.map_cons, List.map_nil]); first | done | rfl | (simp only [List.length_drop, List.length_take]; rfl)) ?_; (with_reducible refine (oculusref06_Grants.calls kj2 _ _ l0 _ _ l1 t456 t457 _ ?side1 ?side2 ?side3 ?side4 A9.out).mono ?_); (case side1 => repeat (first | exact (Kd.C_below HR0.out HB.out) | (with_reducible refine Kd.C_alloc ?_ _) | (with_reducible refine Kd.C_drewN ?_ _) | (with_reducible refine Kd.C_drew ?_))); (case side2 => exact HC0.out); (case side3 => repeat (first | exact (Kd.C_below HR1.out HB.out) | (with_reducible refine Kd.C_alloc ?_ _) | (with_reducible refine Kd.C_drewN ?_ _) | (with_reducible refine Kd.C_drew ?_))); (case side4 => exact HC1.out); rintro e w14 ⟨rfl, hb⟩; refine ⟨_, rfl, ?_⟩; have n0_ := Aside0.mk (below_step (pbx HB) hb); clear HB; have HB := n0_; clear n0_; (try clear hb); (try clear hb2); (try clear hk); (try clear hi)) | ((with_reducible refine gate_dst (N := 7) rfl ?_); (try (refine gate_guard (by rfl) ?_; dsimp only)); refine box_event ?hg (N := 7) ?hd (cs := #[.int .i64 0, .int .i64 0]) (t := 86) ?hr ?_; (case hd => rfl); (case hg => rfl); (case hr => first | (go_simp; done) | (go_simp; rfl)); intro gb458 hg w15 hbox hb; have n0_ := Aside0.mk (below_step (pbx HB) hb); have n1_ := Aside0.mk (hbox); have n2_ := Aside0.mk ((by rw [hg]; exact (below_size (pbx HB)) : w.heap.size ≤ gb458)); have n3_ := Aside0.mk ((by rw [hg]; exact (below_size (pbx HB)) : w.heap.size ≤ gb458)); clear HB; have HB := n0_; have BK458 := n1_; have GW458 := n2_; have GE458 := n3_; clear n0_ n1_ n2_ n3_; clear hb hbox hg; have hcz16_0 : w15.cell? ⟨gb458, 0, none⟩ = some (.int .i64 0) := (blk_cell BK458.out 0).trans rfl; have hcz16_1 : w15.cell? ⟨gb458, 1, none⟩ = some (.int .i64 0) := (blk_cell BK458.out 1).trans rfl; have hfz16_0 := blk_frozen BK458.out 0; have hfz16_1 := blk_frozen BK458.out 1) | (go_at_call 37; (with_reducible refine (oculuslaw06_alive.calls kj2  t459 _ A12.out).mono ?_); rintro e w17 ⟨rfl, hb⟩; have n0_ := Aside0.mk (blk_below (g := gb458) (o := .cells #[.int .i64 t456, .int .i64 t457] 86 (0, 0)) (by (with_reducible repeat (first | refine blk_drewN ?_ _ | refine blk_drew ?_ | refine blk_alloc ?_ _)); refine blk_put (cs := #[.int .i64 t456, .int .i64 0]) ?_ 1 _ rfl; (with_reducible repeat (first | refine blk_drewN ?_ _ | refine blk_drew ?_ | refine blk_alloc ?_ _)); refine blk_put (cs := #[.int .i64 0, .int .i64 0]) ?_ 0 _ rfl; (with_reducible repeat (first | refine blk_drewN ?_ _ | refine blk_drew ?_ | refine blk_alloc ?_ _)); exact BK458.out) hb); have n1_ := Aside0.mk (below_step (by repeat (first | (with_reducible first | exact HB.out | apply below_alloc | apply pw_below_drewN | apply below_drew1 | refine below_set ?_ GE458.out) | exact HB.out)) hb); clear BK458; clear HB; have BK458 := n0_; have HB := n1_; clear n0_ n1_; (try clear hb); (try clear hb2); (try clear hk); (try clear hi)))
            go_ret
            exact ⟨by first | rfl | (simp [errW_none, errW_some] <;> rfl) | (simp [*, errW_none, errW_some] <;> rfl), pbx HB⟩
          · rw [if_neg c11] at H
            exact absurd H (by simp)
        · rw [if_neg c10] at H
          exact absurd H (by simp)

end Go.Proofs.Ytlchgkoafabapaa.X
