/- Contracts of the functions that the law SpanTells reaches, and what they answer (a session's own texts, joined; part 1). -/
import Derived.Laws.BitsAllLaws
import Derived.RangeFuncNested
import Derived.RangeFuncBound
import Derived.RangeFuncCalls
import Derived.RangeFuncLeaves
import Derived.Shelf.Abstract
import Derived.Shelf.RegionOpen
import Derived.OwnWalkIn
import Derived.TacticsInMore
import Derived.LoopNIn
import Derived.LoopIn
import Derived.Maps.AppendAt
import Derived.Test.YtjbdljolpkkhcaaDoorBSpanTells0
namespace Go.Proofs.YtjbdljolpkkhcaaDoor.X
open Go.RowKit Go.Proofs.YtjbdljolpkkhcaaDoorW.PrintWords Go.Proofs.YtjbdljolpkkhcaaDoorW.PrintLast Go.Proofs.YtjbdljolpkkhcaaDoorW.PrintMore
attribute [local go_sem] max2_int min2_int max_two min_two max_three min_three max_four min_four   -- for this text's walks alone
set_option linter.unusedVariables false
set_option linter.unusedSimpArgs false

attribute [local go_sem high] eqA23
/-! ### span_Parse: function 26 -/
def span_Parse.j0 : Nat → ByteArray → Bool → Bool → Int → Int → Option (Int × Int × Int × Int × Bool)
 | 0, _, _, _, _, _ => none
 | k + 1, x5, x8, x26, x109000, x109001 => if x26 = true then (some (x109000, x109001, x109000, x109001, true)) else ((addr_Parse.f k x5).bind fun bt109 => (if x8 = true then (if bt109.2.2 = true then (if (x109000 == bt109.1 && (x109001 == bt109.2.1)) = true then (some (0, 0, 0, 0, false)) else (some (x109000, x109001, bt109.1, bt109.2.1, true))) else (some (0, 0, 0, 0, false))) else (some (0, 0, 0, 0, false))))
def span_Parse.f (k : Nat) (a0 : ByteArray) : Option (Int × Int × Int × Int × Bool) := (strings_Cut.f a0 (⟨#[58]⟩ : ByteArray)).bind fun bt102 => ((addr_Parse.f k bt102.1).bind fun bt105 => (if bt105.2.2 = true then (span_Parse.j0 k bt102.2.1 bt105.2.2 (!bt102.2.2) bt105.1 bt105.2.1) else (span_Parse.j0 k bt102.2.1 bt105.2.2 false bt105.1 bt105.2.1)))
theorem span_Parse.mono_l : ∀ k, (∀ y0 y1 y2 y3 y4, LeO (span_Parse.j0 k y0 y1 y2 y3 y4) (span_Parse.j0 (k + 1) y0 y1 y2 y3 y4))
 | 0 => fun _ _ _ _ _ r h => by simp [span_Parse.j0] at h
 | k + 1 => by
  have ih0 := span_Parse.mono_l k
  ·
   intro y0 y1 y2 y3 y4
   unfold span_Parse.j0
   repeat' first
   | (with_reducible exact ih0 _ _ _ _ _)
   | (with_reducible exact addr_Parse.mono _ _)
   | (with_reducible exact LeO.refl _)
   | (with_reducible exact LeO.none _)
   | (with_reducible refine LeO.ite ?_ ?_)
   | (with_reducible refine LeO.bind ?_ (fun _ => ?_))
   | exact ih0 _ _ _ _ _
   | exact addr_Parse.mono _ _
   | exact LeO.none _
   | refine LeO.ite ?_ ?_
   | refine LeO.bind ?_ (fun _ => ?_)
theorem span_Parse.mono : ∀ a0 k, LeO (span_Parse.f k a0) (span_Parse.f (k + 1) a0) := by
 intro a0 k
 have ih0 := span_Parse.mono_l k
 unfold span_Parse.f
 repeat' first
   | (with_reducible exact ih0 _ _ _ _ _)
   | (with_reducible exact addr_Parse.mono _ _)
   | (with_reducible exact LeO.refl _)
   | (with_reducible exact LeO.none _)
   | (with_reducible refine LeO.ite ?_ ?_)
   | (with_reducible refine LeO.bind ?_ (fun _ => ?_))
   | exact ih0 _ _ _ _ _
   | exact addr_Parse.mono _ _
   | exact LeO.none _
   | refine LeO.ite ?_ ?_
   | refine LeO.bind ?_ (fun _ => ?_)
set_option maxHeartbeats 8000000 in
set_option maxRecDepth 100000 in
theorem span_Parse.calls (k : Nat) (a0 : ByteArray) (r1 : Int) (r2 : Int) (r3 : Int) (r4 : Int) (r5 : Bool) (w : World) (h : span_Parse.f k a0 = some (r1, r2, r3, r4, r5)) :
  Calls Tryd.prog 26 #[.string a0] w fun e w' => e = .returned (.tuple #[.agg #[.int .i64 r1, .int .i64 r2, .int .i64 r3, .int .i64 r4], .bool r5]) ∧ Below w.heap.size w w' := by
 have hu42 := Tryd.underlying42
 have hu23 := Tryd.underlying23
 have HB := Aside0.mk (Below.refl w.heap.size w)
 have H : ((strings_Cut.f a0 (⟨#[58]⟩ : ByteArray)).bind fun bt102 => ((addr_Parse.f k bt102.1).bind fun bt105 => (if bt105.2.2 = true then (span_Parse.j0 k bt102.2.1 bt105.2.2 (!bt102.2.2) bt105.1 bt105.2.1) else (span_Parse.j0 k bt102.2.1 bt105.2.2 false bt105.1 bt105.2.1)))) = some (r1, r2, r3, r4, r5) := h
 clear h
 replace H := Option.bind_eq_some_iff.mp H
 obtain ⟨⟨t102, t103, t104⟩, A20, H⟩ := H
 replace H : ((addr_Parse.f k t102).bind fun bt105 => (if bt105.2.2 = true then (span_Parse.j0 k t103 bt105.2.2 (!t104) bt105.1 bt105.2.1) else (span_Parse.j0 k t103 bt105.2.2 false bt105.1 bt105.2.1))) = some (r1, r2, r3, r4, r5) := H
 have A2 := Aside0.mk A20
 clear A20
 replace H := Option.bind_eq_some_iff.mp H
 obtain ⟨⟨t105, t106, t107⟩, A30, H⟩ := H
 replace H : (if t107 = true then (span_Parse.j0 k t103 t107 (!t104) t105 t106) else (span_Parse.j0 k t103 t107 false t105 t106)) = some (r1, r2, r3, r4, r5) := H
 have A3 := Aside0.mk A30
 clear A30
 have HC4 := Aside0.mk H
 clear H
 go_enter Tryd.func26, Tryd.ntmps26
 go_upto_region 3 with (first | ((with_reducible refine gate_dst (N := 2) rfl ?_); refine box_event ?hg (N := 2) ?hd (cs := #[.int .i64 0, .int .i64 0, .int .i64 0, .int .i64 0]) (t := 42) ?hr ?_; (case hd => rfl); (case hg => rfl); (case hr => first | (go_simp; done) | (go_simp; rfl)); intro gb101 hg w5 hbox hb; have n0_ := Aside0.mk (below_step (pbx HB) hb); have n1_ := Aside0.mk (hbox); have n2_ := Aside0.mk ((by rw [hg]; exact (below_size (pbx HB)) : w.heap.size ≤ gb101)); have n3_ := Aside0.mk ((by rw [hg]; exact (below_size (pbx HB)) : w.heap.size ≤ gb101)); clear HB; have HB := n0_; have BK101 := n1_; have GW101 := n2_; have GE101 := n3_; clear n0_ n1_ n2_ n3_; clear hb hbox hg) | ((with_reducible refine gate_callee (f := 50) rfl ?_); refine goesL_ (some 13) rfl rfl Tryd.func50 (by kernel_rfl) rfl #[.string a0, .string (⟨#[58]⟩ : ByteArray)] rfl (by (try simp only [List.map_toArray, List.map_cons, List.map_nil]); first | done | rfl | (simp only [List.length_drop, List.length_take]; rfl)) ?_; (with_reducible refine (strings_Cut.calls a0 (⟨#[58]⟩ : ByteArray) t102 t103 t104 _ A2.out).mono ?_); rintro e w' ⟨rfl, ⟨nd, rfl⟩⟩; refine ⟨_, rfl, ?_⟩; (try (rw [drewN_self w5]; generalize hq_ : World.drewN w5 _ = w5; have n0_ : Aside0 (w5.heap[gb101]? = some (.cells #[.int .i64 0, .int .i64 0, .int .i64 0, .int .i64 0] 42 (0, 0))) := ⟨by rw [← hq_]; exact (pkx BK101)⟩; have n1_ : Aside0 (Below w.heap.size w w5) := ⟨by rw [← hq_]; exact (pbx HB)⟩; clear BK101 HB hq_; have BK101 := n0_; have HB := n1_; clear n0_ n1_))) | ((with_reducible refine gate_callee (f := 21) rfl ?_); refine goesL_ (some 19) rfl rfl Tryd.func21 (by kernel_rfl) rfl #[.string t102] rfl (by (try simp only [List.map_toArray, List.map_cons, List.map_nil]); first | done | rfl | (simp only [List.length_drop, List.length_take]; rfl)) ?_; (with_reducible refine (addr_Parse.calls k t102 t105 t106 t107 _ A3.out).mono ?_); rintro e w6 ⟨rfl, hb⟩; refine ⟨_, rfl, ?_⟩; have n0_ := Aside0.mk (blk_below (pkx BK101) hb); have n1_ := Aside0.mk (below_step (pbx HB) hb); clear BK101; clear HB; have BK101 := n0_; have HB := n1_; clear n0_ n1_; (try clear hb); (try clear hb2); (try clear hk); (try clear hi)) | ((with_reducible refine gate_dst (N := 7) rfl ?_); refine box_event ?hg (N := 7) ?hd (cs := #[.int .i64 0, .int .i64 0]) (t := 23) ?hr ?_; (case hd => rfl); (case hg => rfl); (case hr => first | (go_simp; done) | (go_simp; rfl)); intro gb108 hg w7 hbox hb; have n0_ := Aside0.mk (blk_below (pkx BK101) hb); have n1_ := Aside0.mk (below_step (pbx HB) hb); have n2_ := Aside0.mk (hbox); have n3_ := Aside0.mk ((by rw [hg]; exact (below_size (pbx HB)) : w.heap.size ≤ gb108)); have n4_ := Aside0.mk ((by rw [hg]; exact (below_size (pbx HB)) : w.heap.size ≤ gb108)); have n5_ := Aside0.mk ((by rw [hg]; exact Nat.ne_of_lt (blk_lt (pkx BK101)) : gb101 ≠ gb108)); have n6_ := Aside0.mk ((by rw [hg]; exact Nat.ne_of_gt (blk_lt (pkx BK101)) : gb108 ≠ gb101)); clear BK101; clear HB; have BK101 := n0_; have HB := n1_; have BK108 := n2_; have GW108 := n3_; have GE108 := n4_; have NB101_108 := n5_; have NB108_101 := n6_; clear n0_ n1_ n2_ n3_ n4_ n5_ n6_; clear hb hbox hg; have hnb8 := NB108_101.out; have hnc8 := NB101_108.out; have hcz9_0 : w7.cell? ⟨gb108, 0, none⟩ = some (.int .i64 0) := (blk_cell BK108.out 0).trans rfl; have hcz9_1 : w7.cell? ⟨gb108, 1, none⟩ = some (.int .i64 0) := (blk_cell BK108.out 1).trans rfl; have hfz9_0 := blk_frozen BK108.out 0; have hfz9_1 := blk_frozen BK108.out 1))
 (try simp only [Act.put, q_])
 go_cut [26] (fun v26 wc => ∃ (kq : Nat) (x26_3 : Bool), v26 = .bool x26_3 ∧ Aside0 (span_Parse.j0 kq t103 t107 x26_3 t105 t106 = some (r1, r2, r3, r4, r5)) ∧ Aside0 (kq ≤ k) ∧ Aside0 (wc.heap[gb101]? = some (.cells #[.int .i64 0, .int .i64 0, .int .i64 0, .int .i64 0] 42 (0, 0))) ∧ Aside0 (wc.heap[gb108]? = some (.cells #[.int .i64 t105, .int .i64 t106] 23 (0, 0))) ∧ Aside0 (Below w.heap.size w wc))
 case first =>
  have H := HC4.out
  clear HC4
  by_cases c10 : t107 = true
  ·
   subst c10
   have H1 : (span_Parse.j0 k t103 true (!t104) t105 t106) = some (r1, r2, r3, r4, r5) := by rw [if_pos rfl] at H; exact H
   clear H
   have H := H1
   clear H1
   have H' := Aside0.mk H
   clear H
   go_wp2
   go_meet
   case rel => exact ⟨_, (!t104), (by first | rfl | (simp; done) | (simp [*]; done) | (cases t104 <;> simp; done)), H', ⟨by first | omega | exact Nat.le_refl _⟩, ⟨by (with_reducible repeat (first | refine blk_drewN ?_ _ | refine blk_drew ?_ | refine blk_alloc ?_ _)); refine blk_far ?_ NB101_108.out _; (with_reducible repeat (first | refine blk_drewN ?_ _ | refine blk_drew ?_ | refine blk_alloc ?_ _)); refine blk_far ?_ NB101_108.out _; (with_reducible repeat (first | refine blk_drewN ?_ _ | refine blk_drew ?_ | refine blk_alloc ?_ _)); exact BK101.out⟩, ⟨by (with_reducible repeat (first | refine blk_drewN ?_ _ | refine blk_drew ?_ | refine blk_alloc ?_ _)); refine blk_put (cs := #[.int .i64 t105, .int .i64 0]) ?_ 1 _ rfl; (with_reducible repeat (first | refine blk_drewN ?_ _ | refine blk_drew ?_ | refine blk_alloc ?_ _)); refine blk_put (cs := #[.int .i64 0, .int .i64 0]) ?_ 0 _ rfl; (with_reducible repeat (first | refine blk_drewN ?_ _ | refine blk_drew ?_ | refine blk_alloc ?_ _)); exact BK108.out⟩, ⟨by repeat (first | (with_reducible first | exact HB.out | apply below_alloc | apply pw_below_drewN | apply below_drew1 | refine below_set ?_ GE101.out | refine below_set ?_ GE108.out) | exact HB.out)⟩⟩
  ·
   replace c10 := Bool.eq_false_iff.mpr c10
   subst c10
   have H1 : (span_Parse.j0 k t103 false false t105 t106) = some (r1, r2, r3, r4, r5) := by rw [if_neg (show ¬ (false = true) by decide)] at H; exact H
   clear H
   have H := H1
   clear H1
   have H' := Aside0.mk H
   clear H
   go_wp2
   go_meet
   case rel => exact ⟨_, (false), (by first | rfl | (simp; done) | (simp [*]; done)), H', ⟨by first | omega | exact Nat.le_refl _⟩, ⟨by (with_reducible repeat (first | refine blk_drewN ?_ _ | refine blk_drew ?_ | refine blk_alloc ?_ _)); refine blk_far ?_ NB101_108.out _; (with_reducible repeat (first | refine blk_drewN ?_ _ | refine blk_drew ?_ | refine blk_alloc ?_ _)); refine blk_far ?_ NB101_108.out _; (with_reducible repeat (first | refine blk_drewN ?_ _ | refine blk_drew ?_ | refine blk_alloc ?_ _)); exact BK101.out⟩, ⟨by (with_reducible repeat (first | refine blk_drewN ?_ _ | refine blk_drew ?_ | refine blk_alloc ?_ _)); refine blk_put (cs := #[.int .i64 t105, .int .i64 0]) ?_ 1 _ rfl; (with_reducible repeat (first | refine blk_drewN ?_ _ | refine blk_drew ?_ | refine blk_alloc ?_ _)); refine blk_put (cs := #[.int .i64 0, .int .i64 0]) ?_ 0 _ rfl; (with_reducible repeat (first | refine blk_drewN ?_ _ | refine blk_drew ?_ | refine blk_alloc ?_ _)); exact BK108.out⟩, ⟨by repeat (first | (with_reducible first | exact HB.out | apply below_alloc | apply pw_below_drewN | apply below_drew1 | refine below_set ?_ GE101.out | refine below_set ?_ GE108.out) | exact HB.out)⟩⟩
 case rest =>
  clear HC4
  try clear c1
  try clear c2
  try clear p2
  try clear c5
  try clear c8
  try clear c10
  try clear hcz9_0
  try clear hcz9_1
  try clear hfz9_0
  try clear hfz9_1
  obtain ⟨kq, x26_3, rfl, HA, HJ3, BK101, BK108, HB⟩ := hcut
  cases kq with
  | zero => exact absurd HA.out (by simp [span_Parse.j0])
  | succ kj3 =>
   have H := HA.out
   clear HA
   simp only [span_Parse.j0] at H
   by_cases c11 : x26_3 = true
   ·
    subst c11
    have H1 : (some (t105, t106, t105, t106, true)) = some (r1, r2, r3, r4, r5) := by rw [if_pos rfl] at H; exact H
    clear H
    have H := H1
    clear H1
    simp only [Option.some.injEq, Prod.mk.injEq] at H
    obtain ⟨rfl, rfl, rfl, rfl, rfl⟩ := H
    have hnb12 := NB108_101.out
    have hnc12 := NB101_108.out
    have hcz13_0 : wc.cell? ⟨gb108, 0, none⟩ = some (.int .i64 t105) := (blk_cell BK108.out 0).trans rfl
    have hcz13_1 : wc.cell? ⟨gb108, 1, none⟩ = some (.int .i64 t106) := (blk_cell BK108.out 1).trans rfl
    have hfz13_0 := blk_frozen BK108.out 0
    have hfz13_1 := blk_frozen BK108.out 1
    have hcz14_0 : wc.cell? ⟨gb101, 0, none⟩ = some (.int .i64 0) := (blk_cell BK101.out 0).trans rfl
    have hcz14_1 : wc.cell? ⟨gb101, 1, none⟩ = some (.int .i64 0) := (blk_cell BK101.out 1).trans rfl
    have hcz14_2 : wc.cell? ⟨gb101, 2, none⟩ = some (.int .i64 0) := (blk_cell BK101.out 2).trans rfl
    have hcz14_3 : wc.cell? ⟨gb101, 3, none⟩ = some (.int .i64 0) := (blk_cell BK101.out 3).trans rfl
    have hfz14_0 := blk_frozen BK101.out 0
    have hfz14_1 := blk_frozen BK101.out 1
    have hfz14_2 := blk_frozen BK101.out 2
    have hfz14_3 := blk_frozen BK101.out 3
    go_wp2
    refine bodyPost_ret (results_ct rfl _ _ gb101 42 #[.int .i64 t105, .int .i64 t106, .int .i64 t105, .int .i64 t106] (0, 0) _ rfl (by (with_reducible repeat (first | refine blk_drewN ?_ _ | refine blk_drew ?_ | refine blk_alloc ?_ _)); refine blk_put (cs := #[.int .i64 t105, .int .i64 t106, .int .i64 t105, .int .i64 0]) ?_ 3 _ rfl; (with_reducible repeat (first | refine blk_drewN ?_ _ | refine blk_drew ?_ | refine blk_alloc ?_ _)); refine blk_put (cs := #[.int .i64 t105, .int .i64 t106, .int .i64 0, .int .i64 0]) ?_ 2 _ rfl; (with_reducible repeat (first | refine blk_drewN ?_ _ | refine blk_drew ?_ | refine blk_alloc ?_ _)); refine blk_put (cs := #[.int .i64 t105, .int .i64 0, .int .i64 0, .int .i64 0]) ?_ 1 _ rfl; (with_reducible repeat (first | refine blk_drewN ?_ _ | refine blk_drew ?_ | refine blk_alloc ?_ _)); refine blk_put (cs := #[.int .i64 0, .int .i64 0, .int .i64 0, .int .i64 0]) ?_ 0 _ rfl; (with_reducible repeat (first | refine blk_drewN ?_ _ | refine blk_drew ?_ | refine blk_alloc ?_ _)); exact BK101.out) Tryd.underlying42 rfl (by kernel_rfl)) rfl ?_
    exact ⟨by first | rfl | (simp [errW_none, errW_some] <;> rfl) | (simp [*, errW_none, errW_some] <;> rfl), by repeat (first | (with_reducible first | exact HB.out | apply below_alloc | apply pw_below_drewN | apply below_drew1 | refine below_set ?_ GE101.out | refine below_set ?_ GE108.out) | exact HB.out)⟩
   ·
    replace c11 := Bool.eq_false_iff.mpr c11
    subst c11
    have H1 : ((addr_Parse.f kj3 t103).bind fun bt109 => (if t107 = true then (if bt109.2.2 = true then (if (t105 == bt109.1 && (t106 == bt109.2.1)) = true then (some (0, 0, 0, 0, false)) else (some (t105, t106, bt109.1, bt109.2.1, true))) else (some (0, 0, 0, 0, false))) else (some (0, 0, 0, 0, false)))) = some (r1, r2, r3, r4, r5) := by rw [if_neg (show ¬ (false = true) by decide)] at H; exact H
    clear H
    have H := H1
    clear H1
    replace H := Option.bind_eq_some_iff.mp H
    obtain ⟨⟨t109, t110, t111⟩, A150, H⟩ := H
    replace H : (if t107 = true then (if t111 = true then (if (t105 == t109 && (t106 == t110)) = true then (some (0, 0, 0, 0, false)) else (some (t105, t106, t109, t110, true))) else (some (0, 0, 0, 0, false))) else (some (0, 0, 0, 0, false))) = some (r1, r2, r3, r4, r5) := H
    have A15 := Aside0.mk A150
    clear A150
    by_cases c16 : t107 = true
    ·
     subst c16
     have H1 : (if t111 = true then (if (t105 == t109 && (t106 == t110)) = true then (some (0, 0, 0, 0, false)) else (some (t105, t106, t109, t110, true))) else (some (0, 0, 0, 0, false))) = some (r1, r2, r3, r4, r5) := by rw [if_pos rfl] at H; exact H
     clear H
     have H := H1
     clear H1
     by_cases c17 : t111 = true
     ·
      subst c17
      have H1 : (if (t105 == t109 && (t106 == t110)) = true then (some (0, 0, 0, 0, false)) else (some (t105, t106, t109, t110, true))) = some (r1, r2, r3, r4, r5) := by rw [if_pos rfl] at H; exact H
      clear H
      have H := H1
      clear H1
      by_cases c18 : (t105 == t109 && (t106 == t110)) = true
      ·
       rw [if_pos c18] at H
       have c18b0 : (t105 == t109 && (t106 == t110)) = true := c18
       (try (have c18b1 : decide (t105 = t109 && (t106 == t110)) = true := by simpa using c18))
       (try (have c18b2 : (t105 == t109 && (t106 == t110)) = true := by simpa using c18))
       clear c18
       simp only [Option.some.injEq, Prod.mk.injEq] at H
       obtain ⟨rfl, rfl, rfl, rfl, rfl⟩ := H
       go_wp2_with (first | ((with_reducible refine gate_callee (f := 21) rfl ?_); refine goesL_ (some 32) rfl rfl Tryd.func21 (by kernel_rfl) rfl #[.string t103] rfl (by (try simp only [List.map_toArray, List.map_cons, List.map_nil]); first | done | rfl | (simp only [List.length_drop, List.length_take]; rfl)) ?_; (with_reducible refine (addr_Parse.calls kj3 t103 t109 t110 true _ A15.out).mono ?_); rintro e w19 ⟨rfl, hb⟩; refine ⟨_, rfl, ?_⟩; have n0_ := Aside0.mk (blk_below (pkx BK101) hb); have n1_ := Aside0.mk (blk_below (pkx BK108) hb); have n2_ := Aside0.mk (below_step (pbx HB) hb); clear BK101; clear BK108; clear HB; have BK101 := n0_; have BK108 := n1_; have HB := n2_; clear n0_ n1_ n2_; (try clear hb); (try clear hb2); (try clear hk); (try clear hi)) | ((with_reducible refine gate_dst (N := 9) rfl ?_); refine box_event ?hg (N := 9) ?hd (cs := #[.int .i64 0, .int .i64 0]) (t := 23) ?hr ?_; (case hd => rfl); (case hg => rfl); (case hr => first | (go_simp; done) | (go_simp; rfl)); intro gb112 hg w20 hbox hb; have n0_ := Aside0.mk (blk_below (pkx BK101) hb); have n1_ := Aside0.mk (blk_below (pkx BK108) hb); have n2_ := Aside0.mk (below_step (pbx HB) hb); have n3_ := Aside0.mk (hbox); have n4_ := Aside0.mk ((by rw [hg]; exact (below_size (pbx HB)) : w.heap.size ≤ gb112)); have n5_ := Aside0.mk ((by rw [hg]; exact (below_size (pbx HB)) : w.heap.size ≤ gb112)); have n6_ := Aside0.mk ((by rw [hg]; exact Nat.ne_of_lt (blk_lt (pkx BK101)) : gb101 ≠ gb112)); have n7_ := Aside0.mk ((by rw [hg]; exact Nat.ne_of_gt (blk_lt (pkx BK101)) : gb112 ≠ gb101)); have n8_ := Aside0.mk ((by rw [hg]; exact Nat.ne_of_lt (blk_lt (pkx BK108)) : gb108 ≠ gb112)); have n9_ := Aside0.mk ((by rw [hg]; exact Nat.ne_of_gt (blk_lt (pkx BK108)) : gb112 ≠ gb108)); clear BK101; clear BK108; clear HB; have BK101 := n0_; have BK108 := n1_; have HB := n2_; have BK112 := n3_; have GW112 := n4_; have GE112 := n5_; have NB101_112 := n6_; have NB112_101 := n7_; have NB108_112 := n8_; have NB112_108 := n9_; clear n0_ n1_ n2_ n3_ n4_ n5_ n6_ n7_ n8_ n9_; clear hb hbox hg; have hnb21 := NB112_101.out; have hnc21 := NB101_112.out; have hnb22 := NB112_108.out; have hnc22 := NB108_112.out; have hcz23_0 : w20.cell? ⟨gb112, 0, none⟩ = some (.int .i64 0) := (blk_cell BK112.out 0).trans rfl; have hcz23_1 : w20.cell? ⟨gb112, 1, none⟩ = some (.int .i64 0) := (blk_cell BK112.out 1).trans rfl; have hfz23_0 := blk_frozen BK112.out 0; have hfz23_1 := blk_frozen BK112.out 1; have hnb24 := NB108_101.out; have hnc24 := NB101_108.out; have hcz25_0 : w20.cell? ⟨gb108, 0, none⟩ = some (.int .i64 t105) := (blk_cell BK108.out 0).trans rfl; have hcz25_1 : w20.cell? ⟨gb108, 1, none⟩ = some (.int .i64 t106) := (blk_cell BK108.out 1).trans rfl; have hfz25_0 := blk_frozen BK108.out 0; have hfz25_1 := blk_frozen BK108.out 1; have hcz26_0 : w20.cell? ⟨gb101, 0, none⟩ = some (.int .i64 0) := (blk_cell BK101.out 0).trans rfl; have hcz26_1 : w20.cell? ⟨gb101, 1, none⟩ = some (.int .i64 0) := (blk_cell BK101.out 1).trans rfl; have hcz26_2 : w20.cell? ⟨gb101, 2, none⟩ = some (.int .i64 0) := (blk_cell BK101.out 2).trans rfl; have hcz26_3 : w20.cell? ⟨gb101, 3, none⟩ = some (.int .i64 0) := (blk_cell BK101.out 3).trans rfl; have hfz26_0 := blk_frozen BK101.out 0; have hfz26_1 := blk_frozen BK101.out 1; have hfz26_2 := blk_frozen BK101.out 2; have hfz26_3 := blk_frozen BK101.out 3))
       refine bodyPost_ret (results_ct rfl _ _ gb101 42 #[.int .i64 0, .int .i64 0, .int .i64 0, .int .i64 0] (0, 0) _ rfl (by (with_reducible repeat (first | refine blk_drewN ?_ _ | refine blk_drew ?_ | refine blk_alloc ?_ _)); refine blk_put (cs := #[.int .i64 0, .int .i64 0, .int .i64 0, .int .i64 0]) ?_ 3 _ rfl; (with_reducible repeat (first | refine blk_drewN ?_ _ | refine blk_drew ?_ | refine blk_alloc ?_ _)); refine blk_put (cs := #[.int .i64 0, .int .i64 0, .int .i64 0, .int .i64 0]) ?_ 2 _ rfl; (with_reducible repeat (first | refine blk_drewN ?_ _ | refine blk_drew ?_ | refine blk_alloc ?_ _)); refine blk_put (cs := #[.int .i64 0, .int .i64 0, .int .i64 0, .int .i64 0]) ?_ 1 _ rfl; (with_reducible repeat (first | refine blk_drewN ?_ _ | refine blk_drew ?_ | refine blk_alloc ?_ _)); refine blk_put (cs := #[.int .i64 0, .int .i64 0, .int .i64 0, .int .i64 0]) ?_ 0 _ rfl; (with_reducible repeat (first | refine blk_drewN ?_ _ | refine blk_drew ?_ | refine blk_alloc ?_ _)); refine blk_far ?_ NB101_112.out _; (with_reducible repeat (first | refine blk_drewN ?_ _ | refine blk_drew ?_ | refine blk_alloc ?_ _)); refine blk_far ?_ NB101_112.out _; (with_reducible repeat (first | refine blk_drewN ?_ _ | refine blk_drew ?_ | refine blk_alloc ?_ _)); exact BK101.out) Tryd.underlying42 rfl (by kernel_rfl)) rfl ?_
       exact ⟨by first | rfl | (simp [errW_none, errW_some] <;> rfl) | (simp [*, errW_none, errW_some] <;> rfl), by repeat (first | (with_reducible first | exact HB.out | apply below_alloc | apply pw_below_drewN | apply below_drew1 | refine below_set ?_ GE101.out | refine below_set ?_ GE108.out | refine below_set ?_ GE112.out) | exact HB.out)⟩
      ·
       rw [if_neg c18] at H
       have c18b0 : (t105 == t109 && (t106 == t110)) = false := by simpa using c18
       (try (have c18b1 : decide (t105 = t109 && (t106 == t110)) = false := by simpa using c18))
       (try (have c18b2 : (t105 == t109 && (t106 == t110)) = false := by simpa using c18))
       (try (have c18b3 : ¬ (t105 = t109 && (t106 == t110)) := by simpa using c18))
       clear c18
       simp only [Option.some.injEq, Prod.mk.injEq] at H
       obtain ⟨rfl, rfl, rfl, rfl, rfl⟩ := H
       go_wp2_with (first | ((with_reducible refine gate_callee (f := 21) rfl ?_); refine goesL_ (some 32) rfl rfl Tryd.func21 (by kernel_rfl) rfl #[.string t103] rfl (by (try simp only [List.map_toArray, List.map_cons, List.map_nil]); first | done | rfl | (simp only [List.length_drop, List.length_take]; rfl)) ?_; (with_reducible refine (addr_Parse.calls kj3 t103 t109 t110 true _ A15.out).mono ?_); rintro e w27 ⟨rfl, hb⟩; refine ⟨_, rfl, ?_⟩; have n0_ := Aside0.mk (blk_below (pkx BK101) hb); have n1_ := Aside0.mk (blk_below (pkx BK108) hb); have n2_ := Aside0.mk (below_step (pbx HB) hb); clear BK101; clear BK108; clear HB; have BK101 := n0_; have BK108 := n1_; have HB := n2_; clear n0_ n1_ n2_; (try clear hb); (try clear hb2); (try clear hk); (try clear hi)) | ((with_reducible refine gate_dst (N := 9) rfl ?_); refine box_event ?hg (N := 9) ?hd (cs := #[.int .i64 0, .int .i64 0]) (t := 23) ?hr ?_; (case hd => rfl); (case hg => rfl); (case hr => first | (go_simp; done) | (go_simp; rfl)); intro gb112 hg w28 hbox hb; have n0_ := Aside0.mk (blk_below (pkx BK101) hb); have n1_ := Aside0.mk (blk_below (pkx BK108) hb); have n2_ := Aside0.mk (below_step (pbx HB) hb); have n3_ := Aside0.mk (hbox); have n4_ := Aside0.mk ((by rw [hg]; exact (below_size (pbx HB)) : w.heap.size ≤ gb112)); have n5_ := Aside0.mk ((by rw [hg]; exact (below_size (pbx HB)) : w.heap.size ≤ gb112)); have n6_ := Aside0.mk ((by rw [hg]; exact Nat.ne_of_lt (blk_lt (pkx BK101)) : gb101 ≠ gb112)); have n7_ := Aside0.mk ((by rw [hg]; exact Nat.ne_of_gt (blk_lt (pkx BK101)) : gb112 ≠ gb101)); have n8_ := Aside0.mk ((by rw [hg]; exact Nat.ne_of_lt (blk_lt (pkx BK108)) : gb108 ≠ gb112)); have n9_ := Aside0.mk ((by rw [hg]; exact Nat.ne_of_gt (blk_lt (pkx BK108)) : gb112 ≠ gb108)); clear BK101; clear BK108; clear HB; have BK101 := n0_; have BK108 := n1_; have HB := n2_; have BK112 := n3_; have GW112 := n4_; have GE112 := n5_; have NB101_112 := n6_; have NB112_101 := n7_; have NB108_112 := n8_; have NB112_108 := n9_; clear n0_ n1_ n2_ n3_ n4_ n5_ n6_ n7_ n8_ n9_; clear hb hbox hg; have hnb29 := NB112_101.out; have hnc29 := NB101_112.out; have hnb30 := NB112_108.out; have hnc30 := NB108_112.out; have hcz31_0 : w28.cell? ⟨gb112, 0, none⟩ = some (.int .i64 0) := (blk_cell BK112.out 0).trans rfl; have hcz31_1 : w28.cell? ⟨gb112, 1, none⟩ = some (.int .i64 0) := (blk_cell BK112.out 1).trans rfl; have hfz31_0 := blk_frozen BK112.out 0; have hfz31_1 := blk_frozen BK112.out 1; have hnb32 := NB108_101.out; have hnc32 := NB101_108.out; have hcz33_0 : w28.cell? ⟨gb108, 0, none⟩ = some (.int .i64 t105) := (blk_cell BK108.out 0).trans rfl; have hcz33_1 : w28.cell? ⟨gb108, 1, none⟩ = some (.int .i64 t106) := (blk_cell BK108.out 1).trans rfl; have hfz33_0 := blk_frozen BK108.out 0; have hfz33_1 := blk_frozen BK108.out 1; have hcz34_0 : w28.cell? ⟨gb101, 0, none⟩ = some (.int .i64 0) := (blk_cell BK101.out 0).trans rfl; have hcz34_1 : w28.cell? ⟨gb101, 1, none⟩ = some (.int .i64 0) := (blk_cell BK101.out 1).trans rfl; have hcz34_2 : w28.cell? ⟨gb101, 2, none⟩ = some (.int .i64 0) := (blk_cell BK101.out 2).trans rfl; have hcz34_3 : w28.cell? ⟨gb101, 3, none⟩ = some (.int .i64 0) := (blk_cell BK101.out 3).trans rfl; have hfz34_0 := blk_frozen BK101.out 0; have hfz34_1 := blk_frozen BK101.out 1; have hfz34_2 := blk_frozen BK101.out 2; have hfz34_3 := blk_frozen BK101.out 3))
       refine bodyPost_ret (results_ct rfl _ _ gb101 42 #[.int .i64 t105, .int .i64 t106, .int .i64 t109, .int .i64 t110] (0, 0) _ rfl (by (with_reducible repeat (first | refine blk_drewN ?_ _ | refine blk_drew ?_ | refine blk_alloc ?_ _)); refine blk_put (cs := #[.int .i64 t105, .int .i64 t106, .int .i64 t109, .int .i64 0]) ?_ 3 _ rfl; (with_reducible repeat (first | refine blk_drewN ?_ _ | refine blk_drew ?_ | refine blk_alloc ?_ _)); refine blk_put (cs := #[.int .i64 t105, .int .i64 t106, .int .i64 0, .int .i64 0]) ?_ 2 _ rfl; (with_reducible repeat (first | refine blk_drewN ?_ _ | refine blk_drew ?_ | refine blk_alloc ?_ _)); refine blk_put (cs := #[.int .i64 t105, .int .i64 0, .int .i64 0, .int .i64 0]) ?_ 1 _ rfl; (with_reducible repeat (first | refine blk_drewN ?_ _ | refine blk_drew ?_ | refine blk_alloc ?_ _)); refine blk_put (cs := #[.int .i64 0, .int .i64 0, .int .i64 0, .int .i64 0]) ?_ 0 _ rfl; (with_reducible repeat (first | refine blk_drewN ?_ _ | refine blk_drew ?_ | refine blk_alloc ?_ _)); refine blk_far ?_ NB101_112.out _; (with_reducible repeat (first | refine blk_drewN ?_ _ | refine blk_drew ?_ | refine blk_alloc ?_ _)); refine blk_far ?_ NB101_112.out _; (with_reducible repeat (first | refine blk_drewN ?_ _ | refine blk_drew ?_ | refine blk_alloc ?_ _)); exact BK101.out) Tryd.underlying42 rfl (by kernel_rfl)) rfl ?_
       exact ⟨by first | rfl | (simp [errW_none, errW_some] <;> rfl) | (simp [*, errW_none, errW_some] <;> rfl), by repeat (first | (with_reducible first | exact HB.out | apply below_alloc | apply pw_below_drewN | apply below_drew1 | refine below_set ?_ GE101.out | refine below_set ?_ GE108.out | refine below_set ?_ GE112.out) | exact HB.out)⟩
     ·
      replace c17 := Bool.eq_false_iff.mpr c17
      subst c17
      have H1 : (some (0, 0, 0, 0, false)) = some (r1, r2, r3, r4, r5) := by rw [if_neg (show ¬ (false = true) by decide)] at H; exact H
      clear H
      have H := H1
      clear H1
      simp only [Option.some.injEq, Prod.mk.injEq] at H
      obtain ⟨rfl, rfl, rfl, rfl, rfl⟩ := H
      go_wp2_with (first | ((with_reducible refine gate_callee (f := 21) rfl ?_); refine goesL_ (some 32) rfl rfl Tryd.func21 (by kernel_rfl) rfl #[.string t103] rfl (by (try simp only [List.map_toArray, List.map_cons, List.map_nil]); first | done | rfl | (simp only [List.length_drop, List.length_take]; rfl)) ?_; (with_reducible refine (addr_Parse.calls kj3 t103 t109 t110 false _ A15.out).mono ?_); rintro e w35 ⟨rfl, hb⟩; refine ⟨_, rfl, ?_⟩; have n0_ := Aside0.mk (blk_below (pkx BK101) hb); have n1_ := Aside0.mk (blk_below (pkx BK108) hb); have n2_ := Aside0.mk (below_step (pbx HB) hb); clear BK101; clear BK108; clear HB; have BK101 := n0_; have BK108 := n1_; have HB := n2_; clear n0_ n1_ n2_; (try clear hb); (try clear hb2); (try clear hk); (try clear hi)) | ((with_reducible refine gate_dst (N := 9) rfl ?_); refine box_event ?hg (N := 9) ?hd (cs := #[.int .i64 0, .int .i64 0]) (t := 23) ?hr ?_; (case hd => rfl); (case hg => rfl); (case hr => first | (go_simp; done) | (go_simp; rfl)); intro gb112 hg w36 hbox hb; have n0_ := Aside0.mk (blk_below (pkx BK101) hb); have n1_ := Aside0.mk (blk_below (pkx BK108) hb); have n2_ := Aside0.mk (below_step (pbx HB) hb); have n3_ := Aside0.mk (hbox); have n4_ := Aside0.mk ((by rw [hg]; exact (below_size (pbx HB)) : w.heap.size ≤ gb112)); have n5_ := Aside0.mk ((by rw [hg]; exact (below_size (pbx HB)) : w.heap.size ≤ gb112)); have n6_ := Aside0.mk ((by rw [hg]; exact Nat.ne_of_lt (blk_lt (pkx BK101)) : gb101 ≠ gb112)); have n7_ := Aside0.mk ((by rw [hg]; exact Nat.ne_of_gt (blk_lt (pkx BK101)) : gb112 ≠ gb101)); have n8_ := Aside0.mk ((by rw [hg]; exact Nat.ne_of_lt (blk_lt (pkx BK108)) : gb108 ≠ gb112)); have n9_ := Aside0.mk ((by rw [hg]; exact Nat.ne_of_gt (blk_lt (pkx BK108)) : gb112 ≠ gb108)); clear BK101; clear BK108; clear HB; have BK101 := n0_; have BK108 := n1_; have HB := n2_; have BK112 := n3_; have GW112 := n4_; have GE112 := n5_; have NB101_112 := n6_; have NB112_101 := n7_; have NB108_112 := n8_; have NB112_108 := n9_; clear n0_ n1_ n2_ n3_ n4_ n5_ n6_ n7_ n8_ n9_; clear hb hbox hg; have hnb37 := NB112_101.out; have hnc37 := NB101_112.out; have hnb38 := NB112_108.out; have hnc38 := NB108_112.out; have hcz39_0 : w36.cell? ⟨gb112, 0, none⟩ = some (.int .i64 0) := (blk_cell BK112.out 0).trans rfl; have hcz39_1 : w36.cell? ⟨gb112, 1, none⟩ = some (.int .i64 0) := (blk_cell BK112.out 1).trans rfl; have hfz39_0 := blk_frozen BK112.out 0; have hfz39_1 := blk_frozen BK112.out 1; have hnb40 := NB101_108.out; have hnc40 := NB108_101.out; have hcz41_0 : w36.cell? ⟨gb101, 0, none⟩ = some (.int .i64 0) := (blk_cell BK101.out 0).trans rfl; have hcz41_1 : w36.cell? ⟨gb101, 1, none⟩ = some (.int .i64 0) := (blk_cell BK101.out 1).trans rfl; have hcz41_2 : w36.cell? ⟨gb101, 2, none⟩ = some (.int .i64 0) := (blk_cell BK101.out 2).trans rfl; have hcz41_3 : w36.cell? ⟨gb101, 3, none⟩ = some (.int .i64 0) := (blk_cell BK101.out 3).trans rfl; have hfz41_0 := blk_frozen BK101.out 0; have hfz41_1 := blk_frozen BK101.out 1; have hfz41_2 := blk_frozen BK101.out 2; have hfz41_3 := blk_frozen BK101.out 3))
      refine bodyPost_ret (results_ct rfl _ _ gb101 42 #[.int .i64 0, .int .i64 0, .int .i64 0, .int .i64 0] (0, 0) _ rfl (by (with_reducible repeat (first | refine blk_drewN ?_ _ | refine blk_drew ?_ | refine blk_alloc ?_ _)); refine blk_put (cs := #[.int .i64 0, .int .i64 0, .int .i64 0, .int .i64 0]) ?_ 3 _ rfl; (with_reducible repeat (first | refine blk_drewN ?_ _ | refine blk_drew ?_ | refine blk_alloc ?_ _)); refine blk_put (cs := #[.int .i64 0, .int .i64 0, .int .i64 0, .int .i64 0]) ?_ 2 _ rfl; (with_reducible repeat (first | refine blk_drewN ?_ _ | refine blk_drew ?_ | refine blk_alloc ?_ _)); refine blk_put (cs := #[.int .i64 0, .int .i64 0, .int .i64 0, .int .i64 0]) ?_ 1 _ rfl; (with_reducible repeat (first | refine blk_drewN ?_ _ | refine blk_drew ?_ | refine blk_alloc ?_ _)); refine blk_put (cs := #[.int .i64 0, .int .i64 0, .int .i64 0, .int .i64 0]) ?_ 0 _ rfl; (with_reducible repeat (first | refine blk_drewN ?_ _ | refine blk_drew ?_ | refine blk_alloc ?_ _)); refine blk_far ?_ NB101_112.out _; (with_reducible repeat (first | refine blk_drewN ?_ _ | refine blk_drew ?_ | refine blk_alloc ?_ _)); refine blk_far ?_ NB101_112.out _; (with_reducible repeat (first | refine blk_drewN ?_ _ | refine blk_drew ?_ | refine blk_alloc ?_ _)); exact BK101.out) Tryd.underlying42 rfl (by kernel_rfl)) rfl ?_
      exact ⟨by first | rfl | (simp [errW_none, errW_some] <;> rfl) | (simp [*, errW_none, errW_some] <;> rfl), by repeat (first | (with_reducible first | exact HB.out | apply below_alloc | apply pw_below_drewN | apply below_drew1 | refine below_set ?_ GE101.out | refine below_set ?_ GE108.out | refine below_set ?_ GE112.out) | exact HB.out)⟩
    ·
     replace c16 := Bool.eq_false_iff.mpr c16
     subst c16
     have H1 : (some (0, 0, 0, 0, false)) = some (r1, r2, r3, r4, r5) := by rw [if_neg (show ¬ (false = true) by decide)] at H; exact H
     clear H
     have H := H1
     clear H1
     simp only [Option.some.injEq, Prod.mk.injEq] at H
     obtain ⟨rfl, rfl, rfl, rfl, rfl⟩ := H
     go_wp2_with (first | ((with_reducible refine gate_callee (f := 21) rfl ?_); refine goesL_ (some 32) rfl rfl Tryd.func21 (by kernel_rfl) rfl #[.string t103] rfl (by (try simp only [List.map_toArray, List.map_cons, List.map_nil]); first | done | rfl | (simp only [List.length_drop, List.length_take]; rfl)) ?_; (with_reducible refine (addr_Parse.calls kj3 t103 t109 t110 t111 _ A15.out).mono ?_); rintro e w42 ⟨rfl, hb⟩; refine ⟨_, rfl, ?_⟩; have n0_ := Aside0.mk (blk_below (pkx BK101) hb); have n1_ := Aside0.mk (blk_below (pkx BK108) hb); have n2_ := Aside0.mk (below_step (pbx HB) hb); clear BK101; clear BK108; clear HB; have BK101 := n0_; have BK108 := n1_; have HB := n2_; clear n0_ n1_ n2_; (try clear hb); (try clear hb2); (try clear hk); (try clear hi)) | ((with_reducible refine gate_dst (N := 9) rfl ?_); refine box_event ?hg (N := 9) ?hd (cs := #[.int .i64 0, .int .i64 0]) (t := 23) ?hr ?_; (case hd => rfl); (case hg => rfl); (case hr => first | (go_simp; done) | (go_simp; rfl)); intro gb112 hg w43 hbox hb; have n0_ := Aside0.mk (blk_below (pkx BK101) hb); have n1_ := Aside0.mk (blk_below (pkx BK108) hb); have n2_ := Aside0.mk (below_step (pbx HB) hb); have n3_ := Aside0.mk (hbox); have n4_ := Aside0.mk ((by rw [hg]; exact (below_size (pbx HB)) : w.heap.size ≤ gb112)); have n5_ := Aside0.mk ((by rw [hg]; exact (below_size (pbx HB)) : w.heap.size ≤ gb112)); have n6_ := Aside0.mk ((by rw [hg]; exact Nat.ne_of_lt (blk_lt (pkx BK101)) : gb101 ≠ gb112)); have n7_ := Aside0.mk ((by rw [hg]; exact Nat.ne_of_gt (blk_lt (pkx BK101)) : gb112 ≠ gb101)); have n8_ := Aside0.mk ((by rw [hg]; exact Nat.ne_of_lt (blk_lt (pkx BK108)) : gb108 ≠ gb112)); have n9_ := Aside0.mk ((by rw [hg]; exact Nat.ne_of_gt (blk_lt (pkx BK108)) : gb112 ≠ gb108)); clear BK101; clear BK108; clear HB; have BK101 := n0_; have BK108 := n1_; have HB := n2_; have BK112 := n3_; have GW112 := n4_; have GE112 := n5_; have NB101_112 := n6_; have NB112_101 := n7_; have NB108_112 := n8_; have NB112_108 := n9_; clear n0_ n1_ n2_ n3_ n4_ n5_ n6_ n7_ n8_ n9_; clear hb hbox hg; have hnb44 := NB112_101.out; have hnc44 := NB101_112.out; have hnb45 := NB112_108.out; have hnc45 := NB108_112.out; have hcz46_0 : w43.cell? ⟨gb112, 0, none⟩ = some (.int .i64 0) := (blk_cell BK112.out 0).trans rfl; have hcz46_1 : w43.cell? ⟨gb112, 1, none⟩ = some (.int .i64 0) := (blk_cell BK112.out 1).trans rfl; have hfz46_0 := blk_frozen BK112.out 0; have hfz46_1 := blk_frozen BK112.out 1; have hnb47 := NB101_108.out; have hnc47 := NB108_101.out; have hcz48_0 : w43.cell? ⟨gb101, 0, none⟩ = some (.int .i64 0) := (blk_cell BK101.out 0).trans rfl; have hcz48_1 : w43.cell? ⟨gb101, 1, none⟩ = some (.int .i64 0) := (blk_cell BK101.out 1).trans rfl; have hcz48_2 : w43.cell? ⟨gb101, 2, none⟩ = some (.int .i64 0) := (blk_cell BK101.out 2).trans rfl; have hcz48_3 : w43.cell? ⟨gb101, 3, none⟩ = some (.int .i64 0) := (blk_cell BK101.out 3).trans rfl; have hfz48_0 := blk_frozen BK101.out 0; have hfz48_1 := blk_frozen BK101.out 1; have hfz48_2 := blk_frozen BK101.out 2; have hfz48_3 := blk_frozen BK101.out 3))
     refine bodyPost_ret (results_ct rfl _ _ gb101 42 #[.int .i64 0, .int .i64 0, .int .i64 0, .int .i64 0] (0, 0) _ rfl (by (with_reducible repeat (first | refine blk_drewN ?_ _ | refine blk_drew ?_ | refine blk_alloc ?_ _)); refine blk_put (cs := #[.int .i64 0, .int .i64 0, .int .i64 0, .int .i64 0]) ?_ 3 _ rfl; (with_reducible repeat (first | refine blk_drewN ?_ _ | refine blk_drew ?_ | refine blk_alloc ?_ _)); refine blk_put (cs := #[.int .i64 0, .int .i64 0, .int .i64 0, .int .i64 0]) ?_ 2 _ rfl; (with_reducible repeat (first | refine blk_drewN ?_ _ | refine blk_drew ?_ | refine blk_alloc ?_ _)); refine blk_put (cs := #[.int .i64 0, .int .i64 0, .int .i64 0, .int .i64 0]) ?_ 1 _ rfl; (with_reducible repeat (first | refine blk_drewN ?_ _ | refine blk_drew ?_ | refine blk_alloc ?_ _)); refine blk_put (cs := #[.int .i64 0, .int .i64 0, .int .i64 0, .int .i64 0]) ?_ 0 _ rfl; (with_reducible repeat (first | refine blk_drewN ?_ _ | refine blk_drew ?_ | refine blk_alloc ?_ _)); refine blk_far ?_ NB101_112.out _; (with_reducible repeat (first | refine blk_drewN ?_ _ | refine blk_drew ?_ | refine blk_alloc ?_ _)); refine blk_far ?_ NB101_112.out _; (with_reducible repeat (first | refine blk_drewN ?_ _ | refine blk_drew ?_ | refine blk_alloc ?_ _)); exact BK101.out) Tryd.underlying42 rfl (by kernel_rfl)) rfl ?_
     exact ⟨by first | rfl | (simp [errW_none, errW_some] <;> rfl) | (simp [*, errW_none, errW_some] <;> rfl), by repeat (first | (with_reducible first | exact HB.out | apply below_alloc | apply pw_below_drewN | apply below_drew1 | refine below_set ?_ GE101.out | refine below_set ?_ GE108.out | refine below_set ?_ GE112.out) | exact HB.out)⟩

end Go.Proofs.YtjbdljolpkkhcaaDoor.X
namespace Go.Proofs.YtjbdljolpkkhcaaDoor.X
open Go.RowKit Go.Proofs.YtjbdljolpkkhcaaDoorW.PrintWords Go.Proofs.YtjbdljolpkkhcaaDoorW.PrintLast Go.Proofs.YtjbdljolpkkhcaaDoorW.PrintMore
attribute [local go_sem] max2_int min2_int max_two min_two max_three min_three max_four min_four   -- for this text's walks alone
set_option linter.unusedVariables false
set_option linter.unusedSimpArgs false

/-! ### addr_Letters: function 14 -/
def addr_Letters.j0 : Nat → Int → Bool → Option (ByteArray)
 | 0, _, _ => none
 | k + 1, x0, x3 => if x3 = true then (some (⟨#[]⟩ : ByteArray)) else (if x0 < 26 then (some (strOfNums (([(wrap64 (65 + x0)) % 256] : List Int)))) else (some (strOfNums (([(wrap64 ((wrap64 (65 + (wrap64 (Int.tdiv x0 26)))) - 1)) % 256, (wrap64 (65 + (Int.tmod x0 26))) % 256] : List Int)))))
def addr_Letters.f (k : Nat) (a0 : Int) : Option (ByteArray) := if a0 < 0 then (addr_Letters.j0 k a0 true) else (addr_Letters.j0 k a0 (decide (a0 ≥ 702)))
theorem addr_Letters.mono_l : ∀ k, (∀ y0 y1, LeO (addr_Letters.j0 k y0 y1) (addr_Letters.j0 (k + 1) y0 y1))
 | 0 => fun _ _ r h => by simp [addr_Letters.j0] at h
 | k + 1 => by
  have ih0 := addr_Letters.mono_l k
  ·
   intro y0 y1
   unfold addr_Letters.j0
   repeat' first
   | (with_reducible exact ih0 _ _)
   | (with_reducible exact LeO.refl _)
   | (with_reducible exact LeO.none _)
   | (with_reducible refine LeO.ite ?_ ?_)
   | (with_reducible refine LeO.bind ?_ (fun _ => ?_))
   | exact ih0 _ _
   | exact LeO.none _
   | refine LeO.ite ?_ ?_
   | refine LeO.bind ?_ (fun _ => ?_)
theorem addr_Letters.mono : ∀ a0 k, LeO (addr_Letters.f k a0) (addr_Letters.f (k + 1) a0) := by
 intro a0 k
 have ih0 := addr_Letters.mono_l k
 unfold addr_Letters.f
 repeat' first
   | (with_reducible exact ih0 _ _)
   | (with_reducible exact LeO.refl _)
   | (with_reducible exact LeO.none _)
   | (with_reducible refine LeO.ite ?_ ?_)
   | (with_reducible refine LeO.bind ?_ (fun _ => ?_))
   | exact ih0 _ _
   | exact LeO.none _
   | refine LeO.ite ?_ ?_
   | refine LeO.bind ?_ (fun _ => ?_)
set_option maxHeartbeats 8000000 in
set_option maxRecDepth 100000 in
theorem addr_Letters.calls (k : Nat) (a0 : Int) (r : ByteArray) (w : World) (h : addr_Letters.f k a0 = some r) :
  Calls Tryd.prog 14 #[.int .i64 a0] w fun e w' => e = .returned (.string r) ∧ Below w.heap.size w w' := by
 have HB := Aside0.mk (Below.refl w.heap.size w)
 have H : (if a0 < 0 then (addr_Letters.j0 k a0 true) else (addr_Letters.j0 k a0 (decide (a0 ≥ 702)))) = some r := h
 clear h
 have HC2 := Aside0.mk H
 clear H
 go_enter Tryd.func14, Tryd.ntmps14
 go_upto_region 1 with (fail)
 go_cut [3] (fun v3 wc => ∃ (kq : Nat) (x3_1 : Bool), v3 = .bool x3_1 ∧ Aside0 (addr_Letters.j0 kq a0 x3_1 = some r) ∧ Aside0 (kq ≤ k) ∧ Aside0 (Below w.heap.size w wc))
 case first =>
  have H := HC2.out
  clear HC2
  by_cases c3 : a0 < 0
  ·
   rw [if_pos c3] at H
   have c3b0 : decide (a0 < 0) = true := decide_eq_true c3
   clear c3
   (first | rw [c3b0] | (simp only [i64_w, i32_w]; rw [c3b0]) | skip)
   have H' := Aside0.mk H
   clear H
   go_wp2
   go_meet
   case rel => exact ⟨_, (true), (by first | rfl | (simp; done) | (simp [*]; done)), H', ⟨by first | omega | exact Nat.le_refl _⟩, ⟨pbx HB⟩⟩
  ·
   rw [if_neg c3] at H
   have c3b0 : decide (a0 < 0) = false := decide_eq_false c3
   clear c3
   (first | rw [c3b0] | (simp only [i64_w, i32_w]; rw [c3b0]) | skip)
   have H' := Aside0.mk H
   clear H
   go_wp2
   go_meet
   case rel => exact ⟨_, (decide (a0 ≥ 702)), (by first | rfl | (simp; done) | (simp [*]; done)), H', ⟨by first | omega | exact Nat.le_refl _⟩, ⟨pbx HB⟩⟩
 case rest =>
  clear HC2
  try clear c1
  try clear p2
  try clear c3
  try clear c3b0
  obtain ⟨kq, x3_1, rfl, HA, HJ1, HB⟩ := hcut
  cases kq with
  | zero => exact absurd HA.out (by simp [addr_Letters.j0])
  | succ kj1 =>
   have H := HA.out
   clear HA
   simp only [addr_Letters.j0] at H
   by_cases c4 : x3_1 = true
   ·
    subst c4
    have H1 : (some (⟨#[]⟩ : ByteArray)) = some r := by rw [if_pos rfl] at H; exact H
    clear H
    have H := H1
    clear H1
    obtain rfl := Option.some.inj H
    go_wp2
    go_ret
    exact ⟨by first | rfl | (simp [errW_none, errW_some] <;> rfl) | (simp [*, errW_none, errW_some] <;> rfl), pbx HB⟩
   ·
    replace c4 := Bool.eq_false_iff.mpr c4
    subst c4
    have H1 : (if a0 < 26 then (some (strOfNums (([(wrap64 (65 + a0)) % 256] : List Int)))) else (some (strOfNums (([(wrap64 ((wrap64 (65 + (wrap64 (Int.tdiv a0 26)))) - 1)) % 256, (wrap64 (65 + (Int.tmod a0 26))) % 256] : List Int))))) = some r := by rw [if_neg (show ¬ (false = true) by decide)] at H; exact H
    clear H
    have H := H1
    clear H1
    by_cases c5 : a0 < 26
    ·
     rw [if_pos c5] at H
     have c5b0 : decide (a0 < 26) = true := decide_eq_true c5
     clear c5
     obtain ⟨y101, hy101⟩ : ∃ y_ : List Int, y_ = (([(wrap64 (65 + a0)) % 256] : List Int)) := ⟨_, rfl⟩
     replace H : (some (strOfNums y101)) = some r := by first | (rw [hy101]; with_reducible exact H) | (have H2_ := (Option.bind_some _ _).symm.trans H; rw [hy101]; with_reducible exact H2_) | (have H2_ := (Option.bind_some _ _).symm.trans H; with_reducible exact H2_) | with_reducible exact H | (rw [hy101]; exact H) | exact H
     have Ny101 := Aside0.mk hy101
     clear hy101
     obtain rfl := Option.some.inj H
     go_wp2_with (first | ((with_reducible refine gate_dst (N := 16) rfl ?_); refine Kd.R_lit (Kd.int .u8) _ 5 ?hg (N := 16) ?hd (xs := ([(wrap64 (65 + a0)) % 256] : List Int)) (inner := [.int .u8 ((wrap64 (65 + a0)) % 256)]) (ok := fun _ => True) (okp := fun _ => True) ?hr ?hp (fun _ hk => hk) trivial (Below.refl _ _) (Nat.le_refl _) (by simp) ?_; (case hd => rfl); (case hg => rfl); (case hr => first | (go_simp; done) | (go_simp; rfl)); (case hp => exact (Reps.one (show Kd.M (Kd.int .u8) _ _ _ ((wrap64 (65 + a0)) % 256) [.int .u8 ((wrap64 (65 + a0)) % 256)] from rfl) (Reps.none _ _))); intro v102 w6 ho7 hb hg_ hnew_; clear hg_ hnew_; (first | rw [← Ny101.out] at ho7 | (simp only [Int.reduceToNat] at ho7; rw [← Ny101.out] at ho7)); have n0_ := Aside0.mk (Kd.R_lower ho7 (below_size (pbx HB))); have n1_ := Aside0.mk (below_step (pbx HB) hb); clear HB; have HO103 := n0_; have HB := n1_; clear n0_ n1_; clear hb ho7; have hcv8 := own_string (P := Tryd.prog) Tryd.underlying64 Tryd.underlying5 Tryd.underlying9 (Kd.own_of_R HO103.out)))
     go_ret
     exact ⟨by first | rfl | (simp [errW_none, errW_some] <;> rfl) | (simp [*, errW_none, errW_some] <;> rfl), pbx HB⟩
    ·
     rw [if_neg c5] at H
     have c5b0 : decide (a0 < 26) = false := decide_eq_false c5
     clear c5
     obtain ⟨y104, hy104⟩ : ∃ y_ : List Int, y_ = (([(wrap64 ((wrap64 (65 + (wrap64 (Int.tdiv a0 26)))) - 1)) % 256, (wrap64 (65 + (Int.tmod a0 26))) % 256] : List Int)) := ⟨_, rfl⟩
     replace H : (some (strOfNums y104)) = some r := by first | (rw [hy104]; with_reducible exact H) | (have H2_ := (Option.bind_some _ _).symm.trans H; rw [hy104]; with_reducible exact H2_) | (have H2_ := (Option.bind_some _ _).symm.trans H; with_reducible exact H2_) | with_reducible exact H | (rw [hy104]; exact H) | exact H
     have Ny104 := Aside0.mk hy104
     clear hy104
     obtain rfl := Option.some.inj H
     go_wp2_with (first | ((with_reducible refine gate_dst (N := 27) rfl ?_); refine Kd.R_lit (Kd.int .u8) _ 5 ?hg (N := 27) ?hd (xs := ([(wrap64 ((wrap64 (65 + (wrap64 (Int.tdiv a0 26)))) - 1)) % 256, (wrap64 (65 + (Int.tmod a0 26))) % 256] : List Int)) (inner := [.int .u8 ((wrap64 ((wrap64 (65 + (wrap64 (Int.tdiv a0 26)))) - 1)) % 256), .int .u8 ((wrap64 (65 + (Int.tmod a0 26))) % 256)]) (ok := fun _ => True) (okp := fun _ => True) ?hr ?hp (fun _ hk => hk) trivial (Below.refl _ _) (Nat.le_refl _) (by simp) ?_; (case hd => rfl); (case hg => rfl); (case hr => first | (go_simp; done) | (go_simp; rfl)); (case hp => exact (Reps.one (show Kd.M (Kd.int .u8) _ _ _ ((wrap64 ((wrap64 (65 + (wrap64 (Int.tdiv a0 26)))) - 1)) % 256) [.int .u8 ((wrap64 ((wrap64 (65 + (wrap64 (Int.tdiv a0 26)))) - 1)) % 256)] from rfl) (Reps.one (show Kd.M (Kd.int .u8) _ _ _ ((wrap64 (65 + (Int.tmod a0 26))) % 256) [.int .u8 ((wrap64 (65 + (Int.tmod a0 26))) % 256)] from rfl) (Reps.none _ _)))); intro v105 w9 ho10 hb hg_ hnew_; clear hg_ hnew_; (first | rw [← Ny104.out] at ho10 | (simp only [Int.reduceToNat] at ho10; rw [← Ny104.out] at ho10)); have n0_ := Aside0.mk (Kd.R_lower ho10 (below_size (pbx HB))); have n1_ := Aside0.mk (below_step (pbx HB) hb); clear HB; have HO106 := n0_; have HB := n1_; clear n0_ n1_; clear hb ho10; have hcv11 := own_string (P := Tryd.prog) Tryd.underlying64 Tryd.underlying5 Tryd.underlying9 (Kd.own_of_R HO106.out)))
     go_ret
     exact ⟨by first | rfl | (simp [errW_none, errW_some] <;> rfl) | (simp [*, errW_none, errW_some] <;> rfl), pbx HB⟩

end Go.Proofs.YtjbdljolpkkhcaaDoor.X
/- The contract of strconv.Itoa, out of the shelf's: where the table is laid. -/
set_option linter.unusedVariables false
namespace Go.Proofs.YtjbdljolpkkhcaaDoor.X
open Go.RowKit Go.Proofs.YtjbdljolpkkhcaaDoorW.PrintWords Go.Proofs.YtjbdljolpkkhcaaDoorW.PrintLast Go.Proofs.YtjbdljolpkkhcaaDoorW.PrintMore
open Go.Sort
def strconv_Itoa.f (a0 : Int) : Option ByteArray := if -9223372036854775808 ≤ a0 ∧ a0 ≤ 9223372036854775807 then some ⟨(Lib.itoa a0).toArray⟩ else none
theorem strconv_Itoa.calls (a0 : Int) (r : ByteArray) (w : World) (hT : Aside0 (Tab w)) (h : strconv_Itoa.f a0 = some r) :
    Calls Tryd.prog 48 #[.int .i64 a0] w fun e w' => e = .returned (.string r) ∧ Below w.heap.size w w' := by
  unfold strconv_Itoa.f at h
  by_cases hs : -9223372036854775808 ≤ a0 ∧ a0 ≤ 9223372036854775807
  · rw [if_pos hs] at h
    obtain rfl := Option.some.inj h
    refine (Tryd.strconv_Itoa a0 hs.1 hs.2 w hT.out.pow).mono ?_
    rintro e w' ⟨rfl, k, os, rfl⟩
    refine ⟨rfl, ?_⟩
    have h1 : Below w.heap.size w (w.drewN k) := (Drawn0.refl w).step k |>.below
    have h2 : Below (w.drewN k).heap.size (w.drewN k) (grow (w.drewN k) os) := ⟨rfl, rfl, rfl, by simp [grow], fun i hi => by simp only [grow]; exact Array.getElem?_append_left hi⟩
    exact h1.trans h2
  · rw [if_neg hs] at h
    cases h
end Go.Proofs.YtjbdljolpkkhcaaDoor.X
namespace Go.Proofs.YtjbdljolpkkhcaaDoor.X
open Go.RowKit Go.Proofs.YtjbdljolpkkhcaaDoorW.PrintWords Go.Proofs.YtjbdljolpkkhcaaDoorW.PrintLast Go.Proofs.YtjbdljolpkkhcaaDoorW.PrintMore
attribute [local go_sem] max2_int min2_int max_two min_two max_three min_three max_four min_four   -- for this text's walks alone
set_option linter.unusedVariables false
set_option linter.unusedSimpArgs false

/-! ### addr_Name: function 12 -/
def addr_Name.f (k : Nat) (a0_0 : Int) (a0_1 : Int) : Option (ByteArray) := (addr_May.f a0_0 a0_1).bind fun t102 => (if t102 = true then ((addr_Letters.f k a0_1).bind fun t103 => ((strconv_Itoa.f (wrap64 (a0_0 + 1))).bind fun t104 => (if t103.size + t104.size ≤ 9223372036854775807 then (some (t103 ++ t104)) else (none)))) else (some (⟨#[]⟩ : ByteArray)))
theorem addr_Name.mono : ∀ a0 a1 k, LeO (addr_Name.f k a0 a1) (addr_Name.f (k + 1) a0 a1) := by
 intro a0 a1 k
 unfold addr_Name.f
 repeat' first
   | (with_reducible exact addr_Letters.mono _ _)
   | (with_reducible exact LeO.refl _)
   | (with_reducible exact LeO.none _)
   | (with_reducible refine LeO.ite ?_ ?_)
   | (with_reducible refine LeO.bind ?_ (fun _ => ?_))
   | exact addr_Letters.mono _ _
   | exact LeO.none _
   | refine LeO.ite ?_ ?_
   | refine LeO.bind ?_ (fun _ => ?_)
def addr_Name.T3 : Bool × List (List Nat × List Nat) := (true, [([], []), ([0], [0]), ([1], [1]), ([], []), ([3], [3]), ([4], [4]), ([5, 2], [5]), ([2, 6], [2, 6]), ([7, 6, 0, 1, 2, 3, 4, 5, 6, 7], [7])])
def addr_Name.B3 : List Nat := [0, 1, 3, 0, 8, 24, 63, 127, 255]
theorem addr_Name.tab3 : rtab .any (opsOf Tryd.f12 3) = addr_Name.T3 := by kernel_rfl
theorem addr_Name.bits3 : waitsOk addr_Name.T3.2 addr_Name.B3 = true := by kernel_rfl
set_option maxHeartbeats 8000000 in
set_option maxRecDepth 100000 in
theorem addr_Name.calls (k : Nat) (a0_0 : Int) (a0_1 : Int) (r : ByteArray) (w : World) (hT : Aside0 (Tab w)) (h : addr_Name.f k a0_0 a0_1 = some r) :
  Calls Tryd.prog 12 #[.agg #[.int .i64 a0_0, .int .i64 a0_1]] w fun e w' => e = .returned (.string r) ∧ Below w.heap.size w w' := by
 have hu23 := Tryd.underlying23
 have HB := Aside0.mk (Below.refl w.heap.size w)
 have H : ((addr_May.f a0_0 a0_1).bind fun t102 => (if t102 = true then ((addr_Letters.f k a0_1).bind fun t103 => ((strconv_Itoa.f (wrap64 (a0_0 + 1))).bind fun t104 => (if t103.size + t104.size ≤ 9223372036854775807 then (some (t103 ++ t104)) else (none)))) else (some (⟨#[]⟩ : ByteArray)))) = some r := h
 clear h
 replace H := Option.bind_eq_some_iff.mp H
 obtain ⟨t102, A20, H⟩ := H
 replace H : (if t102 = true then ((addr_Letters.f k a0_1).bind fun t103 => ((strconv_Itoa.f (wrap64 (a0_0 + 1))).bind fun t104 => (if t103.size + t104.size ≤ 9223372036854775807 then (some (t103 ++ t104)) else (none)))) else (some (⟨#[]⟩ : ByteArray))) = some r := H
 have A2 := Aside0.mk A20
 clear A20
 by_cases c3 : t102 = true
 ·
  subst c3
  have H1 : ((addr_Letters.f k a0_1).bind fun t103 => ((strconv_Itoa.f (wrap64 (a0_0 + 1))).bind fun t104 => (if t103.size + t104.size ≤ 9223372036854775807 then (some (t103 ++ t104)) else (none)))) = some r := by rw [if_pos rfl] at H; exact H
  clear H
  have H := H1
  clear H1
  replace H := Option.bind_eq_some_iff.mp H
  obtain ⟨t103, A40, H⟩ := H
  replace H : ((strconv_Itoa.f (wrap64 (a0_0 + 1))).bind fun t104 => (if t103.size + t104.size ≤ 9223372036854775807 then (some (t103 ++ t104)) else (none))) = some r := H
  have A4 := Aside0.mk A40
  clear A40
  replace H := Option.bind_eq_some_iff.mp H
  obtain ⟨t104, A50, H⟩ := H
  replace H : (if t103.size + t104.size ≤ 9223372036854775807 then (some (t103 ++ t104)) else (none)) = some r := H
  have A5 := Aside0.mk A50
  clear A50
  by_cases c6 : t103.size + t104.size ≤ 9223372036854775807
  ·
   rw [if_pos c6] at H
   have c6b0 := eq_true c6
   have c6b1 : decide (t103.size + t104.size ≤ 9223372036854775807) = true := decide_eq_true c6
   try have c6b2 : (9223372036854775807 < t103.size + t104.size) = False := eq_false (Nat.not_lt.2 c6)
   obtain rfl := Option.some.inj H
   go_enter Tryd.func12, Tryd.ntmps12
   try go_wp2_with (first | ((with_reducible refine gate_dst (N := 1) rfl ?_); refine box_event ?hg (N := 1) ?hd (cs := #[.int .i64 a0_0, .int .i64 a0_1]) (t := 23) ?hr ?_; (case hd => rfl); (case hg => rfl); (case hr => first | (go_simp; done) | (go_simp; rfl)); intro gb101 hg w7 hbox hb; have n0_ := Aside0.mk (below_step (pbx HB) hb); have n1_ := Aside0.mk (hbox); have n2_ := Aside0.mk ((by rw [hg]; exact (below_size (pbx HB)) : w.heap.size ≤ gb101)); have n3_ := Aside0.mk ((by rw [hg]; exact (below_size (pbx HB)) : w.heap.size ≤ gb101)); clear HB; have HB := n0_; have BK101 := n1_; have GW101 := n2_; have GE101 := n3_; clear n0_ n1_ n2_ n3_; clear hb hbox hg; have hcz8_0 : w7.cell? ⟨gb101, 0, none⟩ = some (.int .i64 a0_0) := (blk_cell BK101.out 0).trans rfl; have hcz8_1 : w7.cell? ⟨gb101, 1, none⟩ = some (.int .i64 a0_1) := (blk_cell BK101.out 1).trans rfl; have hfz8_0 := blk_frozen BK101.out 0; have hfz8_1 := blk_frozen BK101.out 1) | ((with_reducible refine gate_callee (f := 10) rfl ?_); refine goesL_ (some 4) rfl rfl Tryd.func10 (by kernel_rfl) rfl #[.agg #[.int .i64 a0_0, .int .i64 a0_1]] rfl (by (try simp only [List.map_toArray, List.map_cons, List.map_nil]); first | done | rfl | (simp only [List.length_drop, List.length_take]; rfl)) ?_; (with_reducible refine (addr_May.calls a0_0 a0_1 true _ A2.out).mono ?_); rintro e w9 ⟨rfl, hb⟩; refine ⟨_, rfl, ?_⟩; have n0_ := Aside0.mk (blk_below (pkx BK101) hb); have n1_ := Aside0.mk (below_step (pbx HB) hb); clear BK101; clear HB; have BK101 := n0_; have HB := n1_; clear n0_ n1_; (try clear hb); (try clear hb2); (try clear hk); (try clear hi)))
   (try (rw [drewN_self w9]; generalize hq_ : World.drewN w9 _ = w9; have n0_ : Aside0 (w9.heap[gb101]? = some (.cells #[.int .i64 a0_0, .int .i64 a0_1] 23 (0, 0))) := ⟨by rw [← hq_]; exact (pkx BK101)⟩; have n1_ : Aside0 (Below w.heap.size w w9) := ⟨by rw [← hq_]; exact (pbx HB)⟩; clear BK101 HB hq_; have BK101 := n0_; have HB := n1_; clear n0_ n1_))
   have n0_ := Aside0.mk (blk_drew BK101.out)
   have n1_ := Aside0.mk (below_drew1 HB.out)
   clear BK101
   clear HB
   have BK101 := n0_
   have HB := n1_
   clear n0_ n1_
   refine start_ (n := 9) (S := fun w' => w'.cell? ⟨gb101, 0, none⟩ = some (.int .i64 a0_0) ∧ w'.cell? ⟨gb101, 1, none⟩ = some (.int .i64 a0_1)) (ds := []) #[false, false, false, false, false, false, false, false, false] (by kernel_rfl) rfl rfl ⟨(blk_cell BK101.out 0).trans rfl, (blk_cell BK101.out 1).trans rfl⟩ (fun hHeld => ?_); refine with_tabW addr_Name.tab3 addr_Name.bits3 (fun HT_ HW_ => ?_)
   generalize w9.drew = w10 at BK101 HB hHeld ⊢
   refine pure_ (i := 0) (N := some 6) (v := ?_) (a' := ?_) #[true, false, false, false, false, false, false, false, false] rfl rfl (any_of HT_.out (by kernel_rfl)) (fun _ _ _ h => h) (Or.inl ⟨by rfl, ?_⟩) ?_ ?_
   rotate_left
   ·
    intro w'
    go_simp
    with_reducible rfl
   rotate_left
   ·
    simp only [Act.put, q_, i64_w, i32_w]
    rfl
   refine pure_ (i := 3) (N := some 9) (v := ?_) (a' := ?_) #[true, false, false, true, false, false, false, false, false] rfl rfl (any_of HT_.out (by kernel_rfl)) (fun _ _ _ h => h) (Or.inl ⟨by rfl, ?_⟩) ?_ ?_
   rotate_left
   ·
    intro w'
    go_simp
    with_reducible rfl
   rotate_left
   ·
    simp only [Act.put, q_, i64_w, i32_w]
    rfl
   refine take_ (i := 1) (N := some 7) (v := ?_) (a' := ?_) #[true, true, false, true, false, false, false, false, false] rfl rfl (take_ofW HT_.out HW_.out (by kernel_rfl)) (fun _ _ _ h => h) (Or.inl ⟨by rfl, ?_⟩) hHeld ?_ ?_
   rotate_left
   ·
    rintro w' ⟨s0, s1⟩
    go_simp
    with_reducible rfl
   rotate_left
   ·
    simp only [Act.put, q_, i64_w, i32_w]
    rfl
   refine take_ (i := 4) (N := some 10) (v := ?_) (a' := ?_) #[true, true, false, true, true, false, false, false, false] rfl rfl (take_ofW HT_.out HW_.out (by kernel_rfl)) (fun _ _ _ h => h) (Or.inl ⟨by rfl, ?_⟩) hHeld ?_ ?_
   rotate_left
   ·
    rintro w' ⟨s0, s1⟩
    go_simp
    with_reducible rfl
   rotate_left
   ·
    simp only [Act.put, q_, i64_w, i32_w]
    rfl
   refine pure_ (i := 5) (N := some 11) (v := ?_) (a' := ?_) #[true, true, false, true, true, true, false, false, false] rfl rfl (any_of HT_.out (by kernel_rfl)) (fun _ _ _ h => h) (Or.inl ⟨by rfl, ?_⟩) ?_ ?_
   rotate_left
   ·
    intro w'
    go_simp
    with_reducible rfl
   rotate_left
   ·
    simp only [Act.put, q_, i64_w, i32_w]
    rfl
   refine one_ (i := 2) (N := some 8) #[true, true, true, true, true, true, false, false, false] rfl rfl (one_of HT_.out (by kernel_rfl)) (by decide) (fun K hK => ?_)
   refine goes_ Tryd.func14 (by kernel_rfl) rfl #[.int .i64 a0_1] (by rfl) rfl rfl (by (try simp only [List.map_toArray, List.map_cons, List.map_nil]); first | done | rfl | (simp only [List.length_drop, List.length_take]; rfl)) ?_
   with_reducible refine (addr_Letters.calls k a0_1 t103 _ A4.out).mono ?_
   rintro e w11 ⟨rfl, hb⟩
   refine ⟨_, rfl, ?_⟩
   have n0_ := Aside0.mk (blk_below (pkx BK101) hb)
   have n1_ := Aside0.mk (below_step (pbx HB) hb)
   clear BK101
   clear HB
   have BK101 := n0_
   have HB := n1_
   clear n0_ n1_
   (try clear hb)
   (try clear hb2)
   (try clear hk)
   (try clear hi)
   refine hK.out _ _ ⟨(blk_cell BK101.out 0).trans rfl, (blk_cell BK101.out 1).trans rfl⟩ (fun hHeld => ?_)
   clear hK K
   refine norm_ (a' := ?_) ?_ ?_
   rotate_left
   ·
    show Act.put _ (some 8) _ = _
    simp only [Act.put, q_, i64_w, i32_w]
    rfl
   refine one_ (i := 6) (N := some 12) #[true, true, true, true, true, true, true, false, false] rfl rfl (one_of HT_.out (by kernel_rfl)) (by decide) (fun K hK => ?_)
   refine goes_ Tryd.func48 (by kernel_rfl) rfl #[.int .i64 (wrap64 (a0_0 + 1))] (by rfl) rfl rfl (by (try simp only [List.map_toArray, List.map_cons, List.map_nil]); first | done | rfl | (simp only [List.length_drop, List.length_take]; rfl)) ?_
   with_reducible refine (strconv_Itoa.calls (wrap64 (a0_0 + 1)) t104 _ (by refine tb_ ?_ hT; repeat' (first | exact pbx HB | assumption | refine below_set ?_ (Aside0.out ?_))) A5.out).mono ?_
   rintro e w12 ⟨rfl, hb⟩
   refine ⟨_, rfl, ?_⟩
   have n0_ := Aside0.mk (blk_below (pkx BK101) hb)
   have n1_ := Aside0.mk (below_step (pbx HB) hb)
   clear BK101
   clear HB
   have BK101 := n0_
   have HB := n1_
   clear n0_ n1_
   (try clear hb)
   (try clear hb2)
   (try clear hk)
   (try clear hi)
   refine hK.out _ _ ⟨(blk_cell BK101.out 0).trans rfl, (blk_cell BK101.out 1).trans rfl⟩ (fun hHeld => ?_)
   clear hK K
   refine norm_ (a' := ?_) ?_ ?_
   rotate_left
   ·
    show Act.put _ (some 12) _ = _
    simp only [Act.put, q_, i64_w, i32_w]
    rfl
   refine pure_ (i := 7) (N := some 13) (v := ?_) (a' := ?_) #[true, true, true, true, true, true, true, true, false] rfl rfl (any_of HT_.out (by kernel_rfl)) (fun _ _ _ h => h) (Or.inl ⟨by rfl, ?_⟩) ?_ ?_
   rotate_left
   ·
    intro w'
    go_simp
    with_reducible rfl
   rotate_left
   ·
    simp only [Act.put, q_, i64_w, i32_w]
    rfl
   refine pure_ (i := 8) (N := some 2) (v := ?_) (a' := ?_) #[true, true, true, true, true, true, true, true, true] rfl rfl (any_of HT_.out (by kernel_rfl)) (fun _ _ _ h => h) (Or.inl ⟨by rfl, ?_⟩) ?_ ?_
   rotate_left
   ·
    intro w'
    go_simp
    with_reducible rfl
   rotate_left
   ·
    simp only [Act.put, q_, i64_w, i32_w]
    rfl
   refine done_ (done_of HT_.out (by kernel_rfl)) ?_
   try go_wp2
   go_ret
   exact ⟨by first | rfl | (simp [errW_none, errW_some] <;> rfl) | (simp [*, errW_none, errW_some] <;> rfl), pbx HB⟩
  ·
   rw [if_neg c6] at H
   exact absurd H (by simp)
 ·
  replace c3 := Bool.eq_false_iff.mpr c3
  subst c3
  have H1 : (some (⟨#[]⟩ : ByteArray)) = some r := by rw [if_neg (show ¬ (false = true) by decide)] at H; exact H
  clear H
  have H := H1
  clear H1
  obtain rfl := Option.some.inj H
  go_enter Tryd.func12, Tryd.ntmps12
  go_wp2_with (first | ((with_reducible refine gate_dst (N := 1) rfl ?_); refine box_event ?hg (N := 1) ?hd (cs := #[.int .i64 a0_0, .int .i64 a0_1]) (t := 23) ?hr ?_; (case hd => rfl); (case hg => rfl); (case hr => first | (go_simp; done) | (go_simp; rfl)); intro gb101 hg w13 hbox hb; have n0_ := Aside0.mk (below_step (pbx HB) hb); have n1_ := Aside0.mk (hbox); have n2_ := Aside0.mk ((by rw [hg]; exact (below_size (pbx HB)) : w.heap.size ≤ gb101)); have n3_ := Aside0.mk ((by rw [hg]; exact (below_size (pbx HB)) : w.heap.size ≤ gb101)); clear HB; have HB := n0_; have BK101 := n1_; have GW101 := n2_; have GE101 := n3_; clear n0_ n1_ n2_ n3_; clear hb hbox hg; have hcz14_0 : w13.cell? ⟨gb101, 0, none⟩ = some (.int .i64 a0_0) := (blk_cell BK101.out 0).trans rfl; have hcz14_1 : w13.cell? ⟨gb101, 1, none⟩ = some (.int .i64 a0_1) := (blk_cell BK101.out 1).trans rfl; have hfz14_0 := blk_frozen BK101.out 0; have hfz14_1 := blk_frozen BK101.out 1) | ((with_reducible refine gate_callee (f := 10) rfl ?_); refine goesL_ (some 4) rfl rfl Tryd.func10 (by kernel_rfl) rfl #[.agg #[.int .i64 a0_0, .int .i64 a0_1]] rfl (by (try simp only [List.map_toArray, List.map_cons, List.map_nil]); first | done | rfl | (simp only [List.length_drop, List.length_take]; rfl)) ?_; (with_reducible refine (addr_May.calls a0_0 a0_1 false _ A2.out).mono ?_); rintro e w15 ⟨rfl, hb⟩; refine ⟨_, rfl, ?_⟩; have n0_ := Aside0.mk (blk_below (pkx BK101) hb); have n1_ := Aside0.mk (below_step (pbx HB) hb); clear BK101; clear HB; have BK101 := n0_; have HB := n1_; clear n0_ n1_; (try clear hb); (try clear hb2); (try clear hk); (try clear hi)))
  go_ret
  exact ⟨by first | rfl | (simp [errW_none, errW_some] <;> rfl) | (simp [*, errW_none, errW_some] <;> rfl), pbx HB⟩

end Go.Proofs.YtjbdljolpkkhcaaDoor.X
namespace Go.Proofs.YtjbdljolpkkhcaaDoor.X
open Go.RowKit Go.Proofs.YtjbdljolpkkhcaaDoorW.PrintWords Go.Proofs.YtjbdljolpkkhcaaDoorW.PrintLast Go.Proofs.YtjbdljolpkkhcaaDoorW.PrintMore
attribute [local go_sem] max2_int min2_int max_two min_two max_three min_three max_four min_four   -- for this text's walks alone
set_option linter.unusedVariables false
set_option linter.unusedSimpArgs false

attribute [local go_sem high] eqA23
/-! ### span_Text: function 27 -/
def span_Text.j0 : Nat → Bool → Int → Int → Int → Int → Option (ByteArray)
 | 0, _, _, _, _, _ => none
 | k + 1, x3, x102000, x102001, x102002, x102003 => if x3 = true then (some (⟨#[]⟩ : ByteArray)) else (if (x102000 == x102002 && (x102001 == x102003)) = true then ((addr_Name.f k x102000 x102001).bind fun t103 => (some t103)) else ((addr_Name.f k x102000 x102001).bind fun t104 => (if t104.size + 1 ≤ 9223372036854775807 then ((addr_Name.f k x102002 x102003).bind fun t105 => (if (t104 ++ (⟨#[58]⟩ : ByteArray)).size + t105.size ≤ 9223372036854775807 then (some ((t104 ++ (⟨#[58]⟩ : ByteArray)) ++ t105)) else (none))) else (none))))
def span_Text.f (k : Nat) (a0_0 : Int) (a0_1 : Int) (a0_2 : Int) (a0_3 : Int) : Option (ByteArray) := (span_May.f a0_0 a0_1 a0_2 a0_3).bind fun t102 => (span_Text.j0 k (!t102) a0_0 a0_1 a0_2 a0_3)
theorem span_Text.mono_l : ∀ k, (∀ y0 y1 y2 y3 y4, LeO (span_Text.j0 k y0 y1 y2 y3 y4) (span_Text.j0 (k + 1) y0 y1 y2 y3 y4))
 | 0 => fun _ _ _ _ _ r h => by simp [span_Text.j0] at h
 | k + 1 => by
  have ih0 := span_Text.mono_l k
  ·
   intro y0 y1 y2 y3 y4
   unfold span_Text.j0
   repeat' first
   | (with_reducible exact ih0 _ _ _ _ _)
   | (with_reducible exact addr_Name.mono _ _ _)
   | (with_reducible exact LeO.refl _)
   | (with_reducible exact LeO.none _)
   | (with_reducible refine LeO.ite ?_ ?_)
   | (with_reducible refine LeO.bind ?_ (fun _ => ?_))
   | exact ih0 _ _ _ _ _
   | exact addr_Name.mono _ _ _
   | exact LeO.none _
   | refine LeO.ite ?_ ?_
   | refine LeO.bind ?_ (fun _ => ?_)
theorem span_Text.mono : ∀ a0 a1 a2 a3 k, LeO (span_Text.f k a0 a1 a2 a3) (span_Text.f (k + 1) a0 a1 a2 a3) := by
 intro a0 a1 a2 a3 k
 have ih0 := span_Text.mono_l k
 unfold span_Text.f
 repeat' first
   | (with_reducible exact ih0 _ _ _ _ _)
   | (with_reducible exact addr_Name.mono _ _ _)
   | (with_reducible exact LeO.refl _)
   | (with_reducible exact LeO.none _)
   | (with_reducible refine LeO.ite ?_ ?_)
   | (with_reducible refine LeO.bind ?_ (fun _ => ?_))
   | exact ih0 _ _ _ _ _
   | exact addr_Name.mono _ _ _
   | exact LeO.none _
   | refine LeO.ite ?_ ?_
   | refine LeO.bind ?_ (fun _ => ?_)
def span_Text.T5 : Bool × List (List Nat × List Nat) := (true, [([], []), ([0], [0]), ([1], [1]), ([2], [2]), ([], []), ([4], [4]), ([5, 2], [5]), ([3, 6], [3, 6]), ([7, 6, 0, 1, 2, 3, 4, 5, 6, 7], [7])])
def span_Text.B5 : List Nat := [0, 1, 3, 7, 0, 16, 55, 127, 255]
theorem span_Text.tab5 : rtab .any (opsOf Tryd.f27 5) = span_Text.T5 := by kernel_rfl
theorem span_Text.bits5 : waitsOk span_Text.T5.2 span_Text.B5 = true := by kernel_rfl
set_option maxHeartbeats 8000000 in
set_option maxRecDepth 100000 in
theorem span_Text.calls (k : Nat) (a0_0 : Int) (a0_1 : Int) (a0_2 : Int) (a0_3 : Int) (r : ByteArray) (w : World) (hT : Aside0 (Tab w)) (h : span_Text.f k a0_0 a0_1 a0_2 a0_3 = some r) :
  Calls Tryd.prog 27 #[.agg #[.int .i64 a0_0, .int .i64 a0_1, .int .i64 a0_2, .int .i64 a0_3]] w fun e w' => e = .returned (.string r) ∧ Below w.heap.size w w' := by
 have hu42 := Tryd.underlying42
 have hu23 := Tryd.underlying23
 have HB := Aside0.mk (Below.refl w.heap.size w)
 have H : ((span_May.f a0_0 a0_1 a0_2 a0_3).bind fun t102 => (span_Text.j0 k (!t102) a0_0 a0_1 a0_2 a0_3)) = some r := h
 clear h
 have HC2 := Aside0.mk H
 clear H
 go_enter Tryd.func27, Tryd.ntmps27
 go_upto_region 1 with (first | ((with_reducible refine gate_dst (N := 1) rfl ?_); refine box_event ?hg (N := 1) ?hd (cs := #[.int .i64 a0_0, .int .i64 a0_1, .int .i64 a0_2, .int .i64 a0_3]) (t := 42) ?hr ?_; (case hd => rfl); (case hg => rfl); (case hr => first | (go_simp; done) | (go_simp; rfl)); intro gb101 hg w3 hbox hb; have n0_ := Aside0.mk (below_step (pbx HB) hb); have n1_ := Aside0.mk (hbox); have n2_ := Aside0.mk ((by rw [hg]; exact (below_size (pbx HB)) : w.heap.size ≤ gb101)); have n3_ := Aside0.mk ((by rw [hg]; exact (below_size (pbx HB)) : w.heap.size ≤ gb101)); clear HB; have HB := n0_; have BK101 := n1_; have GW101 := n2_; have GE101 := n3_; clear n0_ n1_ n2_ n3_; clear hb hbox hg))
 (try simp only [Act.put, q_])
 go_cut [3] (fun v3 wc => ∃ (kq : Nat) (x3_1 : Bool), v3 = .bool x3_1 ∧ Aside0 (span_Text.j0 kq x3_1 a0_0 a0_1 a0_2 a0_3 = some r) ∧ Aside0 (kq ≤ k) ∧ Aside0 (wc.heap[gb101]? = some (.cells #[.int .i64 a0_0, .int .i64 a0_1, .int .i64 a0_2, .int .i64 a0_3] 42 (0, 0))) ∧ Aside0 (Below w.heap.size w wc))
 case first =>
  have H := HC2.out
  clear HC2
  replace H := Option.bind_eq_some_iff.mp H
  obtain ⟨t102, A40, H⟩ := H
  replace H : (span_Text.j0 k (!t102) a0_0 a0_1 a0_2 a0_3) = some r := H
  have A4 := Aside0.mk A40
  clear A40
  have H' := Aside0.mk H
  clear H
  have hcz5_0 : w3.cell? ⟨gb101, 0, none⟩ = some (.int .i64 a0_0) := (blk_cell BK101.out 0).trans rfl
  have hcz5_1 : w3.cell? ⟨gb101, 1, none⟩ = some (.int .i64 a0_1) := (blk_cell BK101.out 1).trans rfl
  have hcz5_2 : w3.cell? ⟨gb101, 2, none⟩ = some (.int .i64 a0_2) := (blk_cell BK101.out 2).trans rfl
  have hcz5_3 : w3.cell? ⟨gb101, 3, none⟩ = some (.int .i64 a0_3) := (blk_cell BK101.out 3).trans rfl
  have hfz5_0 := blk_frozen BK101.out 0
  have hfz5_1 := blk_frozen BK101.out 1
  have hfz5_2 := blk_frozen BK101.out 2
  have hfz5_3 := blk_frozen BK101.out 3
  go_wp2_with (first | ((with_reducible refine gate_callee (f := 30) rfl ?_); refine goesL_ (some 5) rfl rfl Tryd.func30 (by kernel_rfl) rfl #[.agg #[.int .i64 a0_0, .int .i64 a0_1, .int .i64 a0_2, .int .i64 a0_3]] rfl (by (try simp only [List.map_toArray, List.map_cons, List.map_nil]); first | done | rfl | (simp only [List.length_drop, List.length_take]; rfl)) ?_; (with_reducible refine (span_May.calls a0_0 a0_1 a0_2 a0_3 t102 _ A4.out).mono ?_); rintro e w6 ⟨rfl, hb⟩; refine ⟨_, rfl, ?_⟩; have n0_ := Aside0.mk (blk_below (pkx BK101) hb); have n1_ := Aside0.mk (below_step (pbx HB) hb); clear BK101; clear HB; have BK101 := n0_; have HB := n1_; clear n0_ n1_; (try clear hb); (try clear hb2); (try clear hk); (try clear hi)))
  go_meet
  case rel => exact ⟨_, (!t102), (by first | rfl | (simp; done) | (simp [*]; done) | (cases t102 <;> simp; done)), H', ⟨by first | omega | exact Nat.le_refl _⟩, ⟨pkx BK101⟩, ⟨pbx HB⟩⟩
 case rest =>
  clear HC2
  try clear c2
  try clear p2
  try clear c3
  try clear hcz5_0
  try clear hcz5_1
  try clear hcz5_2
  try clear hcz5_3
  try clear hfz5_0
  try clear hfz5_1
  try clear hfz5_2
  try clear hfz5_3
  obtain ⟨kq, x3_1, rfl, HA, HJ1, BK101, HB⟩ := hcut
  cases kq with
  | zero => exact absurd HA.out (by simp [span_Text.j0])
  | succ kj1 =>
   have H := HA.out
   clear HA
   simp only [span_Text.j0] at H
   by_cases c7 : x3_1 = true
   ·
    subst c7
    have H1 : (some (⟨#[]⟩ : ByteArray)) = some r := by rw [if_pos rfl] at H; exact H
    clear H
    have H := H1
    clear H1
    obtain rfl := Option.some.inj H
    go_wp2
    go_ret
    exact ⟨by first | rfl | (simp [errW_none, errW_some] <;> rfl) | (simp [*, errW_none, errW_some] <;> rfl), pbx HB⟩
   ·
    replace c7 := Bool.eq_false_iff.mpr c7
    subst c7
    have H1 : (if (a0_0 == a0_2 && (a0_1 == a0_3)) = true then ((addr_Name.f kj1 a0_0 a0_1).bind fun t103 => (some t103)) else ((addr_Name.f kj1 a0_0 a0_1).bind fun t104 => (if t104.size + 1 ≤ 9223372036854775807 then ((addr_Name.f kj1 a0_2 a0_3).bind fun t105 => (if (t104 ++ (⟨#[58]⟩ : ByteArray)).size + t105.size ≤ 9223372036854775807 then (some ((t104 ++ (⟨#[58]⟩ : ByteArray)) ++ t105)) else (none))) else (none)))) = some r := by rw [if_neg (show ¬ (false = true) by decide)] at H; exact H
    clear H
    have H := H1
    clear H1
    by_cases c8 : (a0_0 == a0_2 && (a0_1 == a0_3)) = true
    ·
     rw [if_pos c8] at H
     have c8b0 : (a0_0 == a0_2 && (a0_1 == a0_3)) = true := c8
     (try (have c8b1 : decide (a0_0 = a0_2 && (a0_1 == a0_3)) = true := by simpa using c8))
     (try (have c8b2 : (a0_0 == a0_2 && (a0_1 == a0_3)) = true := by simpa using c8))
     clear c8
     replace H := Option.bind_eq_some_iff.mp H
     obtain ⟨t103, A90, H⟩ := H
     replace H : (some t103) = some r := H
     have A9 := Aside0.mk A90
     clear A90
     obtain rfl := Option.some.inj H
     have hcz10_0 : wc.cell? ⟨gb101, 0, none⟩ = some (.int .i64 a0_0) := (blk_cell BK101.out 0).trans rfl
     have hcz10_1 : wc.cell? ⟨gb101, 1, none⟩ = some (.int .i64 a0_1) := (blk_cell BK101.out 1).trans rfl
     have hcz10_2 : wc.cell? ⟨gb101, 2, none⟩ = some (.int .i64 a0_2) := (blk_cell BK101.out 2).trans rfl
     have hcz10_3 : wc.cell? ⟨gb101, 3, none⟩ = some (.int .i64 a0_3) := (blk_cell BK101.out 3).trans rfl
     have hfz10_0 := blk_frozen BK101.out 0
     have hfz10_1 := blk_frozen BK101.out 1
     have hfz10_2 := blk_frozen BK101.out 2
     have hfz10_3 := blk_frozen BK101.out 3
     go_wp2_with (first | ((with_reducible refine gate_callee (f := 12) rfl ?_); refine goesL_ (some 15) rfl rfl Tryd.func12 (by kernel_rfl) rfl #[.agg #[.int .i64 a0_0, .int .i64 a0_1]] rfl (by (try simp only [List.map_toArray, List.map_cons, List.map_nil]); first | done | rfl | (simp only [List.length_drop, List.length_take]; rfl)) ?_; (with_reducible refine (addr_Name.calls kj1 a0_0 a0_1 t103 _ (by refine tb_ ?_ hT; repeat' (first | exact pbx HB | assumption | refine below_set ?_ (Aside0.out ?_))) A9.out).mono ?_); rintro e w11 ⟨rfl, hb⟩; refine ⟨_, rfl, ?_⟩; have n0_ := Aside0.mk (blk_below (pkx BK101) hb); have n1_ := Aside0.mk (below_step (pbx HB) hb); clear BK101; clear HB; have BK101 := n0_; have HB := n1_; clear n0_ n1_; (try clear hb); (try clear hb2); (try clear hk); (try clear hi)))
     go_ret
     exact ⟨by first | rfl | (simp [errW_none, errW_some] <;> rfl) | (simp [*, errW_none, errW_some] <;> rfl), pbx HB⟩
    ·
     rw [if_neg c8] at H
     have c8b0 : (a0_0 == a0_2 && (a0_1 == a0_3)) = false := by simpa using c8
     (try (have c8b1 : decide (a0_0 = a0_2 && (a0_1 == a0_3)) = false := by simpa using c8))
     (try (have c8b2 : (a0_0 == a0_2 && (a0_1 == a0_3)) = false := by simpa using c8))
     (try (have c8b3 : ¬ (a0_0 = a0_2 && (a0_1 == a0_3)) := by simpa using c8))
     clear c8
     replace H := Option.bind_eq_some_iff.mp H
     obtain ⟨t104, A120, H⟩ := H
     replace H : (if t104.size + 1 ≤ 9223372036854775807 then ((addr_Name.f kj1 a0_2 a0_3).bind fun t105 => (if (t104 ++ (⟨#[58]⟩ : ByteArray)).size + t105.size ≤ 9223372036854775807 then (some ((t104 ++ (⟨#[58]⟩ : ByteArray)) ++ t105)) else (none))) else (none)) = some r := H
     have A12 := Aside0.mk A120
     clear A120
     by_cases c13 : t104.size + 1 ≤ 9223372036854775807
     ·
      rw [if_pos c13] at H
      have c13b0 := eq_true c13
      have c13b1 : decide (t104.size + 1 ≤ 9223372036854775807) = true := decide_eq_true c13
      try have c13b2 : (9223372036854775807 < t104.size + 1) = False := eq_false (Nat.not_lt.2 c13)
      replace H := Option.bind_eq_some_iff.mp H
      obtain ⟨t105, A140, H⟩ := H
      replace H : (if (t104 ++ (⟨#[58]⟩ : ByteArray)).size + t105.size ≤ 9223372036854775807 then (some ((t104 ++ (⟨#[58]⟩ : ByteArray)) ++ t105)) else (none)) = some r := H
      have A14 := Aside0.mk A140
      clear A140
      by_cases c15 : (t104 ++ (⟨#[58]⟩ : ByteArray)).size + t105.size ≤ 9223372036854775807
      ·
       rw [if_pos c15] at H
       have c15b0 := eq_true c15
       have c15b1 : decide ((t104 ++ (⟨#[58]⟩ : ByteArray)).size + t105.size ≤ 9223372036854775807) = true := decide_eq_true c15
       try have c15b2 : (9223372036854775807 < (t104 ++ (⟨#[58]⟩ : ByteArray)).size + t105.size) = False := eq_false (Nat.not_lt.2 c15)
       try have c15b2z : (9223372036854775807 < t104.size + 1 + t105.size) = False := by have h9_ := c15b2; rw [ByteArray.size_append] at h9_; exact h9_
       obtain rfl := Option.some.inj H
       have hcz16_0 : wc.cell? ⟨gb101, 0, none⟩ = some (.int .i64 a0_0) := (blk_cell BK101.out 0).trans rfl
       have hcz16_1 : wc.cell? ⟨gb101, 1, none⟩ = some (.int .i64 a0_1) := (blk_cell BK101.out 1).trans rfl
       have hcz16_2 : wc.cell? ⟨gb101, 2, none⟩ = some (.int .i64 a0_2) := (blk_cell BK101.out 2).trans rfl
       have hcz16_3 : wc.cell? ⟨gb101, 3, none⟩ = some (.int .i64 a0_3) := (blk_cell BK101.out 3).trans rfl
       have hfz16_0 := blk_frozen BK101.out 0
       have hfz16_1 := blk_frozen BK101.out 1
       have hfz16_2 := blk_frozen BK101.out 2
       have hfz16_3 := blk_frozen BK101.out 3
       try go_wp2
       (try (rw [drewN_self wc]; generalize hq_ : World.drewN wc _ = wc; have n0_ : Aside0 (wc.heap[gb101]? = some (.cells #[.int .i64 a0_0, .int .i64 a0_1, .int .i64 a0_2, .int .i64 a0_3] 42 (0, 0))) := ⟨by rw [← hq_]; exact (pkx BK101)⟩; have n1_ : Aside0 (Below w.heap.size w wc) := ⟨by rw [← hq_]; exact (pbx HB)⟩; clear BK101 HB hq_; have BK101 := n0_; have HB := n1_; clear n0_ n1_))
       have n0_ := Aside0.mk (blk_drew BK101.out)
       have n1_ := Aside0.mk (below_drew1 HB.out)
       clear BK101
       clear HB
       have BK101 := n0_
       have HB := n1_
       clear n0_ n1_
       refine start_ (n := 9) (S := fun w' => w'.cell? ⟨gb101, 0, none⟩ = some (.int .i64 a0_0) ∧ w'.cell? ⟨gb101, 1, none⟩ = some (.int .i64 a0_1) ∧ w'.cell? ⟨gb101, 2, none⟩ = some (.int .i64 a0_2) ∧ w'.cell? ⟨gb101, 3, none⟩ = some (.int .i64 a0_3)) (ds := []) #[false, false, false, false, false, false, false, false, false] (by kernel_rfl) rfl rfl ⟨(blk_cell BK101.out 0).trans rfl, (blk_cell BK101.out 1).trans rfl, (blk_cell BK101.out 2).trans rfl, (blk_cell BK101.out 3).trans rfl⟩ (fun hHeld => ?_); refine with_tabW span_Text.tab5 span_Text.bits5 (fun HT_ HW_ => ?_)
       generalize wc.drew = w17 at BK101 HB hHeld ⊢
       refine pure_ (i := 0) (N := some 16) (v := ?_) (a' := ?_) #[true, false, false, false, false, false, false, false, false] rfl rfl (any_of HT_.out (by kernel_rfl)) (fun _ _ _ h => h) (Or.inl ⟨by rfl, ?_⟩) ?_ ?_
       rotate_left
       ·
        intro w'
        go_simp
        with_reducible rfl
       rotate_left
       ·
        simp only [Act.put, q_, i64_w, i32_w]
        rfl
       refine pure_ (i := 4) (N := some 20) (v := ?_) (a' := ?_) #[true, false, false, false, true, false, false, false, false] rfl rfl (any_of HT_.out (by kernel_rfl)) (fun _ _ _ h => h) (Or.inl ⟨by rfl, ?_⟩) ?_ ?_
       rotate_left
       ·
        intro w'
        go_simp
        with_reducible rfl
       rotate_left
       ·
        simp only [Act.put, q_, i64_w, i32_w]
        rfl
       refine take_ (i := 1) (N := some 17) (v := ?_) (a' := ?_) #[true, true, false, false, true, false, false, false, false] rfl rfl (take_ofW HT_.out HW_.out (by kernel_rfl)) (fun _ _ _ h => h) (Or.inl ⟨by rfl, ?_⟩) hHeld ?_ ?_
       rotate_left
       ·
        rintro w' ⟨s0, s1, s2, s3⟩
        go_simp
        with_reducible rfl
       rotate_left
       ·
        simp only [Act.put, q_, i64_w, i32_w]
        rfl
       refine take_ (i := 5) (N := some 21) (v := ?_) (a' := ?_) #[true, true, false, false, true, true, false, false, false] rfl rfl (take_ofW HT_.out HW_.out (by kernel_rfl)) (fun _ _ _ h => h) (Or.inl ⟨by rfl, ?_⟩) hHeld ?_ ?_
       rotate_left
       ·
        rintro w' ⟨s0, s1, s2, s3⟩
        go_simp
        with_reducible rfl
       rotate_left
       ·
        simp only [Act.put, q_, i64_w, i32_w]
        rfl
       refine one_ (i := 2) (N := some 18) #[true, true, true, false, true, true, false, false, false] rfl rfl (one_of HT_.out (by kernel_rfl)) (by decide) (fun K hK => ?_)
       refine goes_ Tryd.func12 (by kernel_rfl) rfl #[.agg #[.int .i64 a0_0, .int .i64 a0_1]] (by rfl) rfl rfl (by (try simp only [List.map_toArray, List.map_cons, List.map_nil]); first | done | rfl | (simp only [List.length_drop, List.length_take]; rfl)) ?_
       with_reducible refine (addr_Name.calls kj1 a0_0 a0_1 t104 _ (by refine tb_ ?_ hT; repeat' (first | exact pbx HB | assumption | refine below_set ?_ (Aside0.out ?_))) A12.out).mono ?_
       rintro e w18 ⟨rfl, hb⟩
       refine ⟨_, rfl, ?_⟩
       have n0_ := Aside0.mk (blk_below (pkx BK101) hb)
       have n1_ := Aside0.mk (below_step (pbx HB) hb)
       clear BK101
       clear HB
       have BK101 := n0_
       have HB := n1_
       clear n0_ n1_
       (try clear hb)
       (try clear hb2)
       (try clear hk)
       (try clear hi)
       refine hK.out _ _ ⟨(blk_cell BK101.out 0).trans rfl, (blk_cell BK101.out 1).trans rfl, (blk_cell BK101.out 2).trans rfl, (blk_cell BK101.out 3).trans rfl⟩ (fun hHeld => ?_)
       clear hK K
       refine norm_ (a' := ?_) ?_ ?_
       rotate_left
       ·
        show Act.put _ (some 18) _ = _
        simp only [Act.put, q_, i64_w, i32_w]
        rfl
       refine pure_ (i := 3) (N := some 19) (v := ?_) (a' := ?_) #[true, true, true, true, true, true, false, false, false] rfl rfl (any_of HT_.out (by kernel_rfl)) (fun _ _ _ h => h) (Or.inl ⟨by rfl, ?_⟩) ?_ ?_
       rotate_left
       ·
        intro w'
        go_simp
        with_reducible rfl
       rotate_left
       ·
        simp only [Act.put, q_, i64_w, i32_w]
        rfl
       refine one_ (i := 6) (N := some 22) #[true, true, true, true, true, true, true, false, false] rfl rfl (one_of HT_.out (by kernel_rfl)) (by decide) (fun K hK => ?_)
       refine goes_ Tryd.func12 (by kernel_rfl) rfl #[.agg #[.int .i64 a0_2, .int .i64 a0_3]] (by rfl) rfl rfl (by (try simp only [List.map_toArray, List.map_cons, List.map_nil]); first | done | rfl | (simp only [List.length_drop, List.length_take]; rfl)) ?_
       with_reducible refine (addr_Name.calls kj1 a0_2 a0_3 t105 _ (by refine tb_ ?_ hT; repeat' (first | exact pbx HB | assumption | refine below_set ?_ (Aside0.out ?_))) A14.out).mono ?_
       rintro e w19 ⟨rfl, hb⟩
       refine ⟨_, rfl, ?_⟩
       have n0_ := Aside0.mk (blk_below (pkx BK101) hb)
       have n1_ := Aside0.mk (below_step (pbx HB) hb)
       clear BK101
       clear HB
       have BK101 := n0_
       have HB := n1_
       clear n0_ n1_
       (try clear hb)
       (try clear hb2)
       (try clear hk)
       (try clear hi)
       refine hK.out _ _ ⟨(blk_cell BK101.out 0).trans rfl, (blk_cell BK101.out 1).trans rfl, (blk_cell BK101.out 2).trans rfl, (blk_cell BK101.out 3).trans rfl⟩ (fun hHeld => ?_)
       clear hK K
       refine norm_ (a' := ?_) ?_ ?_
       rotate_left
       ·
        show Act.put _ (some 22) _ = _
        simp only [Act.put, q_, i64_w, i32_w]
        rfl
       refine pure_ (i := 7) (N := some 23) (v := ?_) (a' := ?_) #[true, true, true, true, true, true, true, true, false] rfl rfl (any_of HT_.out (by kernel_rfl)) (fun _ _ _ h => h) (Or.inl ⟨by rfl, ?_⟩) ?_ ?_
       rotate_left
       ·
        intro w'
        go_simp
        with_reducible rfl
       rotate_left
       ·
        simp only [Act.put, q_, i64_w, i32_w]
        rfl
       refine pure_ (i := 8) (N := some 2) (v := ?_) (a' := ?_) #[true, true, true, true, true, true, true, true, true] rfl rfl (any_of HT_.out (by kernel_rfl)) (fun _ _ _ h => h) (Or.inl ⟨by rfl, ?_⟩) ?_ ?_
       rotate_left
       ·
        intro w'
        go_simp
        with_reducible rfl
       rotate_left
       ·
        simp only [Act.put, q_, i64_w, i32_w]
        rfl
       refine done_ (done_of HT_.out (by kernel_rfl)) ?_
       try go_wp2
       go_ret
       exact ⟨by first | rfl | (simp [errW_none, errW_some] <;> rfl) | (simp [*, errW_none, errW_some] <;> rfl), pbx HB⟩
      ·
       rw [if_neg c15] at H
       exact absurd H (by simp)
     ·
      rw [if_neg c13] at H
      exact absurd H (by simp)

end Go.Proofs.YtjbdljolpkkhcaaDoor.X
/- Plain facts on whole numbers, bits and lists that the pure statements use. -/
set_option linter.unusedVariables false
set_option linter.unusedSimpArgs false
namespace Go.Proofs.YtjbdljolpkkhcaaDoor.X
open Go.RowKit Go.Proofs.YtjbdljolpkkhcaaDoorW.PrintWords Go.Proofs.YtjbdljolpkkhcaaDoorW.PrintLast Go.Proofs.YtjbdljolpkkhcaaDoorW.PrintMore

theorem wf_i64 {x : Int} (h : (Lit.int .i64 x).wf = true) : -9223372036854775808 ≤ x ∧ x ≤ 9223372036854775807 := by
  simp only [Lit.wf, IntKind.min, IntKind.max, IntKind.signed, IntKind.bits, Bool.and_eq_true, decide_eq_true_eq, if_true] at h
  omega
theorem wf_u64 {x : Int} (h : (Lit.int .u64 x).wf = true) : 0 ≤ x ∧ x < 18446744073709551616 := by
  simp [Lit.wf, IntKind.min, IntKind.max, IntKind.signed, IntKind.bits] at h
  omega
theorem wf_nat {x : Int} (h : (Lit.int .u64 x).wf = true) : ∃ n : Nat, x = (n : Int) ∧ n < 18446744073709551616 := by
  obtain ⟨h1, h2⟩ := wf_u64 h
  exact ⟨x.toNat, by omega, by omega⟩
theorem w64 {x : Int} (h0 : -9223372036854775808 ≤ x) (h1 : x ≤ 9223372036854775807) : wrap64 x = x := by unfold wrap64; omega
theorem w64s {i n : Nat} (h : i < n) (hn : n ≤ 9223372036854775807) : wrap64 ((i : Int) + 1) = ((i + 1 : Nat) : Int) := by unfold wrap64; omega

/-! Ev: with enough rounds. -/
theorem ev_now {α : Type} (r : α) : Ev (fun _ : Nat => some r) r := Ev.now r
theorem ev_some {α : Type} {g : Nat → Option α} {r : α} (h : ∀ k, g k = some r) : Ev g r := ⟨0, fun k _ => h k⟩
theorem ev_ite {α : Type} {c : Prop} [Decidable c] {f g : Nat → Option α} {r : α} (h1 : c → Ev f r) (h2 : ¬ c → Ev g r) : Ev (fun k => if c then f k else g k) r := by
  by_cases h : c
  · simp only [if_pos h]; exact h1 h
  · simp only [if_neg h]; exact h2 h
theorem ev_pos {α : Type} {c : Prop} [Decidable c] {f g : Nat → Option α} {r : α} (h : c) (h1 : Ev f r) : Ev (fun k => if c then f k else g k) r := by simp only [if_pos h]; exact h1
theorem ev_neg {α : Type} {c : Prop} [Decidable c] {f g : Nat → Option α} {r : α} (h : ¬ c) (h1 : Ev g r) : Ev (fun k => if c then f k else g k) r := by simp only [if_neg h]; exact h1
theorem ev_bind {α β : Type} {g : Nat → Option α} {f : Nat → α → Option β} {a : α} {r : β} (h : Ev g a) (k : Ev (fun n => f n a) r) : Ev (fun n => (g n).bind (f n)) r := Ev.bind h k
theorem ev_bsome {α β : Type} {x : α} {f : Nat → α → Option β} {r : β} (k : Ev (fun n => f n x) r) : Ev (fun n => (some x).bind (f n)) r := k

/-! Bits. -/
theorem mod_pow_succ (x i : Nat) : x % 2 ^ (i + 1) = x % 2 ^ i + 2 ^ i * (x.testBit i).toNat := by
  rw [Nat.pow_succ, Nat.mod_mul, Nat.testBit_eq_decide_div_mod_eq]
  have := Nat.mod_two_eq_zero_or_one (x / 2 ^ i)
  rcases this with h | h <;> simp [h]
theorem and_compl (a b : Nat) (ha : a < 2 ^ 64) (hb : b < 2 ^ 64) : (a &&& (18446744073709551615 - b) = 0) ↔ (a &&& b = a) := by
  have e : 18446744073709551615 - b = 2 ^ 64 - (b + 1) := by omega
  rw [e]
  constructor
  · intro h
    apply Nat.eq_of_testBit_eq
    intro i
    have := congrArg (fun n => Nat.testBit n i) h
    simp only [Nat.testBit_and, Nat.testBit_two_pow_sub_succ hb, Nat.zero_testBit] at this
    rw [Nat.testBit_and]
    by_cases hi : i < 64
    · simp [hi] at this
      cases h1 : a.testBit i <;> simp_all
    · have : a.testBit i = false := Nat.testBit_lt_two_pow (Nat.lt_of_lt_of_le ha (Nat.pow_le_pow_right (by omega) (by omega)))
      simp [this]
  · intro h
    apply Nat.eq_of_testBit_eq
    intro i
    have := congrArg (fun n => Nat.testBit n i) h
    simp only [Nat.testBit_and] at this
    rw [Nat.testBit_and, Nat.testBit_two_pow_sub_succ hb, Nat.zero_testBit]
    cases h1 : a.testBit i <;> simp_all
theorem within_iff (a b : Nat) (ha : a < 18446744073709551616) (hb : b < 18446744073709551616) : (Go.bits .andNot .u64 (a : Int) (b : Int) == 0) = decide (a &&& b = a) := by
  rw [u64_andNot _ _ (by omega) (by omega) (by omega) (by omega)]
  rw [Bool.eq_iff_iff]
  simp only [Int.toNat_natCast, beq_iff_eq, decide_eq_true_eq]
  rw [← and_compl a b ha hb]
  omega
end Go.Proofs.YtjbdljolpkkhcaaDoor.X
/- The iterator of span.All: a span's cells, row by row; for every loop body that keeps blocks of the span's type. -/
set_option linter.unusedVariables false
set_option linter.unusedSimpArgs false
namespace Go.Proofs.YtjbdljolpkkhcaaDoor.X
open Go.RowKit Go.Shelf Go.Proofs.YtjbdljolpkkhcaaDoorW.PrintWords Go.Proofs.YtjbdljolpkkhcaaDoorW.PrintLast Go.Proofs.YtjbdljolpkkhcaaDoorW.PrintMore
attribute [local go_sem] Oper.semAt_some
/-- Blocks of type t lie as they lay. -/
structure KeepT (t : TypeId) (W W' : World) : Prop where
  size : W.heap.size ≤ W'.heap.size
  same : ∀ (k : Nat) (cs : Array Value), W.heap[k]? = some (Obj.cells cs t (0, 0)) → W'.heap[k]? = some (Obj.cells cs t (0, 0))
/-- The cells of a straight span, row by row. -/
def rowL (c0 : Int) (r : Int) (n : Nat) : List S23 := (List.range n).map fun (j : Nat) => ⟨r, c0 + (j : Int)⟩
def rowsLs (c0 : Int) (m : Nat) (r0 : Int) (n : Nat) : List S23 := (List.range n).flatMap fun (i : Nat) => rowL c0 (r0 + (i : Int)) m
def cellsL (r0 c0 r1 c1 : Int) : List S23 := rowsLs c0 (c1 - c0 + 1).toNat r0 (r1 - r0 + 1).toNat
def encC (x : S23) : Value := .agg #[.int .i64 x.f0, .int .i64 x.f1]
theorem rowL_succ (c0 r : Int) (n : Nat) : rowL c0 r (n + 1) = rowL c0 r n ++ [⟨r, c0 + (n : Int)⟩] := by simp [rowL, List.range_succ]
theorem rowsLs_succ (c0 : Int) (m : Nat) (r0 : Int) (n : Nat) : rowsLs c0 m r0 (n + 1) = rowsLs c0 m r0 n ++ rowL c0 (r0 + (n : Int)) m := by simp [rowsLs, List.range_succ, List.flatMap_append]
theorem rowL_length (c0 r : Int) (n : Nat) : (rowL c0 r n).length = n := by simp [rowL]
theorem rowsLs_length (c0 : Int) (m : Nat) (r0 : Int) : ∀ n, (rowsLs c0 m r0 n).length = n * m
  | 0 => by simp [rowsLs]
  | n + 1 => by rw [rowsLs_succ, List.length_append, rowsLs_length c0 m r0 n, rowL_length, Nat.succ_mul]
theorem abides_below {β : Type} {B : Nat} {J : β → World → Prop} (hJ : AbidesFrom B J) {s : β} {W W' : World} (h : J s W) (hb : Below W.heap.size W W') : J s W' :=
  hJ s W W' none h ⟨hb.os, hb.tape, hb.output, hb.size, fun k hk _ => hb.block k hk⟩ (fun r e => by cases e)
set_option maxRecDepth 100000 in
set_option maxHeartbeats 4000000 in
theorem span_All1_in (n : Nat) (hn : 1 ≤ n) (l Bn : Nat) (a0 a1 a2 a3 t0 t1 t2 t3 : Int) (J Jx : List S23 → World → Prop) (W : World) (hJ : AbidesFrom W.heap.size J)
    (hm : span_May.f a0 a1 a2 a3 = some true) (hs : span_Straight.f a0 a1 a2 a3 = some (t0, t1, t2, t3)) (hb0 : 0 ≤ t0 ∧ 0 ≤ t1 ∧ t2 < 1000 ∧ t3 < 1000 ∧ t0 ≤ t2 ∧ t1 ≤ t3)
    (hY : ∀ pre x W1, J pre W1 → pre.length < (cellsL t0 t1 t2 t3).length → YieldAt Fence.wide (n - 1) Tryd.prog l #[encC x] W1 fun e W' =>
      (e = .returned (.bool true) ∧ J (pre ++ [x]) W' ∧ KeepT 42 W1 W') ∨ (e = .returned (.bool false) ∧ Jx (pre ++ [x]) W'))
    (hBn : W.heap[Bn]? = some (.cells #[.int .i64 a0, .int .i64 a1, .int .i64 a2, .int .i64 a3] 42 (0, 0))) (h0 : J [] W) :
    CallsIn Fence.wide n Tryd.prog 53 #[.func (.yield l) #[] #[], .pointer (some ⟨Bn, 0, none⟩)] W fun e W' => (∃ v, e = .returned v) ∧
      ((∃ ys, ys = cellsL t0 t1 t2 t3 ∧ J ys W') ∨ (∃ pre, True ∧ Jx pre W')) := by
  have hu26 := Tryd.underlying42
  have c0 : W.cell? ⟨Bn, 0, none⟩ = some (.int .i64 a0) := by simp [World.cell?, hBn]
  have c1 : W.cell? ⟨Bn, 1, none⟩ = some (.int .i64 a1) := by simp [World.cell?, hBn]
  have c2 : W.cell? ⟨Bn, 2, none⟩ = some (.int .i64 a2) := by simp [World.cell?, hBn]
  have c3 : W.cell? ⟨Bn, 3, none⟩ = some (.int .i64 a3) := by simp [World.cell?, hBn]
  refine callsIn_of_wp Tryd.func53 rfl trivial ?_ rfl
  simp only [Tryd.ntmps53, List.size_toArray, List.length_cons, List.length_nil, Nat.reduceAdd, Nat.reduceSub, Array.replicate_succ, Array.replicate_zero, List.push_toArray, List.append_toArray, List.nil_append, List.cons_append]
  gi_wp2_with (first
    | (refine ⟨trivial, ?_⟩; gi_at_call 30; refine (callsIn_wide.2 (span_May.calls a0 a1 a2 a3 true _ hm)).mono ?_; rintro e w' ⟨rfl, hb⟩; have hlt : Bn < W.heap.size := (Array.getElem?_eq_some_iff.1 hBn).1; have d0 := (hb.cell (p := ⟨Bn, 0, none⟩) hlt).trans c0; have d1 := (hb.cell (p := ⟨Bn, 1, none⟩) hlt).trans c1; have d2 := (hb.cell (p := ⟨Bn, 2, none⟩) hlt).trans c2; have d3 := (hb.cell (p := ⟨Bn, 3, none⟩) hlt).trans c3; clear c0 c1 c2 c3)
    | (refine ⟨trivial, ?_⟩; gi_at_call 34; refine (callsIn_wide.2 (span_Straight.calls a0 a1 a2 a3 t0 t1 t2 t3 _ hs)).mono ?_; rintro e w2 ⟨rfl, hb2⟩))
  have hB2 : Below W.heap.size W w2 := hb.trans (hb2.mono hb.size)
  have hJ1 := abides_below hJ h0 (hB2.alloc hB2.size (.cells #[.int .i64 t0, .int .i64 t1, .int .i64 t2, .int .i64 t3] 42))
  have hT0 := World.alloc_heap_new w2 (.cells #[.int .i64 t0, .int .i64 t1, .int .i64 t2, .int .i64 t3] 42)
  obtain ⟨W2, hW2⟩ : ∃ W2, w2.alloc (.cells #[.int .i64 t0, .int .i64 t1, .int .i64 t2, .int .i64 t3] 42) = W2 := ⟨_, rfl⟩
  rw [hW2] at hJ1 hT0 ⊢
  clear hW2
  obtain ⟨T, hT⟩ : ∃ T, w2.heap.size = T := ⟨_, rfl⟩
  rw [hT] at hT0 ⊢
  clear hT d0 d1 d2 d3 hb hb2 hB2
  obtain ⟨m, hm_⟩ : ∃ m, (t3 - t1 + 1).toNat = m := ⟨_, rfl⟩
  have hlen : ∀ (i j : Nat), i < (t2 - t0 + 1).toNat → j < m → (rowsLs t1 m t0 i ++ rowL t1 (t0 + (i : Int)) j).length < (cellsL t0 t1 t2 t3).length := by
    intro i j hi hj
    have h1 : ∀ n, (rowL t1 (t0 + (i : Int)) n).length = n := by intro n; simp [rowL]
    have h2 : ∀ n, (rowsLs t1 m t0 n).length = n * m := rowsLs_length t1 m t0
    unfold cellsL
    rw [hm_, List.length_append, h1, h2, h2]
    have h3 : (i + 1) * m ≤ (t2 - t0 + 1).toNat * m := Nat.mul_le_mul_right m (by omega)
    rw [Nat.succ_mul] at h3
    omega
  gi_loopw [4] (fun p wr => ∃ i : Nat, p = .int .i64 (t0 + (i : Int)) ∧ i ≤ (t2 - t0 + 1).toNat ∧ wr.heap[T]? = some (.cells #[.int .i64 t0, .int .i64 t1, .int .i64 t2, .int .i64 t3] 42 (0, 0)) ∧ J (rowsLs t1 m t0 i) wr) (fun p wr => (t2 + 1 - intOf p).toNat)
  case atStart =>
    exact ⟨0, by simp, by omega, hT0, hJ1⟩
  case round =>
    obtain ⟨i, rfl, hi, hT, hJs⟩ := hrel
    have e0 : wr.cell? ⟨T, 0, none⟩ = some (.int .i64 t0) := by simp [World.cell?, hT]
    have e1 : wr.cell? ⟨T, 1, none⟩ = some (.int .i64 t1) := by simp [World.cell?, hT]
    have e2 : wr.cell? ⟨T, 2, none⟩ = some (.int .i64 t2) := by simp [World.cell?, hT]
    by_cases hc : t0 + (i : Int) ≤ t2
    · have hd : decide (t0 + (i : Int) ≤ t2) = true := decide_eq_true hc
      gi_wp2
      gi_loopw [5] (fun p w3 => ∃ j : Nat, p = .int .i64 (t1 + (j : Int)) ∧ j ≤ m ∧ w3.heap[T]? = some (.cells #[.int .i64 t0, .int .i64 t1, .int .i64 t2, .int .i64 t3] 42 (0, 0)) ∧ J (rowsLs t1 m t0 i ++ rowL t1 (t0 + (i : Int)) j) w3) (fun p w3 => (t3 + 1 - intOf p).toNat)
      case atStart =>
        exact ⟨0, by simp, by omega, hT, by simpa [rowL] using hJs⟩
      case round =>
        obtain ⟨j, rfl, hj, hT3, hJ3⟩ := hrel
        have f3 : wr.cell? ⟨T, 3, none⟩ = some (.int .i64 t3) := by simp [World.cell?, hT3]
        by_cases hc2 : t1 + (j : Int) ≤ t3
        · have hd2 : decide (t1 + (j : Int) ≤ t3) = true := decide_eq_true hc2
          obtain ⟨fn, tmps, assign, body, hy, hR⟩ := hY (rowsLs t1 m t0 i ++ rowL t1 (t0 + (i : Int)) j) ⟨t0 + (i : Int), t1 + (j : Int)⟩ wr hJ3 (hlen i j (by omega) (by omega))
          dsimp only [encC] at hy
          gi_wp2
          refine hR.mono ?_
          rintro e W3 (⟨rfl, hJ4, hk⟩ | ⟨rfl, hJx4⟩)
          · gi_wp2
            go_roundw
            case rel => exact ⟨j + 1, by first | (congr 1; rw [w64 (by omega) (by omega)]; omega) | go_num, by omega, hk.same _ _ hT3, by rw [rowL_succ, ← List.append_assoc]; exact hJ4⟩
            case measure => simp only [intOf]; first | omega | (rw [w64 (by omega) (by omega)]; omega)
          · gi_wp2
            refine bodyPost_ret (results_none rfl _ _ _) rfl ?_
            exact ⟨⟨_, rfl⟩, .inr ⟨_, trivial, hJx4⟩⟩
        · have hd2 : decide (t1 + (j : Int) ≤ t3) = false := decide_eq_false hc2
          gi_wp2
          go_roundw
          case rel => exact ⟨i + 1, by first | (congr 1; rw [w64 (by omega) (by omega)]; omega) | go_num, by omega, hT3, by rw [rowsLs_succ]; rw [show m = j by omega] at hJ3 ⊢; exact hJ3⟩
          case measure => simp only [intOf]; first | omega | (rw [w64 (by omega) (by omega)]; omega)
    · have hd : decide (t0 + (i : Int) ≤ t2) = false := decide_eq_false hc
      gi_wp2
      go_end0
      refine ⟨⟨_, rfl⟩, .inl ?_⟩
      unfold cellsL
      rw [hm_, show (t2 - t0 + 1).toNat = i by omega]
      exact hJs
set_option maxRecDepth 100000 in
set_option maxHeartbeats 4000000 in
theorem span_All1_none (n : Nat) (hn : 1 ≤ n) (l Bn : Nat) (a0 a1 a2 a3 : Int) (J Jx : List S23 → World → Prop) (W : World) (hJ : AbidesFrom W.heap.size J)
    (hm : span_May.f a0 a1 a2 a3 = some false)
    (hBn : W.heap[Bn]? = some (.cells #[.int .i64 a0, .int .i64 a1, .int .i64 a2, .int .i64 a3] 42 (0, 0))) (h0 : J [] W) :
    CallsIn Fence.wide n Tryd.prog 53 #[.func (.yield l) #[] #[], .pointer (some ⟨Bn, 0, none⟩)] W fun e W' => (∃ v, e = .returned v) ∧
      ((∃ ys, ys = [] ∧ J ys W') ∨ (∃ pre, True ∧ Jx pre W')) := by
  have hu26 := Tryd.underlying42
  have c0 : W.cell? ⟨Bn, 0, none⟩ = some (.int .i64 a0) := by simp [World.cell?, hBn]
  have c1 : W.cell? ⟨Bn, 1, none⟩ = some (.int .i64 a1) := by simp [World.cell?, hBn]
  have c2 : W.cell? ⟨Bn, 2, none⟩ = some (.int .i64 a2) := by simp [World.cell?, hBn]
  have c3 : W.cell? ⟨Bn, 3, none⟩ = some (.int .i64 a3) := by simp [World.cell?, hBn]
  refine callsIn_of_wp Tryd.func53 rfl trivial ?_ rfl
  simp only [Tryd.ntmps53, List.size_toArray, List.length_cons, List.length_nil, Nat.reduceAdd, Nat.reduceSub, Array.replicate_succ, Array.replicate_zero, List.push_toArray, List.append_toArray, List.nil_append, List.cons_append]
  gi_wp2_with (refine ⟨trivial, ?_⟩; gi_at_call 30; refine (callsIn_wide.2 (span_May.calls a0 a1 a2 a3 false _ hm)).mono ?_; rintro e w' ⟨rfl, hb⟩)
  refine bodyPost_ret (results_none rfl _ _ _) rfl ?_
  exact ⟨⟨_, rfl⟩, .inl ⟨[], rfl, abides_below hJ h0 hb⟩⟩
theorem KeepT.trans {t : TypeId} {A B C : World} (h : KeepT t A B) (k : KeepT t B C) : KeepT t A C := ⟨Nat.le_trans h.size k.size, fun i cs hi => k.same i cs (h.same i cs hi)⟩
theorem KeepT.refl (t : TypeId) (W : World) : KeepT t W W := ⟨Nat.le_refl _, fun _ _ h => h⟩
theorem KeepT.put {t : TypeId} (W : World) (l : Nat) (o o' : Obj) (hl : W.heap[l]? = some o) (ho : o.isCells = false) : KeepT t W (W.putObj l o') :=
  ⟨Nat.le_of_eq (by simp), fun k cs hk => by
    by_cases h : k = l
    · subst h; rw [hl] at hk; cases hk; cases ho
    · exact (World.putObj_heap_other (by omega)).trans hk⟩
theorem KeepT.alloc {t : TypeId} (W : World) (o : Obj) : KeepT t W (W.alloc o) :=
  ⟨by simp, fun k cs hk => (Below.heap_alloc W o k (Array.getElem?_eq_some_iff.1 hk).1).trans hk⟩
/-- The list that All goes through. -/
def allF (a0 a1 a2 a3 : Int) : Option (List S23) := (span_May.f a0 a1 a2 a3).bind fun m => if m = true then (span_Straight.f a0 a1 a2 a3).bind fun t => some (cellsL t.1 t.2.1 t.2.2.1 t.2.2.2) else some []
theorem may_bounds {a0 a1 a2 a3 : Int} (h : span_May.f a0 a1 a2 a3 = some true) : (0 ≤ a0 ∧ a0 < 999) ∧ (0 ≤ a1 ∧ a1 < 702) ∧ (0 ≤ a2 ∧ a2 < 999) ∧ (0 ≤ a3 ∧ a3 < 702) := by
  unfold span_May.f addr_May.f at h
  by_cases h1 : a0 ≥ 0 <;> by_cases h2 : a0 < 999 <;> by_cases h3 : a1 ≥ 0 <;> simp only [h1, h2, h3, if_true, if_false, Option.bind_some] at h <;> try (simp at h; done)
  by_cases h4 : a1 < 702 <;> simp [h4] at h
  by_cases h5 : a2 ≥ 0 <;> by_cases h6 : a2 < 999 <;> by_cases h7 : a3 ≥ 0 <;> simp only [h5, h6, h7, if_true, if_false, Option.some.injEq, decide_eq_true_eq] at h <;> try (simp at h; done)
  omega
theorem straight_eq {a0 a1 a2 a3 : Int} (h : span_May.f a0 a1 a2 a3 = some true) : span_Straight.f a0 a1 a2 a3 = some (mn a0 a2, mn a1 a3, mx a0 a2, mx a1 a3) := by
  unfold span_Straight.f
  rw [h]
  rfl
theorem span_All_stops (n : Nat) (hn : 1 ≤ n) (Bn : Nat) (a0 a1 a2 a3 : Int) (L : List S23) (hL : allF a0 a1 a2 a3 = some L) (w : World) (hlt : Bn < w.heap.size)
    (hBn : w.heap[Bn]? = some (.cells #[.int .i64 a0, .int .i64 a1, .int .i64 a2, .int .i64 a3] 42 (0, 0))) :
    SeqStopsK Fence.wide n Tryd.prog 53 #[.pointer (some ⟨Bn, 0, none⟩)] (fun x : S23 => #[Value.agg #[.int .i64 x.f0, .int .i64 x.f1]]) (KeepT 42) (fun ys => ys = L) (fun _ => True) L.length w := by
  intro l J Jx W hW hJ _ hY h0
  have hB := (hW.block Bn hlt).trans hBn
  unfold allF at hL
  obtain ⟨m, hm, hL⟩ := Option.bind_eq_some_iff.1 hL
  cases m with
  | false =>
    rw [if_neg (by simp)] at hL
    obtain rfl := Option.some.inj hL
    exact span_All1_none n hn l Bn a0 a1 a2 a3 J Jx W hJ hm hB h0
  | true =>
    rw [if_pos rfl, straight_eq hm] at hL
    obtain rfl := Option.some.inj hL
    have hb := may_bounds hm
    have hh : 0 ≤ mn a0 a2 ∧ 0 ≤ mn a1 a3 ∧ mx a0 a2 < 1000 ∧ mx a1 a3 < 1000 ∧ mn a0 a2 ≤ mx a0 a2 ∧ mn a1 a3 ≤ mx a1 a3 := by
      unfold mn mx
      refine ⟨?_, ?_, ?_, ?_, ?_, ?_⟩ <;> (repeat' split) <;> omega
    exact span_All1_in n hn l Bn a0 a1 a2 a3 _ _ _ _ J Jx W hJ hm (straight_eq hm) hh hY hB h0
set_option maxHeartbeats 1000000 in
theorem span_All_in (n : Nat) (a0 a1 a2 a3 : Int) (w : World) :
    CallsIn Fence.wide n Tryd.prog 44 #[.agg #[.int .i64 a0, .int .i64 a1, .int .i64 a2, .int .i64 a3]] w fun e w' => e = .returned (.func (.func 53) #[] #[.pointer (some ⟨w.heap.size, 0, none⟩)]) ∧ w' = w.alloc (.cells #[.int .i64 a0, .int .i64 a1, .int .i64 a2, .int .i64 a3] 42) := by
  refine callsIn_of_wp Tryd.func44 rfl trivial ?_ rfl
  simp only [Tryd.ntmps44, List.size_toArray, List.length_cons, List.length_nil, Nat.reduceAdd, Nat.reduceSub, Array.replicate_succ, Array.replicate_zero, List.push_toArray, List.append_toArray, List.nil_append, List.cons_append]
  gi_wp2
  go_ret
  exact ⟨rfl, rfl⟩
end Go.Proofs.YtjbdljolpkkhcaaDoor.X
/- The contract of span.Cells: a row of the span's cells, of the call's own. -/
set_option linter.unusedVariables false
set_option linter.unusedSimpArgs false
namespace Go.Proofs.YtjbdljolpkkhcaaDoor.X
open Go.RowKit Go.Shelf Go.Proofs.YtjbdljolpkkhcaaDoorW.PrintWords Go.Proofs.YtjbdljolpkkhcaaDoorW.PrintLast Go.Proofs.YtjbdljolpkkhcaaDoorW.PrintMore
attribute [local go_sem] Oper.semAt_some
def cellsV (l : List S23) : List Value := l.flatMap fun c => [.int .i64 c.f0, .int .i64 c.f1]
theorem cellsV_snoc (l : List S23) (c : S23) : cellsV (l ++ [c]) = cellsV l ++ [.int .i64 c.f0, .int .i64 c.f1] := by simp [cellsV, List.flatMap_append]
theorem cell_two_new (w : World) (x y : Value) (t : TypeId) : ∀ j u, [x, y][j]? = some u → (w.alloc (.cells #[x, y] t)).cell? ((⟨w.heap.size, 0, none⟩ : Addr).add j) = some u := by
  intro j u hj
  have hh := World.alloc_heap_new w (.cells #[x, y] t)
  match j, hj with
  | 0, hj => simp at hj; subst hj; show (World.cell? _ ⟨w.heap.size, 0, none⟩) = _; unfold World.cell?; rw [hh]; rfl
  | 1, hj => simp at hj; subst hj; show (World.cell? _ ⟨w.heap.size, 0 + 1, none⟩) = _; unfold World.cell?; rw [hh]; rfl
  | j + 2, hj => simp at hj
theorem keepT_grown {t : TypeId} {W W' : World} {row : Option Nat} (hg : W.grownBy W' row) (hr : ∀ k cs, row = some k → W.heap[k]? ≠ some (Obj.cells cs t (0, 0))) : KeepT t W W' :=
  ⟨hg.size, fun k cs hk => (hg.block k (Array.getElem?_eq_some_iff.1 hk).1 (fun e => hr k cs e.symm hk)).trans hk⟩
theorem keepT_setCell {t t' : TypeId} {W : World} {B : Nat} {cs : Array Value} (hB : W.heap[B]? = some (.cells cs t' (0, 0))) (hne : t' ≠ t) (u : Value) : KeepT t W (W.setCell ⟨B, 0, none⟩ u) :=
  ⟨by simp [World.setCell], fun k c hk => by
    by_cases h : k = B
    · subst h; rw [hB] at hk; cases hk; exact absurd rfl hne
    · exact (Below.heap_setCell W ⟨B, 0, none⟩ u k h).trans hk⟩
theorem cell_al {W : World} {a : Addr} {v : Value} (o : Obj) (h : W.cell? a = some v) : (W.alloc o).cell? a = some v := cell_kept h (World.grownBy_alloc W o none) (fun r e => by cases e)
theorem cells_reps {R : S23 → List Value → Prop} (hR : ∀ c, R c [.int .i64 c.f0, .int .i64 c.f1]) : ∀ (l pre : List S23), Reps R 2 pre (cellsV pre) → Reps R 2 (pre ++ l) (cellsV (pre ++ l))
  | [], pre, h => by simpa using h
  | c :: l, pre, h => by
    have := cells_reps hR l (pre ++ [c]) (by rw [cellsV_snoc]; exact Reps.snoc h (hR c) rfl)
    simpa using this
theorem cells_R {W : World} {base : Nat} {v : Value} {l : List S23} (h : W.ownsRow base 23 2 v l.length (cellsV l)) : Kd.R k23 23 W base (fun _ => True) v l :=
  ⟨fun _ _ => trivial, cellsV l, h, cells_reps (fun c => k23_mkM W base _ c) l [] (Reps.none _ _)⟩
def span_Cells.f (a0 a1 a2 a3 : Int) : Option (List S23) := (span_Size.f a0 a1 a2 a3).bind fun n => if n > 1000 then some [] else allF a0 a1 a2 a3
theorem allF_short {a0 a1 a2 a3 n : Int} {L : List S23} (hs : span_Size.f a0 a1 a2 a3 = some n) (hn : n ≤ 1000) (hL : allF a0 a1 a2 a3 = some L) : L.length ≤ 1000 := by
  unfold allF at hL
  obtain ⟨m, hm, hL⟩ := Option.bind_eq_some_iff.1 hL
  cases m with
  | false =>
    rw [if_neg (by simp)] at hL
    obtain rfl := Option.some.inj hL
    simp
  | true =>
    rw [if_pos rfl, straight_eq hm] at hL
    obtain rfl := Option.some.inj hL
    have hb := may_bounds hm
    unfold span_Size.f span_Rows.f span_Cols.f at hs
    rw [hm, straight_eq hm] at hs
    simp only [Option.bind_some, if_true, Option.some.injEq] at hs
    simp only [cellsL, rowsLs_length]
    have hh : mn a0 a2 ≤ mx a0 a2 ∧ mn a1 a3 ≤ mx a1 a3 ∧ 0 ≤ mn a0 a2 ∧ 0 ≤ mn a1 a3 ∧ mx a0 a2 < 1000 ∧ mx a1 a3 < 1000 := by
      unfold mn mx
      refine ⟨?_, ?_, ?_, ?_, ?_, ?_⟩ <;> (repeat' split) <;> omega
    generalize mn a0 a2 = p0 at *
    generalize mn a1 a3 = p1 at *
    generalize mx a0 a2 = p2 at *
    generalize mx a1 a3 = p3 at *
    rw [w64 (x := p2 - p0) (by omega) (by omega), w64 (x := p2 - p0 + 1) (by omega) (by omega), w64 (x := p3 - p1) (by omega) (by omega), w64 (x := p3 - p1 + 1) (by omega) (by omega)] at hs
    obtain ⟨x, hx⟩ : ∃ x : Nat, p2 - p0 + 1 = (x : Int) := ⟨(p2 - p0 + 1).toNat, by omega⟩
    obtain ⟨y, hy⟩ : ∃ y : Nat, p3 - p1 + 1 = (y : Int) := ⟨(p3 - p1 + 1).toNat, by omega⟩
    rw [hx, hy] at hs ⊢
    have hxy : x * y ≤ 1000 * 1000 := Nat.mul_le_mul (by omega) (by omega)
    have hc : (x : Int) * (y : Int) = ((x * y : Nat) : Int) := by simp
    rw [hc, w64 (by omega) (by omega)] at hs
    simp only [Int.toNat_natCast]
    omega
set_option maxRecDepth 100000 in
set_option maxHeartbeats 4000000 in
theorem span_Cells.calls (a0 a1 a2 a3 : Int) (r : List S23) (w : World) (h : span_Cells.f a0 a1 a2 a3 = some r) :
    Calls Tryd.prog 41 #[.agg #[.int .i64 a0, .int .i64 a1, .int .i64 a2, .int .i64 a3]] w fun e w' => ∃ v0_ : Value, e = .returned (v0_) ∧ Kd.R k23 23 w' w.heap.size (fun _ => True) v0_ r ∧ Below w.heap.size w w' := by
  have hu26 := Tryd.underlying42
  have hu24 := Tryd.underlying23
  unfold span_Cells.f at h
  obtain ⟨n, hn, h⟩ := Option.bind_eq_some_iff.1 h
  have hb1 : Below w.heap.size w (w.alloc (.cells #[.int .i64 a0, .int .i64 a1, .int .i64 a2, .int .i64 a3] 42)) := (Below.refl _ w).alloc (Nat.le_refl _) _
  have hT0 := World.alloc_heap_new w (.cells #[.int .i64 a0, .int .i64 a1, .int .i64 a2, .int .i64 a3] 42)
  have b0 : (w.alloc (.cells #[.int .i64 a0, .int .i64 a1, .int .i64 a2, .int .i64 a3] 42)).cell? ⟨w.heap.size, 0, none⟩ = some (.int .i64 a0) := by unfold World.cell?; rw [hT0]; rfl
  have b1 : (w.alloc (.cells #[.int .i64 a0, .int .i64 a1, .int .i64 a2, .int .i64 a3] 42)).cell? ⟨w.heap.size, 1, none⟩ = some (.int .i64 a1) := by unfold World.cell?; rw [hT0]; rfl
  have b2 : (w.alloc (.cells #[.int .i64 a0, .int .i64 a1, .int .i64 a2, .int .i64 a3] 42)).cell? ⟨w.heap.size, 2, none⟩ = some (.int .i64 a2) := by unfold World.cell?; rw [hT0]; rfl
  have b3 : (w.alloc (.cells #[.int .i64 a0, .int .i64 a1, .int .i64 a2, .int .i64 a3] 42)).cell? ⟨w.heap.size, 3, none⟩ = some (.int .i64 a3) := by unfold World.cell?; rw [hT0]; rfl
  refine (callsIn_wide (n := 3)).1 ?_
  by_cases hc : n > 1000
  · rw [if_pos hc] at h
    obtain rfl := Option.some.inj h
    have hd : decide (n > 1000) = true := decide_eq_true hc
    refine callsIn_of_wp Tryd.func41 rfl trivial ?_ rfl
    simp only [Tryd.ntmps41, List.size_toArray, List.length_cons, List.length_nil, Nat.reduceAdd, Nat.reduceSub, Array.replicate_succ, Array.replicate_zero, List.push_toArray, List.append_toArray, List.nil_append, List.cons_append]
    gi_wp2_with (refine ⟨trivial, ?_⟩; gi_at_call 40; refine (callsIn_wide.2 (span_Size.calls a0 a1 a2 a3 n _ hn)).mono ?_; rintro e w1 ⟨rfl, hb2⟩)
    go_ret
    exact ⟨_, rfl, Kd.R_nil _ _ _ _ _, hb1.trans (hb2.mono hb1.size)⟩
  · rw [if_neg hc] at h
    have hd : decide (n > 1000) = false := decide_eq_false hc
    have hlen := allF_short hn (by omega) h
    have hlt : w.heap.size < (w.alloc (.cells #[.int .i64 a0, .int .i64 a1, .int .i64 a2, .int .i64 a3] 42)).heap.size := by rw [World.size_alloc]; omega
    obtain ⟨i0, hi, hz0, hz1, hz2⟩ := info_parts info23
    refine callsIn_of_wp_marks Tryd.func41 rfl trivial ?_ rfl
    simp only [Tryd.ntmps41, List.size_toArray, List.length_cons, List.length_nil, Nat.reduceAdd, Nat.reduceSub, Array.replicate_succ, Array.replicate_zero, List.push_toArray, List.append_toArray, List.nil_append, List.cons_append]
    gi_wp2_with (first
      | (refine ⟨trivial, ?_⟩; gi_at_call 40; refine (callsIn_wide.2 (span_Size.calls a0 a1 a2 a3 n _ hn)).mono ?_; rintro e w1 ⟨rfl, hb2⟩; have d0 := (hb2.cell (p := ⟨w.heap.size, 0, none⟩) hlt).trans b0; have d1 := (hb2.cell (p := ⟨w.heap.size, 1, none⟩) hlt).trans b1; have d2 := (hb2.cell (p := ⟨w.heap.size, 2, none⟩) hlt).trans b2; have d3 := (hb2.cell (p := ⟨w.heap.size, 3, none⟩) hlt).trans b3; have g0 := cell_al (Obj.cells #[Value.slice none 0 0] 54 (0, 0)) d0; have g1 := cell_al (Obj.cells #[Value.slice none 0 0] 54 (0, 0)) d1; have g2 := cell_al (Obj.cells #[Value.slice none 0 0] 54 (0, 0)) d2; have g3 := cell_al (Obj.cells #[Value.slice none 0 0] 54 (0, 0)) d3)
      | (refine ⟨trivial, ?_⟩; gi_at_call 44; refine (span_All_in _ a0 a1 a2 a3 _).mono ?_; rintro e w' ⟨rfl, rfl⟩))
    have hB1 : Below w.heap.size w w1 := hb1.trans (hb2.mono hb1.size)
    have hs1 : w.heap.size + 1 ≤ w1.heap.size := by have := hb2.size; rw [World.size_alloc] at this; exact this
    have hB0 : Below w.heap.size w ((w1.alloc (.cells #[.slice none 0 0] 54)).alloc (.cells #[.int .i64 a0, .int .i64 a1, .int .i64 a2, .int .i64 a3] 42)) := (hB1.alloc hB1.size _).alloc (by rw [World.size_alloc]; omega) _
    have bO := (Boxed.new w1 54 (.slice none 0 0)).alloc (.cells #[.int .i64 a0, .int .i64 a1, .int .i64 a2, .int .i64 a3] 42)
    have bA := World.alloc_heap_new (w1.alloc (.cells #[.slice none 0 0] 54)) (.cells #[.int .i64 a0, .int .i64 a1, .int .i64 a2, .int .i64 a3] 42)
    have hsz : ((w1.alloc (.cells #[.slice none 0 0] 54)).alloc (.cells #[.int .i64 a0, .int .i64 a1, .int .i64 a2, .int .i64 a3] 42)).heap.size = w1.heap.size + 2 := by simp
    rw [World.size_alloc] at bA
    obtain ⟨W0, hW0⟩ : ∃ W0, (w1.alloc (.cells #[.slice none 0 0] 54)).alloc (.cells #[.int .i64 a0, .int .i64 a1, .int .i64 a2, .int .i64 a3] 42) = W0 := ⟨_, rfl⟩
    rw [hW0] at bO bA hB0 hsz ⊢
    clear hW0
    refine wpIn_rangeFunc_ownH rfl (by omega) (gf := 53) (lb := #[.pointer (some ⟨w1.heap.size + 1, 0, none⟩)]) rfl trivial (enters_of Tryd.func53 (by kernel_rfl) rfl)
      (span_All_stops _ (by omega) (w1.heap.size + 1) a0 a1 a2 a3 r h W0 (by omega) bA) KeepT.trans (fun W l o o' _ hl ho _ => KeepT.put W l o o' hl ho) (Below.refl _ _) (fun _ => rfl)
      (fun pre W => (∃ v, Boxed W w1.heap.size 54 v ∧ W.ownsRow w.heap.size 23 2 v pre.length (cellsV pre) ∧ True) ∧ Below w.heap.size w W)
      (fun _ _ _ => False)
      (OwnFrom.and (Own.from (holdsRow_own w.heap.size w1.heap.size 54 23 2 (fun pre => pre.length) (fun pre => cellsV pre) (fun _ _ => True)) _) (ownFrom_below (Nat.le_refl _) (by omega)))
      (fun _ _ _ _ _ hs _ _ => hs)
      ⟨⟨_, bO, World.ownsRow_nil _ _ _ _, trivial⟩, hB0⟩
      (fun x a' W => ∃ Bx, w1.heap.size < Bx ∧ W.heap[Bx]? = some (.cells #[.int .i64 x.f0, .int .i64 x.f1] 23 (0, 0)) ∧ a' = { tmps := #[.agg #[.int .i64 a0, .int .i64 a1, .int .i64 a2, .int .i64 a3], .pointer (some ⟨w.heap.size, 0, none⟩), .slice none 0 0, .pointer (some ⟨w1.heap.size, 0, none⟩), .pointer (some ⟨Bx, 0, none⟩), .agg #[.int .i64 a0, .int .i64 a1, .int .i64 a2, .int .i64 a3], .int .i64 n, .bool false, .agg #[.int .i64 a0, .int .i64 a1, .int .i64 a2, .int .i64 a3], .func (.func 53) #[] #[.pointer (some ⟨w1.heap.size + 1, 0, none⟩)], .agg #[.int .i64 x.f0, .int .i64 x.f1], undef, undef, undef, undef, undef], defers := [] })
      (fun x a' _ X Y row hs hg hr => by obtain ⟨Bx, h1, h2, h3⟩ := hs; exact ⟨Bx, h1, (hg.block Bx (Array.getElem?_eq_some_iff.1 h2).1 (fun e => by obtain ⟨_, o, ho, hc⟩ := hr Bx e.symm; rw [h2] at ho; cases ho; cases hc)).trans h2, h3⟩)
      ?assign ?body ?done ?stop
    case assign =>
      rintro l pre x W K ⟨⟨v, hv, hrow, _⟩, hB⟩ hK
      gi_wp2
      exact hK _ _ ((KeepsOthers.alloc _ _).from _) (KeepT.alloc _ _) ⟨⟨v, hv.alloc _, hrow.alloc _, trivial⟩, hB.alloc hB.size _⟩ ⟨W.heap.size, hv.lt, World.alloc_heap_new W _, rfl⟩
    case body =>
      rintro l pre x a' W hl ⟨rl, hrl⟩ ⟨⟨v, hv, hrow, _⟩, hB⟩ ⟨Bx, hBx, bX, rfl⟩ hlt
      have hc := hv.cell
      have x0 : W.cell? ⟨Bx, 0, none⟩ = some (.int .i64 x.f0) := by unfold World.cell?; rw [bX]; rfl
      have x1 : W.cell? ⟨Bx, 1, none⟩ = some (.int .i64 x.f1) := by unfold World.cell?; rw [bX]; rfl
      gi_wp2_with (gi_at_builtin; refine wpListIn_append_own _ rfl _ _ 54 rfl w.heap.size 23 i0 (.agg #[.int .i64 0, .int .i64 0]) 2 16 Tryd.underlying54 hi hz0 hz1 hz2 rfl (by decide) _ _ _ rfl (hrow.alloc _) ⟨W.heap.size, 0, none⟩ 1 1 [.int .i64 x.f0, .int .i64 x.f1] rfl rfl (cell_two_new _ _ _ _) (by simp [Value.oneCell']) (by have : maxLen = 9223372036854775807 := rfl; omega) (by omega) (by have := hB.size; simp; omega) ?_; intro v' w2 hown' hgrow _; obtain ⟨g', cap', rfl⟩ := ownsRow_succ hown'; obtain ⟨hv1, hv2, hr2, hk2, hb3⟩ := hv.appended (by decide) hrow hB.size hB1.size hown' hgrow; have hc1 := hv1.cell; have hf1 := hv1.frozen)
      have hgrow' : (W.alloc (.cells #[.int .i64 x.f0, .int .i64 x.f1] 23)).grownBy w2 v.ownBlock := hgrow
      have hK1 : KeepT 42 W (w2.setCell ⟨w1.heap.size, 0, none⟩ (.slice (some ⟨g', 0, none⟩) (pre.length + 1) cap')) :=
        ((KeepT.alloc W _).trans (keepT_grown hgrow' (fun k cs e hk => by
          obtain ⟨cells, hcl⟩ := own_typed (hrow.alloc (.cells #[.int .i64 x.f0, .int .i64 x.f1] 23)) k e
          rw [hk] at hcl
          cases hcl))).trans (keepT_setCell hv1 (by decide) _)
      exact ⟨hk2.from _, hK1, ⟨_, hv2, by rw [cellsV_snoc, List.length_append]; exact hr2, trivial⟩, hB.trans hb3⟩
    case done =>
      rintro D ys W hD rfl ⟨⟨v, hv, hrow, _⟩, hB⟩ hK
      have hc := hv.cell
      gi_wp2
      refine ⟨by simp, .inl ⟨_, _, rfl, run_takeDeferred hK, ?_⟩⟩
      exact ⟨_, results_tmp rfl _ _ _, v, rfl, cells_R (ownsRow_putObj hrow _ hK rfl), hB.trans (belowK_b (w := w) (Nat.le_refl _) W D _ _ (by omega) hK rfl rfl)⟩
    case stop =>
      rintro D c pre W _ _ h _
      exact h.elim
end Go.Proofs.YtjbdljolpkkhcaaDoor.X
namespace Go.Proofs.YtjbdljolpkkhcaaDoor.X
open Go.RowKit Go.Proofs.YtjbdljolpkkhcaaDoorW.PrintWords Go.Proofs.YtjbdljolpkkhcaaDoorW.PrintLast Go.Proofs.YtjbdljolpkkhcaaDoorW.PrintMore
attribute [local go_sem] max2_int min2_int max_two min_two max_three min_three max_four min_four   -- for this text's walks alone
set_option linter.unusedVariables false
set_option linter.unusedSimpArgs false

attribute [local go_sem high] eqA23
/-! ### oculuslaw04_alive: function 25 -/
def oculuslaw04_alive.f (k : Nat)  : Option (Bool) := (span_Parse.f k (⟨#[66, 50, 58, 65, 49]⟩ : ByteArray)).bind fun bt101 => ((span_Cells.f bt101.1 bt101.2.1 bt101.2.2.1 bt101.2.2.2.1).bind fun t107 => (if bt101.2.2.2.2 = true then (if (t107.length : Int) = 4 then (if 0 < (t107.length : Int) then (if (((rd_T23 t107 0).f0) == 0 && (((rd_T23 t107 0).f1) == 0)) = true then (if 1 < (t107.length : Int) then (if (((rd_T23 t107 1).f0) == 0 && (((rd_T23 t107 1).f1) == 1)) = true then ((span_Text.f k bt101.1 bt101.2.1 bt101.2.2.1 bt101.2.2.2.1).bind fun t112 => (if t112.toList = ([66, 50, 58, 65, 49] : List UInt8) then ((span_Straight.f bt101.1 bt101.2.1 bt101.2.2.1 bt101.2.2.2.1).bind fun bt113 => ((span_Text.f k bt113.1 bt113.2.1 bt113.2.2.1 bt113.2.2.2).bind fun t117 => (if t117.toList = ([65, 49, 58, 66, 50] : List UInt8) then ((span_Size.f bt101.1 bt101.2.1 bt101.2.2.1 bt101.2.2.2.1).bind fun t118 => (some (t118 == 4))) else (none)))) else (none))) else (none)) else (none)) else (none)) else (none)) else (none)) else (none)))
theorem oculuslaw04_alive.mono : ∀ k, LeO (oculuslaw04_alive.f k ) (oculuslaw04_alive.f (k + 1) ) := by
 intro  k
 unfold oculuslaw04_alive.f
 repeat' first
   | (with_reducible exact span_Parse.mono _ _)
   | (with_reducible exact span_Text.mono _ _ _ _ _)
   | (with_reducible exact LeO.refl _)
   | (with_reducible exact LeO.none _)
   | (with_reducible refine LeO.ite ?_ ?_)
   | (with_reducible refine LeO.bind ?_ (fun _ => ?_))
   | exact span_Parse.mono _ _
   | exact span_Text.mono _ _ _ _ _
   | exact LeO.none _
   | refine LeO.ite ?_ ?_
   | refine LeO.bind ?_ (fun _ => ?_)
set_option maxHeartbeats 8000000 in
set_option maxRecDepth 100000 in
theorem oculuslaw04_alive.calls (k : Nat)  (r : Bool) (w : World) (hT : Aside0 (Tab w)) (h : oculuslaw04_alive.f k  = some r) :
  Calls Tryd.prog 25 #[] w fun e w' => e = .returned (.bool r) ∧ Below w.heap.size w w' := by
 have hu42 := Tryd.underlying42
 have hu23 := Tryd.underlying23
 have HB := Aside0.mk (Below.refl w.heap.size w)
 have H : ((span_Parse.f k (⟨#[66, 50, 58, 65, 49]⟩ : ByteArray)).bind fun bt101 => ((span_Cells.f bt101.1 bt101.2.1 bt101.2.2.1 bt101.2.2.2.1).bind fun t107 => (if bt101.2.2.2.2 = true then (if (t107.length : Int) = 4 then (if 0 < (t107.length : Int) then (if (((rd_T23 t107 0).f0) == 0 && (((rd_T23 t107 0).f1) == 0)) = true then (if 1 < (t107.length : Int) then (if (((rd_T23 t107 1).f0) == 0 && (((rd_T23 t107 1).f1) == 1)) = true then ((span_Text.f k bt101.1 bt101.2.1 bt101.2.2.1 bt101.2.2.2.1).bind fun t112 => (if t112.toList = ([66, 50, 58, 65, 49] : List UInt8) then ((span_Straight.f bt101.1 bt101.2.1 bt101.2.2.1 bt101.2.2.2.1).bind fun bt113 => ((span_Text.f k bt113.1 bt113.2.1 bt113.2.2.1 bt113.2.2.2).bind fun t117 => (if t117.toList = ([65, 49, 58, 66, 50] : List UInt8) then ((span_Size.f bt101.1 bt101.2.1 bt101.2.2.1 bt101.2.2.2.1).bind fun t118 => (some (t118 == 4))) else (none)))) else (none))) else (none)) else (none)) else (none)) else (none)) else (none)) else (none)))) = some r := h
 clear h
 replace H := Option.bind_eq_some_iff.mp H
 obtain ⟨⟨t101, t102, t103, t104, t105⟩, A10, H⟩ := H
 replace H : ((span_Cells.f t101 t102 t103 t104).bind fun t107 => (if t105 = true then (if (t107.length : Int) = 4 then (if 0 < (t107.length : Int) then (if (((rd_T23 t107 0).f0) == 0 && (((rd_T23 t107 0).f1) == 0)) = true then (if 1 < (t107.length : Int) then (if (((rd_T23 t107 1).f0) == 0 && (((rd_T23 t107 1).f1) == 1)) = true then ((span_Text.f k t101 t102 t103 t104).bind fun t112 => (if t112.toList = ([66, 50, 58, 65, 49] : List UInt8) then ((span_Straight.f t101 t102 t103 t104).bind fun bt113 => ((span_Text.f k bt113.1 bt113.2.1 bt113.2.2.1 bt113.2.2.2).bind fun t117 => (if t117.toList = ([65, 49, 58, 66, 50] : List UInt8) then ((span_Size.f t101 t102 t103 t104).bind fun t118 => (some (t118 == 4))) else (none)))) else (none))) else (none)) else (none)) else (none)) else (none)) else (none)) else (none))) = some r := H
 have A1 := Aside0.mk A10
 clear A10
 replace H := Option.bind_eq_some_iff.mp H
 obtain ⟨t107, A20, H⟩ := H
 replace H : (if t105 = true then (if (t107.length : Int) = 4 then (if 0 < (t107.length : Int) then (if (((rd_T23 t107 0).f0) == 0 && (((rd_T23 t107 0).f1) == 0)) = true then (if 1 < (t107.length : Int) then (if (((rd_T23 t107 1).f0) == 0 && (((rd_T23 t107 1).f1) == 1)) = true then ((span_Text.f k t101 t102 t103 t104).bind fun t112 => (if t112.toList = ([66, 50, 58, 65, 49] : List UInt8) then ((span_Straight.f t101 t102 t103 t104).bind fun bt113 => ((span_Text.f k bt113.1 bt113.2.1 bt113.2.2.1 bt113.2.2.2).bind fun t117 => (if t117.toList = ([65, 49, 58, 66, 50] : List UInt8) then ((span_Size.f t101 t102 t103 t104).bind fun t118 => (some (t118 == 4))) else (none)))) else (none))) else (none)) else (none)) else (none)) else (none)) else (none)) else (none)) = some r := H
 have A2 := Aside0.mk A20
 clear A20
 by_cases c3 : t105 = true
 ·
  subst c3
  have H1 : (if (t107.length : Int) = 4 then (if 0 < (t107.length : Int) then (if (((rd_T23 t107 0).f0) == 0 && (((rd_T23 t107 0).f1) == 0)) = true then (if 1 < (t107.length : Int) then (if (((rd_T23 t107 1).f0) == 0 && (((rd_T23 t107 1).f1) == 1)) = true then ((span_Text.f k t101 t102 t103 t104).bind fun t112 => (if t112.toList = ([66, 50, 58, 65, 49] : List UInt8) then ((span_Straight.f t101 t102 t103 t104).bind fun bt113 => ((span_Text.f k bt113.1 bt113.2.1 bt113.2.2.1 bt113.2.2.2).bind fun t117 => (if t117.toList = ([65, 49, 58, 66, 50] : List UInt8) then ((span_Size.f t101 t102 t103 t104).bind fun t118 => (some (t118 == 4))) else (none)))) else (none))) else (none)) else (none)) else (none)) else (none)) else (none)) = some r := by rw [if_pos rfl] at H; exact H
  clear H
  have H := H1
  clear H1
  by_cases c4 : (t107.length : Int) = 4
  ·
   rw [if_pos c4] at H
   have c4b0 : ((t107.length : Int) == 4) = true := beq_iff_eq.mpr c4
   have c4b1 : ((t107.length : Int) != 4) = false := bne_eq_false_iff_eq.mpr c4
   clear c4
   by_cases c5 : 0 < (t107.length : Int)
   ·
    rw [if_pos c5] at H
    have c5b0 : decide (0 < (t107.length : Int)) = true := decide_eq_true c5
    have c5b1 : decide (0 < t107.length) = true := decide_eq_true (by omega)
    clear c5
    by_cases c6 : (((rd_T23 t107 0).f0) == 0 && (((rd_T23 t107 0).f1) == 0)) = true
    ·
     rw [if_pos c6] at H
     have c6b0 : (((rd_T23 t107 0).f0) == 0 && (((rd_T23 t107 0).f1) == 0)) = true := c6
     (try (have c6b1 : decide (((rd_T23 t107 0).f0) = 0 && (((rd_T23 t107 0).f1) == 0)) = true := by simpa using c6))
     (try (have c6b2 : (((rd_T23 t107 0).f0) == 0 && (((rd_T23 t107 0).f1) == 0)) = true := by simpa using c6))
     clear c6
     by_cases c7 : 1 < (t107.length : Int)
     ·
      rw [if_pos c7] at H
      have c7b0 : decide (1 < (t107.length : Int)) = true := decide_eq_true c7
      have c7b1 : decide (1 < t107.length) = true := decide_eq_true (by omega)
      clear c7
      by_cases c8 : (((rd_T23 t107 1).f0) == 0 && (((rd_T23 t107 1).f1) == 1)) = true
      ·
       rw [if_pos c8] at H
       have c8b0 : (((rd_T23 t107 1).f0) == 0 && (((rd_T23 t107 1).f1) == 1)) = true := c8
       (try (have c8b1 : decide (((rd_T23 t107 1).f0) = 0 && (((rd_T23 t107 1).f1) == 1)) = true := by simpa using c8))
       (try (have c8b2 : (((rd_T23 t107 1).f0) == 0 && (((rd_T23 t107 1).f1) == 1)) = true := by simpa using c8))
       clear c8
       replace H := Option.bind_eq_some_iff.mp H
       obtain ⟨t112, A90, H⟩ := H
       replace H : (if t112.toList = ([66, 50, 58, 65, 49] : List UInt8) then ((span_Straight.f t101 t102 t103 t104).bind fun bt113 => ((span_Text.f k bt113.1 bt113.2.1 bt113.2.2.1 bt113.2.2.2).bind fun t117 => (if t117.toList = ([65, 49, 58, 66, 50] : List UInt8) then ((span_Size.f t101 t102 t103 t104).bind fun t118 => (some (t118 == 4))) else (none)))) else (none)) = some r := H
       have A9 := Aside0.mk A90
       clear A90
       by_cases c10 : t112.toList = ([66, 50, 58, 65, 49] : List UInt8)
       ·
        rw [if_pos c10] at H
        have c10b0 : (t112.toList == ([66, 50, 58, 65, 49] : List UInt8)) = true := beq_iff_eq.mpr c10
        have c10b1 : (t112.toList != ([66, 50, 58, 65, 49] : List UInt8)) = false := bne_eq_false_iff_eq.mpr c10
        clear c10
        replace H := Option.bind_eq_some_iff.mp H
        obtain ⟨⟨t113, t114, t115, t116⟩, A110, H⟩ := H
        replace H : ((span_Text.f k t113 t114 t115 t116).bind fun t117 => (if t117.toList = ([65, 49, 58, 66, 50] : List UInt8) then ((span_Size.f t101 t102 t103 t104).bind fun t118 => (some (t118 == 4))) else (none))) = some r := H
        have A11 := Aside0.mk A110
        clear A110
        replace H := Option.bind_eq_some_iff.mp H
        obtain ⟨t117, A120, H⟩ := H
        replace H : (if t117.toList = ([65, 49, 58, 66, 50] : List UInt8) then ((span_Size.f t101 t102 t103 t104).bind fun t118 => (some (t118 == 4))) else (none)) = some r := H
        have A12 := Aside0.mk A120
        clear A120
        by_cases c13 : t117.toList = ([65, 49, 58, 66, 50] : List UInt8)
        ·
         rw [if_pos c13] at H
         have c13b0 : (t117.toList == ([65, 49, 58, 66, 50] : List UInt8)) = true := beq_iff_eq.mpr c13
         have c13b1 : (t117.toList != ([65, 49, 58, 66, 50] : List UInt8)) = false := bne_eq_false_iff_eq.mpr c13
         clear c13
         replace H := Option.bind_eq_some_iff.mp H
         obtain ⟨t118, A140, H⟩ := H
         replace H : (some (t118 == 4)) = some r := H
         have A14 := Aside0.mk A140
         clear A140
         obtain rfl := Option.some.inj H
         go_enter Tryd.func25, Tryd.ntmps25
         go_wp2_with (first | ((with_reducible refine gate_callee (f := 26) rfl ?_); refine goesL_ (some 5) rfl rfl Tryd.func26 (by kernel_rfl) rfl #[.string (⟨#[66, 50, 58, 65, 49]⟩ : ByteArray)] rfl (by (try simp only [List.map_toArray, List.map_cons, List.map_nil]); first | done | rfl | (simp only [List.length_drop, List.length_take]; rfl)) ?_; (with_reducible refine (span_Parse.calls k (⟨#[66, 50, 58, 65, 49]⟩ : ByteArray) t101 t102 t103 t104 true _ A1.out).mono ?_); rintro e w15 ⟨rfl, hb⟩; refine ⟨_, rfl, ?_⟩; have n0_ := Aside0.mk (below_step (pbx HB) hb); clear HB; have HB := n0_; clear n0_; (try clear hb); (try clear hb2); (try clear hk); (try clear hi)) | ((with_reducible refine gate_dst (N := 1) rfl ?_); (try (refine gate_guard (by rfl) ?_; dsimp only)); refine box_event ?hg (N := 1) ?hd (cs := #[.int .i64 0, .int .i64 0, .int .i64 0, .int .i64 0]) (t := 42) ?hr ?_; (case hd => rfl); (case hg => rfl); (case hr => first | (go_simp; done) | (go_simp; rfl)); intro gb106 hg w16 hbox hb; have n0_ := Aside0.mk (below_step (pbx HB) hb); have n1_ := Aside0.mk (hbox); have n2_ := Aside0.mk ((by rw [hg]; exact (below_size (pbx HB)) : w.heap.size ≤ gb106)); have n3_ := Aside0.mk ((by rw [hg]; exact (below_size (pbx HB)) : w.heap.size ≤ gb106)); clear HB; have HB := n0_; have BK106 := n1_; have GW106 := n2_; have GE106 := n3_; clear n0_ n1_ n2_ n3_; clear hb hbox hg; have hcz17_0 : w16.cell? ⟨gb106, 0, none⟩ = some (.int .i64 0) := (blk_cell BK106.out 0).trans rfl; have hcz17_1 : w16.cell? ⟨gb106, 1, none⟩ = some (.int .i64 0) := (blk_cell BK106.out 1).trans rfl; have hcz17_2 : w16.cell? ⟨gb106, 2, none⟩ = some (.int .i64 0) := (blk_cell BK106.out 2).trans rfl; have hcz17_3 : w16.cell? ⟨gb106, 3, none⟩ = some (.int .i64 0) := (blk_cell BK106.out 3).trans rfl; have hfz17_0 := blk_frozen BK106.out 0; have hfz17_1 := blk_frozen BK106.out 1; have hfz17_2 := blk_frozen BK106.out 2; have hfz17_3 := blk_frozen BK106.out 3) | ((with_reducible refine gate_callee (f := 41) rfl ?_); refine goesL_ (some 9) rfl rfl Tryd.func41 (by kernel_rfl) rfl #[.agg #[.int .i64 t101, .int .i64 t102, .int .i64 t103, .int .i64 t104]] rfl (by (try simp only [List.map_toArray, List.map_cons, List.map_nil]); first | done | rfl | (simp only [List.length_drop, List.length_take]; rfl)) ?_; (with_reducible refine (span_Cells.calls t101 t102 t103 t104 t107 _ A2.out).mono ?_); rintro e w18 ⟨v108, rfl, ho0, hb⟩; refine ⟨_, rfl, ?_⟩; have n0_ := Aside0.mk (Kd.R_lower ho0 (below_size (by repeat (first | (with_reducible first | exact HB.out | apply below_alloc | apply pw_below_drewN | apply below_drew1 | refine below_set ?_ GE106.out) | exact HB.out)))); have n1_ := Aside0.mk (blk_below (g := gb106) (o := .cells #[.int .i64 t101, .int .i64 t102, .int .i64 t103, .int .i64 t104] 42 (0, 0)) (by (with_reducible repeat (first | refine blk_drewN ?_ _ | refine blk_drew ?_ | refine blk_alloc ?_ _)); refine blk_put (cs := #[.int .i64 t101, .int .i64 t102, .int .i64 t103, .int .i64 0]) ?_ 3 _ rfl; (with_reducible repeat (first | refine blk_drewN ?_ _ | refine blk_drew ?_ | refine blk_alloc ?_ _)); refine blk_put (cs := #[.int .i64 t101, .int .i64 t102, .int .i64 0, .int .i64 0]) ?_ 2 _ rfl; (with_reducible repeat (first | refine blk_drewN ?_ _ | refine blk_drew ?_ | refine blk_alloc ?_ _)); refine blk_put (cs := #[.int .i64 t101, .int .i64 0, .int .i64 0, .int .i64 0]) ?_ 1 _ rfl; (with_reducible repeat (first | refine blk_drewN ?_ _ | refine blk_drew ?_ | refine blk_alloc ?_ _)); refine blk_put (cs := #[.int .i64 0, .int .i64 0, .int .i64 0, .int .i64 0]) ?_ 0 _ rfl; (with_reducible repeat (first | refine blk_drewN ?_ _ | refine blk_drew ?_ | refine blk_alloc ?_ _)); exact BK106.out) hb); have n2_ := Aside0.mk (below_step (by repeat (first | (with_reducible first | exact HB.out | apply below_alloc | apply pw_below_drewN | apply below_drew1 | refine below_set ?_ GE106.out) | exact HB.out)) hb); clear BK106; clear HB; have HO109 := n0_; have BK106 := n1_; have HB := n2_; clear n0_ n1_ n2_; (try clear hb); (try clear hb2); (try clear hk); (try clear hi); (try clear ho0); obtain ⟨Ao19, co19, eo19⟩ := Kd.R_slice HO109.out; subst eo19; have p110 : 0 ≤ (0 : Int) := (by omega); have q110 : 0 < (t107.length : Int) := of_decide_eq_true (by first | (with_reducible assumption) | assumption); obtain ⟨ad110, e110, hx110_0, hx110_1⟩ := at_T23 (Kd.R_reads' HO109.out).2.2 0 p110 q110; cases e110; have qi110 : (0 < t107.length) = True := eq_true (by omega); (try rw [show ((0 : Int)).toNat = 0 from rfl] at hx110_0); (try rw [show 0 * 2 = 0 from rfl] at hx110_0); (try rw [Addr.add_zero'] at hx110_0); (try rw [show ((0 : Int)).toNat = 0 from rfl] at hx110_1); (try rw [show 0 * 2 = 0 from rfl] at hx110_1); (try rw [Addr.add_zero'] at hx110_1); replace p110 := eq_true p110; replace q110 := eq_true q110; have p111 : 0 ≤ (1 : Int) := (by omega); have q111 : 1 < (t107.length : Int) := of_decide_eq_true (by first | (with_reducible assumption) | assumption); obtain ⟨ad111, e111, hx111_0, hx111_1⟩ := at_T23 (Kd.R_reads' HO109.out).2.2 1 p111 q111; obtain rfl : ad110 = ad111 := (by injection e111); (try simp only [show (1 : Int).toNat = 1 from rfl, Nat.reduceMul, Nat.reduceEqDiff, Go.Addr.add, ↓reduceIte] at hx111_0); (try simp only [show (1 : Int).toNat = 1 from rfl, Nat.reduceMul, Nat.reduceEqDiff, Go.Addr.add, ↓reduceIte] at hx111_1); have qi111 : (1 < t107.length) = True := eq_true (by omega); (try rw [show ((1 : Int)).toNat = 1 from rfl] at hx111_0); (try rw [show 1 * 2 = 2 from rfl] at hx111_0); (try rw [show ((1 : Int)).toNat = 1 from rfl] at hx111_1); (try rw [show 1 * 2 = 2 from rfl] at hx111_1); replace p111 := eq_true p111; replace q111 := eq_true q111; have hcz20_0 : w18.cell? ⟨gb106, 0, none⟩ = some (.int .i64 t101) := (blk_cell BK106.out 0).trans rfl; have hcz20_1 : w18.cell? ⟨gb106, 1, none⟩ = some (.int .i64 t102) := (blk_cell BK106.out 1).trans rfl; have hcz20_2 : w18.cell? ⟨gb106, 2, none⟩ = some (.int .i64 t103) := (blk_cell BK106.out 2).trans rfl; have hcz20_3 : w18.cell? ⟨gb106, 3, none⟩ = some (.int .i64 t104) := (blk_cell BK106.out 3).trans rfl; have hfz20_0 := blk_frozen BK106.out 0; have hfz20_1 := blk_frozen BK106.out 1; have hfz20_2 := blk_frozen BK106.out 2; have hfz20_3 := blk_frozen BK106.out 3) | (go_at_call 27; (with_reducible refine (span_Text.calls k t101 t102 t103 t104 t112 _ (by refine tb_ ?_ hT; repeat' (first | exact pbx HB | assumption | refine below_set ?_ (Aside0.out ?_))) A9.out).mono ?_); rintro e w21 ⟨rfl, hb⟩; have n0_ := Aside0.mk (Kd.R_below (by (with_reducible repeat (first | apply Kd.R_alloc | apply Kd.R_drewN | apply Kd.R_drew)); exact HO109.out) hb); have n1_ := Aside0.mk (blk_below (pkx BK106) hb); have n2_ := Aside0.mk (below_step (pbx HB) hb); clear HO109; clear BK106; clear HB; have HO109 := n0_; have BK106 := n1_; have HB := n2_; clear n0_ n1_ n2_; (try clear hb); (try clear hb2); (try clear hk); (try clear hi); have hcz22_0 : w21.cell? ⟨gb106, 0, none⟩ = some (.int .i64 t101) := (blk_cell BK106.out 0).trans rfl; have hcz22_1 : w21.cell? ⟨gb106, 1, none⟩ = some (.int .i64 t102) := (blk_cell BK106.out 1).trans rfl; have hcz22_2 : w21.cell? ⟨gb106, 2, none⟩ = some (.int .i64 t103) := (blk_cell BK106.out 2).trans rfl; have hcz22_3 : w21.cell? ⟨gb106, 3, none⟩ = some (.int .i64 t104) := (blk_cell BK106.out 3).trans rfl; have hfz22_0 := blk_frozen BK106.out 0; have hfz22_1 := blk_frozen BK106.out 1; have hfz22_2 := blk_frozen BK106.out 2; have hfz22_3 := blk_frozen BK106.out 3) | (go_at_call 34; (with_reducible refine (span_Straight.calls t101 t102 t103 t104 t113 t114 t115 t116 _ A11.out).mono ?_); rintro e w23 ⟨rfl, hb⟩; have n0_ := Aside0.mk (Kd.R_below (by (with_reducible repeat (first | apply Kd.R_alloc | apply Kd.R_drewN | apply Kd.R_drew)); exact HO109.out) hb); have n1_ := Aside0.mk (blk_below (pkx BK106) hb); have n2_ := Aside0.mk (below_step (pbx HB) hb); clear HO109; clear BK106; clear HB; have HO109 := n0_; have BK106 := n1_; have HB := n2_; clear n0_ n1_ n2_; (try clear hb); (try clear hb2); (try clear hk); (try clear hi)) | (go_at_call 27; (with_reducible refine (span_Text.calls k t113 t114 t115 t116 t117 _ (by refine tb_ ?_ hT; repeat' (first | exact pbx HB | assumption | refine below_set ?_ (Aside0.out ?_))) A12.out).mono ?_); rintro e w24 ⟨rfl, hb⟩; have n0_ := Aside0.mk (Kd.R_below (by (with_reducible repeat (first | apply Kd.R_alloc | apply Kd.R_drewN | apply Kd.R_drew)); exact HO109.out) hb); have n1_ := Aside0.mk (blk_below (pkx BK106) hb); have n2_ := Aside0.mk (below_step (pbx HB) hb); clear HO109; clear BK106; clear HB; have HO109 := n0_; have BK106 := n1_; have HB := n2_; clear n0_ n1_ n2_; (try clear hb); (try clear hb2); (try clear hk); (try clear hi); have hcz25_0 : w24.cell? ⟨gb106, 0, none⟩ = some (.int .i64 t101) := (blk_cell BK106.out 0).trans rfl; have hcz25_1 : w24.cell? ⟨gb106, 1, none⟩ = some (.int .i64 t102) := (blk_cell BK106.out 1).trans rfl; have hcz25_2 : w24.cell? ⟨gb106, 2, none⟩ = some (.int .i64 t103) := (blk_cell BK106.out 2).trans rfl; have hcz25_3 : w24.cell? ⟨gb106, 3, none⟩ = some (.int .i64 t104) := (blk_cell BK106.out 3).trans rfl; have hfz25_0 := blk_frozen BK106.out 0; have hfz25_1 := blk_frozen BK106.out 1; have hfz25_2 := blk_frozen BK106.out 2; have hfz25_3 := blk_frozen BK106.out 3) | (go_at_call 40; (with_reducible refine (span_Size.calls t101 t102 t103 t104 t118 _ A14.out).mono ?_); rintro e w26 ⟨rfl, hb⟩; have n0_ := Aside0.mk (Kd.R_below (by (with_reducible repeat (first | apply Kd.R_alloc | apply Kd.R_drewN | apply Kd.R_drew)); exact HO109.out) hb); have n1_ := Aside0.mk (blk_below (pkx BK106) hb); have n2_ := Aside0.mk (below_step (pbx HB) hb); clear HO109; clear BK106; clear HB; have HO109 := n0_; have BK106 := n1_; have HB := n2_; clear n0_ n1_ n2_; (try clear hb); (try clear hb2); (try clear hk); (try clear hi)))
         go_ret
         exact ⟨by first | rfl | (simp [errW_none, errW_some] <;> rfl) | (simp [*, errW_none, errW_some] <;> rfl), pbx HB⟩
        ·
         rw [if_neg c13] at H
         exact absurd H (by simp)
       ·
        rw [if_neg c10] at H
        exact absurd H (by simp)
      ·
       rw [if_neg c8] at H
       exact absurd H (by simp)
     ·
      rw [if_neg c7] at H
      exact absurd H (by simp)
    ·
     rw [if_neg c6] at H
     exact absurd H (by simp)
   ·
    rw [if_neg c5] at H
    exact absurd H (by simp)
  ·
   rw [if_neg c4] at H
   exact absurd H (by simp)
 ·
  replace c3 := Bool.eq_false_iff.mpr c3
  subst c3
  have H1 : (none) = some r := by rw [if_neg (show ¬ (false = true) by decide)] at H; exact H
  clear H
  have H := H1
  clear H1
  exact absurd H (by simp)

end Go.Proofs.YtjbdljolpkkhcaaDoor.X
namespace Go.Proofs.YtjbdljolpkkhcaaDoor.X
open Go.RowKit Go.Proofs.YtjbdljolpkkhcaaDoorW.PrintWords Go.Proofs.YtjbdljolpkkhcaaDoorW.PrintLast Go.Proofs.YtjbdljolpkkhcaaDoorW.PrintMore
attribute [local go_sem] max2_int min2_int max_two min_two max_three min_three max_four min_four   -- for this text's walks alone
set_option linter.unusedVariables false
set_option linter.unusedSimpArgs false

/-! ### oculusref03_May: function 11 -/
def oculusref03_May.f (a0_0 : Int) (a0_1 : Int) : Option (Bool) := if a0_0 ≥ 0 then (if a0_0 ≤ 998 then (if a0_1 ≥ 0 then (some (decide (a0_1 ≤ 701))) else (some false)) else (some false)) else (some false)
set_option maxHeartbeats 8000000 in
set_option maxRecDepth 100000 in
theorem oculusref03_May.calls (a0_0 : Int) (a0_1 : Int) (r : Bool) (w : World) (h : oculusref03_May.f a0_0 a0_1 = some r) :
  Calls Tryd.prog 11 #[.agg #[.int .i64 a0_0, .int .i64 a0_1]] w fun e w' => e = .returned (.bool r) ∧ Below w.heap.size w w' := by
 have hu23 := Tryd.underlying23
 have HB := Aside0.mk (Below.refl w.heap.size w)
 have H : (if a0_0 ≥ 0 then (if a0_0 ≤ 998 then (if a0_1 ≥ 0 then (some (decide (a0_1 ≤ 701))) else (some false)) else (some false)) else (some false)) = some r := h
 clear h
 by_cases c2 : a0_0 ≥ 0
 ·
  rw [if_pos c2] at H
  have c2b0 : decide (0 ≤ a0_0) = true := decide_eq_true c2
  clear c2
  by_cases c3 : a0_0 ≤ 998
  ·
   rw [if_pos c3] at H
   have c3b0 : decide (a0_0 ≤ 998) = true := decide_eq_true c3
   clear c3
   by_cases c4 : a0_1 ≥ 0
   ·
    rw [if_pos c4] at H
    have c4b0 : decide (0 ≤ a0_1) = true := decide_eq_true c4
    clear c4
    obtain rfl := Option.some.inj H
    go_enter Tryd.func11, Tryd.ntmps11
    go_wp2_with (first | ((with_reducible refine gate_dst (N := 1) rfl ?_); refine box_event ?hg (N := 1) ?hd (cs := #[.int .i64 a0_0, .int .i64 a0_1]) (t := 23) ?hr ?_; (case hd => rfl); (case hg => rfl); (case hr => first | (go_simp; done) | (go_simp; rfl)); intro gb101 hg w5 hbox hb; have BK101 := Aside0.mk (hbox); replace HB := Aside0.mk (below_step (pbx HB) hb); clear hb hbox hg; have hcz6_0 : w5.cell? ⟨gb101, 0, none⟩ = some (.int .i64 a0_0) := (blk_cell BK101.out 0).trans rfl; have hcz6_1 : w5.cell? ⟨gb101, 1, none⟩ = some (.int .i64 a0_1) := (blk_cell BK101.out 1).trans rfl))
    go_ret
    exact ⟨by first | rfl | (simp [errW_none, errW_some] <;> rfl) | (simp [*, errW_none, errW_some] <;> rfl), pbx HB⟩
   ·
    rw [if_neg c4] at H
    have c4b0 : decide (0 ≤ a0_1) = false := decide_eq_false c4
    clear c4
    obtain rfl := Option.some.inj H
    go_enter Tryd.func11, Tryd.ntmps11
    go_wp2_with (first | ((with_reducible refine gate_dst (N := 1) rfl ?_); refine box_event ?hg (N := 1) ?hd (cs := #[.int .i64 a0_0, .int .i64 a0_1]) (t := 23) ?hr ?_; (case hd => rfl); (case hg => rfl); (case hr => first | (go_simp; done) | (go_simp; rfl)); intro gb101 hg w7 hbox hb; have BK101 := Aside0.mk (hbox); replace HB := Aside0.mk (below_step (pbx HB) hb); clear hb hbox hg; have hcz8_0 : w7.cell? ⟨gb101, 0, none⟩ = some (.int .i64 a0_0) := (blk_cell BK101.out 0).trans rfl; have hcz8_1 : w7.cell? ⟨gb101, 1, none⟩ = some (.int .i64 a0_1) := (blk_cell BK101.out 1).trans rfl))
    go_ret
    exact ⟨by first | rfl | (simp [errW_none, errW_some] <;> rfl) | (simp [*, errW_none, errW_some] <;> rfl), pbx HB⟩
  ·
   rw [if_neg c3] at H
   have c3b0 : decide (a0_0 ≤ 998) = false := decide_eq_false c3
   clear c3
   obtain rfl := Option.some.inj H
   go_enter Tryd.func11, Tryd.ntmps11
   go_wp2_with (first | ((with_reducible refine gate_dst (N := 1) rfl ?_); refine box_event ?hg (N := 1) ?hd (cs := #[.int .i64 a0_0, .int .i64 a0_1]) (t := 23) ?hr ?_; (case hd => rfl); (case hg => rfl); (case hr => first | (go_simp; done) | (go_simp; rfl)); intro gb101 hg w9 hbox hb; have BK101 := Aside0.mk (hbox); replace HB := Aside0.mk (below_step (pbx HB) hb); clear hb hbox hg; have hcz10_0 : w9.cell? ⟨gb101, 0, none⟩ = some (.int .i64 a0_0) := (blk_cell BK101.out 0).trans rfl; have hcz10_1 : w9.cell? ⟨gb101, 1, none⟩ = some (.int .i64 a0_1) := (blk_cell BK101.out 1).trans rfl))
   go_ret
   exact ⟨by first | rfl | (simp [errW_none, errW_some] <;> rfl) | (simp [*, errW_none, errW_some] <;> rfl), pbx HB⟩
 ·
  rw [if_neg c2] at H
  have c2b0 : decide (0 ≤ a0_0) = false := decide_eq_false c2
  clear c2
  obtain rfl := Option.some.inj H
  go_enter Tryd.func11, Tryd.ntmps11
  go_wp2_with (first | ((with_reducible refine gate_dst (N := 1) rfl ?_); refine box_event ?hg (N := 1) ?hd (cs := #[.int .i64 a0_0, .int .i64 a0_1]) (t := 23) ?hr ?_; (case hd => rfl); (case hg => rfl); (case hr => first | (go_simp; done) | (go_simp; rfl)); intro gb101 hg w11 hbox hb; have BK101 := Aside0.mk (hbox); replace HB := Aside0.mk (below_step (pbx HB) hb); clear hb hbox hg; have hcz12_0 : w11.cell? ⟨gb101, 0, none⟩ = some (.int .i64 a0_0) := (blk_cell BK101.out 0).trans rfl; have hcz12_1 : w11.cell? ⟨gb101, 1, none⟩ = some (.int .i64 a0_1) := (blk_cell BK101.out 1).trans rfl))
  go_ret
  exact ⟨by first | rfl | (simp [errW_none, errW_some] <;> rfl) | (simp [*, errW_none, errW_some] <;> rfl), pbx HB⟩

end Go.Proofs.YtjbdljolpkkhcaaDoor.X
namespace Go.Proofs.YtjbdljolpkkhcaaDoor.X
open Go.RowKit Go.Proofs.YtjbdljolpkkhcaaDoorW.PrintWords Go.Proofs.YtjbdljolpkkhcaaDoorW.PrintLast Go.Proofs.YtjbdljolpkkhcaaDoorW.PrintMore
attribute [local go_sem] max2_int min2_int max_two min_two max_three min_three max_four min_four   -- for this text's walks alone
set_option linter.unusedVariables false
set_option linter.unusedSimpArgs false

/-! ### oculusref04_May: function 33 -/
def oculusref04_May.f (a0_0 : Int) (a0_1 : Int) (a0_2 : Int) (a0_3 : Int) : Option (Bool) := (oculusref03_May.f a0_0 a0_1).bind fun t102 => (if t102 = true then ((oculusref03_May.f a0_2 a0_3).bind fun t103 => (some t103)) else (some false))
set_option maxHeartbeats 8000000 in
set_option maxRecDepth 100000 in
theorem oculusref04_May.calls (a0_0 : Int) (a0_1 : Int) (a0_2 : Int) (a0_3 : Int) (r : Bool) (w : World) (h : oculusref04_May.f a0_0 a0_1 a0_2 a0_3 = some r) :
  Calls Tryd.prog 33 #[.agg #[.int .i64 a0_0, .int .i64 a0_1, .int .i64 a0_2, .int .i64 a0_3]] w fun e w' => e = .returned (.bool r) ∧ Below w.heap.size w w' := by
 have hu42 := Tryd.underlying42
 have hu23 := Tryd.underlying23
 have HB := Aside0.mk (Below.refl w.heap.size w)
 have H : ((oculusref03_May.f a0_0 a0_1).bind fun t102 => (if t102 = true then ((oculusref03_May.f a0_2 a0_3).bind fun t103 => (some t103)) else (some false))) = some r := h
 clear h
 replace H := Option.bind_eq_some_iff.mp H
 obtain ⟨t102, A20, H⟩ := H
 replace H : (if t102 = true then ((oculusref03_May.f a0_2 a0_3).bind fun t103 => (some t103)) else (some false)) = some r := H
 have A2 := Aside0.mk A20
 clear A20
 by_cases c3 : t102 = true
 ·
  subst c3
  have H1 : ((oculusref03_May.f a0_2 a0_3).bind fun t103 => (some t103)) = some r := by rw [if_pos rfl] at H; exact H
  clear H
  have H := H1
  clear H1
  replace H := Option.bind_eq_some_iff.mp H
  obtain ⟨t103, A40, H⟩ := H
  replace H : (some t103) = some r := H
  have A4 := Aside0.mk A40
  clear A40
  obtain rfl := Option.some.inj H
  go_enter Tryd.func33, Tryd.ntmps33
  go_wp2_with (first | ((with_reducible refine gate_dst (N := 1) rfl ?_); refine box_event ?hg (N := 1) ?hd (cs := #[.int .i64 a0_0, .int .i64 a0_1, .int .i64 a0_2, .int .i64 a0_3]) (t := 42) ?hr ?_; (case hd => rfl); (case hg => rfl); (case hr => first | (go_simp; done) | (go_simp; rfl)); intro gb101 hg w5 hbox hb; have BK101 := Aside0.mk (hbox); replace HB := Aside0.mk (below_step (pbx HB) hb); clear hb hbox hg; have hcz6_0 : w5.cell? ⟨gb101, 0, none⟩ = some (.int .i64 a0_0) := (blk_cell BK101.out 0).trans rfl; have hcz6_1 : w5.cell? ⟨gb101, 1, none⟩ = some (.int .i64 a0_1) := (blk_cell BK101.out 1).trans rfl; have hcz6_2 : w5.cell? ⟨gb101, 2, none⟩ = some (.int .i64 a0_2) := (blk_cell BK101.out 2).trans rfl; have hcz6_3 : w5.cell? ⟨gb101, 3, none⟩ = some (.int .i64 a0_3) := (blk_cell BK101.out 3).trans rfl) | ((with_reducible refine gate_callee (f := 11) rfl ?_); refine goesL_ (some 5) rfl rfl Tryd.func11 (by kernel_rfl) rfl #[.agg #[.int .i64 a0_0, .int .i64 a0_1]] rfl (by (try simp only [List.map_toArray, List.map_cons, List.map_nil]); first | done | rfl | (simp only [List.length_drop, List.length_take]; rfl)) ?_; (with_reducible refine (oculusref03_May.calls a0_0 a0_1 true _ A2.out).mono ?_); rintro e w7 ⟨rfl, hb⟩; refine ⟨_, rfl, ?_⟩; replace BK101 := Aside0.mk (blk_below (pkx BK101) hb); replace HB := Aside0.mk (below_step (pbx HB) hb); (try clear hb); (try clear hb2); (try clear hk); (try clear hi); have hcz8_0 : w7.cell? ⟨gb101, 0, none⟩ = some (.int .i64 a0_0) := (blk_cell BK101.out 0).trans rfl; have hcz8_1 : w7.cell? ⟨gb101, 1, none⟩ = some (.int .i64 a0_1) := (blk_cell BK101.out 1).trans rfl; have hcz8_2 : w7.cell? ⟨gb101, 2, none⟩ = some (.int .i64 a0_2) := (blk_cell BK101.out 2).trans rfl; have hcz8_3 : w7.cell? ⟨gb101, 3, none⟩ = some (.int .i64 a0_3) := (blk_cell BK101.out 3).trans rfl) | (go_at_call 11; (with_reducible refine (oculusref03_May.calls a0_2 a0_3 t103 _ A4.out).mono ?_); rintro e w9 ⟨rfl, hb⟩; replace BK101 := Aside0.mk (blk_below (pkx BK101) hb); replace HB := Aside0.mk (below_step (pbx HB) hb); (try clear hb); (try clear hb2); (try clear hk); (try clear hi)))
  go_ret
  exact ⟨by first | rfl | (simp [errW_none, errW_some] <;> rfl) | (simp [*, errW_none, errW_some] <;> rfl), pbx HB⟩
 ·
  replace c3 := Bool.eq_false_iff.mpr c3
  subst c3
  have H1 : (some false) = some r := by rw [if_neg (show ¬ (false = true) by decide)] at H; exact H
  clear H
  have H := H1
  clear H1
  obtain rfl := Option.some.inj H
  go_enter Tryd.func33, Tryd.ntmps33
  go_wp2_with (first | ((with_reducible refine gate_dst (N := 1) rfl ?_); refine box_event ?hg (N := 1) ?hd (cs := #[.int .i64 a0_0, .int .i64 a0_1, .int .i64 a0_2, .int .i64 a0_3]) (t := 42) ?hr ?_; (case hd => rfl); (case hg => rfl); (case hr => first | (go_simp; done) | (go_simp; rfl)); intro gb101 hg w10 hbox hb; have BK101 := Aside0.mk (hbox); replace HB := Aside0.mk (below_step (pbx HB) hb); clear hb hbox hg; have hcz11_0 : w10.cell? ⟨gb101, 0, none⟩ = some (.int .i64 a0_0) := (blk_cell BK101.out 0).trans rfl; have hcz11_1 : w10.cell? ⟨gb101, 1, none⟩ = some (.int .i64 a0_1) := (blk_cell BK101.out 1).trans rfl; have hcz11_2 : w10.cell? ⟨gb101, 2, none⟩ = some (.int .i64 a0_2) := (blk_cell BK101.out 2).trans rfl; have hcz11_3 : w10.cell? ⟨gb101, 3, none⟩ = some (.int .i64 a0_3) := (blk_cell BK101.out 3).trans rfl) | ((with_reducible refine gate_callee (f := 11) rfl ?_); refine goesL_ (some 5) rfl rfl Tryd.func11 (by kernel_rfl) rfl #[.agg #[.int .i64 a0_0, .int .i64 a0_1]] rfl (by (try simp only [List.map_toArray, List.map_cons, List.map_nil]); first | done | rfl | (simp only [List.length_drop, List.length_take]; rfl)) ?_; (with_reducible refine (oculusref03_May.calls a0_0 a0_1 false _ A2.out).mono ?_); rintro e w12 ⟨rfl, hb⟩; refine ⟨_, rfl, ?_⟩; replace BK101 := Aside0.mk (blk_below (pkx BK101) hb); replace HB := Aside0.mk (below_step (pbx HB) hb); (try clear hb); (try clear hb2); (try clear hk); (try clear hi)))
  go_ret
  exact ⟨by first | rfl | (simp [errW_none, errW_some] <;> rfl) | (simp [*, errW_none, errW_some] <;> rfl), pbx HB⟩

end Go.Proofs.YtjbdljolpkkhcaaDoor.X
namespace Go.Proofs.YtjbdljolpkkhcaaDoor.X
open Go.RowKit Go.Proofs.YtjbdljolpkkhcaaDoorW.PrintWords Go.Proofs.YtjbdljolpkkhcaaDoorW.PrintLast Go.Proofs.YtjbdljolpkkhcaaDoorW.PrintMore
attribute [local go_sem] max2_int min2_int max_two min_two max_three min_three max_four min_four   -- for this text's walks alone
set_option linter.unusedVariables false
set_option linter.unusedSimpArgs false

/-! ### oculusref04_apart: function 51 -/
def oculusref04_apart.f (a0 : Int) (a1 : Int) : Option (Int) := if a0 > a1 then (some (wrap64 (a0 - a1))) else (some (wrap64 (a1 - a0)))
set_option maxHeartbeats 8000000 in
set_option maxRecDepth 100000 in
theorem oculusref04_apart.calls (a0 : Int) (a1 : Int) (r : Int) (w : World) (h : oculusref04_apart.f a0 a1 = some r) :
  Calls Tryd.prog 51 #[.int .i64 a0, .int .i64 a1] w fun e w' => e = .returned (.int .i64 r) ∧ Drawn0 w w' := by
 have H : (if a0 > a1 then (some (wrap64 (a0 - a1))) else (some (wrap64 (a1 - a0)))) = some r := h
 clear h
 by_cases c3 : a0 > a1
 ·
  rw [if_pos c3] at H
  have c3b0 : decide (a1 < a0) = true := decide_eq_true c3
  clear c3
  obtain rfl := Option.some.inj H
  go_enter Tryd.func51, Tryd.ntmps51
  go_wp2
  go_ret
  exact ⟨by first | rfl | (simp; done) | (simp [*]; done), by repeat (first | exact Drawn0.refl _ | apply Drawn0.step)⟩
 ·
  rw [if_neg c3] at H
  have c3b0 : decide (a1 < a0) = false := decide_eq_false c3
  clear c3
  obtain rfl := Option.some.inj H
  go_enter Tryd.func51, Tryd.ntmps51
  go_wp2
  go_ret
  exact ⟨by first | rfl | (simp; done) | (simp [*]; done), by repeat (first | exact Drawn0.refl _ | apply Drawn0.step)⟩

end Go.Proofs.YtjbdljolpkkhcaaDoor.X
namespace Go.Proofs.YtjbdljolpkkhcaaDoor.X
open Go.RowKit Go.Proofs.YtjbdljolpkkhcaaDoorW.PrintWords Go.Proofs.YtjbdljolpkkhcaaDoorW.PrintLast Go.Proofs.YtjbdljolpkkhcaaDoorW.PrintMore
attribute [local go_sem] max2_int min2_int max_two min_two max_three min_three max_four min_four   -- for this text's walks alone
set_option linter.unusedVariables false
set_option linter.unusedSimpArgs false

/-! ### oculusref04_Rows: function 31 -/
def oculusref04_Rows.f (a0_0 : Int) (a0_1 : Int) (a0_2 : Int) (a0_3 : Int) : Option (Int) := (oculusref04_May.f a0_0 a0_1 a0_2 a0_3).bind fun t102 => (if t102 = true then ((oculusref04_apart.f a0_0 a0_2).bind fun t103 => (some (wrap64 (t103 + 1)))) else (some 0))
set_option maxHeartbeats 8000000 in
set_option maxRecDepth 100000 in
theorem oculusref04_Rows.calls (a0_0 : Int) (a0_1 : Int) (a0_2 : Int) (a0_3 : Int) (r : Int) (w : World) (h : oculusref04_Rows.f a0_0 a0_1 a0_2 a0_3 = some r) :
  Calls Tryd.prog 31 #[.agg #[.int .i64 a0_0, .int .i64 a0_1, .int .i64 a0_2, .int .i64 a0_3]] w fun e w' => e = .returned (.int .i64 r) ∧ Below w.heap.size w w' := by
 have hu42 := Tryd.underlying42
 have HB := Aside0.mk (Below.refl w.heap.size w)
 have H : ((oculusref04_May.f a0_0 a0_1 a0_2 a0_3).bind fun t102 => (if t102 = true then ((oculusref04_apart.f a0_0 a0_2).bind fun t103 => (some (wrap64 (t103 + 1)))) else (some 0))) = some r := h
 clear h
 replace H := Option.bind_eq_some_iff.mp H
 obtain ⟨t102, A20, H⟩ := H
 replace H : (if t102 = true then ((oculusref04_apart.f a0_0 a0_2).bind fun t103 => (some (wrap64 (t103 + 1)))) else (some 0)) = some r := H
 have A2 := Aside0.mk A20
 clear A20
 by_cases c3 : t102 = true
 ·
  subst c3
  have H1 : ((oculusref04_apart.f a0_0 a0_2).bind fun t103 => (some (wrap64 (t103 + 1)))) = some r := by rw [if_pos rfl] at H; exact H
  clear H
  have H := H1
  clear H1
  replace H := Option.bind_eq_some_iff.mp H
  obtain ⟨t103, A40, H⟩ := H
  replace H : (some (wrap64 (t103 + 1))) = some r := H
  have A4 := Aside0.mk A40
  clear A40
  obtain rfl := Option.some.inj H
  go_enter Tryd.func31, Tryd.ntmps31
  go_wp2_with (first | ((with_reducible refine gate_dst (N := 1) rfl ?_); refine box_event ?hg (N := 1) ?hd (cs := #[.int .i64 a0_0, .int .i64 a0_1, .int .i64 a0_2, .int .i64 a0_3]) (t := 42) ?hr ?_; (case hd => rfl); (case hg => rfl); (case hr => first | (go_simp; done) | (go_simp; rfl)); intro gb101 hg w5 hbox hb; have BK101 := Aside0.mk (hbox); replace HB := Aside0.mk (below_step (pbx HB) hb); clear hb hbox hg; have hcz6_0 : w5.cell? ⟨gb101, 0, none⟩ = some (.int .i64 a0_0) := (blk_cell BK101.out 0).trans rfl; have hcz6_1 : w5.cell? ⟨gb101, 1, none⟩ = some (.int .i64 a0_1) := (blk_cell BK101.out 1).trans rfl; have hcz6_2 : w5.cell? ⟨gb101, 2, none⟩ = some (.int .i64 a0_2) := (blk_cell BK101.out 2).trans rfl; have hcz6_3 : w5.cell? ⟨gb101, 3, none⟩ = some (.int .i64 a0_3) := (blk_cell BK101.out 3).trans rfl) | ((with_reducible refine gate_callee (f := 33) rfl ?_); refine goesL_ (some 4) rfl rfl Tryd.func33 (by kernel_rfl) rfl #[.agg #[.int .i64 a0_0, .int .i64 a0_1, .int .i64 a0_2, .int .i64 a0_3]] rfl (by (try simp only [List.map_toArray, List.map_cons, List.map_nil]); first | done | rfl | (simp only [List.length_drop, List.length_take]; rfl)) ?_; (with_reducible refine (oculusref04_May.calls a0_0 a0_1 a0_2 a0_3 true _ A2.out).mono ?_); rintro e w7 ⟨rfl, hb⟩; refine ⟨_, rfl, ?_⟩; replace BK101 := Aside0.mk (blk_below (pkx BK101) hb); replace HB := Aside0.mk (below_step (pbx HB) hb); (try clear hb); (try clear hb2); (try clear hk); (try clear hi); have hcz8_0 : w7.cell? ⟨gb101, 0, none⟩ = some (.int .i64 a0_0) := (blk_cell BK101.out 0).trans rfl; have hcz8_1 : w7.cell? ⟨gb101, 1, none⟩ = some (.int .i64 a0_1) := (blk_cell BK101.out 1).trans rfl; have hcz8_2 : w7.cell? ⟨gb101, 2, none⟩ = some (.int .i64 a0_2) := (blk_cell BK101.out 2).trans rfl; have hcz8_3 : w7.cell? ⟨gb101, 3, none⟩ = some (.int .i64 a0_3) := (blk_cell BK101.out 3).trans rfl) | ((with_reducible refine gate_callee (f := 51) rfl ?_); refine goesL_ (some 12) rfl rfl Tryd.func51 (by kernel_rfl) rfl #[.int .i64 a0_0, .int .i64 a0_2] rfl (by (try simp only [List.map_toArray, List.map_cons, List.map_nil]); first | done | rfl | (simp only [List.length_drop, List.length_take]; rfl)) ?_; (with_reducible refine (oculusref04_apart.calls a0_0 a0_2 t103 _ A4.out).mono ?_); rintro e w' ⟨rfl, ⟨nd, rfl⟩⟩; refine ⟨_, rfl, ?_⟩))
  go_ret
  exact ⟨by first | rfl | (simp [errW_none, errW_some] <;> rfl) | (simp [*, errW_none, errW_some] <;> rfl), pbx HB⟩
 ·
  replace c3 := Bool.eq_false_iff.mpr c3
  subst c3
  have H1 : (some 0) = some r := by rw [if_neg (show ¬ (false = true) by decide)] at H; exact H
  clear H
  have H := H1
  clear H1
  obtain rfl := Option.some.inj H
  go_enter Tryd.func31, Tryd.ntmps31
  go_wp2_with (first | ((with_reducible refine gate_dst (N := 1) rfl ?_); refine box_event ?hg (N := 1) ?hd (cs := #[.int .i64 a0_0, .int .i64 a0_1, .int .i64 a0_2, .int .i64 a0_3]) (t := 42) ?hr ?_; (case hd => rfl); (case hg => rfl); (case hr => first | (go_simp; done) | (go_simp; rfl)); intro gb101 hg w9 hbox hb; have BK101 := Aside0.mk (hbox); replace HB := Aside0.mk (below_step (pbx HB) hb); clear hb hbox hg; have hcz10_0 : w9.cell? ⟨gb101, 0, none⟩ = some (.int .i64 a0_0) := (blk_cell BK101.out 0).trans rfl; have hcz10_1 : w9.cell? ⟨gb101, 1, none⟩ = some (.int .i64 a0_1) := (blk_cell BK101.out 1).trans rfl; have hcz10_2 : w9.cell? ⟨gb101, 2, none⟩ = some (.int .i64 a0_2) := (blk_cell BK101.out 2).trans rfl; have hcz10_3 : w9.cell? ⟨gb101, 3, none⟩ = some (.int .i64 a0_3) := (blk_cell BK101.out 3).trans rfl) | ((with_reducible refine gate_callee (f := 33) rfl ?_); refine goesL_ (some 4) rfl rfl Tryd.func33 (by kernel_rfl) rfl #[.agg #[.int .i64 a0_0, .int .i64 a0_1, .int .i64 a0_2, .int .i64 a0_3]] rfl (by (try simp only [List.map_toArray, List.map_cons, List.map_nil]); first | done | rfl | (simp only [List.length_drop, List.length_take]; rfl)) ?_; (with_reducible refine (oculusref04_May.calls a0_0 a0_1 a0_2 a0_3 false _ A2.out).mono ?_); rintro e w11 ⟨rfl, hb⟩; refine ⟨_, rfl, ?_⟩; replace BK101 := Aside0.mk (blk_below (pkx BK101) hb); replace HB := Aside0.mk (below_step (pbx HB) hb); (try clear hb); (try clear hb2); (try clear hk); (try clear hi)))
  go_ret
  exact ⟨by first | rfl | (simp [errW_none, errW_some] <;> rfl) | (simp [*, errW_none, errW_some] <;> rfl), pbx HB⟩

end Go.Proofs.YtjbdljolpkkhcaaDoor.X
namespace Go.Proofs.YtjbdljolpkkhcaaDoor.X
open Go.RowKit Go.Proofs.YtjbdljolpkkhcaaDoorW.PrintWords Go.Proofs.YtjbdljolpkkhcaaDoorW.PrintLast Go.Proofs.YtjbdljolpkkhcaaDoorW.PrintMore
attribute [local go_sem] max2_int min2_int max_two min_two max_three min_three max_four min_four   -- for this text's walks alone
set_option linter.unusedVariables false
set_option linter.unusedSimpArgs false

/-! ### oculusref04_Cols: function 32 -/
def oculusref04_Cols.f (a0_0 : Int) (a0_1 : Int) (a0_2 : Int) (a0_3 : Int) : Option (Int) := (oculusref04_May.f a0_0 a0_1 a0_2 a0_3).bind fun t102 => (if t102 = true then ((oculusref04_apart.f a0_1 a0_3).bind fun t103 => (some (wrap64 (t103 + 1)))) else (some 0))
set_option maxHeartbeats 8000000 in
set_option maxRecDepth 100000 in
theorem oculusref04_Cols.calls (a0_0 : Int) (a0_1 : Int) (a0_2 : Int) (a0_3 : Int) (r : Int) (w : World) (h : oculusref04_Cols.f a0_0 a0_1 a0_2 a0_3 = some r) :
  Calls Tryd.prog 32 #[.agg #[.int .i64 a0_0, .int .i64 a0_1, .int .i64 a0_2, .int .i64 a0_3]] w fun e w' => e = .returned (.int .i64 r) ∧ Below w.heap.size w w' := by
 have hu42 := Tryd.underlying42
 have HB := Aside0.mk (Below.refl w.heap.size w)
 have H : ((oculusref04_May.f a0_0 a0_1 a0_2 a0_3).bind fun t102 => (if t102 = true then ((oculusref04_apart.f a0_1 a0_3).bind fun t103 => (some (wrap64 (t103 + 1)))) else (some 0))) = some r := h
 clear h
 replace H := Option.bind_eq_some_iff.mp H
 obtain ⟨t102, A20, H⟩ := H
 replace H : (if t102 = true then ((oculusref04_apart.f a0_1 a0_3).bind fun t103 => (some (wrap64 (t103 + 1)))) else (some 0)) = some r := H
 have A2 := Aside0.mk A20
 clear A20
 by_cases c3 : t102 = true
 ·
  subst c3
  have H1 : ((oculusref04_apart.f a0_1 a0_3).bind fun t103 => (some (wrap64 (t103 + 1)))) = some r := by rw [if_pos rfl] at H; exact H
  clear H
  have H := H1
  clear H1
  replace H := Option.bind_eq_some_iff.mp H
  obtain ⟨t103, A40, H⟩ := H
  replace H : (some (wrap64 (t103 + 1))) = some r := H
  have A4 := Aside0.mk A40
  clear A40
  obtain rfl := Option.some.inj H
  go_enter Tryd.func32, Tryd.ntmps32
  go_wp2_with (first | ((with_reducible refine gate_dst (N := 1) rfl ?_); refine box_event ?hg (N := 1) ?hd (cs := #[.int .i64 a0_0, .int .i64 a0_1, .int .i64 a0_2, .int .i64 a0_3]) (t := 42) ?hr ?_; (case hd => rfl); (case hg => rfl); (case hr => first | (go_simp; done) | (go_simp; rfl)); intro gb101 hg w5 hbox hb; have BK101 := Aside0.mk (hbox); replace HB := Aside0.mk (below_step (pbx HB) hb); clear hb hbox hg; have hcz6_0 : w5.cell? ⟨gb101, 0, none⟩ = some (.int .i64 a0_0) := (blk_cell BK101.out 0).trans rfl; have hcz6_1 : w5.cell? ⟨gb101, 1, none⟩ = some (.int .i64 a0_1) := (blk_cell BK101.out 1).trans rfl; have hcz6_2 : w5.cell? ⟨gb101, 2, none⟩ = some (.int .i64 a0_2) := (blk_cell BK101.out 2).trans rfl; have hcz6_3 : w5.cell? ⟨gb101, 3, none⟩ = some (.int .i64 a0_3) := (blk_cell BK101.out 3).trans rfl) | ((with_reducible refine gate_callee (f := 33) rfl ?_); refine goesL_ (some 4) rfl rfl Tryd.func33 (by kernel_rfl) rfl #[.agg #[.int .i64 a0_0, .int .i64 a0_1, .int .i64 a0_2, .int .i64 a0_3]] rfl (by (try simp only [List.map_toArray, List.map_cons, List.map_nil]); first | done | rfl | (simp only [List.length_drop, List.length_take]; rfl)) ?_; (with_reducible refine (oculusref04_May.calls a0_0 a0_1 a0_2 a0_3 true _ A2.out).mono ?_); rintro e w7 ⟨rfl, hb⟩; refine ⟨_, rfl, ?_⟩; replace BK101 := Aside0.mk (blk_below (pkx BK101) hb); replace HB := Aside0.mk (below_step (pbx HB) hb); (try clear hb); (try clear hb2); (try clear hk); (try clear hi); have hcz8_0 : w7.cell? ⟨gb101, 0, none⟩ = some (.int .i64 a0_0) := (blk_cell BK101.out 0).trans rfl; have hcz8_1 : w7.cell? ⟨gb101, 1, none⟩ = some (.int .i64 a0_1) := (blk_cell BK101.out 1).trans rfl; have hcz8_2 : w7.cell? ⟨gb101, 2, none⟩ = some (.int .i64 a0_2) := (blk_cell BK101.out 2).trans rfl; have hcz8_3 : w7.cell? ⟨gb101, 3, none⟩ = some (.int .i64 a0_3) := (blk_cell BK101.out 3).trans rfl) | ((with_reducible refine gate_callee (f := 51) rfl ?_); refine goesL_ (some 12) rfl rfl Tryd.func51 (by kernel_rfl) rfl #[.int .i64 a0_1, .int .i64 a0_3] rfl (by (try simp only [List.map_toArray, List.map_cons, List.map_nil]); first | done | rfl | (simp only [List.length_drop, List.length_take]; rfl)) ?_; (with_reducible refine (oculusref04_apart.calls a0_1 a0_3 t103 _ A4.out).mono ?_); rintro e w' ⟨rfl, ⟨nd, rfl⟩⟩; refine ⟨_, rfl, ?_⟩))
  go_ret
  exact ⟨by first | rfl | (simp [errW_none, errW_some] <;> rfl) | (simp [*, errW_none, errW_some] <;> rfl), pbx HB⟩
 ·
  replace c3 := Bool.eq_false_iff.mpr c3
  subst c3
  have H1 : (some 0) = some r := by rw [if_neg (show ¬ (false = true) by decide)] at H; exact H
  clear H
  have H := H1
  clear H1
  obtain rfl := Option.some.inj H
  go_enter Tryd.func32, Tryd.ntmps32
  go_wp2_with (first | ((with_reducible refine gate_dst (N := 1) rfl ?_); refine box_event ?hg (N := 1) ?hd (cs := #[.int .i64 a0_0, .int .i64 a0_1, .int .i64 a0_2, .int .i64 a0_3]) (t := 42) ?hr ?_; (case hd => rfl); (case hg => rfl); (case hr => first | (go_simp; done) | (go_simp; rfl)); intro gb101 hg w9 hbox hb; have BK101 := Aside0.mk (hbox); replace HB := Aside0.mk (below_step (pbx HB) hb); clear hb hbox hg; have hcz10_0 : w9.cell? ⟨gb101, 0, none⟩ = some (.int .i64 a0_0) := (blk_cell BK101.out 0).trans rfl; have hcz10_1 : w9.cell? ⟨gb101, 1, none⟩ = some (.int .i64 a0_1) := (blk_cell BK101.out 1).trans rfl; have hcz10_2 : w9.cell? ⟨gb101, 2, none⟩ = some (.int .i64 a0_2) := (blk_cell BK101.out 2).trans rfl; have hcz10_3 : w9.cell? ⟨gb101, 3, none⟩ = some (.int .i64 a0_3) := (blk_cell BK101.out 3).trans rfl) | ((with_reducible refine gate_callee (f := 33) rfl ?_); refine goesL_ (some 4) rfl rfl Tryd.func33 (by kernel_rfl) rfl #[.agg #[.int .i64 a0_0, .int .i64 a0_1, .int .i64 a0_2, .int .i64 a0_3]] rfl (by (try simp only [List.map_toArray, List.map_cons, List.map_nil]); first | done | rfl | (simp only [List.length_drop, List.length_take]; rfl)) ?_; (with_reducible refine (oculusref04_May.calls a0_0 a0_1 a0_2 a0_3 false _ A2.out).mono ?_); rintro e w11 ⟨rfl, hb⟩; refine ⟨_, rfl, ?_⟩; replace BK101 := Aside0.mk (blk_below (pkx BK101) hb); replace HB := Aside0.mk (below_step (pbx HB) hb); (try clear hb); (try clear hb2); (try clear hk); (try clear hi)))
  go_ret
  exact ⟨by first | rfl | (simp [errW_none, errW_some] <;> rfl) | (simp [*, errW_none, errW_some] <;> rfl), pbx HB⟩

end Go.Proofs.YtjbdljolpkkhcaaDoor.X
