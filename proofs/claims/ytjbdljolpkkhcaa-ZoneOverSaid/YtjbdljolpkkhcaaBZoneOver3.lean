/- The law ZoneOver: for every input the call returns true, and each argument reads afterwards as it read before: the statement Rows.ZoneOverSaid, whole, with no condition of ours. -/
import Derived.Test.YtjbdljolpkkhcaaRows
import Derived.WalkKit
import Derived.ProofKit
import Derived.OpenShut
import Derived.ShutString
import Derived.ChangeOld
import Derived.Below
import Derived.SizedLaws
import Derived.Carry
import Derived.Test.YtjbdljolpkkhcaaBZoneOver2
/- The openings of the arguments of the law ZoneOver, and its pure statement. -/
set_option linter.unusedVariables false
namespace Go.Proofs.Ytjbdljolpkkhcaa.X
open Go.RowKit Go.Proofs.YtjbdljolpkkhcaaW.PrintWords Go.Proofs.YtjbdljolpkkhcaaW.PrintLast Go.Proofs.YtjbdljolpkkhcaaW.PrintMore Go.Proofs.Ytjbdljolpkkhcaa.Opn
def good24 (x : S24) : Prop := ((Lit.int .i64 x.f0).wf = true) ∧ ((Lit.int .i64 x.f1).wf = true)
theorem opens24 : Opens Try.prog 24 k24 good24 := opens_struct Try.underlying24 (len := 2) (by kernel_rfl) (tail_cons rfl (by kernel_rfl) (opens_int Try.underlying3) (tail_one rfl (Nat.le_of_eq (by kernel_rfl)) (opens_int Try.underlying3))) (fun x : S24 => (x.f0, x.f1)) (fun a => ⟨a.1, a.2⟩) (fun _ => rfl)
def good26 (x : S26) : Prop := (good24 x.f0) ∧ (good24 x.f1)
theorem opens26 : Opens Try.prog 26 k26 good26 := opens_struct Try.underlying26 (len := 4) (by kernel_rfl) (tail_cons rfl (by kernel_rfl) opens24 (tail_one rfl (Nat.le_of_eq (by kernel_rfl)) opens24)) (fun x : S26 => (x.f0, x.f1)) (fun a => ⟨a.1, a.2⟩) (fun _ => rfl)
def good29 (x : S29) : Prop := ((Lit.int .i64 x.f0).wf = true) ∧ ((Lit.int .u64 x.f1).wf = true)
theorem opens29 : Opens Try.prog 29 k29 good29 := opens_struct Try.underlying29 (len := 2) (by kernel_rfl) (tail_cons rfl (by kernel_rfl) (opens_int Try.underlying3) (tail_one rfl (Nat.le_of_eq (by kernel_rfl)) (opens_int Try.underlying27))) (fun x : S29 => (x.f0, x.f1)) (fun a => ⟨a.1, a.2⟩) (fun _ => rfl)
def good31 (x : S31) : Prop := (good26 x.f0) ∧ (good29 x.f1)
theorem opens31 : Opens Try.prog 31 k31 good31 := opens_struct Try.underlying31 (len := 6) (by kernel_rfl) (tail_cons rfl (by kernel_rfl) opens26 (tail_one rfl (Nat.le_of_eq (by kernel_rfl)) opens29)) (fun x : S31 => (x.f0, x.f1)) (fun a => ⟨a.1, a.2⟩) (fun _ => rfl)
/-- What is left: a statement over numbers and lists alone. -/
def oculuslaw05_ZoneOver.PureX : Prop := ∀ (a0 : (List S31)) (a1 : S26) (a2 : S24), ((∀ y ∈ a0, good31 y) ∧ a0.length * 48 ≤ reachBytes) → (good26 a1) → (good24 a2) → ∃ k, oculuslaw05_ZoneOver.f k a0 (a1.f0.f0) (a1.f0.f1) (a1.f1.f0) (a1.f1.f1) (a2.f0) (a2.f1) = some true
end Go.Proofs.Ytjbdljolpkkhcaa.X
namespace Go.Proofs.Ytjbdljolpkkhcaa.X
open Go.RowKit Go.Proofs.YtjbdljolpkkhcaaW.PrintWords Go.Proofs.YtjbdljolpkkhcaaW.PrintLast Go.Proofs.YtjbdljolpkkhcaaW.PrintMore
attribute [local go_sem] max2_int min2_int max_two min_two max_three min_three max_four min_four   -- for this text's walks alone
set_option linter.unusedVariables false
set_option linter.unusedSimpArgs false

/-! ### oculusref05_Wrong: function 12 -/
mutual
def oculusref05_Wrong.l0 : Nat → List (S31) → Int → Int → Int → Option (Int × Int)
 | 0, _, _, _, _ => none
 | k + 1, x0, x1, x2, x7 => if x7 < (x0.length : Int) then (if 0 ≤ x7 then (if x7 > 31 then (some (x7, 10)) else ((oculusref04_May.f ((rd_T31 x0 x7).f0.f0.f0) ((rd_T31 x0 x7).f0.f0.f1) ((rd_T31 x0 x7).f0.f1.f0) ((rd_T31 x0 x7).f0.f1.f1)).bind fun t104 => (if t104 = true then (if ((rd_T31 x0 x7).f0.f0.f0) > ((rd_T31 x0 x7).f0.f1.f0) then (oculusref05_Wrong.j1 k x0 x1 x2 x7 true ((rd_T31 x0 x7).f0.f0.f0) ((rd_T31 x0 x7).f0.f0.f1) ((rd_T31 x0 x7).f0.f1.f0) ((rd_T31 x0 x7).f0.f1.f1) ((rd_T31 x0 x7).f1.f0) ((rd_T31 x0 x7).f1.f1)) else (oculusref05_Wrong.j1 k x0 x1 x2 x7 (decide (((rd_T31 x0 x7).f0.f0.f1) > ((rd_T31 x0 x7).f0.f1.f1))) ((rd_T31 x0 x7).f0.f0.f0) ((rd_T31 x0 x7).f0.f0.f1) ((rd_T31 x0 x7).f0.f1.f0) ((rd_T31 x0 x7).f0.f1.f1) ((rd_T31 x0 x7).f1.f0) ((rd_T31 x0 x7).f1.f1))) else (oculusref05_Wrong.j1 k x0 x1 x2 x7 true ((rd_T31 x0 x7).f0.f0.f0) ((rd_T31 x0 x7).f0.f0.f1) ((rd_T31 x0 x7).f0.f1.f0) ((rd_T31 x0 x7).f0.f1.f1) ((rd_T31 x0 x7).f1.f0) ((rd_T31 x0 x7).f1.f1))))) else (none)) else (some (0, 0))
def oculusref05_Wrong.j1 : Nat → List (S31) → Int → Int → Int → Bool → Int → Int → Int → Int → Int → Int → Option (Int × Int)
 | 0, _, _, _, _, _, _, _, _, _, _, _ => none
 | k + 1, x0, x1, x2, x7, x48, x104000, x104001, x104002, x104003, x104004, x104005 => if x48 = true then (some (x7, 1)) else (if x104002 ≥ x1 then (oculusref05_Wrong.j2 k x0 x1 x2 x7 true x104000 x104001 x104002 x104003 x104004 x104005) else (oculusref05_Wrong.j2 k x0 x1 x2 x7 (decide (x104003 ≥ x2)) x104000 x104001 x104002 x104003 x104004 x104005))
def oculusref05_Wrong.j2 : Nat → List (S31) → Int → Int → Int → Bool → Int → Int → Int → Int → Int → Int → Option (Int × Int)
 | 0, _, _, _, _, _, _, _, _, _, _, _ => none
 | k + 1, x0, x1, x2, x7, x64, x104000, x104001, x104002, x104003, x104004, x104005 => if x64 = true then (some (x7, 2)) else (if x104004 < 0 then (some (x7, 7)) else (if x104004 > 15 then (some (x7, 7)) else (oculusref05_Wrong.l0 k x0 x1 x2 (wrap64 (x7 + 1)))))
end
def oculusref05_Wrong.f (k : Nat) (l0 : List (S31)) (a1 : Int) (a2 : Int) : Option (Int × Int) := oculusref05_Wrong.l0 k l0 a1 a2 0
theorem oculusref05_Wrong.mono_l : ∀ k, (∀ y0 y1 y2 y3, LeO (oculusref05_Wrong.l0 k y0 y1 y2 y3) (oculusref05_Wrong.l0 (k + 1) y0 y1 y2 y3)) ∧ (∀ y0 y1 y2 y3 y4 y5 y6 y7 y8 y9 y10, LeO (oculusref05_Wrong.j1 k y0 y1 y2 y3 y4 y5 y6 y7 y8 y9 y10) (oculusref05_Wrong.j1 (k + 1) y0 y1 y2 y3 y4 y5 y6 y7 y8 y9 y10)) ∧ (∀ y0 y1 y2 y3 y4 y5 y6 y7 y8 y9 y10, LeO (oculusref05_Wrong.j2 k y0 y1 y2 y3 y4 y5 y6 y7 y8 y9 y10) (oculusref05_Wrong.j2 (k + 1) y0 y1 y2 y3 y4 y5 y6 y7 y8 y9 y10))
 | 0 => ⟨fun _ _ _ _ r h => by simp [oculusref05_Wrong.l0] at h, fun _ _ _ _ _ _ _ _ _ _ _ r h => by simp [oculusref05_Wrong.j1] at h, fun _ _ _ _ _ _ _ _ _ _ _ r h => by simp [oculusref05_Wrong.j2] at h⟩
 | k + 1 => by
  obtain ⟨ih0, ih1, ih2⟩ := oculusref05_Wrong.mono_l k
  refine ⟨?_, ?_, ?_⟩
  ·
   intro y0 y1 y2 y3
   unfold oculusref05_Wrong.l0
   repeat' first
   | (with_reducible exact ih0 _ _ _ _)
   | (with_reducible exact ih1 _ _ _ _ _ _ _ _ _ _ _)
   | (with_reducible exact ih2 _ _ _ _ _ _ _ _ _ _ _)
   | (with_reducible exact LeO.refl _)
   | (with_reducible exact LeO.none _)
   | (with_reducible refine LeO.ite ?_ ?_)
   | (with_reducible refine LeO.bind ?_ (fun _ => ?_))
   | exact ih0 _ _ _ _
   | exact ih1 _ _ _ _ _ _ _ _ _ _ _
   | exact ih2 _ _ _ _ _ _ _ _ _ _ _
   | exact LeO.none _
   | refine LeO.ite ?_ ?_
   | refine LeO.bind ?_ (fun _ => ?_)
  ·
   intro y0 y1 y2 y3 y4 y5 y6 y7 y8 y9 y10
   unfold oculusref05_Wrong.j1
   repeat' first
   | (with_reducible exact ih0 _ _ _ _)
   | (with_reducible exact ih1 _ _ _ _ _ _ _ _ _ _ _)
   | (with_reducible exact ih2 _ _ _ _ _ _ _ _ _ _ _)
   | (with_reducible exact LeO.refl _)
   | (with_reducible exact LeO.none _)
   | (with_reducible refine LeO.ite ?_ ?_)
   | (with_reducible refine LeO.bind ?_ (fun _ => ?_))
   | exact ih0 _ _ _ _
   | exact ih1 _ _ _ _ _ _ _ _ _ _ _
   | exact ih2 _ _ _ _ _ _ _ _ _ _ _
   | exact LeO.none _
   | refine LeO.ite ?_ ?_
   | refine LeO.bind ?_ (fun _ => ?_)
  ·
   intro y0 y1 y2 y3 y4 y5 y6 y7 y8 y9 y10
   unfold oculusref05_Wrong.j2
   repeat' first
   | (with_reducible exact ih0 _ _ _ _)
   | (with_reducible exact ih1 _ _ _ _ _ _ _ _ _ _ _)
   | (with_reducible exact ih2 _ _ _ _ _ _ _ _ _ _ _)
   | (with_reducible exact LeO.refl _)
   | (with_reducible exact LeO.none _)
   | (with_reducible refine LeO.ite ?_ ?_)
   | (with_reducible refine LeO.bind ?_ (fun _ => ?_))
   | exact ih0 _ _ _ _
   | exact ih1 _ _ _ _ _ _ _ _ _ _ _
   | exact ih2 _ _ _ _ _ _ _ _ _ _ _
   | exact LeO.none _
   | refine LeO.ite ?_ ?_
   | refine LeO.bind ?_ (fun _ => ?_)
theorem oculusref05_Wrong.mono : ∀ a0 a1 a2 k, LeO (oculusref05_Wrong.f k a0 a1 a2) (oculusref05_Wrong.f (k + 1) a0 a1 a2) := by
 intro a0 a1 a2 k
 obtain ⟨ih0, ih1, ih2⟩ := oculusref05_Wrong.mono_l k
 unfold oculusref05_Wrong.f
 repeat' first
   | (with_reducible exact ih0 _ _ _ _)
   | (with_reducible exact ih1 _ _ _ _ _ _ _ _ _ _ _)
   | (with_reducible exact ih2 _ _ _ _ _ _ _ _ _ _ _)
   | (with_reducible exact LeO.refl _)
   | (with_reducible exact LeO.none _)
   | (with_reducible refine LeO.ite ?_ ?_)
   | (with_reducible refine LeO.bind ?_ (fun _ => ?_))
   | exact ih0 _ _ _ _
   | exact ih1 _ _ _ _ _ _ _ _ _ _ _
   | exact ih2 _ _ _ _ _ _ _ _ _ _ _
   | exact LeO.none _
   | refine LeO.ite ?_ ?_
   | refine LeO.bind ?_ (fun _ => ?_)
set_option maxHeartbeats 8000000 in
set_option maxRecDepth 100000 in
theorem oculusref05_Wrong.calls (k : Nat) (A0 : Option Addr) (c0 : Nat) (l0 : List (S31)) (a1 : Int) (a2 : Int) (r1 : Int) (r2 : Int) (w : World) (hr0 : Kd.C k31 w A0 l0.length l0) (hc0 : l0.length ≤ c0) (h : oculusref05_Wrong.f k l0 a1 a2 = some (r1, r2)) :
  Calls Try.prog 12 #[.slice A0 l0.length c0, .int .i64 a1, .int .i64 a2] w fun e w' => e = .returned (.agg #[.int .i64 r1, .int .i64 r2]) ∧ Below w.heap.size w w' := by
 have hu40 := Try.underlying40
 have hu31 := Try.underlying31
 have hu26 := Try.underlying26
 have HR0 := Aside0.mk hr0
 have HC0 := Aside0.mk hc0
 clear hr0 hc0
 have HB := Aside0.mk (Below.refl w.heap.size w)
 have H : (oculusref05_Wrong.l0 k l0 a1 a2 0) = some (r1, r2) := h
 clear h
 have H' := Aside0.mk H
 clear H
 go_enter Try.func12, Try.ntmps12
 go_wp2_with (first | ((with_reducible refine gate_dst (N := 6) rfl ?_); refine box_event ?hg (N := 6) ?hd (cs := #[.int .i64 0, .int .i64 0]) (t := 40) ?hr ?_; (case hd => rfl); (case hg => rfl); (case hr => first | (go_simp; done) | (go_simp; rfl)); intro gb101 hg w4 hbox hb; have n0_ := Aside0.mk (below_step (pbx HB) hb); have n1_ := Aside0.mk (hbox); have n2_ := Aside0.mk ((by rw [hg]; exact (below_size (pbx HB)) : w.heap.size ≤ gb101)); have n3_ := Aside0.mk ((by rw [hg]; exact (below_size (pbx HB)) : w.heap.size ≤ gb101)); clear HB; have HB := n0_; have BK101 := n1_; have GW101 := n2_; have GE101 := n3_; clear n0_ n1_ n2_ n3_; clear hb hbox hg))
 go_loopg [7] k (fun kq v7 w' => ∃ (x7_1 : Int) (x102000_1 : Int) (x102001_1 : Int), v7 = .int .i64 x7_1 ∧ Aside0 (oculusref05_Wrong.l0 kq l0 a1 a2 x7_1 = some (r1, r2)) ∧ Aside0 (kq ≤ k) ∧ Aside0 (w'.heap[gb101]? = some (.cells #[.int .i64 x102000_1, .int .i64 x102001_1] 40 (0, 0))) ∧ Aside0 (Below w.heap.size w w'))
 case atStart => exact ⟨(0), (0), (0), (by first | rfl | (simp; done) | (simp [*]; done)), H', ⟨Nat.le_refl _⟩, ⟨pkx BK101⟩, ⟨pbx HB⟩⟩
 case round =>
  clear H'
  try clear c1
  try clear p2
  obtain ⟨x7_1, x102000_1, x102001_1, rfl, HA, HK1, BK101, HB⟩ := hrel
  cases gk with
  | zero => exact absurd HA.out (by simp [oculusref05_Wrong.l0])
  | succ k1 =>
   have H := HA.out
   clear HA
   simp only [oculusref05_Wrong.l0] at H
   by_cases c5 : x7_1 < (l0.length : Int)
   ·
    rw [if_pos c5] at H
    have c5b0 : decide (x7_1 < (l0.length : Int)) = true := decide_eq_true c5
    clear c5
    by_cases c6 : 0 ≤ x7_1
    ·
     rw [if_pos c6] at H
     have c6b0 : decide (0 ≤ x7_1) = true := decide_eq_true c6
     clear c6
     by_cases c7 : x7_1 > 31
     ·
      rw [if_pos c7] at H
      have c7b0 : decide (31 < x7_1) = true := decide_eq_true c7
      clear c7
      simp only [Option.some.injEq, Prod.mk.injEq] at H
      obtain ⟨rfl, rfl⟩ := H
      have p102 : 0 ≤ (x7_1 : Int) := of_decide_eq_true (by first | (with_reducible assumption) | assumption)
      have q102 : x7_1 < (l0.length : Int) := of_decide_eq_true (by first | (with_reducible assumption) | assumption)
      obtain ⟨ad102, e102, hx102_0, hx102_1, hx102_2, hx102_3, hx102_4, hx102_5⟩ := at_T31 HR0.out x7_1 p102 q102
      cases e102
      replace hx102_0 := (HB.out.cell (World.block_lt_of_cell? w _ hx102_0)).trans hx102_0
      replace hx102_1 := (HB.out.cell (World.block_lt_of_cell? w _ hx102_1)).trans hx102_1
      replace hx102_2 := (HB.out.cell (World.block_lt_of_cell? w _ hx102_2)).trans hx102_2
      replace hx102_3 := (HB.out.cell (World.block_lt_of_cell? w _ hx102_3)).trans hx102_3
      replace hx102_4 := (HB.out.cell (World.block_lt_of_cell? w _ hx102_4)).trans hx102_4
      replace hx102_5 := (HB.out.cell (World.block_lt_of_cell? w _ hx102_5)).trans hx102_5
      replace p102 := eq_true p102
      replace q102 := eq_true q102
      go_wp2_with (first | ((with_reducible refine gate_dst (N := 8) rfl ?_); refine box_event ?hg (N := 8) ?hd (cs := #[.int .i64 0, .int .i64 0, .int .i64 0, .int .i64 0, .int .i64 0, .int .u64 0]) (t := 31) ?hr ?_; (case hd => rfl); (case hg => rfl); (case hr => first | (go_simp; done) | (go_simp; rfl)); intro gb103 hg w8 hbox hb; have n0_ := Aside0.mk (blk_below (pkx BK101) hb); have n1_ := Aside0.mk (below_step (pbx HB) hb); have n2_ := Aside0.mk (hbox); have n3_ := Aside0.mk ((by rw [hg]; exact (below_size (pbx HB)) : w.heap.size ≤ gb103)); have n4_ := Aside0.mk ((by rw [hg]; exact (below_size (pbx HB)) : w.heap.size ≤ gb103)); have n5_ := Aside0.mk ((by rw [hg]; exact Nat.ne_of_lt (blk_lt (pkx BK101)) : gb101 ≠ gb103)); have n6_ := Aside0.mk ((by rw [hg]; exact Nat.ne_of_gt (blk_lt (pkx BK101)) : gb103 ≠ gb101)); clear BK101; clear HB; have BK101 := n0_; have HB := n1_; have BK103 := n2_; have GW103 := n3_; have GE103 := n4_; have NB101_103 := n5_; have NB103_101 := n6_; clear n0_ n1_ n2_ n3_ n4_ n5_ n6_; clear hb hbox hg; have hnb9 := NB103_101.out; have hnc9 := NB101_103.out; have hcz10_0 : w8.cell? ⟨gb103, 0, none⟩ = some (.int .i64 0) := (blk_cell BK103.out 0).trans rfl; have hcz10_1 : w8.cell? ⟨gb103, 1, none⟩ = some (.int .i64 0) := (blk_cell BK103.out 1).trans rfl; have hcz10_2 : w8.cell? ⟨gb103, 2, none⟩ = some (.int .i64 0) := (blk_cell BK103.out 2).trans rfl; have hcz10_3 : w8.cell? ⟨gb103, 3, none⟩ = some (.int .i64 0) := (blk_cell BK103.out 3).trans rfl; have hcz10_4 : w8.cell? ⟨gb103, 4, none⟩ = some (.int .i64 0) := (blk_cell BK103.out 4).trans rfl; have hcz10_5 : w8.cell? ⟨gb103, 5, none⟩ = some (.int .u64 0) := (blk_cell BK103.out 5).trans rfl; have hfz10_0 := blk_frozen BK103.out 0; have hfz10_1 := blk_frozen BK103.out 1; have hfz10_2 := blk_frozen BK103.out 2; have hfz10_3 := blk_frozen BK103.out 3; have hfz10_4 := blk_frozen BK103.out 4; have hfz10_5 := blk_frozen BK103.out 5; have hcz11_0 : w8.cell? ⟨gb101, 0, none⟩ = some (.int .i64 x102000_1) := (blk_cell BK101.out 0).trans rfl; have hcz11_1 : w8.cell? ⟨gb101, 1, none⟩ = some (.int .i64 x102001_1) := (blk_cell BK101.out 1).trans rfl; have hfz11_0 := blk_frozen BK101.out 0; have hfz11_1 := blk_frozen BK101.out 1))
      refine bodyPost_ret (results_cell_row rfl _ _ gb101 40 #[.int .i64 x7_1, .int .i64 10] (0, 0) _ rfl (by (with_reducible repeat (first | refine blk_drewN ?_ _ | refine blk_drew ?_ | refine blk_alloc ?_ _)); refine blk_put (cs := #[.int .i64 x7_1, .int .i64 x102001_1]) ?_ 1 _ rfl; (with_reducible repeat (first | refine blk_drewN ?_ _ | refine blk_drew ?_ | refine blk_alloc ?_ _)); refine blk_put (cs := #[.int .i64 x102000_1, .int .i64 x102001_1]) ?_ 0 _ rfl; (with_reducible repeat (first | refine blk_drewN ?_ _ | refine blk_drew ?_ | refine blk_alloc ?_ _)); refine blk_far ?_ NB101_103.out _; (with_reducible repeat (first | refine blk_drewN ?_ _ | refine blk_drew ?_ | refine blk_alloc ?_ _)); refine blk_far ?_ NB101_103.out _; (with_reducible repeat (first | refine blk_drewN ?_ _ | refine blk_drew ?_ | refine blk_alloc ?_ _)); refine blk_far ?_ NB101_103.out _; (with_reducible repeat (first | refine blk_drewN ?_ _ | refine blk_drew ?_ | refine blk_alloc ?_ _)); refine blk_far ?_ NB101_103.out _; (with_reducible repeat (first | refine blk_drewN ?_ _ | refine blk_drew ?_ | refine blk_alloc ?_ _)); refine blk_far ?_ NB101_103.out _; (with_reducible repeat (first | refine blk_drewN ?_ _ | refine blk_drew ?_ | refine blk_alloc ?_ _)); refine blk_far ?_ NB101_103.out _; (with_reducible repeat (first | refine blk_drewN ?_ _ | refine blk_drew ?_ | refine blk_alloc ?_ _)); exact BK101.out) Try.underlying40 rfl (by kernel_rfl)) rfl ?_
      exact ⟨by first | rfl | (simp [errW_none, errW_some] <;> rfl) | (simp [*, errW_none, errW_some] <;> rfl), by repeat (first | (with_reducible first | exact HB.out | apply below_alloc | apply pw_below_drewN | apply below_drew1 | refine below_set ?_ GE101.out | refine below_set ?_ GE103.out) | exact HB.out)⟩
     ·
      rw [if_neg c7] at H
      have c7b0 : decide (31 < x7_1) = false := decide_eq_false c7
      clear c7
      have HC12 := Aside0.mk H
      clear H
      have p102 : 0 ≤ (x7_1 : Int) := of_decide_eq_true (by first | (with_reducible assumption) | assumption)
      have q102 : x7_1 < (l0.length : Int) := of_decide_eq_true (by first | (with_reducible assumption) | assumption)
      obtain ⟨ad102, e102, hx102_0, hx102_1, hx102_2, hx102_3, hx102_4, hx102_5⟩ := at_T31 HR0.out x7_1 p102 q102
      cases e102
      replace hx102_0 := (HB.out.cell (World.block_lt_of_cell? w _ hx102_0)).trans hx102_0
      replace hx102_1 := (HB.out.cell (World.block_lt_of_cell? w _ hx102_1)).trans hx102_1
      replace hx102_2 := (HB.out.cell (World.block_lt_of_cell? w _ hx102_2)).trans hx102_2
      replace hx102_3 := (HB.out.cell (World.block_lt_of_cell? w _ hx102_3)).trans hx102_3
      replace hx102_4 := (HB.out.cell (World.block_lt_of_cell? w _ hx102_4)).trans hx102_4
      replace hx102_5 := (HB.out.cell (World.block_lt_of_cell? w _ hx102_5)).trans hx102_5
      replace p102 := eq_true p102
      replace q102 := eq_true q102
      go_upto_region 7 with (first | ((with_reducible refine gate_dst (N := 8) rfl ?_); refine box_event ?hg (N := 8) ?hd (cs := #[.int .i64 0, .int .i64 0, .int .i64 0, .int .i64 0, .int .i64 0, .int .u64 0]) (t := 31) ?hr ?_; (case hd => rfl); (case hg => rfl); (case hr => first | (go_simp; done) | (go_simp; rfl)); intro gb103 hg w13 hbox hb; have n0_ := Aside0.mk (blk_below (pkx BK101) hb); have n1_ := Aside0.mk (below_step (pbx HB) hb); have n2_ := Aside0.mk (hbox); have n3_ := Aside0.mk ((by rw [hg]; exact (below_size (pbx HB)) : w.heap.size ≤ gb103)); have n4_ := Aside0.mk ((by rw [hg]; exact (below_size (pbx HB)) : w.heap.size ≤ gb103)); have n5_ := Aside0.mk ((by rw [hg]; exact Nat.ne_of_lt (blk_lt (pkx BK101)) : gb101 ≠ gb103)); have n6_ := Aside0.mk ((by rw [hg]; exact Nat.ne_of_gt (blk_lt (pkx BK101)) : gb103 ≠ gb101)); clear BK101; clear HB; have BK101 := n0_; have HB := n1_; have BK103 := n2_; have GW103 := n3_; have GE103 := n4_; have NB101_103 := n5_; have NB103_101 := n6_; clear n0_ n1_ n2_ n3_ n4_ n5_ n6_; clear hb hbox hg; have hnb14 := NB103_101.out; have hnc14 := NB101_103.out; have hcz15_0 : w13.cell? ⟨gb103, 0, none⟩ = some (.int .i64 0) := (blk_cell BK103.out 0).trans rfl; have hcz15_1 : w13.cell? ⟨gb103, 1, none⟩ = some (.int .i64 0) := (blk_cell BK103.out 1).trans rfl; have hcz15_2 : w13.cell? ⟨gb103, 2, none⟩ = some (.int .i64 0) := (blk_cell BK103.out 2).trans rfl; have hcz15_3 : w13.cell? ⟨gb103, 3, none⟩ = some (.int .i64 0) := (blk_cell BK103.out 3).trans rfl; have hcz15_4 : w13.cell? ⟨gb103, 4, none⟩ = some (.int .i64 0) := (blk_cell BK103.out 4).trans rfl; have hcz15_5 : w13.cell? ⟨gb103, 5, none⟩ = some (.int .u64 0) := (blk_cell BK103.out 5).trans rfl; have hfz15_0 := blk_frozen BK103.out 0; have hfz15_1 := blk_frozen BK103.out 1; have hfz15_2 := blk_frozen BK103.out 2; have hfz15_3 := blk_frozen BK103.out 3; have hfz15_4 := blk_frozen BK103.out 4; have hfz15_5 := blk_frozen BK103.out 5))
      (try simp only [Act.put, q_])
      go_cut [48] (fun v48 wc => ∃ (kq : Nat) (x48_11 : Bool), v48 = .bool x48_11 ∧ Aside0 (oculusref05_Wrong.j1 kq l0 a1 a2 x7_1 x48_11 ((rd_T31 l0 x7_1).f0.f0.f0) ((rd_T31 l0 x7_1).f0.f0.f1) ((rd_T31 l0 x7_1).f0.f1.f0) ((rd_T31 l0 x7_1).f0.f1.f1) ((rd_T31 l0 x7_1).f1.f0) ((rd_T31 l0 x7_1).f1.f1) = some (r1, r2)) ∧ Aside0 (kq ≤ k1) ∧ Aside0 (wc.heap[gb101]? = some (.cells #[.int .i64 x102000_1, .int .i64 x102001_1] 40 (0, 0))) ∧ Aside0 (wc.heap[gb103]? = some (.cells #[.int .i64 ((rd_T31 l0 x7_1).f0.f0.f0), .int .i64 ((rd_T31 l0 x7_1).f0.f0.f1), .int .i64 ((rd_T31 l0 x7_1).f0.f1.f0), .int .i64 ((rd_T31 l0 x7_1).f0.f1.f1), .int .i64 ((rd_T31 l0 x7_1).f1.f0), .int .u64 ((rd_T31 l0 x7_1).f1.f1)] 31 (0, 0))) ∧ Aside0 (Below w.heap.size w wc))
      case first =>
       have H := HC12.out
       clear HC12
       replace H := Option.bind_eq_some_iff.mp H
       obtain ⟨t104, A160, H⟩ := H
       replace H : (if t104 = true then (if ((rd_T31 l0 x7_1).f0.f0.f0) > ((rd_T31 l0 x7_1).f0.f1.f0) then (oculusref05_Wrong.j1 k1 l0 a1 a2 x7_1 true ((rd_T31 l0 x7_1).f0.f0.f0) ((rd_T31 l0 x7_1).f0.f0.f1) ((rd_T31 l0 x7_1).f0.f1.f0) ((rd_T31 l0 x7_1).f0.f1.f1) ((rd_T31 l0 x7_1).f1.f0) ((rd_T31 l0 x7_1).f1.f1)) else (oculusref05_Wrong.j1 k1 l0 a1 a2 x7_1 (decide (((rd_T31 l0 x7_1).f0.f0.f1) > ((rd_T31 l0 x7_1).f0.f1.f1))) ((rd_T31 l0 x7_1).f0.f0.f0) ((rd_T31 l0 x7_1).f0.f0.f1) ((rd_T31 l0 x7_1).f0.f1.f0) ((rd_T31 l0 x7_1).f0.f1.f1) ((rd_T31 l0 x7_1).f1.f0) ((rd_T31 l0 x7_1).f1.f1))) else (oculusref05_Wrong.j1 k1 l0 a1 a2 x7_1 true ((rd_T31 l0 x7_1).f0.f0.f0) ((rd_T31 l0 x7_1).f0.f0.f1) ((rd_T31 l0 x7_1).f0.f1.f0) ((rd_T31 l0 x7_1).f0.f1.f1) ((rd_T31 l0 x7_1).f1.f0) ((rd_T31 l0 x7_1).f1.f1))) = some (r1, r2) := H
       have A16 := Aside0.mk A160
       clear A160
       by_cases c17 : t104 = true
       ·
        subst c17
        have H1 : (if ((rd_T31 l0 x7_1).f0.f0.f0) > ((rd_T31 l0 x7_1).f0.f1.f0) then (oculusref05_Wrong.j1 k1 l0 a1 a2 x7_1 true ((rd_T31 l0 x7_1).f0.f0.f0) ((rd_T31 l0 x7_1).f0.f0.f1) ((rd_T31 l0 x7_1).f0.f1.f0) ((rd_T31 l0 x7_1).f0.f1.f1) ((rd_T31 l0 x7_1).f1.f0) ((rd_T31 l0 x7_1).f1.f1)) else (oculusref05_Wrong.j1 k1 l0 a1 a2 x7_1 (decide (((rd_T31 l0 x7_1).f0.f0.f1) > ((rd_T31 l0 x7_1).f0.f1.f1))) ((rd_T31 l0 x7_1).f0.f0.f0) ((rd_T31 l0 x7_1).f0.f0.f1) ((rd_T31 l0 x7_1).f0.f1.f0) ((rd_T31 l0 x7_1).f0.f1.f1) ((rd_T31 l0 x7_1).f1.f0) ((rd_T31 l0 x7_1).f1.f1))) = some (r1, r2) := by rw [if_pos rfl] at H; exact H
        clear H
        have H := H1
        clear H1
        by_cases c18 : ((rd_T31 l0 x7_1).f0.f0.f0) > ((rd_T31 l0 x7_1).f0.f1.f0)
        ·
         rw [if_pos c18] at H
         have c18b0 : decide (((rd_T31 l0 x7_1).f0.f1.f0) < ((rd_T31 l0 x7_1).f0.f0.f0)) = true := decide_eq_true c18
         clear c18
         (first | rw [c18b0] | (simp only [i64_w, i32_w]; rw [c18b0]) | skip)
         have H' := Aside0.mk H
         clear H
         have hnb19 := NB103_101.out
         have hnc19 := NB101_103.out
         have hcz20_0 : w13.cell? ⟨gb103, 0, none⟩ = some (.int .i64 0) := (blk_cell BK103.out 0).trans rfl
         have hcz20_1 : w13.cell? ⟨gb103, 1, none⟩ = some (.int .i64 0) := (blk_cell BK103.out 1).trans rfl
         have hcz20_2 : w13.cell? ⟨gb103, 2, none⟩ = some (.int .i64 0) := (blk_cell BK103.out 2).trans rfl
         have hcz20_3 : w13.cell? ⟨gb103, 3, none⟩ = some (.int .i64 0) := (blk_cell BK103.out 3).trans rfl
         have hcz20_4 : w13.cell? ⟨gb103, 4, none⟩ = some (.int .i64 0) := (blk_cell BK103.out 4).trans rfl
         have hcz20_5 : w13.cell? ⟨gb103, 5, none⟩ = some (.int .u64 0) := (blk_cell BK103.out 5).trans rfl
         have hfz20_0 := blk_frozen BK103.out 0
         have hfz20_1 := blk_frozen BK103.out 1
         have hfz20_2 := blk_frozen BK103.out 2
         have hfz20_3 := blk_frozen BK103.out 3
         have hfz20_4 := blk_frozen BK103.out 4
         have hfz20_5 := blk_frozen BK103.out 5
         go_wp2_with (first | ((with_reducible refine gate_callee (f := 29) rfl ?_); refine goesL_ (some 25) rfl rfl Try.func29 (by kernel_rfl) rfl #[.agg #[.int .i64 ((rd_T31 l0 x7_1).f0.f0.f0), .int .i64 ((rd_T31 l0 x7_1).f0.f0.f1), .int .i64 ((rd_T31 l0 x7_1).f0.f1.f0), .int .i64 ((rd_T31 l0 x7_1).f0.f1.f1)]] rfl (by (try simp only [List.map_toArray, List.map_cons, List.map_nil]); first | done | rfl | (simp only [List.length_drop, List.length_take]; rfl)) ?_; (with_reducible refine (oculusref04_May.calls ((rd_T31 l0 x7_1).f0.f0.f0) ((rd_T31 l0 x7_1).f0.f0.f1) ((rd_T31 l0 x7_1).f0.f1.f0) ((rd_T31 l0 x7_1).f0.f1.f1) true _ A16.out).mono ?_); rintro e w21 ⟨rfl, hb⟩; refine ⟨_, rfl, ?_⟩; have n0_ := Aside0.mk (blk_below (g := gb101) (o := .cells #[.int .i64 x102000_1, .int .i64 x102001_1] 40 (0, 0)) (by (with_reducible repeat (first | refine blk_drewN ?_ _ | refine blk_drew ?_ | refine blk_alloc ?_ _)); refine blk_far ?_ NB101_103.out _; (with_reducible repeat (first | refine blk_drewN ?_ _ | refine blk_drew ?_ | refine blk_alloc ?_ _)); refine blk_far ?_ NB101_103.out _; (with_reducible repeat (first | refine blk_drewN ?_ _ | refine blk_drew ?_ | refine blk_alloc ?_ _)); refine blk_far ?_ NB101_103.out _; (with_reducible repeat (first | refine blk_drewN ?_ _ | refine blk_drew ?_ | refine blk_alloc ?_ _)); refine blk_far ?_ NB101_103.out _; (with_reducible repeat (first | refine blk_drewN ?_ _ | refine blk_drew ?_ | refine blk_alloc ?_ _)); refine blk_far ?_ NB101_103.out _; (with_reducible repeat (first | refine blk_drewN ?_ _ | refine blk_drew ?_ | refine blk_alloc ?_ _)); refine blk_far ?_ NB101_103.out _; (with_reducible repeat (first | refine blk_drewN ?_ _ | refine blk_drew ?_ | refine blk_alloc ?_ _)); exact BK101.out) hb); have n1_ := Aside0.mk (blk_below (g := gb103) (o := .cells #[.int .i64 ((rd_T31 l0 x7_1).f0.f0.f0), .int .i64 ((rd_T31 l0 x7_1).f0.f0.f1), .int .i64 ((rd_T31 l0 x7_1).f0.f1.f0), .int .i64 ((rd_T31 l0 x7_1).f0.f1.f1), .int .i64 ((rd_T31 l0 x7_1).f1.f0), .int .u64 ((rd_T31 l0 x7_1).f1.f1)] 31 (0, 0)) (by (with_reducible repeat (first | refine blk_drewN ?_ _ | refine blk_drew ?_ | refine blk_alloc ?_ _)); refine blk_put (cs := #[.int .i64 ((rd_T31 l0 x7_1).f0.f0.f0), .int .i64 ((rd_T31 l0 x7_1).f0.f0.f1), .int .i64 ((rd_T31 l0 x7_1).f0.f1.f0), .int .i64 ((rd_T31 l0 x7_1).f0.f1.f1), .int .i64 ((rd_T31 l0 x7_1).f1.f0), .int .u64 0]) ?_ 5 _ rfl; (with_reducible repeat (first | refine blk_drewN ?_ _ | refine blk_drew ?_ | refine blk_alloc ?_ _)); refine blk_put (cs := #[.int .i64 ((rd_T31 l0 x7_1).f0.f0.f0), .int .i64 ((rd_T31 l0 x7_1).f0.f0.f1), .int .i64 ((rd_T31 l0 x7_1).f0.f1.f0), .int .i64 ((rd_T31 l0 x7_1).f0.f1.f1), .int .i64 0, .int .u64 0]) ?_ 4 _ rfl; (with_reducible repeat (first | refine blk_drewN ?_ _ | refine blk_drew ?_ | refine blk_alloc ?_ _)); refine blk_put (cs := #[.int .i64 ((rd_T31 l0 x7_1).f0.f0.f0), .int .i64 ((rd_T31 l0 x7_1).f0.f0.f1), .int .i64 ((rd_T31 l0 x7_1).f0.f1.f0), .int .i64 0, .int .i64 0, .int .u64 0]) ?_ 3 _ rfl; (with_reducible repeat (first | refine blk_drewN ?_ _ | refine blk_drew ?_ | refine blk_alloc ?_ _)); refine blk_put (cs := #[.int .i64 ((rd_T31 l0 x7_1).f0.f0.f0), .int .i64 ((rd_T31 l0 x7_1).f0.f0.f1), .int .i64 0, .int .i64 0, .int .i64 0, .int .u64 0]) ?_ 2 _ rfl; (with_reducible repeat (first | refine blk_drewN ?_ _ | refine blk_drew ?_ | refine blk_alloc ?_ _)); refine blk_put (cs := #[.int .i64 ((rd_T31 l0 x7_1).f0.f0.f0), .int .i64 0, .int .i64 0, .int .i64 0, .int .i64 0, .int .u64 0]) ?_ 1 _ rfl; (with_reducible repeat (first | refine blk_drewN ?_ _ | refine blk_drew ?_ | refine blk_alloc ?_ _)); refine blk_put (cs := #[.int .i64 0, .int .i64 0, .int .i64 0, .int .i64 0, .int .i64 0, .int .u64 0]) ?_ 0 _ rfl; (with_reducible repeat (first | refine blk_drewN ?_ _ | refine blk_drew ?_ | refine blk_alloc ?_ _)); exact BK103.out) hb); have n2_ := Aside0.mk (below_step (by repeat (first | (with_reducible first | exact HB.out | apply below_alloc | apply pw_below_drewN | apply below_drew1 | refine below_set ?_ GE101.out | refine below_set ?_ GE103.out) | exact HB.out)) hb); clear BK101; clear BK103; clear HB; have BK101 := n0_; have BK103 := n1_; have HB := n2_; clear n0_ n1_ n2_; (try clear hb); (try clear hb2); (try clear hk); (try clear hi); have hcz22_0 : w21.cell? ⟨gb103, 0, none⟩ = some (.int .i64 ((rd_T31 l0 x7_1).f0.f0.f0)) := (blk_cell BK103.out 0).trans rfl; have hcz22_1 : w21.cell? ⟨gb103, 1, none⟩ = some (.int .i64 ((rd_T31 l0 x7_1).f0.f0.f1)) := (blk_cell BK103.out 1).trans rfl; have hcz22_2 : w21.cell? ⟨gb103, 2, none⟩ = some (.int .i64 ((rd_T31 l0 x7_1).f0.f1.f0)) := (blk_cell BK103.out 2).trans rfl; have hcz22_3 : w21.cell? ⟨gb103, 3, none⟩ = some (.int .i64 ((rd_T31 l0 x7_1).f0.f1.f1)) := (blk_cell BK103.out 3).trans rfl; have hcz22_4 : w21.cell? ⟨gb103, 4, none⟩ = some (.int .i64 ((rd_T31 l0 x7_1).f1.f0)) := (blk_cell BK103.out 4).trans rfl; have hcz22_5 : w21.cell? ⟨gb103, 5, none⟩ = some (.int .u64 ((rd_T31 l0 x7_1).f1.f1)) := (blk_cell BK103.out 5).trans rfl; have hfz22_0 := blk_frozen BK103.out 0; have hfz22_1 := blk_frozen BK103.out 1; have hfz22_2 := blk_frozen BK103.out 2; have hfz22_3 := blk_frozen BK103.out 3; have hfz22_4 := blk_frozen BK103.out 4; have hfz22_5 := blk_frozen BK103.out 5))
         go_meet
         case rel => exact ⟨_, (true), (by first | rfl | (simp; done) | (simp [*]; done)), H', ⟨by have := HK1.out; first | omega | exact Nat.le_refl _⟩, ⟨pkx BK101⟩, ⟨pkx BK103⟩, ⟨pbx HB⟩⟩
        ·
         rw [if_neg c18] at H
         have c18b0 : decide (((rd_T31 l0 x7_1).f0.f1.f0) < ((rd_T31 l0 x7_1).f0.f0.f0)) = false := decide_eq_false c18
         clear c18
         (first | rw [c18b0] | (simp only [i64_w, i32_w]; rw [c18b0]) | skip)
         have H' := Aside0.mk H
         clear H
         have hnb23 := NB103_101.out
         have hnc23 := NB101_103.out
         have hcz24_0 : w13.cell? ⟨gb103, 0, none⟩ = some (.int .i64 0) := (blk_cell BK103.out 0).trans rfl
         have hcz24_1 : w13.cell? ⟨gb103, 1, none⟩ = some (.int .i64 0) := (blk_cell BK103.out 1).trans rfl
         have hcz24_2 : w13.cell? ⟨gb103, 2, none⟩ = some (.int .i64 0) := (blk_cell BK103.out 2).trans rfl
         have hcz24_3 : w13.cell? ⟨gb103, 3, none⟩ = some (.int .i64 0) := (blk_cell BK103.out 3).trans rfl
         have hcz24_4 : w13.cell? ⟨gb103, 4, none⟩ = some (.int .i64 0) := (blk_cell BK103.out 4).trans rfl
         have hcz24_5 : w13.cell? ⟨gb103, 5, none⟩ = some (.int .u64 0) := (blk_cell BK103.out 5).trans rfl
         have hfz24_0 := blk_frozen BK103.out 0
         have hfz24_1 := blk_frozen BK103.out 1
         have hfz24_2 := blk_frozen BK103.out 2
         have hfz24_3 := blk_frozen BK103.out 3
         have hfz24_4 := blk_frozen BK103.out 4
         have hfz24_5 := blk_frozen BK103.out 5
         go_wp2_with (first | ((with_reducible refine gate_callee (f := 29) rfl ?_); refine goesL_ (some 25) rfl rfl Try.func29 (by kernel_rfl) rfl #[.agg #[.int .i64 ((rd_T31 l0 x7_1).f0.f0.f0), .int .i64 ((rd_T31 l0 x7_1).f0.f0.f1), .int .i64 ((rd_T31 l0 x7_1).f0.f1.f0), .int .i64 ((rd_T31 l0 x7_1).f0.f1.f1)]] rfl (by (try simp only [List.map_toArray, List.map_cons, List.map_nil]); first | done | rfl | (simp only [List.length_drop, List.length_take]; rfl)) ?_; (with_reducible refine (oculusref04_May.calls ((rd_T31 l0 x7_1).f0.f0.f0) ((rd_T31 l0 x7_1).f0.f0.f1) ((rd_T31 l0 x7_1).f0.f1.f0) ((rd_T31 l0 x7_1).f0.f1.f1) true _ A16.out).mono ?_); rintro e w25 ⟨rfl, hb⟩; refine ⟨_, rfl, ?_⟩; have n0_ := Aside0.mk (blk_below (g := gb101) (o := .cells #[.int .i64 x102000_1, .int .i64 x102001_1] 40 (0, 0)) (by (with_reducible repeat (first | refine blk_drewN ?_ _ | refine blk_drew ?_ | refine blk_alloc ?_ _)); refine blk_far ?_ NB101_103.out _; (with_reducible repeat (first | refine blk_drewN ?_ _ | refine blk_drew ?_ | refine blk_alloc ?_ _)); refine blk_far ?_ NB101_103.out _; (with_reducible repeat (first | refine blk_drewN ?_ _ | refine blk_drew ?_ | refine blk_alloc ?_ _)); refine blk_far ?_ NB101_103.out _; (with_reducible repeat (first | refine blk_drewN ?_ _ | refine blk_drew ?_ | refine blk_alloc ?_ _)); refine blk_far ?_ NB101_103.out _; (with_reducible repeat (first | refine blk_drewN ?_ _ | refine blk_drew ?_ | refine blk_alloc ?_ _)); refine blk_far ?_ NB101_103.out _; (with_reducible repeat (first | refine blk_drewN ?_ _ | refine blk_drew ?_ | refine blk_alloc ?_ _)); refine blk_far ?_ NB101_103.out _; (with_reducible repeat (first | refine blk_drewN ?_ _ | refine blk_drew ?_ | refine blk_alloc ?_ _)); exact BK101.out) hb); have n1_ := Aside0.mk (blk_below (g := gb103) (o := .cells #[.int .i64 ((rd_T31 l0 x7_1).f0.f0.f0), .int .i64 ((rd_T31 l0 x7_1).f0.f0.f1), .int .i64 ((rd_T31 l0 x7_1).f0.f1.f0), .int .i64 ((rd_T31 l0 x7_1).f0.f1.f1), .int .i64 ((rd_T31 l0 x7_1).f1.f0), .int .u64 ((rd_T31 l0 x7_1).f1.f1)] 31 (0, 0)) (by (with_reducible repeat (first | refine blk_drewN ?_ _ | refine blk_drew ?_ | refine blk_alloc ?_ _)); refine blk_put (cs := #[.int .i64 ((rd_T31 l0 x7_1).f0.f0.f0), .int .i64 ((rd_T31 l0 x7_1).f0.f0.f1), .int .i64 ((rd_T31 l0 x7_1).f0.f1.f0), .int .i64 ((rd_T31 l0 x7_1).f0.f1.f1), .int .i64 ((rd_T31 l0 x7_1).f1.f0), .int .u64 0]) ?_ 5 _ rfl; (with_reducible repeat (first | refine blk_drewN ?_ _ | refine blk_drew ?_ | refine blk_alloc ?_ _)); refine blk_put (cs := #[.int .i64 ((rd_T31 l0 x7_1).f0.f0.f0), .int .i64 ((rd_T31 l0 x7_1).f0.f0.f1), .int .i64 ((rd_T31 l0 x7_1).f0.f1.f0), .int .i64 ((rd_T31 l0 x7_1).f0.f1.f1), .int .i64 0, .int .u64 0]) ?_ 4 _ rfl; (with_reducible repeat (first | refine blk_drewN ?_ _ | refine blk_drew ?_ | refine blk_alloc ?_ _)); refine blk_put (cs := #[.int .i64 ((rd_T31 l0 x7_1).f0.f0.f0), .int .i64 ((rd_T31 l0 x7_1).f0.f0.f1), .int .i64 ((rd_T31 l0 x7_1).f0.f1.f0), .int .i64 0, .int .i64 0, .int .u64 0]) ?_ 3 _ rfl; (with_reducible repeat (first | refine blk_drewN ?_ _ | refine blk_drew ?_ | refine blk_alloc ?_ _)); refine blk_put (cs := #[.int .i64 ((rd_T31 l0 x7_1).f0.f0.f0), .int .i64 ((rd_T31 l0 x7_1).f0.f0.f1), .int .i64 0, .int .i64 0, .int .i64 0, .int .u64 0]) ?_ 2 _ rfl; (with_reducible repeat (first | refine blk_drewN ?_ _ | refine blk_drew ?_ | refine blk_alloc ?_ _)); refine blk_put (cs := #[.int .i64 ((rd_T31 l0 x7_1).f0.f0.f0), .int .i64 0, .int .i64 0, .int .i64 0, .int .i64 0, .int .u64 0]) ?_ 1 _ rfl; (with_reducible repeat (first | refine blk_drewN ?_ _ | refine blk_drew ?_ | refine blk_alloc ?_ _)); refine blk_put (cs := #[.int .i64 0, .int .i64 0, .int .i64 0, .int .i64 0, .int .i64 0, .int .u64 0]) ?_ 0 _ rfl; (with_reducible repeat (first | refine blk_drewN ?_ _ | refine blk_drew ?_ | refine blk_alloc ?_ _)); exact BK103.out) hb); have n2_ := Aside0.mk (below_step (by repeat (first | (with_reducible first | exact HB.out | apply below_alloc | apply pw_below_drewN | apply below_drew1 | refine below_set ?_ GE101.out | refine below_set ?_ GE103.out) | exact HB.out)) hb); clear BK101; clear BK103; clear HB; have BK101 := n0_; have BK103 := n1_; have HB := n2_; clear n0_ n1_ n2_; (try clear hb); (try clear hb2); (try clear hk); (try clear hi); have hcz26_0 : w25.cell? ⟨gb103, 0, none⟩ = some (.int .i64 ((rd_T31 l0 x7_1).f0.f0.f0)) := (blk_cell BK103.out 0).trans rfl; have hcz26_1 : w25.cell? ⟨gb103, 1, none⟩ = some (.int .i64 ((rd_T31 l0 x7_1).f0.f0.f1)) := (blk_cell BK103.out 1).trans rfl; have hcz26_2 : w25.cell? ⟨gb103, 2, none⟩ = some (.int .i64 ((rd_T31 l0 x7_1).f0.f1.f0)) := (blk_cell BK103.out 2).trans rfl; have hcz26_3 : w25.cell? ⟨gb103, 3, none⟩ = some (.int .i64 ((rd_T31 l0 x7_1).f0.f1.f1)) := (blk_cell BK103.out 3).trans rfl; have hcz26_4 : w25.cell? ⟨gb103, 4, none⟩ = some (.int .i64 ((rd_T31 l0 x7_1).f1.f0)) := (blk_cell BK103.out 4).trans rfl; have hcz26_5 : w25.cell? ⟨gb103, 5, none⟩ = some (.int .u64 ((rd_T31 l0 x7_1).f1.f1)) := (blk_cell BK103.out 5).trans rfl; have hfz26_0 := blk_frozen BK103.out 0; have hfz26_1 := blk_frozen BK103.out 1; have hfz26_2 := blk_frozen BK103.out 2; have hfz26_3 := blk_frozen BK103.out 3; have hfz26_4 := blk_frozen BK103.out 4; have hfz26_5 := blk_frozen BK103.out 5))
         go_meet
         case rel => exact ⟨_, (decide (((rd_T31 l0 x7_1).f0.f0.f1) > ((rd_T31 l0 x7_1).f0.f1.f1))), (by first | rfl | (simp; done) | (simp [*]; done)), H', ⟨by have := HK1.out; first | omega | exact Nat.le_refl _⟩, ⟨pkx BK101⟩, ⟨pkx BK103⟩, ⟨pbx HB⟩⟩
       ·
        replace c17 := Bool.eq_false_iff.mpr c17
        subst c17
        have H1 : (oculusref05_Wrong.j1 k1 l0 a1 a2 x7_1 true ((rd_T31 l0 x7_1).f0.f0.f0) ((rd_T31 l0 x7_1).f0.f0.f1) ((rd_T31 l0 x7_1).f0.f1.f0) ((rd_T31 l0 x7_1).f0.f1.f1) ((rd_T31 l0 x7_1).f1.f0) ((rd_T31 l0 x7_1).f1.f1)) = some (r1, r2) := by rw [if_neg (show ¬ (false = true) by decide)] at H; exact H
        clear H
        have H := H1
        clear H1
        have H' := Aside0.mk H
        clear H
        have hnb27 := NB103_101.out
        have hnc27 := NB101_103.out
        have hcz28_0 : w13.cell? ⟨gb103, 0, none⟩ = some (.int .i64 0) := (blk_cell BK103.out 0).trans rfl
        have hcz28_1 : w13.cell? ⟨gb103, 1, none⟩ = some (.int .i64 0) := (blk_cell BK103.out 1).trans rfl
        have hcz28_2 : w13.cell? ⟨gb103, 2, none⟩ = some (.int .i64 0) := (blk_cell BK103.out 2).trans rfl
        have hcz28_3 : w13.cell? ⟨gb103, 3, none⟩ = some (.int .i64 0) := (blk_cell BK103.out 3).trans rfl
        have hcz28_4 : w13.cell? ⟨gb103, 4, none⟩ = some (.int .i64 0) := (blk_cell BK103.out 4).trans rfl
        have hcz28_5 : w13.cell? ⟨gb103, 5, none⟩ = some (.int .u64 0) := (blk_cell BK103.out 5).trans rfl
        have hfz28_0 := blk_frozen BK103.out 0
        have hfz28_1 := blk_frozen BK103.out 1
        have hfz28_2 := blk_frozen BK103.out 2
        have hfz28_3 := blk_frozen BK103.out 3
        have hfz28_4 := blk_frozen BK103.out 4
        have hfz28_5 := blk_frozen BK103.out 5
        go_wp2_with (first | ((with_reducible refine gate_callee (f := 29) rfl ?_); refine goesL_ (some 25) rfl rfl Try.func29 (by kernel_rfl) rfl #[.agg #[.int .i64 ((rd_T31 l0 x7_1).f0.f0.f0), .int .i64 ((rd_T31 l0 x7_1).f0.f0.f1), .int .i64 ((rd_T31 l0 x7_1).f0.f1.f0), .int .i64 ((rd_T31 l0 x7_1).f0.f1.f1)]] rfl (by (try simp only [List.map_toArray, List.map_cons, List.map_nil]); first | done | rfl | (simp only [List.length_drop, List.length_take]; rfl)) ?_; (with_reducible refine (oculusref04_May.calls ((rd_T31 l0 x7_1).f0.f0.f0) ((rd_T31 l0 x7_1).f0.f0.f1) ((rd_T31 l0 x7_1).f0.f1.f0) ((rd_T31 l0 x7_1).f0.f1.f1) false _ A16.out).mono ?_); rintro e w29 ⟨rfl, hb⟩; refine ⟨_, rfl, ?_⟩; have n0_ := Aside0.mk (blk_below (g := gb101) (o := .cells #[.int .i64 x102000_1, .int .i64 x102001_1] 40 (0, 0)) (by (with_reducible repeat (first | refine blk_drewN ?_ _ | refine blk_drew ?_ | refine blk_alloc ?_ _)); refine blk_far ?_ NB101_103.out _; (with_reducible repeat (first | refine blk_drewN ?_ _ | refine blk_drew ?_ | refine blk_alloc ?_ _)); refine blk_far ?_ NB101_103.out _; (with_reducible repeat (first | refine blk_drewN ?_ _ | refine blk_drew ?_ | refine blk_alloc ?_ _)); refine blk_far ?_ NB101_103.out _; (with_reducible repeat (first | refine blk_drewN ?_ _ | refine blk_drew ?_ | refine blk_alloc ?_ _)); refine blk_far ?_ NB101_103.out _; (with_reducible repeat (first | refine blk_drewN ?_ _ | refine blk_drew ?_ | refine blk_alloc ?_ _)); refine blk_far ?_ NB101_103.out _; (with_reducible repeat (first | refine blk_drewN ?_ _ | refine blk_drew ?_ | refine blk_alloc ?_ _)); refine blk_far ?_ NB101_103.out _; (with_reducible repeat (first | refine blk_drewN ?_ _ | refine blk_drew ?_ | refine blk_alloc ?_ _)); exact BK101.out) hb); have n1_ := Aside0.mk (blk_below (g := gb103) (o := .cells #[.int .i64 ((rd_T31 l0 x7_1).f0.f0.f0), .int .i64 ((rd_T31 l0 x7_1).f0.f0.f1), .int .i64 ((rd_T31 l0 x7_1).f0.f1.f0), .int .i64 ((rd_T31 l0 x7_1).f0.f1.f1), .int .i64 ((rd_T31 l0 x7_1).f1.f0), .int .u64 ((rd_T31 l0 x7_1).f1.f1)] 31 (0, 0)) (by (with_reducible repeat (first | refine blk_drewN ?_ _ | refine blk_drew ?_ | refine blk_alloc ?_ _)); refine blk_put (cs := #[.int .i64 ((rd_T31 l0 x7_1).f0.f0.f0), .int .i64 ((rd_T31 l0 x7_1).f0.f0.f1), .int .i64 ((rd_T31 l0 x7_1).f0.f1.f0), .int .i64 ((rd_T31 l0 x7_1).f0.f1.f1), .int .i64 ((rd_T31 l0 x7_1).f1.f0), .int .u64 0]) ?_ 5 _ rfl; (with_reducible repeat (first | refine blk_drewN ?_ _ | refine blk_drew ?_ | refine blk_alloc ?_ _)); refine blk_put (cs := #[.int .i64 ((rd_T31 l0 x7_1).f0.f0.f0), .int .i64 ((rd_T31 l0 x7_1).f0.f0.f1), .int .i64 ((rd_T31 l0 x7_1).f0.f1.f0), .int .i64 ((rd_T31 l0 x7_1).f0.f1.f1), .int .i64 0, .int .u64 0]) ?_ 4 _ rfl; (with_reducible repeat (first | refine blk_drewN ?_ _ | refine blk_drew ?_ | refine blk_alloc ?_ _)); refine blk_put (cs := #[.int .i64 ((rd_T31 l0 x7_1).f0.f0.f0), .int .i64 ((rd_T31 l0 x7_1).f0.f0.f1), .int .i64 ((rd_T31 l0 x7_1).f0.f1.f0), .int .i64 0, .int .i64 0, .int .u64 0]) ?_ 3 _ rfl; (with_reducible repeat (first | refine blk_drewN ?_ _ | refine blk_drew ?_ | refine blk_alloc ?_ _)); refine blk_put (cs := #[.int .i64 ((rd_T31 l0 x7_1).f0.f0.f0), .int .i64 ((rd_T31 l0 x7_1).f0.f0.f1), .int .i64 0, .int .i64 0, .int .i64 0, .int .u64 0]) ?_ 2 _ rfl; (with_reducible repeat (first | refine blk_drewN ?_ _ | refine blk_drew ?_ | refine blk_alloc ?_ _)); refine blk_put (cs := #[.int .i64 ((rd_T31 l0 x7_1).f0.f0.f0), .int .i64 0, .int .i64 0, .int .i64 0, .int .i64 0, .int .u64 0]) ?_ 1 _ rfl; (with_reducible repeat (first | refine blk_drewN ?_ _ | refine blk_drew ?_ | refine blk_alloc ?_ _)); refine blk_put (cs := #[.int .i64 0, .int .i64 0, .int .i64 0, .int .i64 0, .int .i64 0, .int .u64 0]) ?_ 0 _ rfl; (with_reducible repeat (first | refine blk_drewN ?_ _ | refine blk_drew ?_ | refine blk_alloc ?_ _)); exact BK103.out) hb); have n2_ := Aside0.mk (below_step (by repeat (first | (with_reducible first | exact HB.out | apply below_alloc | apply pw_below_drewN | apply below_drew1 | refine below_set ?_ GE101.out | refine below_set ?_ GE103.out) | exact HB.out)) hb); clear BK101; clear BK103; clear HB; have BK101 := n0_; have BK103 := n1_; have HB := n2_; clear n0_ n1_ n2_; (try clear hb); (try clear hb2); (try clear hk); (try clear hi)))
        go_meet
        case rel => exact ⟨_, (true), (by first | rfl | (simp; done) | (simp [*]; done)), H', ⟨by have := HK1.out; first | omega | exact Nat.le_refl _⟩, ⟨pkx BK101⟩, ⟨pkx BK103⟩, ⟨pbx HB⟩⟩
      case rest =>
       clear HC12
       try clear c1
       try clear p1
       try clear q1
       try clear hx1
       try clear c2
       try clear p2
       try clear c5
       try clear c5b0
       try clear c6
       try clear c6b0
       try clear c7
       try clear c7b0
       try clear c9
       try clear p10
       try clear q10
       try clear hx10
       try clear c12
       try clear c14
       try clear c17
       try clear c18
       try clear c18b0
       try clear c19
       try clear c23
       try clear c27
       try clear c29
       try clear hcz10_0
       try clear hcz10_1
       try clear hcz10_2
       try clear hcz10_3
       try clear hcz10_4
       try clear hcz10_5
       try clear hcz11_0
       try clear hcz11_1
       try clear hcz15_0
       try clear hcz15_1
       try clear hcz15_2
       try clear hcz15_3
       try clear hcz15_4
       try clear hcz15_5
       try clear hcz20_0
       try clear hcz20_1
       try clear hcz20_2
       try clear hcz20_3
       try clear hcz20_4
       try clear hcz20_5
       try clear hcz22_0
       try clear hcz22_1
       try clear hcz22_2
       try clear hcz22_3
       try clear hcz22_4
       try clear hcz22_5
       try clear hcz24_0
       try clear hcz24_1
       try clear hcz24_2
       try clear hcz24_3
       try clear hcz24_4
       try clear hcz24_5
       try clear hcz26_0
       try clear hcz26_1
       try clear hcz26_2
       try clear hcz26_3
       try clear hcz26_4
       try clear hcz26_5
       try clear hcz28_0
       try clear hcz28_1
       try clear hcz28_2
       try clear hcz28_3
       try clear hcz28_4
       try clear hcz28_5
       try clear hfz10_0
       try clear hfz10_1
       try clear hfz10_2
       try clear hfz10_3
       try clear hfz10_4
       try clear hfz10_5
       try clear hfz11_0
       try clear hfz11_1
       try clear hfz15_0
       try clear hfz15_1
       try clear hfz15_2
       try clear hfz15_3
       try clear hfz15_4
       try clear hfz15_5
       try clear hfz20_0
       try clear hfz20_1
       try clear hfz20_2
       try clear hfz20_3
       try clear hfz20_4
       try clear hfz20_5
       try clear hfz22_0
       try clear hfz22_1
       try clear hfz22_2
       try clear hfz22_3
       try clear hfz22_4
       try clear hfz22_5
       try clear hfz24_0
       try clear hfz24_1
       try clear hfz24_2
       try clear hfz24_3
       try clear hfz24_4
       try clear hfz24_5
       try clear hfz26_0
       try clear hfz26_1
       try clear hfz26_2
       try clear hfz26_3
       try clear hfz26_4
       try clear hfz26_5
       try clear hfz28_0
       try clear hfz28_1
       try clear hfz28_2
       try clear hfz28_3
       try clear hfz28_4
       try clear hfz28_5
       try clear hx102_0
       try clear hx102_1
       try clear hx102_2
       try clear hx102_3
       try clear hx102_4
       try clear hx102_5
       try clear p102
       try clear p2
       try clear q102
       obtain ⟨kq, x48_11, rfl, HA, HJ11, BK101, BK103, HB⟩ := hcut
       cases kq with
       | zero => exact absurd HA.out (by simp [oculusref05_Wrong.j1])
       | succ kj11 =>
        have H := HA.out
        clear HA
        simp only [oculusref05_Wrong.j1] at H
        by_cases c30 : x48_11 = true
        ·
         subst c30
         have H1 : (some (x7_1, 1)) = some (r1, r2) := by rw [if_pos rfl] at H; exact H
         clear H
         have H := H1
         clear H1
         simp only [Option.some.injEq, Prod.mk.injEq] at H
         obtain ⟨rfl, rfl⟩ := H
         have hnb31 := NB101_103.out
         have hnc31 := NB103_101.out
         have hcz32_0 : wc.cell? ⟨gb101, 0, none⟩ = some (.int .i64 x102000_1) := (blk_cell BK101.out 0).trans rfl
         have hcz32_1 : wc.cell? ⟨gb101, 1, none⟩ = some (.int .i64 x102001_1) := (blk_cell BK101.out 1).trans rfl
         have hfz32_0 := blk_frozen BK101.out 0
         have hfz32_1 := blk_frozen BK101.out 1
         go_wp2
         refine bodyPost_ret (results_cell_row rfl _ _ gb101 40 #[.int .i64 x7_1, .int .i64 1] (0, 0) _ rfl (by (with_reducible repeat (first | refine blk_drewN ?_ _ | refine blk_drew ?_ | refine blk_alloc ?_ _)); refine blk_put (cs := #[.int .i64 x7_1, .int .i64 x102001_1]) ?_ 1 _ rfl; (with_reducible repeat (first | refine blk_drewN ?_ _ | refine blk_drew ?_ | refine blk_alloc ?_ _)); refine blk_put (cs := #[.int .i64 x102000_1, .int .i64 x102001_1]) ?_ 0 _ rfl; (with_reducible repeat (first | refine blk_drewN ?_ _ | refine blk_drew ?_ | refine blk_alloc ?_ _)); exact BK101.out) Try.underlying40 rfl (by kernel_rfl)) rfl ?_
         exact ⟨by first | rfl | (simp [errW_none, errW_some] <;> rfl) | (simp [*, errW_none, errW_some] <;> rfl), by repeat (first | (with_reducible first | exact HB.out | apply below_alloc | apply pw_below_drewN | apply below_drew1 | refine below_set ?_ GE101.out | refine below_set ?_ GE103.out) | exact HB.out)⟩
        ·
         replace c30 := Bool.eq_false_iff.mpr c30
         subst c30
         have H1 : (if ((rd_T31 l0 x7_1).f0.f1.f0) ≥ a1 then (oculusref05_Wrong.j2 kj11 l0 a1 a2 x7_1 true ((rd_T31 l0 x7_1).f0.f0.f0) ((rd_T31 l0 x7_1).f0.f0.f1) ((rd_T31 l0 x7_1).f0.f1.f0) ((rd_T31 l0 x7_1).f0.f1.f1) ((rd_T31 l0 x7_1).f1.f0) ((rd_T31 l0 x7_1).f1.f1)) else (oculusref05_Wrong.j2 kj11 l0 a1 a2 x7_1 (decide (((rd_T31 l0 x7_1).f0.f1.f1) ≥ a2)) ((rd_T31 l0 x7_1).f0.f0.f0) ((rd_T31 l0 x7_1).f0.f0.f1) ((rd_T31 l0 x7_1).f0.f1.f0) ((rd_T31 l0 x7_1).f0.f1.f1) ((rd_T31 l0 x7_1).f1.f0) ((rd_T31 l0 x7_1).f1.f1))) = some (r1, r2) := by rw [if_neg (show ¬ (false = true) by decide)] at H; exact H
         clear H
         have H := H1
         clear H1
         have HC33 := Aside0.mk H
         clear H
         go_upto_region 9 with (fail)
         go_cut [64] (fun v64 wc => ∃ (kq : Nat) (x64_32 : Bool), v64 = .bool x64_32 ∧ Aside0 (oculusref05_Wrong.j2 kq l0 a1 a2 x7_1 x64_32 ((rd_T31 l0 x7_1).f0.f0.f0) ((rd_T31 l0 x7_1).f0.f0.f1) ((rd_T31 l0 x7_1).f0.f1.f0) ((rd_T31 l0 x7_1).f0.f1.f1) ((rd_T31 l0 x7_1).f1.f0) ((rd_T31 l0 x7_1).f1.f1) = some (r1, r2)) ∧ Aside0 (kq ≤ kj11) ∧ Aside0 (wc.heap[gb101]? = some (.cells #[.int .i64 x102000_1, .int .i64 x102001_1] 40 (0, 0))) ∧ Aside0 (wc.heap[gb103]? = some (.cells #[.int .i64 ((rd_T31 l0 x7_1).f0.f0.f0), .int .i64 ((rd_T31 l0 x7_1).f0.f0.f1), .int .i64 ((rd_T31 l0 x7_1).f0.f1.f0), .int .i64 ((rd_T31 l0 x7_1).f0.f1.f1), .int .i64 ((rd_T31 l0 x7_1).f1.f0), .int .u64 ((rd_T31 l0 x7_1).f1.f1)] 31 (0, 0))) ∧ Aside0 (Below w.heap.size w wc))
         case first =>
          have H := HC33.out
          clear HC33
          by_cases c34 : ((rd_T31 l0 x7_1).f0.f1.f0) ≥ a1
          ·
           rw [if_pos c34] at H
           have c34b0 : decide (a1 ≤ ((rd_T31 l0 x7_1).f0.f1.f0)) = true := decide_eq_true c34
           clear c34
           (first | rw [c34b0] | (simp only [i64_w, i32_w]; rw [c34b0]) | skip)
           have H' := Aside0.mk H
           clear H
           have hnb35 := NB103_101.out
           have hnc35 := NB101_103.out
           have hcz36_0 : wc.cell? ⟨gb103, 0, none⟩ = some (.int .i64 ((rd_T31 l0 x7_1).f0.f0.f0)) := (blk_cell BK103.out 0).trans rfl
           have hcz36_1 : wc.cell? ⟨gb103, 1, none⟩ = some (.int .i64 ((rd_T31 l0 x7_1).f0.f0.f1)) := (blk_cell BK103.out 1).trans rfl
           have hcz36_2 : wc.cell? ⟨gb103, 2, none⟩ = some (.int .i64 ((rd_T31 l0 x7_1).f0.f1.f0)) := (blk_cell BK103.out 2).trans rfl
           have hcz36_3 : wc.cell? ⟨gb103, 3, none⟩ = some (.int .i64 ((rd_T31 l0 x7_1).f0.f1.f1)) := (blk_cell BK103.out 3).trans rfl
           have hcz36_4 : wc.cell? ⟨gb103, 4, none⟩ = some (.int .i64 ((rd_T31 l0 x7_1).f1.f0)) := (blk_cell BK103.out 4).trans rfl
           have hcz36_5 : wc.cell? ⟨gb103, 5, none⟩ = some (.int .u64 ((rd_T31 l0 x7_1).f1.f1)) := (blk_cell BK103.out 5).trans rfl
           have hfz36_0 := blk_frozen BK103.out 0
           have hfz36_1 := blk_frozen BK103.out 1
           have hfz36_2 := blk_frozen BK103.out 2
           have hfz36_3 := blk_frozen BK103.out 3
           have hfz36_4 := blk_frozen BK103.out 4
           have hfz36_5 := blk_frozen BK103.out 5
           go_wp2
           go_meet
           case rel => exact ⟨_, (true), (by first | rfl | (simp; done) | (simp [*]; done)), H', ⟨by have := HK1.out; have := HJ11.out; first | omega | exact Nat.le_refl _⟩, ⟨pkx BK101⟩, ⟨pkx BK103⟩, ⟨pbx HB⟩⟩
          ·
           rw [if_neg c34] at H
           have c34b0 : decide (a1 ≤ ((rd_T31 l0 x7_1).f0.f1.f0)) = false := decide_eq_false c34
           clear c34
           (first | rw [c34b0] | (simp only [i64_w, i32_w]; rw [c34b0]) | skip)
           have H' := Aside0.mk H
           clear H
           have hnb37 := NB103_101.out
           have hnc37 := NB101_103.out
           have hcz38_0 : wc.cell? ⟨gb103, 0, none⟩ = some (.int .i64 ((rd_T31 l0 x7_1).f0.f0.f0)) := (blk_cell BK103.out 0).trans rfl
           have hcz38_1 : wc.cell? ⟨gb103, 1, none⟩ = some (.int .i64 ((rd_T31 l0 x7_1).f0.f0.f1)) := (blk_cell BK103.out 1).trans rfl
           have hcz38_2 : wc.cell? ⟨gb103, 2, none⟩ = some (.int .i64 ((rd_T31 l0 x7_1).f0.f1.f0)) := (blk_cell BK103.out 2).trans rfl
           have hcz38_3 : wc.cell? ⟨gb103, 3, none⟩ = some (.int .i64 ((rd_T31 l0 x7_1).f0.f1.f1)) := (blk_cell BK103.out 3).trans rfl
           have hcz38_4 : wc.cell? ⟨gb103, 4, none⟩ = some (.int .i64 ((rd_T31 l0 x7_1).f1.f0)) := (blk_cell BK103.out 4).trans rfl
           have hcz38_5 : wc.cell? ⟨gb103, 5, none⟩ = some (.int .u64 ((rd_T31 l0 x7_1).f1.f1)) := (blk_cell BK103.out 5).trans rfl
           have hfz38_0 := blk_frozen BK103.out 0
           have hfz38_1 := blk_frozen BK103.out 1
           have hfz38_2 := blk_frozen BK103.out 2
           have hfz38_3 := blk_frozen BK103.out 3
           have hfz38_4 := blk_frozen BK103.out 4
           have hfz38_5 := blk_frozen BK103.out 5
           go_wp2
           go_meet
           case rel => exact ⟨_, (decide (((rd_T31 l0 x7_1).f0.f1.f1) ≥ a2)), (by first | rfl | (simp; done) | (simp [*]; done)), H', ⟨by have := HK1.out; have := HJ11.out; first | omega | exact Nat.le_refl _⟩, ⟨pkx BK101⟩, ⟨pkx BK103⟩, ⟨pbx HB⟩⟩
         case rest =>
          clear HC33
          try clear c1
          try clear p1
          try clear q1
          try clear hx1
          try clear c2
          try clear p2
          try clear c3
          try clear c5
          try clear c5b0
          try clear c6
          try clear c6b0
          try clear c7
          try clear c7b0
          try clear c9
          try clear p10
          try clear q10
          try clear hx10
          try clear c12
          try clear c14
          try clear c17
          try clear c18
          try clear c18b0
          try clear c19
          try clear c23
          try clear c27
          try clear c29
          try clear c30
          try clear c31
          try clear c34
          try clear c34b0
          try clear c35
          try clear c37
          try clear hcz10_0
          try clear hcz10_1
          try clear hcz10_2
          try clear hcz10_3
          try clear hcz10_4
          try clear hcz10_5
          try clear hcz11_0
          try clear hcz11_1
          try clear hcz15_0
          try clear hcz15_1
          try clear hcz15_2
          try clear hcz15_3
          try clear hcz15_4
          try clear hcz15_5
          try clear hcz20_0
          try clear hcz20_1
          try clear hcz20_2
          try clear hcz20_3
          try clear hcz20_4
          try clear hcz20_5
          try clear hcz22_0
          try clear hcz22_1
          try clear hcz22_2
          try clear hcz22_3
          try clear hcz22_4
          try clear hcz22_5
          try clear hcz24_0
          try clear hcz24_1
          try clear hcz24_2
          try clear hcz24_3
          try clear hcz24_4
          try clear hcz24_5
          try clear hcz26_0
          try clear hcz26_1
          try clear hcz26_2
          try clear hcz26_3
          try clear hcz26_4
          try clear hcz26_5
          try clear hcz28_0
          try clear hcz28_1
          try clear hcz28_2
          try clear hcz28_3
          try clear hcz28_4
          try clear hcz28_5
          try clear hcz32_0
          try clear hcz32_1
          try clear hcz36_0
          try clear hcz36_1
          try clear hcz36_2
          try clear hcz36_3
          try clear hcz36_4
          try clear hcz36_5
          try clear hcz38_0
          try clear hcz38_1
          try clear hcz38_2
          try clear hcz38_3
          try clear hcz38_4
          try clear hcz38_5
          try clear hfz10_0
          try clear hfz10_1
          try clear hfz10_2
          try clear hfz10_3
          try clear hfz10_4
          try clear hfz10_5
          try clear hfz11_0
          try clear hfz11_1
          try clear hfz15_0
          try clear hfz15_1
          try clear hfz15_2
          try clear hfz15_3
          try clear hfz15_4
          try clear hfz15_5
          try clear hfz20_0
          try clear hfz20_1
          try clear hfz20_2
          try clear hfz20_3
          try clear hfz20_4
          try clear hfz20_5
          try clear hfz22_0
          try clear hfz22_1
          try clear hfz22_2
          try clear hfz22_3
          try clear hfz22_4
          try clear hfz22_5
          try clear hfz24_0
          try clear hfz24_1
          try clear hfz24_2
          try clear hfz24_3
          try clear hfz24_4
          try clear hfz24_5
          try clear hfz26_0
          try clear hfz26_1
          try clear hfz26_2
          try clear hfz26_3
          try clear hfz26_4
          try clear hfz26_5
          try clear hfz28_0
          try clear hfz28_1
          try clear hfz28_2
          try clear hfz28_3
          try clear hfz28_4
          try clear hfz28_5
          try clear hfz32_0
          try clear hfz32_1
          try clear hfz36_0
          try clear hfz36_1
          try clear hfz36_2
          try clear hfz36_3
          try clear hfz36_4
          try clear hfz36_5
          try clear hfz38_0
          try clear hfz38_1
          try clear hfz38_2
          try clear hfz38_3
          try clear hfz38_4
          try clear hfz38_5
          try clear hx102_0
          try clear hx102_1
          try clear hx102_2
          try clear hx102_3
          try clear hx102_4
          try clear hx102_5
          try clear p1
          try clear p10
          try clear p102
          try clear p2
          try clear q1
          try clear q10
          try clear q102
          obtain ⟨kq, x64_32, rfl, HA, HJ32, BK101, BK103, HB⟩ := hcut
          cases kq with
          | zero => exact absurd HA.out (by simp [oculusref05_Wrong.j2])
          | succ kj32 =>
           have H := HA.out
           clear HA
           simp only [oculusref05_Wrong.j2] at H
           by_cases c39 : x64_32 = true
           ·
            subst c39
            have H1 : (some (x7_1, 2)) = some (r1, r2) := by rw [if_pos rfl] at H; exact H
            clear H
            have H := H1
            clear H1
            simp only [Option.some.injEq, Prod.mk.injEq] at H
            obtain ⟨rfl, rfl⟩ := H
            have hnb40 := NB101_103.out
            have hnc40 := NB103_101.out
            have hcz41_0 : wc.cell? ⟨gb101, 0, none⟩ = some (.int .i64 x102000_1) := (blk_cell BK101.out 0).trans rfl
            have hcz41_1 : wc.cell? ⟨gb101, 1, none⟩ = some (.int .i64 x102001_1) := (blk_cell BK101.out 1).trans rfl
            have hfz41_0 := blk_frozen BK101.out 0
            have hfz41_1 := blk_frozen BK101.out 1
            go_wp2
            refine bodyPost_ret (results_cell_row rfl _ _ gb101 40 #[.int .i64 x7_1, .int .i64 2] (0, 0) _ rfl (by (with_reducible repeat (first | refine blk_drewN ?_ _ | refine blk_drew ?_ | refine blk_alloc ?_ _)); refine blk_put (cs := #[.int .i64 x7_1, .int .i64 x102001_1]) ?_ 1 _ rfl; (with_reducible repeat (first | refine blk_drewN ?_ _ | refine blk_drew ?_ | refine blk_alloc ?_ _)); refine blk_put (cs := #[.int .i64 x102000_1, .int .i64 x102001_1]) ?_ 0 _ rfl; (with_reducible repeat (first | refine blk_drewN ?_ _ | refine blk_drew ?_ | refine blk_alloc ?_ _)); exact BK101.out) Try.underlying40 rfl (by kernel_rfl)) rfl ?_
            exact ⟨by first | rfl | (simp [errW_none, errW_some] <;> rfl) | (simp [*, errW_none, errW_some] <;> rfl), by repeat (first | (with_reducible first | exact HB.out | apply below_alloc | apply pw_below_drewN | apply below_drew1 | refine below_set ?_ GE101.out | refine below_set ?_ GE103.out) | exact HB.out)⟩
           ·
            replace c39 := Bool.eq_false_iff.mpr c39
            subst c39
            have H1 : (if ((rd_T31 l0 x7_1).f1.f0) < 0 then (some (x7_1, 7)) else (if ((rd_T31 l0 x7_1).f1.f0) > 15 then (some (x7_1, 7)) else (oculusref05_Wrong.l0 kj32 l0 a1 a2 (wrap64 (x7_1 + 1))))) = some (r1, r2) := by rw [if_neg (show ¬ (false = true) by decide)] at H; exact H
            clear H
            have H := H1
            clear H1
            by_cases c42 : ((rd_T31 l0 x7_1).f1.f0) < 0
            ·
             rw [if_pos c42] at H
             have c42b0 : decide (((rd_T31 l0 x7_1).f1.f0) < 0) = true := decide_eq_true c42
             clear c42
             simp only [Option.some.injEq, Prod.mk.injEq] at H
             obtain ⟨rfl, rfl⟩ := H
             have hnb43 := NB103_101.out
             have hnc43 := NB101_103.out
             have hcz44_0 : wc.cell? ⟨gb103, 0, none⟩ = some (.int .i64 ((rd_T31 l0 x7_1).f0.f0.f0)) := (blk_cell BK103.out 0).trans rfl
             have hcz44_1 : wc.cell? ⟨gb103, 1, none⟩ = some (.int .i64 ((rd_T31 l0 x7_1).f0.f0.f1)) := (blk_cell BK103.out 1).trans rfl
             have hcz44_2 : wc.cell? ⟨gb103, 2, none⟩ = some (.int .i64 ((rd_T31 l0 x7_1).f0.f1.f0)) := (blk_cell BK103.out 2).trans rfl
             have hcz44_3 : wc.cell? ⟨gb103, 3, none⟩ = some (.int .i64 ((rd_T31 l0 x7_1).f0.f1.f1)) := (blk_cell BK103.out 3).trans rfl
             have hcz44_4 : wc.cell? ⟨gb103, 4, none⟩ = some (.int .i64 ((rd_T31 l0 x7_1).f1.f0)) := (blk_cell BK103.out 4).trans rfl
             have hcz44_5 : wc.cell? ⟨gb103, 5, none⟩ = some (.int .u64 ((rd_T31 l0 x7_1).f1.f1)) := (blk_cell BK103.out 5).trans rfl
             have hfz44_0 := blk_frozen BK103.out 0
             have hfz44_1 := blk_frozen BK103.out 1
             have hfz44_2 := blk_frozen BK103.out 2
             have hfz44_3 := blk_frozen BK103.out 3
             have hfz44_4 := blk_frozen BK103.out 4
             have hfz44_5 := blk_frozen BK103.out 5
             have hcz45_0 : wc.cell? ⟨gb101, 0, none⟩ = some (.int .i64 x102000_1) := (blk_cell BK101.out 0).trans rfl
             have hcz45_1 : wc.cell? ⟨gb101, 1, none⟩ = some (.int .i64 x102001_1) := (blk_cell BK101.out 1).trans rfl
             have hfz45_0 := blk_frozen BK101.out 0
             have hfz45_1 := blk_frozen BK101.out 1
             go_wp2
             refine bodyPost_ret (results_cell_row rfl _ _ gb101 40 #[.int .i64 x7_1, .int .i64 7] (0, 0) _ rfl (by (with_reducible repeat (first | refine blk_drewN ?_ _ | refine blk_drew ?_ | refine blk_alloc ?_ _)); refine blk_put (cs := #[.int .i64 x7_1, .int .i64 x102001_1]) ?_ 1 _ rfl; (with_reducible repeat (first | refine blk_drewN ?_ _ | refine blk_drew ?_ | refine blk_alloc ?_ _)); refine blk_put (cs := #[.int .i64 x102000_1, .int .i64 x102001_1]) ?_ 0 _ rfl; (with_reducible repeat (first | refine blk_drewN ?_ _ | refine blk_drew ?_ | refine blk_alloc ?_ _)); exact BK101.out) Try.underlying40 rfl (by kernel_rfl)) rfl ?_
             exact ⟨by first | rfl | (simp [errW_none, errW_some] <;> rfl) | (simp [*, errW_none, errW_some] <;> rfl), by repeat (first | (with_reducible first | exact HB.out | apply below_alloc | apply pw_below_drewN | apply below_drew1 | refine below_set ?_ GE101.out | refine below_set ?_ GE103.out) | exact HB.out)⟩
            ·
             rw [if_neg c42] at H
             have c42b0 : decide (((rd_T31 l0 x7_1).f1.f0) < 0) = false := decide_eq_false c42
             clear c42
             by_cases c46 : ((rd_T31 l0 x7_1).f1.f0) > 15
             ·
              rw [if_pos c46] at H
              have c46b0 : decide (15 < ((rd_T31 l0 x7_1).f1.f0)) = true := decide_eq_true c46
              clear c46
              simp only [Option.some.injEq, Prod.mk.injEq] at H
              obtain ⟨rfl, rfl⟩ := H
              have hnb47 := NB103_101.out
              have hnc47 := NB101_103.out
              have hcz48_0 : wc.cell? ⟨gb103, 0, none⟩ = some (.int .i64 ((rd_T31 l0 x7_1).f0.f0.f0)) := (blk_cell BK103.out 0).trans rfl
              have hcz48_1 : wc.cell? ⟨gb103, 1, none⟩ = some (.int .i64 ((rd_T31 l0 x7_1).f0.f0.f1)) := (blk_cell BK103.out 1).trans rfl
              have hcz48_2 : wc.cell? ⟨gb103, 2, none⟩ = some (.int .i64 ((rd_T31 l0 x7_1).f0.f1.f0)) := (blk_cell BK103.out 2).trans rfl
              have hcz48_3 : wc.cell? ⟨gb103, 3, none⟩ = some (.int .i64 ((rd_T31 l0 x7_1).f0.f1.f1)) := (blk_cell BK103.out 3).trans rfl
              have hcz48_4 : wc.cell? ⟨gb103, 4, none⟩ = some (.int .i64 ((rd_T31 l0 x7_1).f1.f0)) := (blk_cell BK103.out 4).trans rfl
              have hcz48_5 : wc.cell? ⟨gb103, 5, none⟩ = some (.int .u64 ((rd_T31 l0 x7_1).f1.f1)) := (blk_cell BK103.out 5).trans rfl
              have hfz48_0 := blk_frozen BK103.out 0
              have hfz48_1 := blk_frozen BK103.out 1
              have hfz48_2 := blk_frozen BK103.out 2
              have hfz48_3 := blk_frozen BK103.out 3
              have hfz48_4 := blk_frozen BK103.out 4
              have hfz48_5 := blk_frozen BK103.out 5
              have hcz49_0 : wc.cell? ⟨gb101, 0, none⟩ = some (.int .i64 x102000_1) := (blk_cell BK101.out 0).trans rfl
              have hcz49_1 : wc.cell? ⟨gb101, 1, none⟩ = some (.int .i64 x102001_1) := (blk_cell BK101.out 1).trans rfl
              have hfz49_0 := blk_frozen BK101.out 0
              have hfz49_1 := blk_frozen BK101.out 1
              go_wp2
              refine bodyPost_ret (results_cell_row rfl _ _ gb101 40 #[.int .i64 x7_1, .int .i64 7] (0, 0) _ rfl (by (with_reducible repeat (first | refine blk_drewN ?_ _ | refine blk_drew ?_ | refine blk_alloc ?_ _)); refine blk_put (cs := #[.int .i64 x7_1, .int .i64 x102001_1]) ?_ 1 _ rfl; (with_reducible repeat (first | refine blk_drewN ?_ _ | refine blk_drew ?_ | refine blk_alloc ?_ _)); refine blk_put (cs := #[.int .i64 x102000_1, .int .i64 x102001_1]) ?_ 0 _ rfl; (with_reducible repeat (first | refine blk_drewN ?_ _ | refine blk_drew ?_ | refine blk_alloc ?_ _)); exact BK101.out) Try.underlying40 rfl (by kernel_rfl)) rfl ?_
              exact ⟨by first | rfl | (simp [errW_none, errW_some] <;> rfl) | (simp [*, errW_none, errW_some] <;> rfl), by repeat (first | (with_reducible first | exact HB.out | apply below_alloc | apply pw_below_drewN | apply below_drew1 | refine below_set ?_ GE101.out | refine below_set ?_ GE103.out) | exact HB.out)⟩
             ·
              rw [if_neg c46] at H
              have c46b0 : decide (15 < ((rd_T31 l0 x7_1).f1.f0)) = false := decide_eq_false c46
              clear c46
              have H' := Aside0.mk H
              clear H
              have hnb50 := NB103_101.out
              have hnc50 := NB101_103.out
              have hcz51_0 : wc.cell? ⟨gb103, 0, none⟩ = some (.int .i64 ((rd_T31 l0 x7_1).f0.f0.f0)) := (blk_cell BK103.out 0).trans rfl
              have hcz51_1 : wc.cell? ⟨gb103, 1, none⟩ = some (.int .i64 ((rd_T31 l0 x7_1).f0.f0.f1)) := (blk_cell BK103.out 1).trans rfl
              have hcz51_2 : wc.cell? ⟨gb103, 2, none⟩ = some (.int .i64 ((rd_T31 l0 x7_1).f0.f1.f0)) := (blk_cell BK103.out 2).trans rfl
              have hcz51_3 : wc.cell? ⟨gb103, 3, none⟩ = some (.int .i64 ((rd_T31 l0 x7_1).f0.f1.f1)) := (blk_cell BK103.out 3).trans rfl
              have hcz51_4 : wc.cell? ⟨gb103, 4, none⟩ = some (.int .i64 ((rd_T31 l0 x7_1).f1.f0)) := (blk_cell BK103.out 4).trans rfl
              have hcz51_5 : wc.cell? ⟨gb103, 5, none⟩ = some (.int .u64 ((rd_T31 l0 x7_1).f1.f1)) := (blk_cell BK103.out 5).trans rfl
              have hfz51_0 := blk_frozen BK103.out 0
              have hfz51_1 := blk_frozen BK103.out 1
              have hfz51_2 := blk_frozen BK103.out 2
              have hfz51_3 := blk_frozen BK103.out 3
              have hfz51_4 := blk_frozen BK103.out 4
              have hfz51_5 := blk_frozen BK103.out 5
              go_wp2
              go_roundg kj32
              case measure => have := HK1.out; have := HJ11.out; have := HJ32.out; omega
              case rel => exact ⟨(wrap64 (x7_1 + 1)), (x102000_1), (x102001_1), (by first | rfl | (simp; done) | (simp [*]; done)), H', ⟨by have := HK1.out; have := HJ11.out; have := HJ32.out; omega⟩, ⟨pkx BK101⟩, ⟨pbx HB⟩⟩
    ·
     rw [if_neg c6] at H
     exact absurd H (by simp)
   ·
    rw [if_neg c5] at H
    have c5b0 : decide (x7_1 < (l0.length : Int)) = false := decide_eq_false c5
    clear c5
    simp only [Option.some.injEq, Prod.mk.injEq] at H
    obtain ⟨rfl, rfl⟩ := H
    have hcz52_0 : wr.cell? ⟨gb101, 0, none⟩ = some (.int .i64 x102000_1) := (blk_cell BK101.out 0).trans rfl
    have hcz52_1 : wr.cell? ⟨gb101, 1, none⟩ = some (.int .i64 x102001_1) := (blk_cell BK101.out 1).trans rfl
    have hfz52_0 := blk_frozen BK101.out 0
    have hfz52_1 := blk_frozen BK101.out 1
    go_wp2
    refine bodyPost_ret (results_cell_row rfl _ _ gb101 40 #[.int .i64 0, .int .i64 0] (0, 0) _ rfl (by (with_reducible repeat (first | refine blk_drewN ?_ _ | refine blk_drew ?_ | refine blk_alloc ?_ _)); refine blk_put (cs := #[.int .i64 0, .int .i64 x102001_1]) ?_ 1 _ rfl; (with_reducible repeat (first | refine blk_drewN ?_ _ | refine blk_drew ?_ | refine blk_alloc ?_ _)); refine blk_put (cs := #[.int .i64 x102000_1, .int .i64 x102001_1]) ?_ 0 _ rfl; (with_reducible repeat (first | refine blk_drewN ?_ _ | refine blk_drew ?_ | refine blk_alloc ?_ _)); exact BK101.out) Try.underlying40 rfl (by kernel_rfl)) rfl ?_
    exact ⟨by first | rfl | (simp [errW_none, errW_some] <;> rfl) | (simp [*, errW_none, errW_some] <;> rfl), by repeat (first | (with_reducible first | exact HB.out | apply below_alloc | apply pw_below_drewN | apply below_drew1 | refine below_set ?_ GE101.out) | exact HB.out)⟩

end Go.Proofs.Ytjbdljolpkkhcaa.X
/- What zone, span and their references answer. -/
set_option linter.unusedVariables false
set_option linter.unusedSimpArgs false
namespace Go.Proofs.Ytjbdljolpkkhcaa.X
open Go.RowKit Go.Proofs.YtjbdljolpkkhcaaW.PrintWords Go.Proofs.YtjbdljolpkkhcaaW.PrintLast Go.Proofs.YtjbdljolpkkhcaaW.PrintMore
abbrev Zn := S31
abbrev Cl := S24
theorem rdZ (xs : List Zn) (i : Nat) (h : i < xs.length) : rd_T31 xs (i : Int) = xs[i] := by
  show xs.getD (Int.toNat (i : Int)) _ = _
  rw [Int.toNat_natCast, List.getD_eq_getElem?_getD, List.getElem?_eq_getElem h]; rfl
theorem rdC (xs : List Cl) (i : Nat) (h : i < xs.length) : rd_T24 xs (i : Int) = xs[i] := by
  show xs.getD (Int.toNat (i : Int)) _ = _
  rw [Int.toNat_natCast, List.getD_eq_getElem?_getD, List.getElem?_eq_getElem h]; rfl
def mayZ (a b c d : Int) : Bool := decide ((0 ≤ a ∧ a < 999 ∧ 0 ≤ b ∧ b < 702) ∧ (0 ≤ c ∧ c < 999 ∧ 0 ≤ d ∧ d < 702))
theorem addr_may_eq (a b : Int) : addr_May.f a b = some (decide (0 ≤ a ∧ a < 999 ∧ 0 ≤ b ∧ b < 702)) := by
  unfold addr_May.f
  by_cases h1 : a ≥ 0
  · rw [if_pos h1]
    by_cases h2 : a < 999
    · rw [if_pos h2]
      by_cases h3 : b ≥ 0
      · rw [if_pos h3, Option.some.injEq, decide_eq_decide]; omega
      · rw [if_neg h3, decide_eq_false (by omega)]
    · rw [if_neg h2, decide_eq_false (by omega)]
  · rw [if_neg h1, decide_eq_false (by omega)]
theorem span_may_eq (a b c d : Int) : span_May.f a b c d = some (mayZ a b c d) := by
  unfold span_May.f mayZ
  rw [addr_may_eq, Option.bind_some]
  by_cases h : 0 ≤ a ∧ a < 999 ∧ 0 ≤ b ∧ b < 702
  · rw [decide_eq_true h, if_pos rfl, addr_may_eq, Option.bind_some, Option.some.injEq, decide_eq_decide]
    exact ⟨fun g => ⟨h, g⟩, fun g => g.2⟩
  · rw [decide_eq_false h, if_neg (by simp), decide_eq_false (fun g => h g.1)]
theorem rmay_eq (a b : Int) : oculusref03_May.f a b = some (decide (0 ≤ a ∧ a < 999 ∧ 0 ≤ b ∧ b < 702)) := by
  unfold oculusref03_May.f
  by_cases h1 : a ≥ 0
  · rw [if_pos h1]
    by_cases h2 : a ≤ 998
    · rw [if_pos h2]
      by_cases h3 : b ≥ 0
      · rw [if_pos h3, Option.some.injEq, decide_eq_decide]; omega
      · rw [if_neg h3, decide_eq_false (by omega)]
    · rw [if_neg h2, decide_eq_false (by omega)]
  · rw [if_neg h1, decide_eq_false (by omega)]
theorem rspan_may_eq (a b c d : Int) : oculusref04_May.f a b c d = some (mayZ a b c d) := by
  unfold oculusref04_May.f mayZ
  rw [rmay_eq, Option.bind_some]
  by_cases h : 0 ≤ a ∧ a < 999 ∧ 0 ≤ b ∧ b < 702
  · rw [decide_eq_true h, if_pos rfl, rmay_eq, Option.bind_some, Option.some.injEq, decide_eq_decide]
    exact ⟨fun g => ⟨h, g⟩, fun g => g.2⟩
  · rw [decide_eq_false h, if_neg (by simp), decide_eq_false (fun g => h g.1)]
def hasZ (a b c d r q : Int) : Bool := mayZ a b c d && decide ((mn a c ≤ r ∧ r ≤ mx a c) ∧ (mn b d ≤ q ∧ q ≤ mx b d))
theorem span_str (a b c d : Int) (h : mayZ a b c d = true) : span_Straight.f a b c d = some (mn a c, mn b d, mx a c, mx b d) := straight_eq (by rw [span_may_eq, h])
theorem has_ev (a b c d r q : Int) : Ev (fun k => span_Has.f k a b c d r q) (hasZ a b c d r q) := by
  unfold span_Has.f hasZ
  rw [span_may_eq]
  refine ev_bsome ?_
  refine Ev.step (fun k => span_Has.j0.eq_2 _ _ _ _ _ _ _ _) ?_
  cases h : mayZ a b c d with
  | false => exact ev_pos rfl (Ev.now _)
  | true =>
    refine ev_neg (by simp) ?_
    rw [span_str a b c d h]
    refine ev_bsome ?_
    simp only [Bool.true_and]
    by_cases g : (mn a c ≤ r ∧ r ≤ mx a c) ∧ (mn b d ≤ q ∧ q ≤ mx b d)
    · rw [decide_eq_true g]
      exact ev_pos g.1.1 (ev_pos g.1.2 (ev_pos g.2.1 (ev_some fun _ => by rw [decide_eq_true g.2.2])))
    · rw [decide_eq_false g]
      exact ev_ite (fun h1 => ev_ite (fun h2 => ev_ite (fun h3 => ev_some fun _ => by rw [decide_eq_false (fun h4 => g ⟨⟨h1, h2⟩, h3, h4⟩)]) (fun _ => Ev.now _)) (fun _ => Ev.now _)) (fun _ => Ev.now _)
theorem between_eq (x a c : Int) : oculusref04_between.f x a c = some (decide (mn a c ≤ x ∧ x ≤ mx a c)) := by
  unfold oculusref04_between.f
  have e : (mn a c ≤ x ∧ x ≤ mx a c) ↔ ((a ≤ x ∧ x ≤ c) ∨ (c ≤ x ∧ x ≤ a)) := by
    unfold mn mx
    repeat' split
    all_goals omega
  by_cases h1 : x ≥ a
  · rw [if_pos h1]
    by_cases h2 : x ≤ c
    · rw [if_pos h2, decide_eq_true (by rw [e]; omega)]
    · rw [if_neg h2]
      by_cases h3 : x ≥ c
      · rw [if_pos h3, Option.some.injEq, decide_eq_decide, e]; omega
      · rw [if_neg h3, decide_eq_false (by rw [e]; omega)]
  · rw [if_neg h1]
    by_cases h3 : x ≥ c
    · rw [if_pos h3, Option.some.injEq, decide_eq_decide, e]; omega
    · rw [if_neg h3, decide_eq_false (by rw [e]; omega)]
theorem rhas_eq (a b c d r q : Int) : oculusref04_Has.f a b c d r q = some (hasZ a b c d r q) := by
  unfold oculusref04_Has.f hasZ
  rw [rspan_may_eq, Option.bind_some]
  cases h : mayZ a b c d with
  | false => rw [if_neg (by simp)]; rfl
  | true =>
    rw [if_pos rfl, between_eq, Option.bind_some]
    by_cases g : mn a c ≤ r ∧ r ≤ mx a c
    · rw [decide_eq_true g, if_pos rfl, between_eq, Option.bind_some, Bool.true_and, Option.some.injEq, decide_eq_decide]
      exact ⟨fun k => ⟨g, k⟩, fun k => k.2⟩
    · rw [decide_eq_false g, if_neg (by simp), decide_eq_false (fun k => g k.1)]; rfl
def hasN (z : Zn) (r q : Int) : Bool := hasZ z.f0.f0.f0 z.f0.f0.f1 z.f0.f1.f0 z.f0.f1.f1 r q
def ofZ : List Zn → Int → Int → Int × Int
  | [], _, _ => (0, 0)
  | z :: l, r, q => if hasN z r q = true then (z.f1.f0, z.f1.f1) else ofZ l r q
theorem of_l0 (r q : Int) (xs : List Zn) (hx : xs.length ≤ 9223372036854775807) : ∀ d i, i + d = xs.length → Ev (fun k => zone_Of.l0 k xs (xs.length : Int) (i : Int) r q) (ofZ (xs.drop i) r q)
  | 0, i, h => by
    rw [List.drop_eq_nil_of_le (by omega)]
    refine Ev.step (fun k => zone_Of.l0.eq_2 _ _ _ _ _ _) ?_
    exact ev_neg (by omega) (Ev.now _)
  | d + 1, i, h => by
    have hlt : i < xs.length := by omega
    rw [List.drop_eq_getElem_cons hlt]
    refine Ev.step (fun k => zone_Of.l0.eq_2 _ _ _ _ _ _) ?_
    refine ev_pos (by omega) (ev_pos (by omega) (ev_pos (by omega) ?_))
    simp only [rdZ xs i hlt, w64s hlt hx]
    refine ev_bind (has_ev _ _ _ _ _ _) ?_
    refine Ev.step (fun k => zone_Of.j1.eq_2 _ _ _ _ _ _ _ _ _ _ _ _ _) ?_
    simp only [ofZ]
    refine ev_ite (fun g => ?_) (fun g => ?_)
    · rw [if_pos (show hasN xs[i] r q = true from g)]; exact Ev.now _
    · rw [if_neg (show ¬ hasN xs[i] r q = true from g)]
      simp only [w64s hlt hx]
      exact of_l0 r q xs hx d (i + 1) (by omega)
theorem of_ev (xs : List Zn) (hx : xs.length ≤ 9223372036854775807) (r q : Int) : Ev (fun k => zone_Of.f k xs r q) (ofZ xs r q) := of_l0 r q xs hx xs.length 0 (by omega)
def wrongZ (rows cols : Int) : Nat → List Zn → Int × Int
  | _, [] => (0, 0)
  | i, z :: l => if 32 ≤ i then ((i : Int), 10) else if ¬ (mayZ z.f0.f0.f0 z.f0.f0.f1 z.f0.f1.f0 z.f0.f1.f1 = true ∧ z.f0.f0.f0 ≤ z.f0.f1.f0 ∧ z.f0.f0.f1 ≤ z.f0.f1.f1) then ((i : Int), 1)
    else if z.f0.f1.f0 ≥ rows ∨ z.f0.f1.f1 ≥ cols then ((i : Int), 2) else if ¬ (0 ≤ z.f1.f0 ∧ z.f1.f0 ≤ 15) then ((i : Int), 7) else wrongZ rows cols (i + 1) l
theorem straight_ne (a b c d : Int) : ((!(mn a c == a) || (!(mn b d == b))) || ((!(mx a c == c) || (!(mx b d == d))))) = !(decide (a ≤ c ∧ b ≤ d)) := by
  rw [Bool.eq_iff_iff]
  simp only [Bool.or_eq_true, Bool.not_eq_true', beq_eq_false_iff_ne, decide_eq_false_iff_not, ne_eq]
  unfold mn mx
  repeat' split
  all_goals omega
theorem label_may_eq (a b : Int) : label_May.f a b = some (decide (0 ≤ a ∧ a ≤ 15)) := by
  unfold label_May.f
  by_cases h : a ≥ 0
  · rw [if_pos h, Option.some.injEq, decide_eq_decide]; omega
  · rw [if_neg h, decide_eq_false (by omega)]
theorem wrong_l0 (rows cols : Int) (xs : List Zn) (hx : xs.length ≤ 9223372036854775807) : ∀ d i, i + d = xs.length → Ev (fun k => zone_Wrong.l0 k rows cols xs (xs.length : Int) (i : Int)) (wrongZ rows cols i (xs.drop i))
  | 0, i, h => by
    rw [List.drop_eq_nil_of_le (by omega)]
    refine Ev.step (fun k => zone_Wrong.l0.eq_2 _ _ _ _ _ _) ?_
    exact ev_neg (by omega) (Ev.now _)
  | d + 1, i, h => by
    have hlt : i < xs.length := by omega
    rw [List.drop_eq_getElem_cons hlt]
    refine Ev.step (fun k => zone_Wrong.l0.eq_2 _ _ _ _ _ _) ?_
    refine ev_pos (by omega) (ev_pos (by omega) (ev_pos (by omega) ?_))
    simp only [wrongZ]
    refine ev_ite (fun g => ?_) (fun g => ?_)
    · rw [if_pos (by omega)]; exact Ev.now _
    · rw [if_neg (by omega)]
      simp only [rdZ xs i hlt]
      refine ev_bind (ev_some fun _ => span_may_eq _ _ _ _) ?_
      have j2 : ∀ b1 : Bool, b1 = decide (xs[i].f0.f1.f0 ≥ rows ∨ xs[i].f0.f1.f1 ≥ cols) → Ev (fun k => zone_Wrong.j2 k rows cols (i : Int) xs (xs.length : Int) (i : Int) b1 xs[i].f0.f0.f0 xs[i].f0.f0.f1 xs[i].f0.f1.f0 xs[i].f0.f1.f1 xs[i].f1.f0 xs[i].f1.f1)
          (if xs[i].f0.f1.f0 ≥ rows ∨ xs[i].f0.f1.f1 ≥ cols then ((i : Int), 2) else if ¬ (0 ≤ xs[i].f1.f0 ∧ xs[i].f1.f0 ≤ 15) then ((i : Int), 7) else wrongZ rows cols (i + 1) (xs.drop (i + 1))) := by
        intro b1 hb
        subst hb
        refine Ev.step (fun k => zone_Wrong.j2.eq_2 _ _ _ _ _ _ _ _ _ _ _ _ _ _) ?_
        by_cases g2 : xs[i].f0.f1.f0 ≥ rows ∨ xs[i].f0.f1.f1 ≥ cols
        · rw [if_pos g2]; exact ev_pos (decide_eq_true g2) (Ev.now _)
        · rw [if_neg g2]
          refine ev_neg (by rw [decide_eq_false g2]; simp) ?_
          refine ev_bind (ev_some fun _ => label_may_eq _ _) ?_
          by_cases g3 : 0 ≤ xs[i].f1.f0 ∧ xs[i].f1.f0 ≤ 15
          · rw [if_neg (fun n => n g3)]
            refine ev_pos (decide_eq_true g3) ?_
            simp only [w64s hlt hx]
            exact wrong_l0 rows cols xs hx d (i + 1) (by omega)
          · rw [if_pos g3]
            exact ev_neg (by rw [decide_eq_false g3]; simp) (Ev.now _)
      have j1 : ∀ b : Bool, b = !(decide (mayZ xs[i].f0.f0.f0 xs[i].f0.f0.f1 xs[i].f0.f1.f0 xs[i].f0.f1.f1 = true ∧ xs[i].f0.f0.f0 ≤ xs[i].f0.f1.f0 ∧ xs[i].f0.f0.f1 ≤ xs[i].f0.f1.f1)) → Ev (fun k => zone_Wrong.j1 k rows cols (i : Int) xs (xs.length : Int) (i : Int) b xs[i].f0.f0.f0 xs[i].f0.f0.f1 xs[i].f0.f1.f0 xs[i].f0.f1.f1 xs[i].f1.f0 xs[i].f1.f1)
          (if ¬ (mayZ xs[i].f0.f0.f0 xs[i].f0.f0.f1 xs[i].f0.f1.f0 xs[i].f0.f1.f1 = true ∧ xs[i].f0.f0.f0 ≤ xs[i].f0.f1.f0 ∧ xs[i].f0.f0.f1 ≤ xs[i].f0.f1.f1) then ((i : Int), 1) else if xs[i].f0.f1.f0 ≥ rows ∨ xs[i].f0.f1.f1 ≥ cols then ((i : Int), 2) else if ¬ (0 ≤ xs[i].f1.f0 ∧ xs[i].f1.f0 ≤ 15) then ((i : Int), 7) else wrongZ rows cols (i + 1) (xs.drop (i + 1))) := by
        intro b hb
        subst hb
        refine Ev.step (fun k => zone_Wrong.j1.eq_2 _ _ _ _ _ _ _ _ _ _ _ _ _ _) ?_
        by_cases g1 : mayZ xs[i].f0.f0.f0 xs[i].f0.f0.f1 xs[i].f0.f1.f0 xs[i].f0.f1.f1 = true ∧ xs[i].f0.f0.f0 ≤ xs[i].f0.f1.f0 ∧ xs[i].f0.f0.f1 ≤ xs[i].f0.f1.f1
        · rw [if_neg (fun n => n g1)]
          refine ev_neg (by rw [decide_eq_true g1]; simp) ?_
          by_cases g2 : xs[i].f0.f1.f0 ≥ rows
          · exact ev_pos g2 (j2 true (by rw [decide_eq_true (Or.inl g2)]))
          · exact ev_neg g2 (j2 _ (by rw [decide_eq_decide]; exact ⟨Or.inr, fun h => h.resolve_left g2⟩))
        · rw [if_pos g1]
          exact ev_pos (by rw [decide_eq_false g1]; rfl) (Ev.now _)
      cases hm : mayZ xs[i].f0.f0.f0 xs[i].f0.f0.f1 xs[i].f0.f1.f0 xs[i].f0.f1.f1 with
      | false =>
        refine ev_neg (by simp) ?_
        have := j1 true (by rw [hm]; simp)
        rw [hm] at this
        exact this
      | true =>
        refine ev_pos rfl ?_
        refine ev_bind (ev_some fun _ => span_str _ _ _ _ hm) ?_
        simp only [straight_ne]
        have := j1 _ rfl
        rw [hm] at this
        simpa using this
theorem wrong_ev (xs : List Zn) (hx : xs.length ≤ 9223372036854775807) (rows cols : Int) : Ev (fun k => zone_Wrong.f k xs rows cols) (wrongZ rows cols 0 xs) := wrong_l0 rows cols xs hx xs.length 0 (by omega)
def overZ (zs : List Zn) : List Cl → Int × Int → Int × Int
  | [], p => p
  | c :: l, p => overZ zs l (mx p.1 (ofZ zs c.f0 c.f1).1, Go.bits .or .u64 p.2 (ofZ zs c.f0 c.f1).2)
theorem over_l0 (zs : List Zn) (hz : zs.length ≤ 9223372036854775807) (xs : List Cl) (hx : xs.length ≤ 9223372036854775807) : ∀ d i a b, i + d = xs.length → Ev (fun k => zone_Over.l0 k zs xs (xs.length : Int) (i : Int) a b) (overZ zs (xs.drop i) (a, b))
  | 0, i, a, b, h => by
    rw [List.drop_eq_nil_of_le (by omega)]
    refine Ev.step (fun k => zone_Over.l0.eq_2 _ _ _ _ _ _ _) ?_
    exact ev_neg (by omega) (Ev.now _)
  | d + 1, i, a, b, h => by
    have hlt : i < xs.length := by omega
    rw [List.drop_eq_getElem_cons hlt]
    refine Ev.step (fun k => zone_Over.l0.eq_2 _ _ _ _ _ _ _) ?_
    refine ev_pos (by omega) (ev_pos (by omega) (ev_pos (by omega) ?_))
    simp only [rdC xs i hlt, w64s hlt hx]
    refine ev_bind (of_ev zs hz _ _) ?_
    refine ev_bind (ev_some fun _ => rfl) ?_
    simp only [overZ]
    exact over_l0 zs hz xs hx d (i + 1) _ _ (by omega)
theorem over_ev (zs : List Zn) (hz : zs.length ≤ 9223372036854775807) (a b c d : Int) (L : List Cl) (hL : span_Cells.f a b c d = some L) (hl : L.length ≤ 9223372036854775807) : Ev (fun k => zone_Over.f k zs a b c d) (overZ zs L (0, 0)) := by
  unfold zone_Over.f
  refine ev_bind (ev_some fun _ => rfl) ?_
  refine ev_bind (ev_some fun _ => hL) ?_
  exact over_l0 zs hz L hl L.length 0 0 0 (by omega)
theorem alive05_ev : Ev (fun k => oculuslaw05_alive.f k) true := by
  unfold oculuslaw05_alive.f
  refine ev_bsome ?_
  refine ev_bind (wrong_ev _ (by decide) _ _) ?_
  refine ev_bind (of_ev _ (by decide) _ _) ?_
  refine ev_pos (by decide +kernel) ?_
  refine ev_bind (of_ev _ (by decide) _ _) ?_
  refine ev_pos (by decide +kernel) ?_
  refine ev_bind (of_ev _ (by decide) _ _) ?_
  refine ev_pos (by decide +kernel) ?_
  refine ev_bind (over_ev _ (by decide) _ _ _ _ [⟨0, 0⟩, ⟨0, 1⟩] (by kernel_rfl) (by decide)) ?_
  refine ev_pos (by decide +kernel) ?_
  refine ev_pos (by decide +kernel) ?_
  exact ev_some (fun k => by decide +kernel)
/-! The reference. -/
theorem rwrong_l0 (rows cols : Int) (xs : List Zn) (hx : xs.length ≤ 9223372036854775807) : ∀ d i, i + d = xs.length → Ev (fun k => oculusref05_Wrong.l0 k xs rows cols (i : Int)) (wrongZ rows cols i (xs.drop i))
  | 0, i, h => by
    rw [List.drop_eq_nil_of_le (by omega)]
    refine Ev.step (fun k => oculusref05_Wrong.l0.eq_2 _ _ _ _ _) ?_
    exact ev_neg (by omega) (Ev.now _)
  | d + 1, i, h => by
    have hlt : i < xs.length := by omega
    rw [List.drop_eq_getElem_cons hlt]
    refine Ev.step (fun k => oculusref05_Wrong.l0.eq_2 _ _ _ _ _) ?_
    refine ev_pos (by omega) (ev_pos (by omega) ?_)
    simp only [wrongZ]
    refine ev_ite (fun g => ?_) (fun g => ?_)
    · rw [if_pos (by omega)]; exact Ev.now _
    · rw [if_neg (by omega)]
      simp only [rdZ xs i hlt]
      refine ev_bind (ev_some fun _ => rspan_may_eq _ _ _ _) ?_
      have j2 : ∀ b1 : Bool, b1 = decide (xs[i].f0.f1.f0 ≥ rows ∨ xs[i].f0.f1.f1 ≥ cols) → Ev (fun k => oculusref05_Wrong.j2 k xs rows cols (i : Int) b1 xs[i].f0.f0.f0 xs[i].f0.f0.f1 xs[i].f0.f1.f0 xs[i].f0.f1.f1 xs[i].f1.f0 xs[i].f1.f1)
          (if xs[i].f0.f1.f0 ≥ rows ∨ xs[i].f0.f1.f1 ≥ cols then ((i : Int), 2) else if ¬ (0 ≤ xs[i].f1.f0 ∧ xs[i].f1.f0 ≤ 15) then ((i : Int), 7) else wrongZ rows cols (i + 1) (xs.drop (i + 1))) := by
        intro b1 hb
        subst hb
        refine Ev.step (fun k => oculusref05_Wrong.j2.eq_2 _ _ _ _ _ _ _ _ _ _ _ _) ?_
        by_cases g2 : xs[i].f0.f1.f0 ≥ rows ∨ xs[i].f0.f1.f1 ≥ cols
        · rw [if_pos g2]; exact ev_pos (decide_eq_true g2) (Ev.now _)
        · rw [if_neg g2]
          refine ev_neg (by rw [decide_eq_false g2]; simp) ?_
          by_cases g3 : 0 ≤ xs[i].f1.f0 ∧ xs[i].f1.f0 ≤ 15
          · rw [if_neg (fun n => n g3)]
            refine ev_neg (by omega) (ev_neg (by omega) ?_)
            simp only [w64s hlt hx]
            exact rwrong_l0 rows cols xs hx d (i + 1) (by omega)
          · rw [if_pos g3]
            refine ev_ite (fun _ => Ev.now _) (fun g4 => ?_)
            exact ev_pos (by omega) (Ev.now _)
      have j1 : ∀ b : Bool, b = !(decide (mayZ xs[i].f0.f0.f0 xs[i].f0.f0.f1 xs[i].f0.f1.f0 xs[i].f0.f1.f1 = true ∧ xs[i].f0.f0.f0 ≤ xs[i].f0.f1.f0 ∧ xs[i].f0.f0.f1 ≤ xs[i].f0.f1.f1)) → Ev (fun k => oculusref05_Wrong.j1 k xs rows cols (i : Int) b xs[i].f0.f0.f0 xs[i].f0.f0.f1 xs[i].f0.f1.f0 xs[i].f0.f1.f1 xs[i].f1.f0 xs[i].f1.f1)
          (if ¬ (mayZ xs[i].f0.f0.f0 xs[i].f0.f0.f1 xs[i].f0.f1.f0 xs[i].f0.f1.f1 = true ∧ xs[i].f0.f0.f0 ≤ xs[i].f0.f1.f0 ∧ xs[i].f0.f0.f1 ≤ xs[i].f0.f1.f1) then ((i : Int), 1) else if xs[i].f0.f1.f0 ≥ rows ∨ xs[i].f0.f1.f1 ≥ cols then ((i : Int), 2) else if ¬ (0 ≤ xs[i].f1.f0 ∧ xs[i].f1.f0 ≤ 15) then ((i : Int), 7) else wrongZ rows cols (i + 1) (xs.drop (i + 1))) := by
        intro b hb
        subst hb
        refine Ev.step (fun k => oculusref05_Wrong.j1.eq_2 _ _ _ _ _ _ _ _ _ _ _ _) ?_
        by_cases g1 : mayZ xs[i].f0.f0.f0 xs[i].f0.f0.f1 xs[i].f0.f1.f0 xs[i].f0.f1.f1 = true ∧ xs[i].f0.f0.f0 ≤ xs[i].f0.f1.f0 ∧ xs[i].f0.f0.f1 ≤ xs[i].f0.f1.f1
        · rw [if_neg (fun n => n g1)]
          refine ev_neg (by rw [decide_eq_true g1]; simp) ?_
          by_cases g2 : xs[i].f0.f1.f0 ≥ rows
          · exact ev_pos g2 (j2 true (by rw [decide_eq_true (Or.inl g2)]))
          · exact ev_neg g2 (j2 _ (by rw [decide_eq_decide]; exact ⟨Or.inr, fun h => h.resolve_left g2⟩))
        · rw [if_pos g1]
          exact ev_pos (by rw [decide_eq_false g1]; rfl) (Ev.now _)
      cases hm : mayZ xs[i].f0.f0.f0 xs[i].f0.f0.f1 xs[i].f0.f1.f0 xs[i].f0.f1.f1 with
      | false =>
        refine ev_neg (by simp) ?_
        have := j1 true (by rw [hm]; simp)
        rw [hm] at this
        exact this
      | true =>
        refine ev_pos rfl ?_
        rw [hm] at j1
        by_cases g1 : xs[i].f0.f0.f0 > xs[i].f0.f1.f0
        · exact ev_pos g1 (j1 true (by rw [decide_eq_false (by omega)]; rfl))
        · refine ev_neg g1 (j1 _ ?_)
          rw [Bool.eq_iff_iff]
          simp only [decide_eq_true_eq, Bool.not_eq_true', decide_eq_false_iff_not, true_and]
          omega
theorem rwrong_ev (xs : List Zn) (hx : xs.length ≤ 9223372036854775807) (rows cols : Int) : Ev (fun k => oculusref05_Wrong.f k xs rows cols) (wrongZ rows cols 0 xs) := rwrong_l0 rows cols xs hx xs.length 0 (by omega)
end Go.Proofs.Ytjbdljolpkkhcaa.X
/- The pure statement of the law ZoneOver: over numbers and lists alone. -/
set_option linter.unusedVariables false
set_option linter.unusedSimpArgs false
namespace Go.Proofs.Ytjbdljolpkkhcaa.Pure
open Go.RowKit Go.Proofs.Ytjbdljolpkkhcaa.X Go.Proofs.YtjbdljolpkkhcaaW.PrintWords Go.Proofs.YtjbdljolpkkhcaaW.PrintLast Go.Proofs.YtjbdljolpkkhcaaW.PrintMore
/-! Labels. -/
def okP (p : Int × Int) : Prop := 0 ≤ p.2 ∧ p.2 < 18446744073709551616
def bel (p q : Int × Int) : Prop := p.1 ≤ q.1 ∧ ∀ i, p.2.toNat.testBit i = true → q.2.toNat.testBit i = true
theorem bel_refl (p : Int × Int) : bel p p := ⟨Int.le_refl _, fun _ h => h⟩
theorem bel_trans {p q r : Int × Int} (h : bel p q) (k : bel q r) : bel p r := ⟨Int.le_trans h.1 k.1, fun i hi => k.2 i (h.2 i hi)⟩
theorem join_ok {p q : Int × Int} (hp : okP p) (hq : okP q) : okP (mx p.1 q.1, Go.bits .or .u64 p.2 q.2) ∧ bel p (mx p.1 q.1, Go.bits .or .u64 p.2 q.2) ∧ bel q (mx p.1 q.1, Go.bits .or .u64 p.2 q.2) := by
  have e := u64_or p.2 q.2 hp.1 hp.2 hq.1 hq.2
  have hlt : p.2.toNat ||| q.2.toNat < 2 ^ 64 := Nat.or_lt_two_pow (by have := hp.2; omega) (by have := hq.2; omega)
  refine ⟨?_, ⟨?_, ?_⟩, ⟨?_, ?_⟩⟩
  · unfold okP
    simp only [e]
    omega
  · show p.1 ≤ mx p.1 q.1
    unfold mx; split <;> omega
  · intro i hi
    show (Go.bits .or .u64 p.2 q.2).toNat.testBit i = true
    rw [e, Int.toNat_natCast, Nat.testBit_or, hi]; rfl
  · show q.1 ≤ mx p.1 q.1
    unfold mx; split <;> omega
  · intro i hi
    show (Go.bits .or .u64 p.2 q.2).toNat.testBit i = true
    rw [e, Int.toNat_natCast, Nat.testBit_or, hi, Bool.or_true]
theorem below_bel {p q : Int × Int} (hp : okP p) (hq : okP q) (h : bel p q) : label_Below.f p.1 p.2 q.1 q.2 = some true := by
  unfold label_Below.f cats_Within.f
  rw [if_pos h.1, Option.bind_some, Option.some.injEq]
  obtain ⟨n, hn⟩ : ∃ n : Nat, p.2 = (n : Int) := ⟨p.2.toNat, by have := hp.1; omega⟩
  obtain ⟨m, hm⟩ : ∃ m : Nat, q.2 = (m : Int) := ⟨q.2.toNat, by have := hq.1; omega⟩
  have h1 := hp.2
  have h2 := hq.2
  have h3 := h.2
  rw [hn] at h1 h3 ⊢
  rw [hm] at h2 h3 ⊢
  rw [X.within_iff n m (by omega) (by omega), decide_eq_true_eq]
  simp only [Int.toNat_natCast] at h3
  apply Nat.eq_of_testBit_eq
  intro i
  rw [Nat.testBit_and]
  cases hi : n.testBit i with
  | false => rfl
  | true => rw [h3 i hi]; rfl
section
variable (zs : List Zn) (hz : ∀ z ∈ zs, good31 z)
include hz
theorem of_ok (r q : Int) : okP (ofZ zs r q) := by
  induction zs with
  | nil => exact ⟨Int.le_refl 0, (by decide : (0 : Int) < 18446744073709551616)⟩
  | cons z l ih =>
    simp only [ofZ]
    split
    · have := wf_u64 (hz z (by simp)).2.2
      exact this
    · exact ih (fun y hy => hz y (List.mem_cons_of_mem _ hy))
theorem over_ok : ∀ (l : List Cl) (p : Int × Int), okP p → okP (overZ zs l p) ∧ bel p (overZ zs l p) ∧ ∀ c ∈ l, bel (ofZ zs c.f0 c.f1) (overZ zs l p)
  | [], p, hp => ⟨hp, bel_refl p, fun c hc => by simp at hc⟩
  | c :: l, p, hp => by
    obtain ⟨j1, j2, j3⟩ := join_ok hp (of_ok zs hz c.f0 c.f1)
    obtain ⟨o1, o2, o3⟩ := over_ok l _ j1
    refine ⟨o1, bel_trans j2 o2, fun y hy => ?_⟩
    rcases List.mem_cons.1 hy with rfl | hy
    · exact bel_trans j3 o2
    · exact o3 y hy
end
/-! The cells of a span. -/
def cellsOf (a b c d : Int) : List Cl := if mayZ a b c d = true ∧ ¬ ((mx a c - mn a c + 1) * (mx b d - mn b d + 1) > 1000) then cellsL (mn a c) (mn b d) (mx a c) (mx b d) else []
theorem mnmx (a c : Int) (h1 : 0 ≤ a ∧ a < 1000) (h2 : 0 ≤ c ∧ c < 1000) : 0 ≤ mn a c ∧ mn a c ≤ mx a c ∧ mx a c < 1000 := by
  unfold mn mx
  refine ⟨?_, ?_, ?_⟩ <;> (repeat' split) <;> omega
theorem may_b {a b c d : Int} (h : mayZ a b c d = true) : (0 ≤ a ∧ a < 1000) ∧ (0 ≤ b ∧ b < 1000) ∧ (0 ≤ c ∧ c < 1000) ∧ (0 ≤ d ∧ d < 1000) := by
  unfold mayZ at h
  have := of_decide_eq_true h
  omega
theorem span_size_eq (a b c d : Int) : span_Size.f a b c d = some (if mayZ a b c d = true then (mx a c - mn a c + 1) * (mx b d - mn b d + 1) else 0) := by
  unfold span_Size.f span_Rows.f span_Cols.f
  rw [span_may_eq, Option.bind_some]
  by_cases h : mayZ a b c d = true
  · have hb := may_b h
    have m1 := mnmx a c hb.1 hb.2.2.1
    have m2 := mnmx b d hb.2.1 hb.2.2.2
    rw [if_pos h, if_pos h, span_str a b c d h]
    simp only [Option.bind_some]
    rw [if_pos h]
    simp only [Option.bind_some]
    generalize mn a c = p0 at *
    generalize mn b d = p1 at *
    generalize mx a c = p2 at *
    generalize mx b d = p3 at *
    rw [w64 (x := p2 - p0) (by omega) (by omega), w64 (x := p2 - p0 + 1) (by omega) (by omega), w64 (x := p3 - p1) (by omega) (by omega), w64 (x := p3 - p1 + 1) (by omega) (by omega)]
    obtain ⟨x, hx⟩ : ∃ x : Nat, p2 - p0 + 1 = (x : Int) := ⟨(p2 - p0 + 1).toNat, by omega⟩
    obtain ⟨y, hy⟩ : ∃ y : Nat, p3 - p1 + 1 = (y : Int) := ⟨(p3 - p1 + 1).toNat, by omega⟩
    rw [hx, hy]
    have hxy : x * y ≤ 1000 * 1000 := Nat.mul_le_mul (by omega) (by omega)
    have hc : (x : Int) * (y : Int) = ((x * y : Nat) : Int) := by simp
    rw [hc, w64 (by omega) (by omega)]
  · rw [if_neg h, if_neg h, Option.bind_some, Option.bind_some, if_neg h, Option.bind_some]
    rw [w64 (by omega) (by omega)]; rfl
theorem span_cells_eq (a b c d : Int) : span_Cells.f a b c d = some (cellsOf a b c d) := by
  unfold span_Cells.f cellsOf allF
  rw [span_size_eq, Option.bind_some, span_may_eq, Option.bind_some]
  by_cases h : mayZ a b c d = true
  · simp only [if_pos h]
    by_cases g : (mx a c - mn a c + 1) * (mx b d - mn b d + 1) > 1000
    · rw [if_pos g, if_neg (fun k => k.2 g)]
    · rw [if_neg g, if_pos ⟨h, g⟩, span_str a b c d h]; rfl
  · simp only [if_neg h]
    rw [if_neg (by omega), if_neg (fun k => h k.1)]
theorem apart_eq (a c : Int) (h1 : 0 ≤ a ∧ a < 1000) (h2 : 0 ≤ c ∧ c < 1000) : oculusref04_apart.f a c = some (mx a c - mn a c) := by
  unfold oculusref04_apart.f mn mx
  by_cases h : a > c
  · rw [if_pos h, w64 (by omega) (by omega)]
    congr 1
    repeat' split
    all_goals omega
  · rw [if_neg h, w64 (by omega) (by omega)]
    congr 1
    repeat' split
    all_goals omega
theorem rows_eq (a b c d : Int) (h : mayZ a b c d = true) : oculusref04_Rows.f a b c d = some (mx a c - mn a c + 1) := by
  have hb := may_b h
  have m1 := mnmx a c hb.1 hb.2.2.1
  unfold oculusref04_Rows.f
  rw [rspan_may_eq, Option.bind_some, if_pos h, apart_eq a c hb.1 hb.2.2.1, Option.bind_some, w64 (by omega) (by omega)]
theorem cols_eq (a b c d : Int) (h : mayZ a b c d = true) : oculusref04_Cols.f a b c d = some (mx b d - mn b d + 1) := by
  have hb := may_b h
  have m1 := mnmx b d hb.2.1 hb.2.2.2
  unfold oculusref04_Cols.f
  rw [rspan_may_eq, Option.bind_some, if_pos h, apart_eq b d hb.2.1 hb.2.2.2, Option.bind_some, w64 (by omega) (by omega)]
theorem rstraight_ev (a b c d : Int) (h : mayZ a b c d = true) : Ev (fun k => oculusref04_Straight.f k a b c d) (mn a c, mn b d, mx a c, mx b d) := by
  unfold oculusref04_Straight.f
  refine ev_bind (ev_some fun _ => rspan_may_eq a b c d) ?_
  refine Ev.step (fun k => oculusref04_Straight.j0.eq_2 _ _ _ _ _ _) ?_
  refine ev_neg (by rw [h]; simp) ?_
  have e : ∀ x y : Int, (mn x y = if x > y then y else x) ∧ (mx x y = if x > y then x else y) := by
    intro x y
    unfold mn mx
    constructor <;> (repeat' split) <;> omega
  refine ev_ite (fun g => ?_) (fun g => ?_)
  · refine Ev.step (fun k => oculusref04_Straight.j1.eq_2 _ _ _ _ _ _ _ _ _) ?_
    rw [(e a c).1, (e a c).2, if_pos g, if_pos g]
    refine ev_ite (fun g2 => ?_) (fun g2 => ?_)
    · rw [(e b d).1, (e b d).2, if_pos g2, if_pos g2]; exact Ev.now _
    · rw [(e b d).1, (e b d).2, if_neg g2, if_neg g2]; exact Ev.now _
  · refine Ev.step (fun k => oculusref04_Straight.j1.eq_2 _ _ _ _ _ _ _ _ _) ?_
    rw [(e a c).1, (e a c).2, if_neg g, if_neg g]
    refine ev_ite (fun g2 => ?_) (fun g2 => ?_)
    · rw [(e b d).1, (e b d).2, if_pos g2, if_pos g2]; exact Ev.now _
    · rw [(e b d).1, (e b d).2, if_neg g2, if_neg g2]; exact Ev.now _
section
variable (a b c d : Int) (h : mayZ a b c d = true) (R M : Nat) (hR : mx a c - mn a c + 1 = (R : Int)) (hM : mx b d - mn b d + 1 = (M : Int)) (hs : R * M ≤ 1000)
include h hR hM hs
theorem rcells_l1 (i : Nat) (hi : i < R) (q : List Cl) (hn : Ev (fun k => oculusref04_Cells.l0 k (rowsLs (mn b d) M (mn a c) (i + 1)) ((i + 1 : Nat) : Int) a b c d (mn a c) (mn b d) (mx a c) (mx b d)) q) : ∀ e j, j + e = M → Ev (fun k => oculusref04_Cells.l1 k (rowsLs (mn b d) M (mn a c) i ++ rowL (mn b d) (mn a c + (i : Int)) j) (i : Int) (j : Int) a b c d (mn a c) (mn b d) (mx a c) (mx b d)) q
  | 0, j, hj => by
    have hb := may_b h
    have m1 := mnmx a c hb.1 hb.2.2.1
    refine Ev.step (fun k => oculusref04_Cells.l1.eq_2 _ _ _ _ _ _ _ _ _ _ _ _) ?_
    refine ev_bind (ev_some fun _ => cols_eq a b c d h) ?_
    refine ev_neg (by omega) ?_
    rw [w64s (n := 10000) (by omega) (by omega)]
    rw [rowsLs_succ, show M = j by omega] at hn
    rw [show M = j by omega]
    exact hn
  | e + 1, j, hj => by
    have hb := may_b h
    have m1 := mnmx a c hb.1 hb.2.2.1
    have m2 := mnmx b d hb.2.1 hb.2.2.2
    have hlen : (rowsLs (mn b d) M (mn a c) i ++ rowL (mn b d) (mn a c + (i : Int)) j).length = i * M + j := by rw [List.length_append, rowsLs_length, rowL_length]
    have hle : i * M ≤ R * M := Nat.mul_le_mul_right M (by omega)
    refine Ev.step (fun k => oculusref04_Cells.l1.eq_2 _ _ _ _ _ _ _ _ _ _ _ _) ?_
    refine ev_bind (ev_some fun _ => cols_eq a b c d h) ?_
    refine ev_pos (by omega) (ev_pos (by rw [hlen]; omega) ?_)
    rw [w64s (n := 10000) (by omega) (by omega), w64 (x := mn a c + (i : Int)) (by omega) (by omega), w64 (x := mn b d + (j : Int)) (by omega) (by omega), List.append_assoc, ← rowL_succ]
    exact rcells_l1 i hi q hn e (j + 1) (by omega)
theorem rcells_l0 : ∀ e i, i + e = R → Ev (fun k => oculusref04_Cells.l0 k (rowsLs (mn b d) M (mn a c) i) (i : Int) a b c d (mn a c) (mn b d) (mx a c) (mx b d)) (rowsLs (mn b d) M (mn a c) R)
  | 0, i, hi => by
    refine Ev.step (fun k => oculusref04_Cells.l0.eq_2 _ _ _ _ _ _ _ _ _ _ _) ?_
    refine ev_bind (ev_some fun _ => rows_eq a b c d h) ?_
    rw [show R = i by omega]
    exact ev_neg (by omega) (Ev.now _)
  | e + 1, i, hi => by
    refine Ev.step (fun k => oculusref04_Cells.l0.eq_2 _ _ _ _ _ _ _ _ _ _ _) ?_
    refine ev_bind (ev_some fun _ => rows_eq a b c d h) ?_
    refine ev_pos (by omega) ?_
    have := rcells_l1 a b c d h R M hR hM hs i (by omega) _ (rcells_l0 e (i + 1) (by omega)) M 0 (by omega)
    simpa [rowL] using this
end
theorem rcells_ev (a b c d : Int) : Ev (fun k => oculusref04_Cells.f k a b c d) (cellsOf a b c d) := by
  unfold oculusref04_Cells.f cellsOf
  by_cases h : mayZ a b c d = true
  · have hb := may_b h
    have m1 := mnmx a c hb.1 hb.2.2.1
    have m2 := mnmx b d hb.2.1 hb.2.2.2
    refine ev_bind (rstraight_ev a b c d h) ?_
    refine ev_bind (ev_some fun _ => rspan_may_eq a b c d) (ev_pos h ?_)
    refine ev_bind (ev_some fun _ => rows_eq a b c d h) ?_
    refine ev_bind (ev_some fun _ => cols_eq a b c d h) ?_
    refine Ev.step (fun k => oculusref04_Cells.j0.eq_2 _ _ _ _ _ _ _ _ _ _ _) ?_
    obtain ⟨R, hR⟩ : ∃ R : Nat, mx a c - mn a c + 1 = (R : Int) := ⟨(mx a c - mn a c + 1).toNat, by omega⟩
    obtain ⟨M, hM⟩ : ∃ M : Nat, mx b d - mn b d + 1 = (M : Int) := ⟨(mx b d - mn b d + 1).toNat, by omega⟩
    have hxy : R * M ≤ 1000 * 1000 := Nat.mul_le_mul (by omega) (by omega)
    have hc : (R : Int) * (M : Int) = ((R * M : Nat) : Int) := by simp
    rw [hR, hM, hc, w64 (by omega) (by omega)]
    by_cases g : ((R * M : Nat) : Int) > 1000
    · rw [if_neg (fun k => k.2 g)]
      exact ev_pos (decide_eq_true g) (Ev.now _)
    · rw [if_pos ⟨h, g⟩]
      refine ev_neg (by rw [decide_eq_false g]; simp) ?_
      unfold cellsL
      rw [hR, hM, Int.toNat_natCast, Int.toNat_natCast]
      have := rcells_l0 a b c d h R M hR hM (by omega) R 0 (by omega)
      simpa [rowsLs] using this
  · rw [if_neg (fun k => h k.1)]
    have hst : Ev (fun k => oculusref04_Straight.f k a b c d) (0, 0, 0, 0) := by
      unfold oculusref04_Straight.f
      refine ev_bind (ev_some fun _ => rspan_may_eq a b c d) ?_
      refine Ev.step (fun k => oculusref04_Straight.j0.eq_2 _ _ _ _ _ _) ?_
      have h' : mayZ a b c d = false := by simpa using h
      exact ev_pos (by rw [h']; rfl) (Ev.now _)
    refine ev_bind hst ?_
    refine ev_bind (ev_some fun _ => rspan_may_eq a b c d) (ev_neg h ?_)
    refine Ev.step (fun k => oculusref04_Cells.j0.eq_2 _ _ _ _ _ _ _ _ _ _ _) ?_
    exact ev_pos rfl (Ev.now _)
theorem cells_mem {a b c d r q : Int} (h : hasZ a b c d r q = true) (hne : (cellsOf a b c d).length ≠ 0) : (⟨r, q⟩ : Cl) ∈ cellsOf a b c d := by
  unfold hasZ at h
  rw [Bool.and_eq_true, decide_eq_true_eq] at h
  obtain ⟨h1, ⟨h2, h3⟩, h4, h5⟩ := h
  unfold cellsOf at hne ⊢
  by_cases g : mayZ a b c d = true ∧ ¬ ((mx a c - mn a c + 1) * (mx b d - mn b d + 1) > 1000)
  · rw [if_pos g]
    unfold cellsL rowsLs rowL
    rw [List.mem_flatMap]
    refine ⟨(r - mn a c).toNat, by rw [List.mem_range]; omega, ?_⟩
    rw [List.mem_map]
    refine ⟨(q - mn b d).toNat, by rw [List.mem_range]; omega, ?_⟩
    congr 1 <;> omega
  · rw [if_neg g] at hne
    exact absurd rfl hne
theorem cellsOf_len (a b c d : Int) : (cellsOf a b c d).length ≤ 1000 := by
  unfold cellsOf
  split
  · rename_i g
    have hb := may_b g.1
    have m1 := mnmx a c hb.1 hb.2.2.1
    have m2 := mnmx b d hb.2.1 hb.2.2.2
    unfold cellsL
    rw [rowsLs_length]
    have hg := g.2
    obtain ⟨R, hR⟩ : ∃ R : Nat, mx a c - mn a c + 1 = (R : Int) := ⟨(mx a c - mn a c + 1).toNat, by omega⟩
    obtain ⟨M, hM⟩ : ∃ M : Nat, mx b d - mn b d + 1 = (M : Int) := ⟨(mx b d - mn b d + 1).toNat, by omega⟩
    rw [hR, hM] at hg ⊢
    have hc : (R : Int) * (M : Int) = ((R * M : Nat) : Int) := by simp
    rw [hc] at hg
    simp only [Int.toNat_natCast]
    omega
  · simp
/-! What is seen; the same list. -/
theorem seen_l0 (zs : List Zn) (hzl : zs.length ≤ 9223372036854775807) (hz : ∀ z ∈ zs, good31 z) (p : Int × Int) (hp : okP p) (xs : List Cl) (hx : xs.length ≤ 1000) (hall : ∀ x ∈ xs, bel (ofZ zs x.f0 x.f1) p) : ∀ e i, i + e = xs.length → Ev (fun k => zone_Seen.l0 k zs (xs.take i) xs (xs.length : Int) (i : Int) p.1 p.2) xs
  | 0, i, h => by
    refine Ev.step (fun k => zone_Seen.l0.eq_2 _ _ _ _ _ _ _ _) ?_
    refine ev_neg (by omega) ?_
    rw [List.take_of_length_le (by omega)]
    exact Ev.now _
  | e + 1, i, h => by
    have hlt : i < xs.length := by omega
    refine Ev.step (fun k => zone_Seen.l0.eq_2 _ _ _ _ _ _ _ _) ?_
    refine ev_pos (by omega) (ev_pos (by omega) (ev_pos (by omega) ?_))
    simp only [rdC xs i hlt]
    refine ev_bind (of_ev zs hzl _ _) ?_
    refine ev_bind (ev_some fun _ => below_bel (of_ok zs hz _ _) hp (hall _ (List.getElem_mem hlt))) ?_
    refine Ev.step (fun k => zone_Seen.j1.eq_2 _ _ _ _ _ _ _ _ _ _ _) ?_
    refine ev_pos rfl (ev_pos (by rw [List.length_take]; omega) ?_)
    rw [w64s hlt (by omega)]
    have := seen_l0 zs hzl hz p hp xs hx hall e (i + 1) (by omega)
    rw [List.take_succ_eq_append_getElem hlt] at this
    exact this
theorem same_l0 (xs : List Cl) (hx : xs.length ≤ 1000) : ∀ e i, i + e = xs.length → Ev (fun k => oculusref03_Same.l0 k xs xs (i : Int)) true
  | 0, i, h => by
    refine Ev.step (fun k => oculusref03_Same.l0.eq_2 _ _ _ _) ?_
    exact ev_neg (by omega) (Ev.now _)
  | e + 1, i, h => by
    have hlt : i < xs.length := by omega
    refine Ev.step (fun k => oculusref03_Same.l0.eq_2 _ _ _ _) ?_
    refine ev_pos (by omega) (ev_pos (by omega) (ev_pos (by omega) (ev_neg (by simp) ?_)))
    rw [w64s hlt (by omega)]
    exact same_l0 xs hx e (i + 1) (by omega)
theorem ZoneOver : oculuslaw05_ZoneOver.PureX := by
  intro zs s c ⟨hz, hzl⟩ hs hc
  have e : reachBytes = 140737488351232 := by decide
  rw [e] at hzl
  have hl : zs.length ≤ 9223372036854775807 := by omega
  apply Ev.rounds
  unfold oculuslaw05_ZoneOver.f
  refine ev_ite (fun _ => ev_bind alive05_ev (Ev.now _)) (fun _ => ?_)
  have hlen := cellsOf_len s.f0.f0 s.f0.f1 s.f1.f0 s.f1.f1
  have hov := over_ev zs hl _ _ _ _ _ (span_cells_eq s.f0.f0 s.f0.f1 s.f1.f0 s.f1.f1) (by omega)
  obtain ⟨o1, o2, o3⟩ := over_ok zs hz (cellsOf s.f0.f0 s.f0.f1 s.f1.f0 s.f1.f1) (0, 0) ⟨by decide, by decide⟩
  generalize overZ zs (cellsOf s.f0.f0 s.f0.f1 s.f1.f0 s.f1.f1) (0, 0) = top at *
  refine ev_bind hov ?_
  refine ev_bind (rcells_ev _ _ _ _) ?_
  refine ev_bind (ev_some fun _ => rhas_eq _ _ _ _ _ _) ?_
  have hj : Ev (fun k => oculuslaw05_ZoneOver.j0 k zs (cellsOf s.f0.f0 s.f0.f1 s.f1.f0 s.f1.f1) false s.f0.f0 s.f0.f1 s.f1.f0 s.f1.f1 top.1 top.2) true := by
    refine Ev.step (fun k => oculuslaw05_ZoneOver.j0.eq_2 _ _ _ _ _ _ _ _ _ _) ?_
    refine ev_neg (by simp) ?_
    have hseen : Ev (fun k => zone_Seen.f k zs s.f0.f0 s.f0.f1 s.f1.f0 s.f1.f1 top.1 top.2) (cellsOf s.f0.f0 s.f0.f1 s.f1.f0 s.f1.f1) := by
      unfold zone_Seen.f
      refine ev_bind (ev_some fun _ => span_cells_eq _ _ _ _) ?_
      exact seen_l0 zs hl hz top o1 _ hlen o3 _ 0 (Nat.zero_add _)
    refine ev_bind hseen ?_
    have hsame : Ev (fun k => oculusref03_Same.f k (cellsOf s.f0.f0 s.f0.f1 s.f1.f0 s.f1.f1) (cellsOf s.f0.f0 s.f0.f1 s.f1.f0 s.f1.f1)) true := by
      unfold oculusref03_Same.f
      exact ev_pos rfl (same_l0 _ hlen _ 0 (Nat.zero_add _))
    exact ev_bind hsame (ev_pos rfl (ev_bind alive05_ev (Ev.now _)))
  refine ev_ite (fun g => ?_) (fun _ => hj)
  refine ev_ite (fun g2 => ?_) (fun _ => hj)
  refine ev_bind (of_ev zs hl _ _) ?_
  refine ev_bind (ev_some fun _ => below_bel (of_ok zs hz _ _) o1 (o3 ⟨c.f0, c.f1⟩ (cells_mem g (by omega)))) ?_
  exact hj
end Go.Proofs.Ytjbdljolpkkhcaa.Pure
/- The row of the law ZoneOver: for every input the call returns true and each argument reads afterwards as before, out of its pure statement and the contract of its function. Conditions: none beyond the given statement. -/
namespace Go.Proofs.Ytjbdljolpkkhcaa.zoneOver
open Go.ChangeShapes Go.WideShapes Go.ChangeAt Go.RowKit
open Go.ChangeMaps (open_string shut_string)
open Go.Proofs.Ytjbdljolpkkhcaa.Opn Go.Proofs.Ytjbdljolpkkhcaa.X
open Go.Proofs.YtjbdljolpkkhcaaW.PrintWords (Kd Drawn0)
set_option linter.unusedVariables false
theorem own : ownKnob Try.prog.godebug = none := by kernel_rfl
theorem laidOut : laidOutB Try.prog = true := by kernel_rfl
set_option maxRecDepth 100000 in
set_option maxHeartbeats 1000000 in
theorem lifted (os : Os) (started : os.Started) (H : Type) (enc : TypeId × Value → H) :
    ReturnsInHanded {} Try.checked os 5 .any (Rows.zoneOverSpec.pre6 enc Try.prog Try.f5 Rows.zoneOverRow.domain false) (Rows.zoneOverSpec.post enc Try.prog Try.f5 false true false false) := by
  refine returnsInHanded_of_change_sized (C := Try.checked) own started (by kernel_rfl) Try.func5
    (ChangeSpec.witness6 (enc := enc) (C := Try.checked) false ⟨#[], #[.slice none 0 0, .agg #[.int .i64 0, .int .i64 0, .int .i64 0, .int .i64 0], .agg #[.int .i64 0, .int .i64 0]], []⟩ 8 (by kernel_rfl) (by kernel_rfl) (by kernel_rfl) (by kernel_rfl)) ?_
  intro W base args ds gs before hval0 hW hcnd hsz0 _
  have hsz : (DataW.weightsEach Try.prog (Try.f5.params.toList ++ Rows.zoneOverSpec.plain.varTypes Try.prog) (ds ++ gs)).all (· ≤ reachBytes) = true := hsz0
  have hval : ∀ (j : Nat) t v, Try.f5.params[j]? = some t → args[j]? = some v → Value.okWide Try.prog W .any base t v := hval0
  have hW' := hW
  obtain ⟨p, q, hA0, hV, rfl, hfz, hnd⟩ := hW
  have hA : DataW.TrodAll enc Try.prog W 0 (fun _ => true) true Try.f5.params.toList args.toList ds p := hA0
  rw [Try.params5] at hA hval hsz
  obtain ⟨v0, vs0, d0, ds0, p0, q0, hargs, rfl, rfl, h0, r0⟩ := trodAll_cons hA
  obtain ⟨v1, vs1, d1, ds1, p1, q1, rfl, rfl, rfl, h1, r1⟩ := trodAll_cons r0
  obtain ⟨v2, vs2, d2, ds2, p2, q2, rfl, rfl, rfl, h2, r2⟩ := trodAll_cons r1
  obtain ⟨rfl, rfl, rfl⟩ := trodAll_nil r2
  obtain rfl : args = #[v0, v1, v2] := by cases args; simp_all
  obtain ⟨rfl, rfl⟩ := trodVars_none hV
  have lt0 : ∀ x ∈ p0, x.block < W.heap.size := by obtain ⟨m, hm⟩ := h0; exact DataW.trod_lt m _ _ _ hm
  have hw0 : ∀ m ∈ d0.weights Try.prog 22, m ≤ reachBytes := fun m hm => of_decide_eq_true (List.all_eq_true.1 hsz m (DataW.weights_mem_each (j := 0) (t := 22) rfl rfl m hm))
  obtain ⟨a0, K0, g0⟩ : ∃ a, ((Kd.slice 31 k31) : Kd (List S31)).K W a v0.cells.toList ∧ ((∀ y ∈ a, good31 y) ∧ a.length * 48 ≤ reachBytes) := by
    obtain ⟨fuel, hf⟩ := h0
    exact (opens_slice Try.underlying22 (by kernel_rfl) (B := 48) (by kernel_rfl) z31 opens31) hf hw0
  obtain ⟨A0, n0, c0, rfl⟩ := okWide_slice Try.underlying22 (hval 0 22 v0 rfl rfl)
  obtain ⟨A0', c0', e0, hc0, C0⟩ := K0
  simp [Value.cells] at e0
  obtain ⟨rfl, rfl, rfl⟩ := e0
  have lt1 : ∀ x ∈ p1, x.block < W.heap.size := by obtain ⟨m, hm⟩ := h1; exact DataW.trod_lt m _ _ _ hm
  have hw1 : ∀ m ∈ d1.weights Try.prog 26, m ≤ reachBytes := fun m hm => of_decide_eq_true (List.all_eq_true.1 hsz m (DataW.weights_mem_each (j := 1) (t := 26) rfl rfl m hm))
  obtain ⟨a1, K1, g1⟩ : ∃ a, (k26 : Kd S26).K W a v1.cells.toList ∧ (good26 a) := by
    obtain ⟨fuel, hf⟩ := h1
    exact opens26 hf hw1
  obtain ⟨cs1, rfl, _⟩ := okWide_struct Try.underlying26 (hval 1 26 v1 rfl rfl)
  have KO1 := k26_open K1
  obtain rfl : cs1 = #[.int .i64 a1.f0.f0, .int .i64 a1.f0.f1, .int .i64 a1.f1.f0, .int .i64 a1.f1.f1] := by
    have : cs1.toList = _ := KO1
    cases cs1; simp_all
  have lt2 : ∀ x ∈ p2, x.block < W.heap.size := by obtain ⟨m, hm⟩ := h2; exact DataW.trod_lt m _ _ _ hm
  have hw2 : ∀ m ∈ d2.weights Try.prog 24, m ≤ reachBytes := fun m hm => of_decide_eq_true (List.all_eq_true.1 hsz m (DataW.weights_mem_each (j := 2) (t := 24) rfl rfl m hm))
  obtain ⟨a2, K2, g2⟩ : ∃ a, (k24 : Kd S24).K W a v2.cells.toList ∧ (good24 a) := by
    obtain ⟨fuel, hf⟩ := h2
    exact opens24 hf hw2
  obtain ⟨cs2, rfl, _⟩ := okWide_struct Try.underlying24 (hval 2 24 v2 rfl rfl)
  have KO2 := k24_open K2
  obtain rfl : cs2 = #[.int .i64 a2.f0, .int .i64 a2.f1] := by
    have : cs2.toList = _ := KO2
    cases cs2; simp_all
  obtain ⟨k, hk⟩ := Pure.ZoneOver a0 a1 a2 g0 g1 g2
  clear hA0 hval0 hsz0 hsz
  refine (oculuslaw05_ZoneOver.calls k A0 c0 a0 (a1.f0.f0) (a1.f0.f1) (a1.f1.f0) (a1.f1.f1) (a2.f0) (a2.f1) true W C0 hc0 hk).mono fun e W' ⟨he, bel0⟩ => ?_
  have bel : Below W.heap.size W W' := bel0
  subst he
  exact ⟨_, rfl, _, _, _, [], _, [], hW', trodAll_mk1 (shut_bool Try.underlying4 _), (trodAll_cons_mk (Below.trod laidOut (by kernel_rfl) (of_decide_eq_true (by kernel_rfl)) h0 bel lt0) (trodAll_cons_mk (Below.trod laidOut (by kernel_rfl) (of_decide_eq_true (by kernel_rfl)) h1 bel lt1) (trodAll_cons_mk (Below.trod laidOut (by kernel_rfl) (of_decide_eq_true (by kernel_rfl)) h2 bel lt2) trodAll_mk0))), rfl, bel.frame _, fun h => by cases h⟩
theorem over : Rows.zoneOverRow.holds Try.pinned (OpenSpec.ofChange Rows.zoneOverSpec) :=
  OpenClaim.holds_of_wide 5 Try.f5 rfl rfl rfl rfl rfl rfl rfl ⟨rfl, rfl, rfl, rfl, rfl⟩ rfl rfl rfl rfl rfl (by kernel_rfl) Try.func5 (by kernel_rfl)
    (of_decide_eq_true (by kernel_rfl)) (by unfold Func.isWrapper; first | (rw [if_pos (by decide +kernel)]; kernel_rfl) | (rw [if_neg (by decide +kernel)]; exact ⟨rfl, rfl⟩))
    (fun os started H enc _ => lifted os started H enc)
theorem proved : Rows.ZoneOverSaid := over
end Go.Proofs.Ytjbdljolpkkhcaa.zoneOver
namespace Go.Proofs.Ytjbdljolpkkhcaa
/-- The row, under a short name, for the claim. -/
theorem zoneOver_holds : Rows.ZoneOverSaid := zoneOver.proved
#print axioms zoneOver_holds
end Go.Proofs.Ytjbdljolpkkhcaa
