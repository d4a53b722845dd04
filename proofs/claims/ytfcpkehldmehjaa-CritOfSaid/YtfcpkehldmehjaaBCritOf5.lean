/- The law CritOf: for every input the call returns true, and each argument reads afterwards as it read before: the statement Rows.CritOfSaid, whole, with no condition of ours. -/
import Derived.Test.YtfcpkehldmehjaaWWords
import Derived.Deep.Slices
import Derived.ChangeArms
import Derived.SizedLaws
import Derived.OpenShut
import Derived.Laws.BitsAllLaws
import Derived.Lib.Strings
import Derived.Lib.IndexBytes
import Derived.Test.YtfcpkehldmehjaaRows
import Derived.WalkKit
import Derived.ProofKit
import Derived.ShutString
import Derived.ChangeOld
import Derived.Below
import Derived.Carry
import Derived.Test.YtfcpkehldmehjaaBCritOf4
namespace Go.Proofs.Ytfcpkehldmehjaa.X
open Go.RowKit Go.Proofs.YtfcpkehldmehjaaW.PrintWords Go.Proofs.YtfcpkehldmehjaaW.PrintLast Go.Proofs.YtfcpkehldmehjaaW.PrintMore
attribute [local go_sem] max2_int min2_int max_two min_two max_three min_three max_four min_four   -- for this text's walks alone
set_option linter.unusedVariables false
set_option linter.unusedSimpArgs false

/-! ### oculusref17_Of: function 9 -/
mutual
def oculusref17_Of.j0 : Nat → Bool → Int → Int → ByteArray → Option (Int × Int × Int × ByteArray)
 | 0, _, _, _, _ => none
 | k + 1, x19, x102000, x102001, x102002 => if x19 = true then (some (7, x102000, x102001, x102002)) else (oculusref17_Of.l0 k x102002 (([(⟨#[60, 62]⟩ : ByteArray), (⟨#[60, 61]⟩ : ByteArray), (⟨#[62, 61]⟩ : ByteArray), (⟨#[60]⟩ : ByteArray), (⟨#[62]⟩ : ByteArray), (⟨#[61]⟩ : ByteArray)] : List ByteArray)) (([8, 10, 12, 9, 11, 7] : List Int)) 0)
def oculusref17_Of.l0 : Nat → ByteArray → List ByteArray → List Int → Int → Option (Int × Int × Int × ByteArray)
 | 0, _, _, _, _ => none
 | k + 1, x3, x4, x5, x6 => if x6 < 6 then (if 0 ≤ x6 then (if x6 < (x4.length : Int) then (if (x3.size : Int) ≥ ((rdOf ByteArray.empty x4 x6).size : Int) then (if 0 ≤ ((rdOf ByteArray.empty x4 x6).size : Int) then (if ((rdOf ByteArray.empty x4 x6).size : Int) ≤ (x3.size : Int) then (if (x3.extract 0 (((rdOf ByteArray.empty x4 x6).size : Int) : Int).toNat).toList = (rdOf ByteArray.empty x4 x6).toList then (if x6 < (x5.length : Int) then ((oculusref17_read.f k (x3.extract (((rdOf ByteArray.empty x4 x6).size : Int) : Int).toNat x3.size)).bind fun bt111 => (some (rd x5 x6, bt111.1, bt111.2.1, bt111.2.2))) else (none)) else (oculusref17_Of.l0 k x3 x4 x5 (wrap64 (x6 + 1)))) else (none)) else (none)) else (oculusref17_Of.l0 k x3 x4 x5 (wrap64 (x6 + 1)))) else (none)) else (none)) else ((oculusref17_read.f k x3).bind fun bt114 => (some (7, bt114.1, bt114.2.1, bt114.2.2)))
end
def oculusref17_Of.f (k : Nat) (a0_0 : Int) (a0_1 : Int) (a0_2 : ByteArray) : Option (Int × Int × Int × ByteArray) := if a0_0 = 4 then (some (0, 0, 0, (⟨#[]⟩ : ByteArray))) else (if a0_0 = 1 then (oculusref17_Of.j0 k true a0_0 a0_1 a0_2) else (oculusref17_Of.j0 k (a0_0 == 3) a0_0 a0_1 a0_2))
def oculusref17_Of.T13 : Bool × List (List Nat × List Nat) := (true, [([], []), ([], []), ([0, 1], [0, 1]), ([2], [2]), ([], []), ([], []), ([5], [5]), ([4, 6], [4, 6]), ([7], [7]), ([3, 8], [3, 8]), ([9, 8, 0, 1, 2, 3, 4, 5, 6, 7, 8, 9], [9])])
def oculusref17_Of.B13 : List Nat := [0, 0, 3, 7, 0, 0, 32, 112, 240, 511, 1023]
theorem oculusref17_Of.tab13 : rtab .any (opsOf Try.f9 13) = oculusref17_Of.T13 := by kernel_rfl
theorem oculusref17_Of.bits13 : waitsOk oculusref17_Of.T13.2 oculusref17_Of.B13 = true := by kernel_rfl
set_option maxHeartbeats 8000000 in
set_option maxRecDepth 100000 in
theorem oculusref17_Of.calls (k : Nat) (a0_0 : Int) (a0_1 : Int) (a0_2 : ByteArray) (r1 : Int) (r2 : Int) (r3 : Int) (r4 : ByteArray) (w : World) (h : oculusref17_Of.f k a0_0 a0_1 a0_2 = some (r1, r2, r3, r4)) :
  Calls Try.prog 9 #[.agg #[.int .i64 a0_0, .int .i64 a0_1, .string a0_2]] w fun e w' => e = .returned (.agg #[.int .i64 r1, .int .i64 r2, .int .i64 r3, .string r4]) ∧ Below w.heap.size w w' := by
 have hu23 := Try.underlying23; have hu30 := Try.underlying30; have HB := Aside0.mk (Below.refl w.heap.size w)
 have H : (if a0_0 = 4 then (some (0, 0, 0, (⟨#[]⟩ : ByteArray))) else (if a0_0 = 1 then (oculusref17_Of.j0 k true a0_0 a0_1 a0_2) else (oculusref17_Of.j0 k (a0_0 == 3) a0_0 a0_1 a0_2))) = some (r1, r2, r3, r4) := h
 clear h
 by_cases c2 : a0_0 = 4
 ·rw [if_pos c2] at H; have c2b0 : (a0_0 == 4) = true := beq_iff_eq.mpr c2; have c2b1 : (a0_0 != 4) = false := bne_eq_false_iff_eq.mpr c2; clear c2
  simp only [Option.some.injEq, Prod.mk.injEq] at H
  obtain ⟨rfl, rfl, rfl, rfl⟩ := H
  go_enter Try.func9, Try.ntmps9
  go_wp2_with (first | ((with_reducible refine gate_dst (N:=1) rfl ?_); (try (refine gate_guard (by rfl) ?_; dsimp only)); refine box_event ?hg (N:=1) ?hd (cs := #[.int .i64 a0_0, .int .i64 a0_1, .string a0_2]) (t:=23) ?hr ?_; (case hd => rfl); (case hg => rfl); (case hr => first | (go_simp; done) | (go_simp; rfl)); intro gb101 hg w3 hbox hb; have BK101 := Aside0.mk (hbox); have GW101 := hs_ HB hg; have GE101 := hs_ HB hg; replace HB := bs_ HB hb; clear hb hbox hg) | ((with_reducible refine gate_dst (N:=2) rfl ?_); (try (refine gate_guard (by rfl) ?_; dsimp only)); refine box_event ?hg (N:=2) ?hd (cs := #[.int .i64 0, .int .i64 0, .int .i64 0, .string (⟨#[]⟩ : ByteArray)]) (t:=30) ?hr ?_; (case hd => rfl); (case hg => rfl); (case hr => first | (go_simp; done) | (go_simp; rfl)); intro gb102 hg w4 hbox hb; have BK102 := Aside0.mk (hbox); have GW102 := hs_ HB hg; have GE102 := hs_ HB hg; have NB101_102 := hl_ BK101 hg; have NB102_101 := hr_ BK101 hg; replace BK101 := bb_ BK101 hb; replace HB := bs_ HB hb; clear hb hbox hg; have hnb5 := NB101_102.out; have hnc5 := NB102_101.out; have hcz6_0 : w4.cell? ⟨gb101, 0, none⟩ = some (.int .i64 a0_0) := bc_ BK101 0 rfl; have hcz6_1 : w4.cell? ⟨gb101, 1, none⟩ = some (.int .i64 a0_1) := bc_ BK101 1 rfl; have hcz6_2 : w4.cell? ⟨gb101, 2, none⟩ = some (.string a0_2) := bc_ BK101 2 rfl; have hfz6_0 := blk_frozen BK101.out 0; have hfz6_1 := blk_frozen BK101.out 1; have hfz6_2 := blk_frozen BK101.out 2; have hcz7_0 : w4.cell? ⟨gb102, 0, none⟩ = some (.int .i64 0) := bc_ BK102 0 rfl; have hcz7_1 : w4.cell? ⟨gb102, 1, none⟩ = some (.int .i64 0) := bc_ BK102 1 rfl; have hcz7_2 : w4.cell? ⟨gb102, 2, none⟩ = some (.int .i64 0) := bc_ BK102 2 rfl; have hcz7_3 : w4.cell? ⟨gb102, 3, none⟩ = some (.string (⟨#[]⟩ : ByteArray)) := bc_ BK102 3 rfl; have hfz7_0 := blk_frozen BK102.out 0; have hfz7_1 := blk_frozen BK102.out 1; have hfz7_2 := blk_frozen BK102.out 2; have hfz7_3 := blk_frozen BK102.out 3))
  refine bodyPost_ret (results_cell_row rfl _ _ gb102 30 #[.int .i64 0, .int .i64 0, .int .i64 0, .string (⟨#[]⟩ : ByteArray)] (0, 0) _ rfl (by (with_reducible repeat (first | refine blk_drewN ?_ _ | refine blk_drew ?_ | refine blk_alloc ?_ _)); refine blk_put (cs := #[.int .i64 0, .int .i64 0, .int .i64 0, .string (⟨#[]⟩ : ByteArray)]) ?_ 3 _ rfl; (with_reducible repeat (first | refine blk_drewN ?_ _ | refine blk_drew ?_ | refine blk_alloc ?_ _)); refine blk_put (cs := #[.int .i64 0, .int .i64 0, .int .i64 0, .string (⟨#[]⟩ : ByteArray)]) ?_ 2 _ rfl; (with_reducible repeat (first | refine blk_drewN ?_ _ | refine blk_drew ?_ | refine blk_alloc ?_ _)); refine blk_put (cs := #[.int .i64 0, .int .i64 0, .int .i64 0, .string (⟨#[]⟩ : ByteArray)]) ?_ 1 _ rfl; (with_reducible repeat (first | refine blk_drewN ?_ _ | refine blk_drew ?_ | refine blk_alloc ?_ _)); refine blk_put (cs := #[.int .i64 0, .int .i64 0, .int .i64 0, .string (⟨#[]⟩ : ByteArray)]) ?_ 0 _ rfl; (with_reducible repeat (first | refine blk_drewN ?_ _ | refine blk_drew ?_ | refine blk_alloc ?_ _)); exact BK102.out) Try.underlying30 rfl (by kernel_rfl)) rfl ?_
  exact ⟨by first | rfl | (simp [errW_none, errW_some] <;> rfl) | (simp [*, errW_none, errW_some] <;> rfl), by repeat (first | (with_reducible first | exact HB.out | apply below_alloc | apply pw_below_drewN | apply below_drew1 | refine below_set ?_ GE101.out | refine below_set ?_ GE102.out) | exact HB.out)⟩
 ·rw [if_neg c2] at H; have c2b0 : (a0_0 == 4) = false := beq_eq_false_iff_ne.mpr c2; have c2b1 : (a0_0 != 4) = true := bne_iff_ne.mpr c2; have HC8 := Aside0.mk H; clear H
  go_enter Try.func9, Try.ntmps9
  go_upto_region 3 with (first | ((with_reducible refine gate_dst (N:=1) rfl ?_); (try (refine gate_guard (by rfl) ?_; dsimp only)); refine box_event ?hg (N:=1) ?hd (cs := #[.int .i64 a0_0, .int .i64 a0_1, .string a0_2]) (t:=23) ?hr ?_; (case hd => rfl); (case hg => rfl); (case hr => first | (go_simp; done) | (go_simp; rfl)); intro gb101 hg w9 hbox hb; have BK101 := Aside0.mk (hbox); have GW101 := hs_ HB hg; have GE101 := hs_ HB hg; replace HB := bs_ HB hb; clear hb hbox hg) | ((with_reducible refine gate_dst (N:=2) rfl ?_); (try (refine gate_guard (by rfl) ?_; dsimp only)); refine box_event ?hg (N:=2) ?hd (cs := #[.int .i64 0, .int .i64 0, .int .i64 0, .string (⟨#[]⟩ : ByteArray)]) (t:=30) ?hr ?_; (case hd => rfl); (case hg => rfl); (case hr => first | (go_simp; done) | (go_simp; rfl)); intro gb102 hg w10 hbox hb; have BK102 := Aside0.mk (hbox); have GW102 := hs_ HB hg; have GE102 := hs_ HB hg; have NB101_102 := hl_ BK101 hg; have NB102_101 := hr_ BK101 hg; replace BK101 := bb_ BK101 hb; replace HB := bs_ HB hb; clear hb hbox hg; have hnb11 := NB101_102.out; have hnc11 := NB102_101.out; have hcz12_0 : w10.cell? ⟨gb101, 0, none⟩ = some (.int .i64 a0_0) := bc_ BK101 0 rfl; have hcz12_1 : w10.cell? ⟨gb101, 1, none⟩ = some (.int .i64 a0_1) := bc_ BK101 1 rfl; have hcz12_2 : w10.cell? ⟨gb101, 2, none⟩ = some (.string a0_2) := bc_ BK101 2 rfl; have hfz12_0 := blk_frozen BK101.out 0; have hfz12_1 := blk_frozen BK101.out 1; have hfz12_2 := blk_frozen BK101.out 2))
  (try simp only [q_])
  go_cut [19] (fun v19 wc => ∃ (kq : Nat) (x19_7 : Bool), v19 = .bool x19_7 ∧ Aside0 (oculusref17_Of.j0 kq x19_7 a0_0 a0_1 a0_2 = some (r1, r2, r3, r4)) ∧ Aside0 (kq ≤ k) ∧ Aside0 (wc.heap[gb101]? = some (.cells #[.int .i64 a0_0, .int .i64 a0_1, .string a0_2] 23 (0, 0))) ∧ Aside0 (wc.heap[gb102]? = some (.cells #[.int .i64 0, .int .i64 0, .int .i64 0, .string (⟨#[]⟩ : ByteArray)] 30 (0, 0))) ∧ Aside0 (Below w.heap.size w wc))
  case first =>
   have H := HC8.out; clear HC8
   by_cases c13 : a0_0 = 1
   ·rw [if_pos c13] at H; have c13b0 : (a0_0 == 1) = true := beq_iff_eq.mpr c13; have c13b1 : (a0_0 != 1) = false := bne_eq_false_iff_eq.mpr c13; clear c13; (first | rw [c13b0] | (simp only [i64_w, i32_w]; rw [c13b0]) | skip)
    have H' := Aside0.mk H
    clear H; have hnb14 := NB101_102.out; have hnc14 := NB102_101.out
    have hcz15_0 : w10.cell? ⟨gb101, 0, none⟩ = some (.int .i64 a0_0) := bc_ BK101 0 rfl
    have hcz15_1 : w10.cell? ⟨gb101, 1, none⟩ = some (.int .i64 a0_1) := bc_ BK101 1 rfl
    have hcz15_2 : w10.cell? ⟨gb101, 2, none⟩ = some (.string a0_2) := bc_ BK101 2 rfl
    have hfz15_0 := blk_frozen BK101.out 0; have hfz15_1 := blk_frozen BK101.out 1; have hfz15_2 := blk_frozen BK101.out 2
    go_wp2
    go_meet
    case rel => exact ⟨_, (true), (by first | rfl | (simp; done) | (simp [*]; done)), H', ⟨by first | omega | exact Nat.le_refl _⟩, ⟨pkx BK101⟩, ⟨pkx BK102⟩, ⟨pbx HB⟩⟩
   ·rw [if_neg c13] at H; have c13b0 : (a0_0 == 1) = false := beq_eq_false_iff_ne.mpr c13; have c13b1 : (a0_0 != 1) = true := bne_iff_ne.mpr c13; (first | rw [c13b0] | (simp only [i64_w, i32_w]; rw [c13b0]) | skip)
    have H' := Aside0.mk H
    clear H; have hnb16 := NB101_102.out; have hnc16 := NB102_101.out
    have hcz17_0 : w10.cell? ⟨gb101, 0, none⟩ = some (.int .i64 a0_0) := bc_ BK101 0 rfl
    have hcz17_1 : w10.cell? ⟨gb101, 1, none⟩ = some (.int .i64 a0_1) := bc_ BK101 1 rfl
    have hcz17_2 : w10.cell? ⟨gb101, 2, none⟩ = some (.string a0_2) := bc_ BK101 2 rfl
    have hfz17_0 := blk_frozen BK101.out 0; have hfz17_1 := blk_frozen BK101.out 1; have hfz17_2 := blk_frozen BK101.out 2
    go_wp2
    go_meet
    case rel => exact ⟨_, ((a0_0 == 3)), (by first | rfl | (simp; done) | (simp [*]; done)), H', ⟨by first | omega | exact Nat.le_refl _⟩, ⟨pkx BK101⟩, ⟨pkx BK102⟩, ⟨pbx HB⟩⟩
  case rest =>
   clear HC8; (try clear c1); (try clear c2); (try clear c2b0); (try clear c2b1); (try clear p2); (try clear c5); (try clear c9); (try clear c11); (try clear c13); (try clear c13b0); (try clear c13b1); (try clear c14); (try clear c16); (try clear hcz12_0); (try clear hcz12_1); (try clear hcz12_2); (try clear hcz15_0); (try clear hcz15_1); (try clear hcz15_2); (try clear hcz17_0); (try clear hcz17_1); (try clear hcz17_2); (try clear hcz6_0); (try clear hcz6_1); (try clear hcz6_2); (try clear hcz7_0); (try clear hcz7_1); (try clear hcz7_2); (try clear hcz7_3); (try clear hfz12_0); (try clear hfz12_1); (try clear hfz12_2); (try clear hfz15_0); (try clear hfz15_1); (try clear hfz15_2); (try clear hfz17_0); (try clear hfz17_1); (try clear hfz17_2); (try clear hfz6_0); (try clear hfz6_1); (try clear hfz6_2); (try clear hfz7_0); (try clear hfz7_1); (try clear hfz7_2); (try clear hfz7_3); obtain ⟨kq, x19_7, rfl, HA, HJ7, BK101, BK102, HB⟩ := hcut
   cases kq with
   | zero => exact absurd HA.out (by simp [oculusref17_Of.j0])
   | succ kj7 =>
    have H := HA.out; clear HA
    simp only [oculusref17_Of.j0] at H
    by_cases c18 : x19_7 = true
    ·subst c18
     have H1 : (some (7, a0_0, a0_1, a0_2)) = some (r1, r2, r3, r4) := by rw [if_pos rfl] at H; exact H
     clear H; have H := H1; clear H1
     simp only [Option.some.injEq, Prod.mk.injEq] at H
     obtain ⟨rfl, rfl, rfl, rfl⟩ := H; have hnb19 := NB101_102.out; have hnc19 := NB102_101.out
     have hcz20_0 : wc.cell? ⟨gb101, 0, none⟩ = some (.int .i64 a0_0) := bc_ BK101 0 rfl
     have hcz20_1 : wc.cell? ⟨gb101, 1, none⟩ = some (.int .i64 a0_1) := bc_ BK101 1 rfl
     have hcz20_2 : wc.cell? ⟨gb101, 2, none⟩ = some (.string a0_2) := bc_ BK101 2 rfl
     have hfz20_0 := blk_frozen BK101.out 0; have hfz20_1 := blk_frozen BK101.out 1; have hfz20_2 := blk_frozen BK101.out 2
     have hcz21_0 : wc.cell? ⟨gb102, 0, none⟩ = some (.int .i64 0) := bc_ BK102 0 rfl
     have hcz21_1 : wc.cell? ⟨gb102, 1, none⟩ = some (.int .i64 0) := bc_ BK102 1 rfl
     have hcz21_2 : wc.cell? ⟨gb102, 2, none⟩ = some (.int .i64 0) := bc_ BK102 2 rfl
     have hcz21_3 : wc.cell? ⟨gb102, 3, none⟩ = some (.string (⟨#[]⟩ : ByteArray)) := bc_ BK102 3 rfl
     have hfz21_0 := blk_frozen BK102.out 0; have hfz21_1 := blk_frozen BK102.out 1; have hfz21_2 := blk_frozen BK102.out 2; have hfz21_3 := blk_frozen BK102.out 3
     go_wp2
     refine bodyPost_ret (results_cell_row rfl _ _ gb102 30 #[.int .i64 7, .int .i64 a0_0, .int .i64 a0_1, .string a0_2] (0, 0) _ rfl (by (with_reducible repeat (first | refine blk_drewN ?_ _ | refine blk_drew ?_ | refine blk_alloc ?_ _)); refine blk_put (cs := #[.int .i64 7, .int .i64 a0_0, .int .i64 a0_1, .string (⟨#[]⟩ : ByteArray)]) ?_ 3 _ rfl; (with_reducible repeat (first | refine blk_drewN ?_ _ | refine blk_drew ?_ | refine blk_alloc ?_ _)); refine blk_put (cs := #[.int .i64 7, .int .i64 a0_0, .int .i64 0, .string (⟨#[]⟩ : ByteArray)]) ?_ 2 _ rfl; (with_reducible repeat (first | refine blk_drewN ?_ _ | refine blk_drew ?_ | refine blk_alloc ?_ _)); refine blk_put (cs := #[.int .i64 7, .int .i64 0, .int .i64 0, .string (⟨#[]⟩ : ByteArray)]) ?_ 1 _ rfl; (with_reducible repeat (first | refine blk_drewN ?_ _ | refine blk_drew ?_ | refine blk_alloc ?_ _)); refine blk_put (cs := #[.int .i64 0, .int .i64 0, .int .i64 0, .string (⟨#[]⟩ : ByteArray)]) ?_ 0 _ rfl; (with_reducible repeat (first | refine blk_drewN ?_ _ | refine blk_drew ?_ | refine blk_alloc ?_ _)); exact BK102.out) Try.underlying30 rfl (by kernel_rfl)) rfl ?_
     exact ⟨by first | rfl | (simp [errW_none, errW_some] <;> rfl) | (simp [*, errW_none, errW_some] <;> rfl), by repeat (first | (with_reducible first | exact HB.out | apply below_alloc | apply pw_below_drewN | apply below_drew1 | refine below_set ?_ GE101.out | refine below_set ?_ GE102.out) | exact HB.out)⟩
    ·replace c18 := Bool.eq_false_iff.mpr c18; subst c18
     have H1 : (oculusref17_Of.l0 kj7 a0_2 (([(⟨#[60, 62]⟩ : ByteArray), (⟨#[60, 61]⟩ : ByteArray), (⟨#[62, 61]⟩ : ByteArray), (⟨#[60]⟩ : ByteArray), (⟨#[62]⟩ : ByteArray), (⟨#[61]⟩ : ByteArray)] : List ByteArray)) (([8, 10, 12, 9, 11, 7] : List Int)) 0) = some (r1, r2, r3, r4) := by rw [if_neg (show ¬ (false = true) by decide)] at H; exact H
     clear H; have H := H1; clear H1; obtain ⟨y103, hy103⟩ : ∃ y_ : List ByteArray, y_ = (([(⟨#[60, 62]⟩ : ByteArray), (⟨#[60, 61]⟩ : ByteArray), (⟨#[62, 61]⟩ : ByteArray), (⟨#[60]⟩ : ByteArray), (⟨#[62]⟩ : ByteArray), (⟨#[61]⟩ : ByteArray)] : List ByteArray)) := ⟨_, rfl⟩
     replace H : (oculusref17_Of.l0 kj7 a0_2 y103 (([8, 10, 12, 9, 11, 7] : List Int)) 0) = some (r1, r2, r3, r4) := by first | (rw [hy103]; with_reducible exact H) | (have H2_ := (Option.bind_some _ _).symm.trans H; rw [hy103]; with_reducible exact H2_) | (have H2_ := (Option.bind_some _ _).symm.trans H; with_reducible exact H2_) | with_reducible exact H | (rw [hy103]; exact H) | exact H
     have Ny103 := Aside0.mk hy103; clear hy103; obtain ⟨y106, hy106⟩ : ∃ y_ : List Int, y_ = (([8, 10, 12, 9, 11, 7] : List Int)) := ⟨_, rfl⟩
     replace H : (oculusref17_Of.l0 kj7 a0_2 y103 y106 0) = some (r1, r2, r3, r4) := by first | (rw [hy106]; with_reducible exact H) | (have H2_ := (Option.bind_some _ _).symm.trans H; rw [hy106]; with_reducible exact H2_) | (have H2_ := (Option.bind_some _ _).symm.trans H; with_reducible exact H2_) | with_reducible exact H | (rw [hy106]; exact H) | exact H
     have Ny106 := Aside0.mk hy106; clear hy106
     have H' := Aside0.mk H
     clear H; have hnb22 := NB101_102.out; have hnc22 := NB102_101.out
     have hcz23_0 : wc.cell? ⟨gb101, 0, none⟩ = some (.int .i64 a0_0) := bc_ BK101 0 rfl
     have hcz23_1 : wc.cell? ⟨gb101, 1, none⟩ = some (.int .i64 a0_1) := bc_ BK101 1 rfl
     have hcz23_2 : wc.cell? ⟨gb101, 2, none⟩ = some (.string a0_2) := bc_ BK101 2 rfl
     have hfz23_0 := blk_frozen BK101.out 0; have hfz23_1 := blk_frozen BK101.out 1; have hfz23_2 := blk_frozen BK101.out 2
     go_wp2_with (first | ((with_reducible refine gate_dst (N:=24) rfl ?_); (try (refine gate_guard (by rfl) ?_; dsimp only)); refine Kd.R_lit Kd.string _ 9 ?hg (N:=24) ?hd (xs := ([(⟨#[60, 62]⟩ : ByteArray), (⟨#[60, 61]⟩ : ByteArray), (⟨#[62, 61]⟩ : ByteArray), (⟨#[60]⟩ : ByteArray), (⟨#[62]⟩ : ByteArray), (⟨#[61]⟩ : ByteArray)] : List ByteArray)) (inner := [.string (⟨#[60, 62]⟩ : ByteArray), .string (⟨#[60, 61]⟩ : ByteArray), .string (⟨#[62, 61]⟩ : ByteArray), .string (⟨#[60]⟩ : ByteArray), .string (⟨#[62]⟩ : ByteArray), .string (⟨#[61]⟩ : ByteArray)]) (ok := fun _ => True) (okp := fun _ => True) ?hr ?hp (fun _ hk => hk) trivial (Below.refl _ _) (Nat.le_refl _) (by simp) ?_; (case hd => rfl); (case hg => rfl); (case hr => first | (go_simp; done) | (go_simp; rfl)); (case hp => exact (Reps.one (show Kd.M Kd.string _ _ _ (⟨#[60, 62]⟩ : ByteArray) [.string (⟨#[60, 62]⟩ : ByteArray)] from rfl) (Reps.one (show Kd.M Kd.string _ _ _ (⟨#[60, 61]⟩ : ByteArray) [.string (⟨#[60, 61]⟩ : ByteArray)] from rfl) (Reps.one (show Kd.M Kd.string _ _ _ (⟨#[62, 61]⟩ : ByteArray) [.string (⟨#[62, 61]⟩ : ByteArray)] from rfl) (Reps.one (show Kd.M Kd.string _ _ _ (⟨#[60]⟩ : ByteArray) [.string (⟨#[60]⟩ : ByteArray)] from rfl) (Reps.one (show Kd.M Kd.string _ _ _ (⟨#[62]⟩ : ByteArray) [.string (⟨#[62]⟩ : ByteArray)] from rfl) (Reps.one (show Kd.M Kd.string _ _ _ (⟨#[61]⟩ : ByteArray) [.string (⟨#[61]⟩ : ByteArray)] from rfl) (Reps.none _ _)))))))); intro v104 w24 ho25 hb hg_ hnew_; clear hg_ hnew_; (first | rw [← Ny103.out] at ho25 | (simp only [Int.reduceToNat] at ho25; rw [← Ny103.out] at ho25)); have HO105 := Aside0.mk (Kd.R_lower ho25 (below_size (pbx HB))); replace BK101 := bb_ BK101 hb; replace BK102 := bb_ BK102 hb; replace HB := bs_ HB hb; clear hb ho25) | ((with_reducible refine gate_dst (N:=25) rfl ?_); (try (refine gate_guard (by rfl) ?_; dsimp only)); refine Kd.R_lit (Kd.int .i64) _ 3 ?hg (N:=25) ?hd (xs := ([8, 10, 12, 9, 11, 7] : List Int)) (inner := [.int .i64 8, .int .i64 10, .int .i64 12, .int .i64 9, .int .i64 11, .int .i64 7]) (ok := fun _ => True) (okp := fun _ => True) ?hr ?hp (fun _ hk => hk) trivial (Below.refl _ _) (Nat.le_refl _) (by simp) ?_; (case hd => rfl); (case hg => rfl); (case hr => first | (go_simp; done) | (go_simp; rfl)); (case hp => exact (Reps.one (show Kd.M (Kd.int .i64) _ _ _ 8 [.int .i64 8] from rfl) (Reps.one (show Kd.M (Kd.int .i64) _ _ _ 10 [.int .i64 10] from rfl) (Reps.one (show Kd.M (Kd.int .i64) _ _ _ 12 [.int .i64 12] from rfl) (Reps.one (show Kd.M (Kd.int .i64) _ _ _ 9 [.int .i64 9] from rfl) (Reps.one (show Kd.M (Kd.int .i64) _ _ _ 11 [.int .i64 11] from rfl) (Reps.one (show Kd.M (Kd.int .i64) _ _ _ 7 [.int .i64 7] from rfl) (Reps.none _ _)))))))); intro v107 w26 ho27 hb hg_ hnew_; clear hg_ hnew_; (first | rw [← Ny106.out] at ho27 | (simp only [Int.reduceToNat] at ho27; rw [← Ny106.out] at ho27)); have HO108 := Aside0.mk (Kd.R_lower ho27 (below_size (pbx HB))); replace HO105 := Aside0.mk (Kd.R_below (by (with_reducible repeat (first | apply Kd.R_alloc | apply Kd.R_drewN | apply Kd.R_drew)); exact HO105.out) hb); replace BK101 := bb_ BK101 hb; replace BK102 := bb_ BK102 hb; replace HB := bs_ HB hb; clear hb ho27))
     go_loopg [6] kj7 (fun kq v6 w' => ∃ (x6_2 : Int) (x103000_2 : Int) (x103001_2 : Int) (x103002_2 : Int) (x103003_2 : ByteArray), v6 = .int .i64 x6_2 ∧ Aside0 (oculusref17_Of.l0 kq a0_2 y103 y106 x6_2 = some (r1, r2, r3, r4)) ∧ Aside0 (kq ≤ kj7) ∧ Aside0 (Kd.R Kd.string 9 w' w.heap.size (fun _ => True) v104 y103) ∧ Aside0 (Kd.R (Kd.int .i64) 3 w' w.heap.size (fun _ => True) v107 y106) ∧ Aside0 (w'.heap[gb101]? = some (.cells #[.int .i64 a0_0, .int .i64 a0_1, .string a0_2] 23 (0, 0))) ∧ Aside0 (w'.heap[gb102]? = some (.cells #[.int .i64 x103000_2, .int .i64 x103001_2, .int .i64 x103002_2, .string x103003_2] 30 (0, 0))) ∧ Aside0 (Below w.heap.size w w'))
     case atStart => exact ⟨(0), (0), (0), (0), ((⟨#[]⟩ : ByteArray)), (by first | rfl | (simp; done) | (simp [*]; done)), H', ⟨Nat.le_refl _⟩, ⟨by (with_reducible repeat (first | apply Kd.R_alloc | apply Kd.R_drewN | apply Kd.R_drew)); exact HO105.out⟩, ⟨by (with_reducible repeat (first | apply Kd.R_alloc | apply Kd.R_drewN | apply Kd.R_drew)); exact HO108.out⟩, ⟨pkx BK101⟩, ⟨pkx BK102⟩, ⟨pbx HB⟩⟩
     case round =>
      clear H'; (try clear c1); (try clear c2); (try clear c2b0); (try clear c2b1); (try clear p2); (try clear c5); (try clear c9); (try clear c11); (try clear c13); (try clear c13b0); (try clear c13b1); (try clear c14); (try clear c16); (try clear c18); (try clear c19); (try clear c22); (try clear hcz12_0); (try clear hcz12_1); (try clear hcz12_2); (try clear hcz15_0); (try clear hcz15_1); (try clear hcz15_2); (try clear hcz17_0); (try clear hcz17_1); (try clear hcz17_2); (try clear hcz20_0); (try clear hcz20_1); (try clear hcz20_2); (try clear hcz21_0); (try clear hcz21_1); (try clear hcz21_2); (try clear hcz21_3); (try clear hcz23_0); (try clear hcz23_1); (try clear hcz23_2); (try clear hcz6_0); (try clear hcz6_1); (try clear hcz6_2); (try clear hcz7_0); (try clear hcz7_1); (try clear hcz7_2); (try clear hcz7_3); (try clear hfz12_0); (try clear hfz12_1); (try clear hfz12_2); (try clear hfz15_0)
      (try clear hfz15_1); (try clear hfz15_2); (try clear hfz17_0); (try clear hfz17_1); (try clear hfz17_2); (try clear hfz20_0); (try clear hfz20_1); (try clear hfz20_2); (try clear hfz21_0); (try clear hfz21_1); (try clear hfz21_2); (try clear hfz21_3); (try clear hfz23_0); (try clear hfz23_1); (try clear hfz23_2); (try clear hfz6_0); (try clear hfz6_1); (try clear hfz6_2); (try clear hfz7_0); (try clear hfz7_1); (try clear hfz7_2); (try clear hfz7_3); (try clear p2); obtain ⟨x6_2, x103000_2, x103001_2, x103002_2, x103003_2, rfl, HA, HK2, HO_4, HO_5, BK101, BK102, HB⟩ := hrel
      cases gk with
      | zero => exact absurd HA.out (by simp [oculusref17_Of.l0])
      | succ k2 =>
       have H := HA.out; clear HA
       simp only [oculusref17_Of.l0] at H
       by_cases c28 : x6_2 < 6
       ·rw [if_pos c28] at H; have c28b0 : decide (x6_2 < 6) = true := decide_eq_true c28; clear c28
        by_cases c29 : 0 ≤ x6_2
        ·rw [if_pos c29] at H; have c29b0 : decide (0 ≤ x6_2) = true := decide_eq_true c29; clear c29
         by_cases c30 : x6_2 < (y103.length : Int)
         ·rw [if_pos c30] at H; have c30b0 : decide (x6_2 < (y103.length : Int)) = true := decide_eq_true c30; clear c30
          by_cases c31 : (a0_2.size : Int) ≥ ((rdOf ByteArray.empty y103 x6_2).size : Int)
          ·rw [if_pos c31] at H; have c31b0 : decide (((rdOf ByteArray.empty y103 x6_2).size : Int) ≤ (a0_2.size : Int)) = true := decide_eq_true c31; have c31b1 : decide ((rdOf ByteArray.empty y103 x6_2).size ≤ a0_2.size) = true := decide_eq_true (Int.ofNat_le.mp c31); clear c31
           by_cases c32 : 0 ≤ ((rdOf ByteArray.empty y103 x6_2).size : Int)
           ·rw [if_pos c32] at H; have c32b0 := eq_true c32; have c32b1 : decide (0 ≤ ((rdOf ByteArray.empty y103 x6_2).size : Int)) = true := decide_eq_true c32; clear c32
            by_cases c33 : ((rdOf ByteArray.empty y103 x6_2).size : Int) ≤ (a0_2.size : Int)
            ·rw [if_pos c33] at H; have c33b0 := eq_true c33; have c33b1 : decide (((rdOf ByteArray.empty y103 x6_2).size : Int) ≤ (a0_2.size : Int)) = true := decide_eq_true c33; clear c33
             by_cases c34 : (a0_2.extract 0 (((rdOf ByteArray.empty y103 x6_2).size : Int) : Int).toNat).toList = (rdOf ByteArray.empty y103 x6_2).toList
             ·rw [if_pos c34] at H; have c34b0 : ((a0_2.extract 0 (((rdOf ByteArray.empty y103 x6_2).size : Int) : Int).toNat).toList == (rdOf ByteArray.empty y103 x6_2).toList) = true := beq_iff_eq.mpr c34
              try (have c34b0z := c34b0; simp only [Int.toNat_natCast] at c34b0z)
              have c34b1 : ((a0_2.extract 0 (((rdOf ByteArray.empty y103 x6_2).size : Int) : Int).toNat).toList != (rdOf ByteArray.empty y103 x6_2).toList) = false := bne_eq_false_iff_eq.mpr c34
              try (have c34b1z := c34b1; simp only [Int.toNat_natCast] at c34b1z)
              clear c34
              by_cases c35 : x6_2 < (y106.length : Int)
              ·rw [if_pos c35] at H; have c35b0 : decide (x6_2 < (y106.length : Int)) = true := decide_eq_true c35; clear c35; have c36b0 := eq_true (of_decide_eq_true (by first | (with_reducible assumption) | assumption) : 0 ≤ ((rdOf ByteArray.empty y103 x6_2).size : Int)); have c37b0 := eq_true (of_decide_eq_true (by first | (with_reducible assumption) | assumption) : ((rdOf ByteArray.empty y103 x6_2).size : Int) ≤ (a0_2.size : Int)); replace H := Option.bind_eq_some_iff.mp H; obtain ⟨⟨t111, t112, t113⟩, A380, H⟩ := H
               replace H : (some (rd y106 x6_2, t111, t112, t113)) = some (r1, r2, r3, r4) := H
               have A38 := Aside0.mk A380; clear A380
               simp only [Option.some.injEq, Prod.mk.injEq] at H
               obtain ⟨rfl, rfl, rfl, rfl⟩ := H; obtain ⟨Ao39, co39, eo39⟩ := Kd.R_slice HO_4.out; subst eo39
               have p109 : 0 ≤ (x6_2 : Int) := of_decide_eq_true (by first | (with_reducible assumption) | assumption)
               have q109 : x6_2 < (y103.length : Int) := of_decide_eq_true (by first | (with_reducible assumption) | assumption)
               obtain ⟨ad109, e109, hx109_0⟩ := Kd.at_string (Kd.R_reads' HO_4.out).2.2 x6_2 p109 q109
               cases e109
               replace p109 := eq_true p109; replace q109 := eq_true q109
               try go_wp2
               (try (rw [drewN_self wr]; generalize hq_ : World.drewN wr _ = wr; have n0_ : Aside0 (Kd.R Kd.string 9 wr w.heap.size (fun _ => True) (.slice (some ad109) y103.length co39) y103) := ⟨by rw [← hq_]; exact (by (with_reducible repeat (first | apply Kd.R_alloc | apply Kd.R_drewN | apply Kd.R_drew)); exact HO_4.out)⟩; have n1_ : Aside0 (Kd.R (Kd.int .i64) 3 wr w.heap.size (fun _ => True) v107 y106) := ⟨by rw [← hq_]; exact (by (with_reducible repeat (first | apply Kd.R_alloc | apply Kd.R_drewN | apply Kd.R_drew)); exact HO_5.out)⟩; have n2_ : Aside0 (wr.heap[gb101]? = some (.cells #[.int .i64 a0_0, .int .i64 a0_1, .string a0_2] 23 (0, 0))) := ⟨by rw [← hq_]; exact (pkx BK101)⟩; have n3_ : Aside0 (wr.heap[gb102]? = some (.cells #[.int .i64 x103000_2, .int .i64 x103001_2, .int .i64 x103002_2, .string x103003_2] 30 (0, 0))) := ⟨by rw [← hq_]; exact (pkx BK102)⟩; have n4_ : Aside0 (Below w.heap.size w wr) := ⟨by rw [← hq_]; exact (pbx HB)⟩; clear HO_4 HO_5 BK101 BK102 HB hq_; have HO_4 := n0_; have HO_5 := n1_; have BK101 := n2_; have BK102 := n3_; have HB := n4_; clear n0_ n1_ n2_ n3_ n4_))
               replace HO_4 := Aside0.mk (Kd.R_drew HO_4.out); replace HO_5 := Aside0.mk (Kd.R_drew HO_5.out); replace BK101 := Aside0.mk (blk_drew BK101.out); replace BK102 := Aside0.mk (blk_drew BK102.out); replace HB := Aside0.mk (below_drew1 HB.out); obtain ⟨Ao41, co41, eo41⟩ := Kd.R_slice HO_5.out; (first | subst eo41 | (injection eo41 with f1_ f2_ f3_; have f4_ := f1_.symm; have f5_ := f3_.symm; clear f1_ f2_ f3_; subst f4_; subst f5_))
               have p110 : 0 ≤ (x6_2 : Int) := of_decide_eq_true (by first | (with_reducible assumption) | assumption)
               have q110 : x6_2 < (y106.length : Int) := of_decide_eq_true (by first | (with_reducible assumption) | assumption)
               obtain ⟨ad110, e110, hx110_0⟩ := Kd.at_int (Kd.R_reads' HO_5.out).2.2 x6_2 p110 q110
               cases e110
               replace p110 := eq_true p110; replace q110 := eq_true q110
               refine start_ (n:=11) (S := fun w' => w'.cell? (ad110.add (x6_2).toNat) = some (.int .i64 (rd y106 x6_2))) (ds := []) #[F,F,F,F,F,F,F,F,F,F,F] (by kernel_rfl) rfl rfl (hx110_0) (fun hHeld => ?_); refine with_tabW oculusref17_Of.tab13 oculusref17_Of.bits13 (fun HT_ HW_ => ?_)
               generalize wr.drew = w40 at HO_4 HO_5 BK101 BK102 HB hx110_0 hHeld ⊢; refine pure_ (i:=0) (N:=some 47) (v:=?_) (a':=?_) ⟨m_ 11 1⟩ rfl rfl (any_of HT_.out (by kernel_rfl)) (fun _ _ _ h=>h) (Or.inl ⟨rfl, ?_⟩) ?_ ?_; rotate_left
               ·intro w'; go_simp; with_reducible rfl
               rotate_left
               ·simp only [q_, i64_w, i32_w]; rfl
               refine pure_ (i:=1) (N:=some 48) (v:=?_) (a':=?_) ⟨m_ 11 3⟩ rfl rfl (any_of HT_.out (by kernel_rfl)) (fun _ _ _ h=>h) (Or.inl ⟨rfl, ?_⟩) ?_ ?_; rotate_left
               ·intro w'; go_simp; with_reducible rfl
               rotate_left
               ·simp only [q_, i64_w, i32_w]; rfl
               refine pure_ (i:=2) (N:=some 49) (v:=?_) (a':=?_) ⟨m_ 11 7⟩ rfl rfl (any_of HT_.out (by kernel_rfl)) (fun _ _ _ h=>h) (Or.inl ⟨rfl, ?_⟩) ?_ ?_; rotate_left
               ·intro w'; go_simp; with_reducible rfl
               rotate_left
               ·simp only [q_, i64_w, i32_w]; rfl
               refine pure_ (i:=4) (N:=some 51) (v:=?_) (a':=?_) ⟨m_ 11 23⟩ rfl rfl (any_of HT_.out (by kernel_rfl)) (fun _ _ _ h=>h) (Or.inl ⟨rfl, ?_⟩) ?_ ?_; rotate_left
               ·intro w'; go_simp; with_reducible rfl
               rotate_left
               ·simp only [q_, i64_w, i32_w]; rfl
               refine pure_ (i:=5) (N:=some 52) (v:=?_) (a':=?_) ⟨m_ 11 55⟩ rfl rfl (any_of HT_.out (by kernel_rfl)) (fun _ _ _ h=>h) (Or.inl ⟨rfl, ?_⟩) ?_ ?_; rotate_left
               ·intro w'; go_simp; with_reducible rfl
               rotate_left
               ·simp only [q_, i64_w, i32_w]; rfl
               refine pure_ (i:=6) (N:=some 53) (v:=?_) (a':=?_) ⟨m_ 11 119⟩ rfl rfl (any_of HT_.out (by kernel_rfl)) (fun _ _ _ h=>h) (Or.inl ⟨rfl, ?_⟩) ?_ ?_; rotate_left
               ·intro w'; go_simp; with_reducible rfl
               rotate_left
               ·simp only [q_, i64_w, i32_w]; rfl
               refine pure_ (i:=7) (N:=some 54) (v:=?_) (a':=?_) ⟨m_ 11 247⟩ rfl rfl (any_of HT_.out (by kernel_rfl)) (fun _ _ _ h=>h) (Or.inl ⟨rfl, ?_⟩) ?_ ?_; rotate_left
               ·intro w'; go_simp; with_reducible rfl
               rotate_left
               ·simp only [q_, i64_w, i32_w]; rfl
               refine take_ (i:=3) (N:=some 50) (v:=?_) (a':=?_) ⟨m_ 11 255⟩ rfl rfl (take_ofW HT_.out HW_.out (by kernel_rfl)) (fun _ _ _ h=>h) (Or.inl ⟨rfl, ?_⟩) hHeld ?_ ?_; rotate_left
               ·intro w' s0; go_simp; with_reducible rfl
               rotate_left
               ·simp only [q_, i64_w, i32_w]; rfl
               refine one_ (i:=8) (N:=some 55) ⟨m_ 11 511⟩ rfl rfl (one_of HT_.out (by kernel_rfl)) (by decide) (fun K hK => ?_); refine goes_ Try.func21 (by kernel_rfl) rfl #[.string (a0_2.extract (((rdOf ByteArray.empty y103 x6_2).size : Int) : Int).toNat a0_2.size)] (by rfl) rfl rfl (by (try simp only [List.map_toArray, List.map_cons, List.map_nil]); first | done | rfl | (simp only [List.length_drop, List.length_take]; rfl)) ?_; with_reducible refine (oculusref17_read.calls k2 (a0_2.extract (((rdOf ByteArray.empty y103 x6_2).size : Int) : Int).toNat a0_2.size) t111 t112 t113 _ A38.out).mono ?_; rintro e w42 ⟨rfl, hb⟩; have HS0_ := (hb.cell (World.block_lt_of_cell? _ _ (hHeld))).trans (hHeld); refine ⟨_, rfl, ?_⟩
               replace HO_4 := Aside0.mk (Kd.R_below (by (with_reducible repeat (first | apply Kd.R_alloc | apply Kd.R_drewN | apply Kd.R_drew)); exact HO_4.out) hb); replace HO_5 := Aside0.mk (Kd.R_below (by (with_reducible repeat (first | apply Kd.R_alloc | apply Kd.R_drewN | apply Kd.R_drew)); exact HO_5.out) hb); replace BK101 := bb_ BK101 hb; replace BK102 := bb_ BK102 hb; replace HB := bs_ HB hb
               (try clear hb); (try clear hb2); (try clear hk); (try clear hi); refine hK.out _ _ (HS0_) (fun hHeld => ?_); clear hK K; refine norm_ (a':=?_) ?_ ?_; rotate_left
               ·show Act.put _ (some 55) _ = _; simp only [q_, i64_w, i32_w]; rfl
               refine pure_ (i:=9) (N:=some 56) (v:=?_) (a':=?_) ⟨m_ 11 1023⟩ rfl rfl (any_of HT_.out (by kernel_rfl)) (fun _ _ _ h=>h) (Or.inl ⟨rfl, ?_⟩) ?_ ?_; rotate_left
               ·intro w'; go_simp; with_reducible rfl
               rotate_left
               ·simp only [q_, i64_w, i32_w]; rfl
               refine one_ (i:=10) (N:=none) ⟨m_ 11 2047⟩ rfl rfl (one_of HT_.out (by kernel_rfl)) (by decide) (fun K hK => ?_)
               have hs43 : w42.cell? ⟨gb102, 0, none⟩ = some (.int .i64 x103000_2) := bc_ BK102 0 rfl
               have hfs43 := blk_frozen BK102.out 0; have hns43_0 := NB101_102.out; have hms43_0 := NB102_101.out
               have hs44 : w42.cell? ⟨gb102, 1, none⟩ = some (.int .i64 x103001_2) := bc_ BK102 1 rfl
               have hfs44 := blk_frozen BK102.out 1; have hns44_0 := NB101_102.out; have hms44_0 := NB102_101.out
               have hs45 : w42.cell? ⟨gb102, 2, none⟩ = some (.int .i64 x103002_2) := bc_ BK102 2 rfl
               have hfs45 := blk_frozen BK102.out 2; have hns45_0 := NB101_102.out; have hms45_0 := NB102_101.out
               have hs46 : w42.cell? ⟨gb102, 3, none⟩ = some (.string x103003_2) := bc_ BK102 3 rfl
               have hfs46 := blk_frozen BK102.out 3; have hns46_0 := NB101_102.out; have hms46_0 := NB102_101.out
               refine skip_ (w1 := ?_) (by rfl) rfl ?_ ?_
               rotate_left
               ·go_simp; rfl
               refine hK.out _ _ (((cell_far (p := ⟨gb102, _, none⟩) (by first | exact Kd.own_blk (Kd.R_ne HO_5.out BK102.out (by decide)) | (rw [add_block]; exact Kd.own_blk (Kd.R_ne HO_5.out BK102.out (by decide))) | (show (Addr.add _ _).block ≠ _; rw [add_block]; exact Kd.own_blk (Kd.R_ne HO_5.out BK102.out (by decide))) | (dsimp only; exact Kd.own_blk (Kd.R_ne HO_5.out BK102.out (by decide)))) _).trans (((cell_far (p := ⟨gb102, _, none⟩) (by first | exact Kd.own_blk (Kd.R_ne HO_5.out BK102.out (by decide)) | (rw [add_block]; exact Kd.own_blk (Kd.R_ne HO_5.out BK102.out (by decide))) | (show (Addr.add _ _).block ≠ _; rw [add_block]; exact Kd.own_blk (Kd.R_ne HO_5.out BK102.out (by decide))) | (dsimp only; exact Kd.own_blk (Kd.R_ne HO_5.out BK102.out (by decide)))) _).trans (((cell_far (p := ⟨gb102, _, none⟩) (by first | exact Kd.own_blk (Kd.R_ne HO_5.out BK102.out (by decide)) | (rw [add_block]; exact Kd.own_blk (Kd.R_ne HO_5.out BK102.out (by decide))) | (show (Addr.add _ _).block ≠ _; rw [add_block]; exact Kd.own_blk (Kd.R_ne HO_5.out BK102.out (by decide))) | (dsimp only; exact Kd.own_blk (Kd.R_ne HO_5.out BK102.out (by decide)))) _).trans (((cell_far (p := ⟨gb102, _, none⟩) (by first | exact Kd.own_blk (Kd.R_ne HO_5.out BK102.out (by decide)) | (rw [add_block]; exact Kd.own_blk (Kd.R_ne HO_5.out BK102.out (by decide))) | (show (Addr.add _ _).block ≠ _; rw [add_block]; exact Kd.own_blk (Kd.R_ne HO_5.out BK102.out (by decide))) | (dsimp only; exact Kd.own_blk (Kd.R_ne HO_5.out BK102.out (by decide)))) _).trans (hHeld))))))))) (fun hHeld => ?_)
               clear hK K
               refine done_ (done_of HT_.out (by kernel_rfl)) ?_
               try go_wp2
               refine bodyPost_ret (results_cell_row rfl _ _ gb102 30 #[.int .i64 (rd y106 x6_2), .int .i64 t111, .int .i64 t112, .string t113] (0, 0) _ rfl (by (with_reducible repeat (first | refine blk_drewN ?_ _ | refine blk_drew ?_ | refine blk_alloc ?_ _)); refine blk_put (cs := #[.int .i64 (rd y106 x6_2), .int .i64 t111, .int .i64 t112, .string x103003_2]) ?_ 3 _ rfl; refine blk_put (cs := #[.int .i64 (rd y106 x6_2), .int .i64 t111, .int .i64 x103002_2, .string x103003_2]) ?_ 2 _ rfl; refine blk_put (cs := #[.int .i64 (rd y106 x6_2), .int .i64 x103001_2, .int .i64 x103002_2, .string x103003_2]) ?_ 1 _ rfl; refine blk_put (cs := #[.int .i64 x103000_2, .int .i64 x103001_2, .int .i64 x103002_2, .string x103003_2]) ?_ 0 _ rfl; (with_reducible repeat (first | refine blk_drewN ?_ _ | refine blk_drew ?_ | refine blk_alloc ?_ _)); exact BK102.out) Try.underlying30 rfl (by kernel_rfl)) rfl ?_
               exact ⟨by first | rfl | (simp [errW_none, errW_some] <;> rfl) | (simp [*, errW_none, errW_some] <;> rfl), by repeat (first | (with_reducible first | exact HB.out | apply below_alloc | apply pw_below_drewN | apply below_drew1 | refine below_set ?_ GE101.out | refine below_set ?_ GE102.out) | exact HB.out)⟩
              ·rw [if_neg c35] at H
               exact absurd H (by simp)
             ·rw [if_neg c34] at H; have c34b0 : ((a0_2.extract 0 (((rdOf ByteArray.empty y103 x6_2).size : Int) : Int).toNat).toList == (rdOf ByteArray.empty y103 x6_2).toList) = false := beq_eq_false_iff_ne.mpr c34
              try (have c34b0z := c34b0; simp only [Int.toNat_natCast] at c34b0z)
              have c34b1 : ((a0_2.extract 0 (((rdOf ByteArray.empty y103 x6_2).size : Int) : Int).toNat).toList != (rdOf ByteArray.empty y103 x6_2).toList) = true := bne_iff_ne.mpr c34
              try (have c34b1z := c34b1; simp only [Int.toNat_natCast] at c34b1z)
              have H' := Aside0.mk H
              clear H; obtain ⟨Ao47, co47, eo47⟩ := Kd.R_slice HO_4.out; subst eo47
              have p109 : 0 ≤ (x6_2 : Int) := of_decide_eq_true (by first | (with_reducible assumption) | assumption)
              have q109 : x6_2 < (y103.length : Int) := of_decide_eq_true (by first | (with_reducible assumption) | assumption)
              obtain ⟨ad109, e109, hx109_0⟩ := Kd.at_string (Kd.R_reads' HO_4.out).2.2 x6_2 p109 q109
              cases e109
              replace p109 := eq_true p109; replace q109 := eq_true q109
              go_wp2
              go_roundg k2
              case measure => have := HJ7.out; have := HK2.out; omega
              case rel => exact ⟨(wrap64 (x6_2 + 1)), (x103000_2), (x103001_2), (x103002_2), (x103003_2), (by first | rfl | (simp; done) | (simp [*]; done)), H', ⟨by have := HJ7.out; have := HK2.out; omega⟩, ⟨by (with_reducible repeat (first | apply Kd.R_alloc | apply Kd.R_drewN | apply Kd.R_drew)); exact HO_4.out⟩, ⟨by (with_reducible repeat (first | apply Kd.R_alloc | apply Kd.R_drewN | apply Kd.R_drew)); exact HO_5.out⟩, ⟨pkx BK101⟩, ⟨pkx BK102⟩, ⟨pbx HB⟩⟩
            ·rw [if_neg c33] at H
             exact absurd H (by simp)
           ·rw [if_neg c32] at H
            exact absurd H (by simp)
          ·rw [if_neg c31] at H; have c31b0 : decide (((rdOf ByteArray.empty y103 x6_2).size : Int) ≤ (a0_2.size : Int)) = false := decide_eq_false c31; have c31b1 : decide ((rdOf ByteArray.empty y103 x6_2).size ≤ a0_2.size) = false := decide_eq_false (fun h => c31 (Int.ofNat_le.mpr h)); clear c31
           have H' := Aside0.mk H
           clear H; obtain ⟨Ao48, co48, eo48⟩ := Kd.R_slice HO_4.out; subst eo48
           have p109 : 0 ≤ (x6_2 : Int) := of_decide_eq_true (by first | (with_reducible assumption) | assumption)
           have q109 : x6_2 < (y103.length : Int) := of_decide_eq_true (by first | (with_reducible assumption) | assumption)
           obtain ⟨ad109, e109, hx109_0⟩ := Kd.at_string (Kd.R_reads' HO_4.out).2.2 x6_2 p109 q109
           cases e109
           replace p109 := eq_true p109; replace q109 := eq_true q109
           go_wp2
           go_roundg k2
           case measure => have := HJ7.out; have := HK2.out; omega
           case rel => exact ⟨(wrap64 (x6_2 + 1)), (x103000_2), (x103001_2), (x103002_2), (x103003_2), (by first | rfl | (simp; done) | (simp [*]; done)), H', ⟨by have := HJ7.out; have := HK2.out; omega⟩, ⟨by (with_reducible repeat (first | apply Kd.R_alloc | apply Kd.R_drewN | apply Kd.R_drew)); exact HO_4.out⟩, ⟨by (with_reducible repeat (first | apply Kd.R_alloc | apply Kd.R_drewN | apply Kd.R_drew)); exact HO_5.out⟩, ⟨pkx BK101⟩, ⟨pkx BK102⟩, ⟨pbx HB⟩⟩
         ·rw [if_neg c30] at H
          exact absurd H (by simp)
        ·rw [if_neg c29] at H
         exact absurd H (by simp)
       ·rw [if_neg c28] at H; have c28b0 : decide (x6_2 < 6) = false := decide_eq_false c28; clear c28; replace H := Option.bind_eq_some_iff.mp H; obtain ⟨⟨t114, t115, t116⟩, A490, H⟩ := H
        replace H : (some (7, t114, t115, t116)) = some (r1, r2, r3, r4) := H
        have A49 := Aside0.mk A490; clear A490
        simp only [Option.some.injEq, Prod.mk.injEq] at H
        obtain ⟨rfl, rfl, rfl, rfl⟩ := H
        go_wp2_with (first | ((with_reducible refine gate_callee (f:=21) rfl ?_); refine goesL_ (some 58) rfl rfl Try.func21 (by kernel_rfl) rfl #[.string a0_2] rfl (by (try simp only [List.map_toArray, List.map_cons, List.map_nil]); first | done | rfl | (simp only [List.length_drop, List.length_take]; rfl)) ?_; (with_reducible refine (oculusref17_read.calls k2 a0_2 t114 t115 t116 _ A49.out).mono ?_); rintro e w50 ⟨rfl, hb⟩; refine ⟨_, rfl, ?_⟩; replace HO_4 := Aside0.mk (Kd.R_below (by (with_reducible repeat (first | apply Kd.R_alloc | apply Kd.R_drewN | apply Kd.R_drew)); exact HO_4.out) hb); replace HO_5 := Aside0.mk (Kd.R_below (by (with_reducible repeat (first | apply Kd.R_alloc | apply Kd.R_drewN | apply Kd.R_drew)); exact HO_5.out) hb); replace BK101 := bb_ BK101 hb; replace BK102 := bb_ BK102 hb; replace HB := bs_ HB hb; (try clear hb); (try clear hb2); (try clear hk); (try clear hi); have hnb51 := NB102_101.out; have hnc51 := NB101_102.out; have hcz52_0 : w50.cell? ⟨gb102, 0, none⟩ = some (.int .i64 x103000_2) := bc_ BK102 0 rfl; have hcz52_1 : w50.cell? ⟨gb102, 1, none⟩ = some (.int .i64 x103001_2) := bc_ BK102 1 rfl; have hcz52_2 : w50.cell? ⟨gb102, 2, none⟩ = some (.int .i64 x103002_2) := bc_ BK102 2 rfl; have hcz52_3 : w50.cell? ⟨gb102, 3, none⟩ = some (.string x103003_2) := bc_ BK102 3 rfl; have hfz52_0 := blk_frozen BK102.out 0; have hfz52_1 := blk_frozen BK102.out 1; have hfz52_2 := blk_frozen BK102.out 2; have hfz52_3 := blk_frozen BK102.out 3))
        refine bodyPost_ret (results_cell_row rfl _ _ gb102 30 #[.int .i64 7, .int .i64 t114, .int .i64 t115, .string t116] (0, 0) _ rfl (by (with_reducible repeat (first | refine blk_drewN ?_ _ | refine blk_drew ?_ | refine blk_alloc ?_ _)); refine blk_put (cs := #[.int .i64 7, .int .i64 t114, .int .i64 t115, .string x103003_2]) ?_ 3 _ rfl; refine blk_put (cs := #[.int .i64 7, .int .i64 t114, .int .i64 x103002_2, .string x103003_2]) ?_ 2 _ rfl; refine blk_put (cs := #[.int .i64 7, .int .i64 x103001_2, .int .i64 x103002_2, .string x103003_2]) ?_ 1 _ rfl; refine blk_put (cs := #[.int .i64 x103000_2, .int .i64 x103001_2, .int .i64 x103002_2, .string x103003_2]) ?_ 0 _ rfl; (with_reducible repeat (first | refine blk_drewN ?_ _ | refine blk_drew ?_ | refine blk_alloc ?_ _)); exact BK102.out) Try.underlying30 rfl (by kernel_rfl)) rfl ?_
        exact ⟨by first | rfl | (simp [errW_none, errW_some] <;> rfl) | (simp [*, errW_none, errW_some] <;> rfl), by repeat (first | (with_reducible first | exact HB.out | apply below_alloc | apply pw_below_drewN | apply below_drew1 | refine below_set ?_ GE101.out | refine below_set ?_ GE102.out) | exact HB.out)⟩

end Go.Proofs.Ytfcpkehldmehjaa.X
namespace Go.Proofs.Ytfcpkehldmehjaa.X
open Go.RowKit Go.Proofs.YtfcpkehldmehjaaW.PrintWords Go.Proofs.YtfcpkehldmehjaaW.PrintLast Go.Proofs.YtfcpkehldmehjaaW.PrintMore
attribute [local go_sem] max2_int min2_int max_two min_two max_three min_three max_four min_four   -- for this text's walks alone
set_option linter.unusedVariables false
set_option linter.unusedSimpArgs false

attribute [local go_sem high] eqA23
/-! ### oculuslaw17_CritOf: function 3 -/
def oculuslaw17_CritOf.f (k : Nat) (a0_0 : Int) (a0_1 : Int) (a0_2 : ByteArray) : Option (Bool) := (oculusref12_May.f a0_0 a0_1 a0_2).bind fun t102 => (if t102 = true then ((crit_Of.f k a0_0 a0_1 a0_2).bind fun bt104 => ((oculusref17_Of.f k a0_0 a0_1 a0_2).bind fun bt110 => (if bt104.1 = bt110.1 then (if (bt104.2.1 == bt110.2.1 && (bt104.2.2.1 == bt110.2.2.1 && (bt104.2.2.2.1.toList == bt110.2.2.2.toList))) = true then (if (bt104.2.2.2.2 == (bt110.1 != 0)) = true then (if bt104.2.2.2.2 = true then ((value_May.f bt104.2.1 bt104.2.2.1 bt104.2.2.2.1).bind fun t115 => (if t115 = true then ((oculuslaw17_alive.f k).bind fun t116 => (some t116)) else (none))) else ((oculuslaw17_alive.f k).bind fun t117 => (some t117))) else (none)) else (none)) else (none)))) else ((oculuslaw17_alive.f k).bind fun t103 => (some t103)))
set_option maxHeartbeats 8000000 in
set_option maxRecDepth 100000 in
theorem oculuslaw17_CritOf.calls (k : Nat) (a0_0 : Int) (a0_1 : Int) (a0_2 : ByteArray) (r : Bool) (w : World) (h : oculuslaw17_CritOf.f k a0_0 a0_1 a0_2 = some r) :
  Calls Try.prog 3 #[.agg #[.int .i64 a0_0, .int .i64 a0_1, .string a0_2]] w fun e w' => e = .returned (.bool r) ∧ Below w.heap.size w w' := by
 have hu23 := Try.underlying23; have hu27 := Try.underlying27; have hu30 := Try.underlying30; have HB := Aside0.mk (Below.refl w.heap.size w)
 have H : ((oculusref12_May.f a0_0 a0_1 a0_2).bind fun t102 => (if t102 = true then ((crit_Of.f k a0_0 a0_1 a0_2).bind fun bt104 => ((oculusref17_Of.f k a0_0 a0_1 a0_2).bind fun bt110 => (if bt104.1 = bt110.1 then (if (bt104.2.1 == bt110.2.1 && (bt104.2.2.1 == bt110.2.2.1 && (bt104.2.2.2.1.toList == bt110.2.2.2.toList))) = true then (if (bt104.2.2.2.2 == (bt110.1 != 0)) = true then (if bt104.2.2.2.2 = true then ((value_May.f bt104.2.1 bt104.2.2.1 bt104.2.2.2.1).bind fun t115 => (if t115 = true then ((oculuslaw17_alive.f k).bind fun t116 => (some t116)) else (none))) else ((oculuslaw17_alive.f k).bind fun t117 => (some t117))) else (none)) else (none)) else (none)))) else ((oculuslaw17_alive.f k).bind fun t103 => (some t103)))) = some r := h
 clear h; replace H := Option.bind_eq_some_iff.mp H; obtain ⟨t102, A20, H⟩ := H
 replace H : (if t102 = true then ((crit_Of.f k a0_0 a0_1 a0_2).bind fun bt104 => ((oculusref17_Of.f k a0_0 a0_1 a0_2).bind fun bt110 => (if bt104.1 = bt110.1 then (if (bt104.2.1 == bt110.2.1 && (bt104.2.2.1 == bt110.2.2.1 && (bt104.2.2.2.1.toList == bt110.2.2.2.toList))) = true then (if (bt104.2.2.2.2 == (bt110.1 != 0)) = true then (if bt104.2.2.2.2 = true then ((value_May.f bt104.2.1 bt104.2.2.1 bt104.2.2.2.1).bind fun t115 => (if t115 = true then ((oculuslaw17_alive.f k).bind fun t116 => (some t116)) else (none))) else ((oculuslaw17_alive.f k).bind fun t117 => (some t117))) else (none)) else (none)) else (none)))) else ((oculuslaw17_alive.f k).bind fun t103 => (some t103))) = some r := H
 have A2 := Aside0.mk A20; clear A20
 by_cases c3 : t102 = true
 ·subst c3
  have H1 : ((crit_Of.f k a0_0 a0_1 a0_2).bind fun bt104 => ((oculusref17_Of.f k a0_0 a0_1 a0_2).bind fun bt110 => (if bt104.1 = bt110.1 then (if (bt104.2.1 == bt110.2.1 && (bt104.2.2.1 == bt110.2.2.1 && (bt104.2.2.2.1.toList == bt110.2.2.2.toList))) = true then (if (bt104.2.2.2.2 == (bt110.1 != 0)) = true then (if bt104.2.2.2.2 = true then ((value_May.f bt104.2.1 bt104.2.2.1 bt104.2.2.2.1).bind fun t115 => (if t115 = true then ((oculuslaw17_alive.f k).bind fun t116 => (some t116)) else (none))) else ((oculuslaw17_alive.f k).bind fun t117 => (some t117))) else (none)) else (none)) else (none)))) = some r := by rw [if_pos rfl] at H; exact H
  clear H; have H := H1; clear H1; replace H := Option.bind_eq_some_iff.mp H; obtain ⟨⟨t104, t105, t106, t107, t108⟩, A40, H⟩ := H
  replace H : ((oculusref17_Of.f k a0_0 a0_1 a0_2).bind fun bt110 => (if t104 = bt110.1 then (if (t105 == bt110.2.1 && (t106 == bt110.2.2.1 && (t107.toList == bt110.2.2.2.toList))) = true then (if (t108 == (bt110.1 != 0)) = true then (if t108 = true then ((value_May.f t105 t106 t107).bind fun t115 => (if t115 = true then ((oculuslaw17_alive.f k).bind fun t116 => (some t116)) else (none))) else ((oculuslaw17_alive.f k).bind fun t117 => (some t117))) else (none)) else (none)) else (none))) = some r := H
  have A4 := Aside0.mk A40; clear A40; replace H := Option.bind_eq_some_iff.mp H; obtain ⟨⟨t110, t111, t112, t113⟩, A50, H⟩ := H
  replace H : (if t104 = t110 then (if (t105 == t111 && (t106 == t112 && (t107.toList == t113.toList))) = true then (if (t108 == (t110 != 0)) = true then (if t108 = true then ((value_May.f t105 t106 t107).bind fun t115 => (if t115 = true then ((oculuslaw17_alive.f k).bind fun t116 => (some t116)) else (none))) else ((oculuslaw17_alive.f k).bind fun t117 => (some t117))) else (none)) else (none)) else (none)) = some r := H
  have A5 := Aside0.mk A50; clear A50
  by_cases c6 : t104 = t110
  ·rw [if_pos c6] at H; have c6b0 : (t104 == t110) = true := beq_iff_eq.mpr c6; have c6b1 : (t104 != t110) = false := bne_eq_false_iff_eq.mpr c6; clear c6
   by_cases c7 : (t105 == t111 && (t106 == t112 && (t107.toList == t113.toList))) = true
   ·rw [if_pos c7] at H
    have c7b0 : (t105 == t111 && (t106 == t112 && (t107.toList == t113.toList))) = true := c7
    (try (have c7b1 : decide (t105 = t111 && (t106 == t112 && (t107.toList == t113.toList))) = true := by simpa using c7)); (try (have c7b2 : (t105 == t111 && (t106 == t112 && (t107.toList == t113.toList))) = true := by simpa using c7)); clear c7
    by_cases c8 : (t108 == (t110 != 0)) = true
    ·rw [if_pos c8] at H
     have c8b0 : (t108 == (t110 != 0)) = true := c8
     (try (have c8b1 : decide (t108 = (t110 != 0)) = true := by simpa using c8)); (try (have c8b2 : (t108 == (t110 != 0)) = true := by simpa using c8)); clear c8
     by_cases c9 : t108 = true
     ·subst c9
      have H1 : ((value_May.f t105 t106 t107).bind fun t115 => (if t115 = true then ((oculuslaw17_alive.f k).bind fun t116 => (some t116)) else (none))) = some r := by rw [if_pos rfl] at H; exact H
      clear H; have H := H1; clear H1; replace H := Option.bind_eq_some_iff.mp H; obtain ⟨t115, A100, H⟩ := H
      replace H : (if t115 = true then ((oculuslaw17_alive.f k).bind fun t116 => (some t116)) else (none)) = some r := H
      have A10 := Aside0.mk A100; clear A100
      by_cases c11 : t115 = true
      ·subst c11
       have H1 : ((oculuslaw17_alive.f k).bind fun t116 => (some t116)) = some r := by rw [if_pos rfl] at H; exact H
       clear H; have H := H1; clear H1; replace H := Option.bind_eq_some_iff.mp H; obtain ⟨t116, A120, H⟩ := H
       replace H : (some t116) = some r := H
       have A12 := Aside0.mk A120; clear A120; obtain rfl := Option.some.inj H
       go_enter Try.func3, Try.ntmps3
       go_wp2_with (first | ((with_reducible refine gate_dst (N:=1) rfl ?_); refine box_event ?hg (N:=1) ?hd (cs := #[.int .i64 a0_0, .int .i64 a0_1, .string a0_2]) (t:=23) ?hr ?_; (case hd => rfl); (case hg => rfl); (case hr => first | (go_simp; done) | (go_simp; rfl)); intro gb101 hg w13 hbox hb; have BK101 := Aside0.mk (hbox); have GW101 := hs_ HB hg; have GE101 := hs_ HB hg; replace HB := bs_ HB hb; clear hb hbox hg; have hcz14_0 : w13.cell? ⟨gb101, 0, none⟩ = some (.int .i64 a0_0) := bc_ BK101 0 rfl; have hcz14_1 : w13.cell? ⟨gb101, 1, none⟩ = some (.int .i64 a0_1) := bc_ BK101 1 rfl; have hcz14_2 : w13.cell? ⟨gb101, 2, none⟩ = some (.string a0_2) := bc_ BK101 2 rfl; have hfz14_0 := blk_frozen BK101.out 0; have hfz14_1 := blk_frozen BK101.out 1; have hfz14_2 := blk_frozen BK101.out 2) | ((with_reducible refine gate_callee (f:=6) rfl ?_); refine goesL_ (some 7) rfl rfl Try.func6 (by kernel_rfl) rfl #[.agg #[.int .i64 a0_0, .int .i64 a0_1, .string a0_2]] rfl (by (try simp only [List.map_toArray, List.map_cons, List.map_nil]); first | done | rfl | (simp only [List.length_drop, List.length_take]; rfl)) ?_; (with_reducible refine (oculusref12_May.calls a0_0 a0_1 a0_2 true _ A2.out).mono ?_); rintro e w15 ⟨rfl, hb⟩; refine ⟨_, rfl, ?_⟩; replace BK101 := bb_ BK101 hb; replace HB := bs_ HB hb; (try clear hb); (try clear hb2); (try clear hk); (try clear hi); have hcz16_0 : w15.cell? ⟨gb101, 0, none⟩ = some (.int .i64 a0_0) := bc_ BK101 0 rfl; have hcz16_1 : w15.cell? ⟨gb101, 1, none⟩ = some (.int .i64 a0_1) := bc_ BK101 1 rfl; have hcz16_2 : w15.cell? ⟨gb101, 2, none⟩ = some (.string a0_2) := bc_ BK101 2 rfl; have hfz16_0 := blk_frozen BK101.out 0; have hfz16_1 := blk_frozen BK101.out 1; have hfz16_2 := blk_frozen BK101.out 2) | ((with_reducible refine gate_callee (f:=8) rfl ?_); refine goesL_ (some 12) rfl rfl Try.func8 (by kernel_rfl) rfl #[.agg #[.int .i64 a0_0, .int .i64 a0_1, .string a0_2]] rfl (by (try simp only [List.map_toArray, List.map_cons, List.map_nil]); first | done | rfl | (simp only [List.length_drop, List.length_take]; rfl)) ?_; (with_reducible refine (crit_Of.calls k a0_0 a0_1 a0_2 t104 t105 t106 t107 true _ A4.out).mono ?_); rintro e w17 ⟨rfl, hb⟩; refine ⟨_, rfl, ?_⟩; replace BK101 := bb_ BK101 hb; replace HB := bs_ HB hb; (try clear hb); (try clear hb2); (try clear hk); (try clear hi)) | ((with_reducible refine gate_dst (N:=3) rfl ?_); refine box_event ?hg (N:=3) ?hd (cs := #[.int .i64 0, .int .i64 0, .int .i64 0, .string (⟨#[]⟩ : ByteArray)]) (t:=27) ?hr ?_; (case hd => rfl); (case hg => rfl); (case hr => first | (go_simp; done) | (go_simp; rfl)); intro gb109 hg w18 hbox hb; have BK109 := Aside0.mk (hbox); have GW109 := hs_ HB hg; have GE109 := hs_ HB hg; have NB101_109 := hl_ BK101 hg; have NB109_101 := hr_ BK101 hg; replace BK101 := bb_ BK101 hb; replace HB := bs_ HB hb; clear hb hbox hg; have hnb19 := NB109_101.out; have hnc19 := NB101_109.out; have hcz20_0 : w18.cell? ⟨gb109, 0, none⟩ = some (.int .i64 0) := bc_ BK109 0 rfl; have hcz20_1 : w18.cell? ⟨gb109, 1, none⟩ = some (.int .i64 0) := bc_ BK109 1 rfl; have hcz20_2 : w18.cell? ⟨gb109, 2, none⟩ = some (.int .i64 0) := bc_ BK109 2 rfl; have hcz20_3 : w18.cell? ⟨gb109, 3, none⟩ = some (.string (⟨#[]⟩ : ByteArray)) := bc_ BK109 3 rfl; have hfz20_0 := blk_frozen BK109.out 0; have hfz20_1 := blk_frozen BK109.out 1; have hfz20_2 := blk_frozen BK109.out 2; have hfz20_3 := blk_frozen BK109.out 3; have hcz21_0 : w18.cell? ⟨gb101, 0, none⟩ = some (.int .i64 a0_0) := bc_ BK101 0 rfl; have hcz21_1 : w18.cell? ⟨gb101, 1, none⟩ = some (.int .i64 a0_1) := bc_ BK101 1 rfl; have hcz21_2 : w18.cell? ⟨gb101, 2, none⟩ = some (.string a0_2) := bc_ BK101 2 rfl; have hfz21_0 := blk_frozen BK101.out 0; have hfz21_1 := blk_frozen BK101.out 1; have hfz21_2 := blk_frozen BK101.out 2) | ((with_reducible refine gate_callee (f:=9) rfl ?_); refine goesL_ (some 16) rfl rfl Try.func9 (by kernel_rfl) rfl #[.agg #[.int .i64 a0_0, .int .i64 a0_1, .string a0_2]] rfl (by (try simp only [List.map_toArray, List.map_cons, List.map_nil]); first | done | rfl | (simp only [List.length_drop, List.length_take]; rfl)) ?_; (with_reducible refine (oculusref17_Of.calls k a0_0 a0_1 a0_2 t110 t111 t112 t113 _ A5.out).mono ?_); rintro e w22 ⟨rfl, hb⟩; refine ⟨_, rfl, ?_⟩; replace BK101 := Aside0.mk (blk_below (g:=gb101) (o := .cells #[.int .i64 a0_0, .int .i64 a0_1, .string a0_2] 23 (0, 0)) (by (with_reducible repeat (first | refine blk_drewN ?_ _ | refine blk_drew ?_ | refine blk_alloc ?_ _)); refine blk_far ?_ NB101_109.out _; refine blk_far ?_ NB101_109.out _; refine blk_far ?_ NB101_109.out _; refine blk_far ?_ NB101_109.out _; (with_reducible repeat (first | refine blk_drewN ?_ _ | refine blk_drew ?_ | refine blk_alloc ?_ _)); exact BK101.out) hb); replace BK109 := Aside0.mk (blk_below (g:=gb109) (o := .cells #[.int .i64 t104, .int .i64 t105, .int .i64 t106, .string t107] 27 (0, 0)) (by (with_reducible repeat (first | refine blk_drewN ?_ _ | refine blk_drew ?_ | refine blk_alloc ?_ _)); refine blk_put (cs := #[.int .i64 t104, .int .i64 t105, .int .i64 t106, .string (⟨#[]⟩ : ByteArray)]) ?_ 3 _ rfl; (with_reducible repeat (first | refine blk_drewN ?_ _ | refine blk_drew ?_ | refine blk_alloc ?_ _)); refine blk_put (cs := #[.int .i64 t104, .int .i64 t105, .int .i64 0, .string (⟨#[]⟩ : ByteArray)]) ?_ 2 _ rfl; (with_reducible repeat (first | refine blk_drewN ?_ _ | refine blk_drew ?_ | refine blk_alloc ?_ _)); refine blk_put (cs := #[.int .i64 t104, .int .i64 0, .int .i64 0, .string (⟨#[]⟩ : ByteArray)]) ?_ 1 _ rfl; (with_reducible repeat (first | refine blk_drewN ?_ _ | refine blk_drew ?_ | refine blk_alloc ?_ _)); refine blk_put (cs := #[.int .i64 0, .int .i64 0, .int .i64 0, .string (⟨#[]⟩ : ByteArray)]) ?_ 0 _ rfl; (with_reducible repeat (first | refine blk_drewN ?_ _ | refine blk_drew ?_ | refine blk_alloc ?_ _)); exact BK109.out) hb); replace HB := Aside0.mk (below_step (by repeat (first | (with_reducible first | exact HB.out | apply below_alloc | apply pw_below_drewN | apply below_drew1 | refine below_set ?_ GE101.out | refine below_set ?_ GE109.out) | exact HB.out)) hb); (try clear hb); (try clear hb2); (try clear hk); (try clear hi)) | ((with_reducible refine gate_dst (N:=5) rfl ?_); refine box_event ?hg (N:=5) ?hd (cs := #[.int .i64 0, .int .i64 0, .int .i64 0, .string (⟨#[]⟩ : ByteArray)]) (t:=30) ?hr ?_; (case hd => rfl); (case hg => rfl); (case hr => first | (go_simp; done) | (go_simp; rfl)); intro gb114 hg w23 hbox hb; have BK114 := Aside0.mk (hbox); have GW114 := hs_ HB hg; have GE114 := hs_ HB hg; have NB101_114 := hl_ BK101 hg; have NB114_101 := hr_ BK101 hg; have NB109_114 := hl_ BK109 hg; have NB114_109 := hr_ BK109 hg; replace BK101 := bb_ BK101 hb; replace BK109 := bb_ BK109 hb; replace HB := bs_ HB hb; clear hb hbox hg; have hnb24 := NB114_101.out; have hnc24 := NB101_114.out; have hnb25 := NB114_109.out; have hnc25 := NB109_114.out; have hcz26_0 : w23.cell? ⟨gb114, 0, none⟩ = some (.int .i64 0) := bc_ BK114 0 rfl; have hcz26_1 : w23.cell? ⟨gb114, 1, none⟩ = some (.int .i64 0) := bc_ BK114 1 rfl; have hcz26_2 : w23.cell? ⟨gb114, 2, none⟩ = some (.int .i64 0) := bc_ BK114 2 rfl; have hcz26_3 : w23.cell? ⟨gb114, 3, none⟩ = some (.string (⟨#[]⟩ : ByteArray)) := bc_ BK114 3 rfl; have hfz26_0 := blk_frozen BK114.out 0; have hfz26_1 := blk_frozen BK114.out 1; have hfz26_2 := blk_frozen BK114.out 2; have hfz26_3 := blk_frozen BK114.out 3; have hcz27_0 : w23.cell? ⟨gb109, 0, none⟩ = some (.int .i64 t104) := bc_ BK109 0 rfl; have hcz27_1 : w23.cell? ⟨gb109, 1, none⟩ = some (.int .i64 t105) := bc_ BK109 1 rfl; have hcz27_2 : w23.cell? ⟨gb109, 2, none⟩ = some (.int .i64 t106) := bc_ BK109 2 rfl; have hcz27_3 : w23.cell? ⟨gb109, 3, none⟩ = some (.string t107) := bc_ BK109 3 rfl; have hfz27_0 := blk_frozen BK109.out 0; have hfz27_1 := blk_frozen BK109.out 1; have hfz27_2 := blk_frozen BK109.out 2; have hfz27_3 := blk_frozen BK109.out 3) | (go_at_call 10; (with_reducible refine (value_May.calls t105 t106 t107 true _ A10.out).mono ?_); rintro e w28 ⟨rfl, hb⟩; replace BK101 := Aside0.mk (blk_below (g:=gb101) (o := .cells #[.int .i64 a0_0, .int .i64 a0_1, .string a0_2] 23 (0, 0)) (by (with_reducible repeat (first | refine blk_drewN ?_ _ | refine blk_drew ?_ | refine blk_alloc ?_ _)); refine blk_far ?_ NB101_114.out _; refine blk_far ?_ NB101_114.out _; refine blk_far ?_ NB101_114.out _; refine blk_far ?_ NB101_114.out _; (with_reducible repeat (first | refine blk_drewN ?_ _ | refine blk_drew ?_ | refine blk_alloc ?_ _)); exact BK101.out) hb); replace BK109 := Aside0.mk (blk_below (g:=gb109) (o := .cells #[.int .i64 t104, .int .i64 t105, .int .i64 t106, .string t107] 27 (0, 0)) (by (with_reducible repeat (first | refine blk_drewN ?_ _ | refine blk_drew ?_ | refine blk_alloc ?_ _)); refine blk_far ?_ NB109_114.out _; refine blk_far ?_ NB109_114.out _; refine blk_far ?_ NB109_114.out _; refine blk_far ?_ NB109_114.out _; (with_reducible repeat (first | refine blk_drewN ?_ _ | refine blk_drew ?_ | refine blk_alloc ?_ _)); exact BK109.out) hb); replace BK114 := Aside0.mk (blk_below (g:=gb114) (o := .cells #[.int .i64 t110, .int .i64 t111, .int .i64 t112, .string t113] 30 (0, 0)) (by (with_reducible repeat (first | refine blk_drewN ?_ _ | refine blk_drew ?_ | refine blk_alloc ?_ _)); refine blk_put (cs := #[.int .i64 t110, .int .i64 t111, .int .i64 t112, .string (⟨#[]⟩ : ByteArray)]) ?_ 3 _ rfl; (with_reducible repeat (first | refine blk_drewN ?_ _ | refine blk_drew ?_ | refine blk_alloc ?_ _)); refine blk_put (cs := #[.int .i64 t110, .int .i64 t111, .int .i64 0, .string (⟨#[]⟩ : ByteArray)]) ?_ 2 _ rfl; (with_reducible repeat (first | refine blk_drewN ?_ _ | refine blk_drew ?_ | refine blk_alloc ?_ _)); refine blk_put (cs := #[.int .i64 t110, .int .i64 0, .int .i64 0, .string (⟨#[]⟩ : ByteArray)]) ?_ 1 _ rfl; (with_reducible repeat (first | refine blk_drewN ?_ _ | refine blk_drew ?_ | refine blk_alloc ?_ _)); refine blk_put (cs := #[.int .i64 0, .int .i64 0, .int .i64 0, .string (⟨#[]⟩ : ByteArray)]) ?_ 0 _ rfl; (with_reducible repeat (first | refine blk_drewN ?_ _ | refine blk_drew ?_ | refine blk_alloc ?_ _)); exact BK114.out) hb); replace HB := Aside0.mk (below_step (by repeat (first | (with_reducible first | exact HB.out | apply below_alloc | apply pw_below_drewN | apply below_drew1 | refine below_set ?_ GE101.out | refine below_set ?_ GE109.out | refine below_set ?_ GE114.out) | exact HB.out)) hb); (try clear hb); (try clear hb2); (try clear hk); (try clear hi)) | (go_at_call 7; (with_reducible refine (oculuslaw17_alive.calls k  t116 _ A12.out).mono ?_); rintro e w29 ⟨rfl, hb⟩; replace BK101 := bb_ BK101 hb; replace BK109 := bb_ BK109 hb; replace BK114 := bb_ BK114 hb; replace HB := bs_ HB hb; (try clear hb); (try clear hb2); (try clear hk); (try clear hi)))
       go_ret
       exact ⟨by first | rfl | (simp [errW_none, errW_some] <;> rfl) | (simp [*, errW_none, errW_some] <;> rfl), pbx HB⟩
      ·replace c11 := Bool.eq_false_iff.mpr c11; subst c11
       have H1 : (none) = some r := by rw [if_neg (show ¬ (false = true) by decide)] at H; exact H
       clear H; have H := H1; clear H1
       exact absurd H (by simp)
     ·replace c9 := Bool.eq_false_iff.mpr c9; subst c9
      have H1 : ((oculuslaw17_alive.f k).bind fun t117 => (some t117)) = some r := by rw [if_neg (show ¬ (false = true) by decide)] at H; exact H
      clear H; have H := H1; clear H1; replace H := Option.bind_eq_some_iff.mp H; obtain ⟨t117, A300, H⟩ := H
      replace H : (some t117) = some r := H
      have A30 := Aside0.mk A300; clear A300; obtain rfl := Option.some.inj H
      go_enter Try.func3, Try.ntmps3
      go_wp2_with (first | ((with_reducible refine gate_dst (N:=1) rfl ?_); refine box_event ?hg (N:=1) ?hd (cs := #[.int .i64 a0_0, .int .i64 a0_1, .string a0_2]) (t:=23) ?hr ?_; (case hd => rfl); (case hg => rfl); (case hr => first | (go_simp; done) | (go_simp; rfl)); intro gb101 hg w31 hbox hb; have BK101 := Aside0.mk (hbox); have GW101 := hs_ HB hg; have GE101 := hs_ HB hg; replace HB := bs_ HB hb; clear hb hbox hg; have hcz32_0 : w31.cell? ⟨gb101, 0, none⟩ = some (.int .i64 a0_0) := bc_ BK101 0 rfl; have hcz32_1 : w31.cell? ⟨gb101, 1, none⟩ = some (.int .i64 a0_1) := bc_ BK101 1 rfl; have hcz32_2 : w31.cell? ⟨gb101, 2, none⟩ = some (.string a0_2) := bc_ BK101 2 rfl; have hfz32_0 := blk_frozen BK101.out 0; have hfz32_1 := blk_frozen BK101.out 1; have hfz32_2 := blk_frozen BK101.out 2) | ((with_reducible refine gate_callee (f:=6) rfl ?_); refine goesL_ (some 7) rfl rfl Try.func6 (by kernel_rfl) rfl #[.agg #[.int .i64 a0_0, .int .i64 a0_1, .string a0_2]] rfl (by (try simp only [List.map_toArray, List.map_cons, List.map_nil]); first | done | rfl | (simp only [List.length_drop, List.length_take]; rfl)) ?_; (with_reducible refine (oculusref12_May.calls a0_0 a0_1 a0_2 true _ A2.out).mono ?_); rintro e w33 ⟨rfl, hb⟩; refine ⟨_, rfl, ?_⟩; replace BK101 := bb_ BK101 hb; replace HB := bs_ HB hb; (try clear hb); (try clear hb2); (try clear hk); (try clear hi); have hcz34_0 : w33.cell? ⟨gb101, 0, none⟩ = some (.int .i64 a0_0) := bc_ BK101 0 rfl; have hcz34_1 : w33.cell? ⟨gb101, 1, none⟩ = some (.int .i64 a0_1) := bc_ BK101 1 rfl; have hcz34_2 : w33.cell? ⟨gb101, 2, none⟩ = some (.string a0_2) := bc_ BK101 2 rfl; have hfz34_0 := blk_frozen BK101.out 0; have hfz34_1 := blk_frozen BK101.out 1; have hfz34_2 := blk_frozen BK101.out 2) | ((with_reducible refine gate_callee (f:=8) rfl ?_); refine goesL_ (some 12) rfl rfl Try.func8 (by kernel_rfl) rfl #[.agg #[.int .i64 a0_0, .int .i64 a0_1, .string a0_2]] rfl (by (try simp only [List.map_toArray, List.map_cons, List.map_nil]); first | done | rfl | (simp only [List.length_drop, List.length_take]; rfl)) ?_; (with_reducible refine (crit_Of.calls k a0_0 a0_1 a0_2 t104 t105 t106 t107 false _ A4.out).mono ?_); rintro e w35 ⟨rfl, hb⟩; refine ⟨_, rfl, ?_⟩; replace BK101 := bb_ BK101 hb; replace HB := bs_ HB hb; (try clear hb); (try clear hb2); (try clear hk); (try clear hi)) | ((with_reducible refine gate_dst (N:=3) rfl ?_); refine box_event ?hg (N:=3) ?hd (cs := #[.int .i64 0, .int .i64 0, .int .i64 0, .string (⟨#[]⟩ : ByteArray)]) (t:=27) ?hr ?_; (case hd => rfl); (case hg => rfl); (case hr => first | (go_simp; done) | (go_simp; rfl)); intro gb109 hg w36 hbox hb; have BK109 := Aside0.mk (hbox); have GW109 := hs_ HB hg; have GE109 := hs_ HB hg; have NB101_109 := hl_ BK101 hg; have NB109_101 := hr_ BK101 hg; replace BK101 := bb_ BK101 hb; replace HB := bs_ HB hb; clear hb hbox hg; have hnb37 := NB109_101.out; have hnc37 := NB101_109.out; have hcz38_0 : w36.cell? ⟨gb109, 0, none⟩ = some (.int .i64 0) := bc_ BK109 0 rfl; have hcz38_1 : w36.cell? ⟨gb109, 1, none⟩ = some (.int .i64 0) := bc_ BK109 1 rfl; have hcz38_2 : w36.cell? ⟨gb109, 2, none⟩ = some (.int .i64 0) := bc_ BK109 2 rfl; have hcz38_3 : w36.cell? ⟨gb109, 3, none⟩ = some (.string (⟨#[]⟩ : ByteArray)) := bc_ BK109 3 rfl; have hfz38_0 := blk_frozen BK109.out 0; have hfz38_1 := blk_frozen BK109.out 1; have hfz38_2 := blk_frozen BK109.out 2; have hfz38_3 := blk_frozen BK109.out 3; have hcz39_0 : w36.cell? ⟨gb101, 0, none⟩ = some (.int .i64 a0_0) := bc_ BK101 0 rfl; have hcz39_1 : w36.cell? ⟨gb101, 1, none⟩ = some (.int .i64 a0_1) := bc_ BK101 1 rfl; have hcz39_2 : w36.cell? ⟨gb101, 2, none⟩ = some (.string a0_2) := bc_ BK101 2 rfl; have hfz39_0 := blk_frozen BK101.out 0; have hfz39_1 := blk_frozen BK101.out 1; have hfz39_2 := blk_frozen BK101.out 2) | ((with_reducible refine gate_callee (f:=9) rfl ?_); refine goesL_ (some 16) rfl rfl Try.func9 (by kernel_rfl) rfl #[.agg #[.int .i64 a0_0, .int .i64 a0_1, .string a0_2]] rfl (by (try simp only [List.map_toArray, List.map_cons, List.map_nil]); first | done | rfl | (simp only [List.length_drop, List.length_take]; rfl)) ?_; (with_reducible refine (oculusref17_Of.calls k a0_0 a0_1 a0_2 t110 t111 t112 t113 _ A5.out).mono ?_); rintro e w40 ⟨rfl, hb⟩; refine ⟨_, rfl, ?_⟩; replace BK101 := Aside0.mk (blk_below (g:=gb101) (o := .cells #[.int .i64 a0_0, .int .i64 a0_1, .string a0_2] 23 (0, 0)) (by (with_reducible repeat (first | refine blk_drewN ?_ _ | refine blk_drew ?_ | refine blk_alloc ?_ _)); refine blk_far ?_ NB101_109.out _; refine blk_far ?_ NB101_109.out _; refine blk_far ?_ NB101_109.out _; refine blk_far ?_ NB101_109.out _; (with_reducible repeat (first | refine blk_drewN ?_ _ | refine blk_drew ?_ | refine blk_alloc ?_ _)); exact BK101.out) hb); replace BK109 := Aside0.mk (blk_below (g:=gb109) (o := .cells #[.int .i64 t104, .int .i64 t105, .int .i64 t106, .string t107] 27 (0, 0)) (by (with_reducible repeat (first | refine blk_drewN ?_ _ | refine blk_drew ?_ | refine blk_alloc ?_ _)); refine blk_put (cs := #[.int .i64 t104, .int .i64 t105, .int .i64 t106, .string (⟨#[]⟩ : ByteArray)]) ?_ 3 _ rfl; (with_reducible repeat (first | refine blk_drewN ?_ _ | refine blk_drew ?_ | refine blk_alloc ?_ _)); refine blk_put (cs := #[.int .i64 t104, .int .i64 t105, .int .i64 0, .string (⟨#[]⟩ : ByteArray)]) ?_ 2 _ rfl; (with_reducible repeat (first | refine blk_drewN ?_ _ | refine blk_drew ?_ | refine blk_alloc ?_ _)); refine blk_put (cs := #[.int .i64 t104, .int .i64 0, .int .i64 0, .string (⟨#[]⟩ : ByteArray)]) ?_ 1 _ rfl; (with_reducible repeat (first | refine blk_drewN ?_ _ | refine blk_drew ?_ | refine blk_alloc ?_ _)); refine blk_put (cs := #[.int .i64 0, .int .i64 0, .int .i64 0, .string (⟨#[]⟩ : ByteArray)]) ?_ 0 _ rfl; (with_reducible repeat (first | refine blk_drewN ?_ _ | refine blk_drew ?_ | refine blk_alloc ?_ _)); exact BK109.out) hb); replace HB := Aside0.mk (below_step (by repeat (first | (with_reducible first | exact HB.out | apply below_alloc | apply pw_below_drewN | apply below_drew1 | refine below_set ?_ GE101.out | refine below_set ?_ GE109.out) | exact HB.out)) hb); (try clear hb); (try clear hb2); (try clear hk); (try clear hi)) | ((with_reducible refine gate_dst (N:=5) rfl ?_); refine box_event ?hg (N:=5) ?hd (cs := #[.int .i64 0, .int .i64 0, .int .i64 0, .string (⟨#[]⟩ : ByteArray)]) (t:=30) ?hr ?_; (case hd => rfl); (case hg => rfl); (case hr => first | (go_simp; done) | (go_simp; rfl)); intro gb114 hg w41 hbox hb; have BK114 := Aside0.mk (hbox); have GW114 := hs_ HB hg; have GE114 := hs_ HB hg; have NB101_114 := hl_ BK101 hg; have NB114_101 := hr_ BK101 hg; have NB109_114 := hl_ BK109 hg; have NB114_109 := hr_ BK109 hg; replace BK101 := bb_ BK101 hb; replace BK109 := bb_ BK109 hb; replace HB := bs_ HB hb; clear hb hbox hg; have hnb42 := NB114_101.out; have hnc42 := NB101_114.out; have hnb43 := NB114_109.out; have hnc43 := NB109_114.out; have hcz44_0 : w41.cell? ⟨gb114, 0, none⟩ = some (.int .i64 0) := bc_ BK114 0 rfl; have hcz44_1 : w41.cell? ⟨gb114, 1, none⟩ = some (.int .i64 0) := bc_ BK114 1 rfl; have hcz44_2 : w41.cell? ⟨gb114, 2, none⟩ = some (.int .i64 0) := bc_ BK114 2 rfl; have hcz44_3 : w41.cell? ⟨gb114, 3, none⟩ = some (.string (⟨#[]⟩ : ByteArray)) := bc_ BK114 3 rfl; have hfz44_0 := blk_frozen BK114.out 0; have hfz44_1 := blk_frozen BK114.out 1; have hfz44_2 := blk_frozen BK114.out 2; have hfz44_3 := blk_frozen BK114.out 3; have hcz45_0 : w41.cell? ⟨gb109, 0, none⟩ = some (.int .i64 t104) := bc_ BK109 0 rfl; have hcz45_1 : w41.cell? ⟨gb109, 1, none⟩ = some (.int .i64 t105) := bc_ BK109 1 rfl; have hcz45_2 : w41.cell? ⟨gb109, 2, none⟩ = some (.int .i64 t106) := bc_ BK109 2 rfl; have hcz45_3 : w41.cell? ⟨gb109, 3, none⟩ = some (.string t107) := bc_ BK109 3 rfl; have hfz45_0 := blk_frozen BK109.out 0; have hfz45_1 := blk_frozen BK109.out 1; have hfz45_2 := blk_frozen BK109.out 2; have hfz45_3 := blk_frozen BK109.out 3) | (go_at_call 7; (with_reducible refine (oculuslaw17_alive.calls k  t117 _ A30.out).mono ?_); rintro e w46 ⟨rfl, hb⟩; replace BK101 := Aside0.mk (blk_below (g:=gb101) (o := .cells #[.int .i64 a0_0, .int .i64 a0_1, .string a0_2] 23 (0, 0)) (by (with_reducible repeat (first | refine blk_drewN ?_ _ | refine blk_drew ?_ | refine blk_alloc ?_ _)); refine blk_far ?_ NB101_114.out _; refine blk_far ?_ NB101_114.out _; refine blk_far ?_ NB101_114.out _; refine blk_far ?_ NB101_114.out _; (with_reducible repeat (first | refine blk_drewN ?_ _ | refine blk_drew ?_ | refine blk_alloc ?_ _)); exact BK101.out) hb); replace BK109 := Aside0.mk (blk_below (g:=gb109) (o := .cells #[.int .i64 t104, .int .i64 t105, .int .i64 t106, .string t107] 27 (0, 0)) (by (with_reducible repeat (first | refine blk_drewN ?_ _ | refine blk_drew ?_ | refine blk_alloc ?_ _)); refine blk_far ?_ NB109_114.out _; refine blk_far ?_ NB109_114.out _; refine blk_far ?_ NB109_114.out _; refine blk_far ?_ NB109_114.out _; (with_reducible repeat (first | refine blk_drewN ?_ _ | refine blk_drew ?_ | refine blk_alloc ?_ _)); exact BK109.out) hb); replace BK114 := Aside0.mk (blk_below (g:=gb114) (o := .cells #[.int .i64 t110, .int .i64 t111, .int .i64 t112, .string t113] 30 (0, 0)) (by (with_reducible repeat (first | refine blk_drewN ?_ _ | refine blk_drew ?_ | refine blk_alloc ?_ _)); refine blk_put (cs := #[.int .i64 t110, .int .i64 t111, .int .i64 t112, .string (⟨#[]⟩ : ByteArray)]) ?_ 3 _ rfl; (with_reducible repeat (first | refine blk_drewN ?_ _ | refine blk_drew ?_ | refine blk_alloc ?_ _)); refine blk_put (cs := #[.int .i64 t110, .int .i64 t111, .int .i64 0, .string (⟨#[]⟩ : ByteArray)]) ?_ 2 _ rfl; (with_reducible repeat (first | refine blk_drewN ?_ _ | refine blk_drew ?_ | refine blk_alloc ?_ _)); refine blk_put (cs := #[.int .i64 t110, .int .i64 0, .int .i64 0, .string (⟨#[]⟩ : ByteArray)]) ?_ 1 _ rfl; (with_reducible repeat (first | refine blk_drewN ?_ _ | refine blk_drew ?_ | refine blk_alloc ?_ _)); refine blk_put (cs := #[.int .i64 0, .int .i64 0, .int .i64 0, .string (⟨#[]⟩ : ByteArray)]) ?_ 0 _ rfl; (with_reducible repeat (first | refine blk_drewN ?_ _ | refine blk_drew ?_ | refine blk_alloc ?_ _)); exact BK114.out) hb); replace HB := Aside0.mk (below_step (by repeat (first | (with_reducible first | exact HB.out | apply below_alloc | apply pw_below_drewN | apply below_drew1 | refine below_set ?_ GE101.out | refine below_set ?_ GE109.out | refine below_set ?_ GE114.out) | exact HB.out)) hb); (try clear hb); (try clear hb2); (try clear hk); (try clear hi)))
      go_ret
      exact ⟨by first | rfl | (simp [errW_none, errW_some] <;> rfl) | (simp [*, errW_none, errW_some] <;> rfl), pbx HB⟩
    ·rw [if_neg c8] at H
     exact absurd H (by simp)
   ·rw [if_neg c7] at H
    exact absurd H (by simp)
  ·rw [if_neg c6] at H
   exact absurd H (by simp)
 ·replace c3 := Bool.eq_false_iff.mpr c3; subst c3
  have H1 : ((oculuslaw17_alive.f k).bind fun t103 => (some t103)) = some r := by rw [if_neg (show ¬ (false = true) by decide)] at H; exact H
  clear H; have H := H1; clear H1; replace H := Option.bind_eq_some_iff.mp H; obtain ⟨t103, A470, H⟩ := H
  replace H : (some t103) = some r := H
  have A47 := Aside0.mk A470; clear A470; obtain rfl := Option.some.inj H
  go_enter Try.func3, Try.ntmps3
  go_wp2_with (first | ((with_reducible refine gate_dst (N:=1) rfl ?_); refine box_event ?hg (N:=1) ?hd (cs := #[.int .i64 a0_0, .int .i64 a0_1, .string a0_2]) (t:=23) ?hr ?_; (case hd => rfl); (case hg => rfl); (case hr => first | (go_simp; done) | (go_simp; rfl)); intro gb101 hg w48 hbox hb; have BK101 := Aside0.mk (hbox); have GW101 := hs_ HB hg; have GE101 := hs_ HB hg; replace HB := bs_ HB hb; clear hb hbox hg; have hcz49_0 : w48.cell? ⟨gb101, 0, none⟩ = some (.int .i64 a0_0) := bc_ BK101 0 rfl; have hcz49_1 : w48.cell? ⟨gb101, 1, none⟩ = some (.int .i64 a0_1) := bc_ BK101 1 rfl; have hcz49_2 : w48.cell? ⟨gb101, 2, none⟩ = some (.string a0_2) := bc_ BK101 2 rfl; have hfz49_0 := blk_frozen BK101.out 0; have hfz49_1 := blk_frozen BK101.out 1; have hfz49_2 := blk_frozen BK101.out 2) | ((with_reducible refine gate_callee (f:=6) rfl ?_); refine goesL_ (some 7) rfl rfl Try.func6 (by kernel_rfl) rfl #[.agg #[.int .i64 a0_0, .int .i64 a0_1, .string a0_2]] rfl (by (try simp only [List.map_toArray, List.map_cons, List.map_nil]); first | done | rfl | (simp only [List.length_drop, List.length_take]; rfl)) ?_; (with_reducible refine (oculusref12_May.calls a0_0 a0_1 a0_2 false _ A2.out).mono ?_); rintro e w50 ⟨rfl, hb⟩; refine ⟨_, rfl, ?_⟩; replace BK101 := bb_ BK101 hb; replace HB := bs_ HB hb; (try clear hb); (try clear hb2); (try clear hk); (try clear hi)) | ((with_reducible refine gate_callee (f:=7) rfl ?_); refine goesL_ (some 9) rfl rfl Try.func7 (by kernel_rfl) rfl #[] rfl (by (try simp only [List.map_toArray, List.map_cons, List.map_nil]); first | done | rfl | (simp only [List.length_drop, List.length_take]; rfl)) ?_; (with_reducible refine (oculuslaw17_alive.calls k  t103 _ A47.out).mono ?_); rintro e w51 ⟨rfl, hb⟩; refine ⟨_, rfl, ?_⟩; replace BK101 := bb_ BK101 hb; replace HB := bs_ HB hb; (try clear hb); (try clear hb2); (try clear hk); (try clear hi)))
  go_ret
  exact ⟨by first | rfl | (simp [errW_none, errW_some] <;> rfl) | (simp [*, errW_none, errW_some] <;> rfl), pbx HB⟩

end Go.Proofs.Ytfcpkehldmehjaa.X
/- A general opening of a row's arguments: what a value of a type reads as, as a term of a kind 'Kd', with the bounds that the row's reach gives. -/
set_option linter.unusedVariables false
set_option linter.unusedSimpArgs false
namespace Go.Proofs.Ytfcpkehldmehjaa.Opn
open Go.ChangeShapes Go.WideShapes Go.RowKit Go.Proofs.YtfcpkehldmehjaaW.PrintWords

/-- Whatever is read at type t is a cell row of some a of kind d that is good. -/
def Opens {α : Type} (P : Program) (t : TypeId) (d : Kd α) (good : α → Prop) : Prop :=
  ∀ {H : Type} {enc : TypeId × Value → H} {w : World} {base : Nat} {spare : Nat → Bool} {held : Bool} {fuel : Nat} {cs : List Value} {x : DataW H × List MemPlace},
    DataW.trod enc P w base spare held fuel t cs = some x → (∀ m ∈ x.1.weights P t, m ≤ reachBytes) → ∃ a, d.K w a cs ∧ good a

theorem opens_int {P : Program} {t : TypeId} {k : IntKind} (ht : P.underlying t = some (.int k)) : Opens P t (Kd.int k) (fun n => (Lit.int k n).wf = true) := by
  intro H enc w base spare held fuel cs x hx _
  obtain ⟨n, rfl, rfl, hn⟩ := DataW.trod_int ht hx
  exact ⟨n, rfl, hn⟩
theorem opens_string {P : Program} {t : TypeId} (ht : P.underlying t = some .string) : Opens P t Kd.string (fun s => s.size ≤ reachBytes) := by
  intro H enc w base spare held fuel cs x hx hw
  obtain ⟨s, rfl, rfl, _⟩ := DataW.trod_string ht hx
  refine ⟨s, rfl, ?_⟩
  have := hw s.data.toList.length (by simp [DataW.weights])
  simpa using this

/-- The fields from one place on. -/
def OpensTail {α : Type} (P : Program) (fs : List Field) (o len : Nat) (d : Kd α) (good : α → Prop) : Prop :=
  ∀ {H : Type} {enc : TypeId × Value → H} {w : World} {base : Nat} {spare : Nat → Bool} {held : Bool} {n : Nat} {cs : List Value} {xs : List (DataW H × List MemPlace)},
    cs.length = len → xs.length = fs.length →
    (∀ (i : Nat) (f : Field), fs[i]? = some f → DataW.trod enc P w base spare held n f.type ((cs.drop f.offset).take (P.cellsOf f.type)) = xs[i]?) →
    (∀ m ∈ DataW.weightsEach P (fs.map (·.type)) (xs.map (·.1)), m ≤ reachBytes) → ∃ a, d.K w a (cs.drop o) ∧ good a

theorem tail_one {α : Type} {P : Program} {f : Field} {o len : Nat} {d : Kd α} {good : α → Prop} (ho : f.offset = o) (hl : len ≤ o + P.cellsOf f.type) (h : Opens P f.type d good) : OpensTail P [f] o len d good := by
  intro H enc w base spare held n cs xs hcs hxs hall hw
  obtain ⟨x, rfl⟩ : ∃ x, xs = [x] := by
    match xs, hxs with
    | [x], _ => exact ⟨x, rfl⟩
  have h0 := hall 0 f rfl
  rw [ho, List.take_of_length_le (by rw [List.length_drop]; omega)] at h0
  exact h h0 (fun m hm => hw m (by simp only [List.map_cons, List.map_nil, DataW.weightsEach, List.mem_append]; exact Or.inl hm))
theorem tail_cons {α β : Type} {P : Program} {f : Field} {fs : List Field} {o o' len : Nat} {a : Kd α} {b : Kd β} {ga : α → Prop} {gb : β → Prop} (ho : f.offset = o) (ho' : o' = o + P.cellsOf f.type)
    (h : Opens P f.type a ga) (ht : OpensTail P fs o' len b gb) : OpensTail P (f :: fs) o len (Kd.pair a b) (fun x => ga x.1 ∧ gb x.2) := by
  intro H enc w base spare held n cs xs hcs hxs hall hw
  obtain ⟨x, xs, rfl⟩ : ∃ x r, xs = x :: r := by
    match xs, hxs with
    | x :: r, _ => exact ⟨x, r, rfl⟩
  have h0 := hall 0 f rfl
  rw [ho] at h0
  obtain ⟨y, hy, hgy⟩ := h h0 (fun m hm => hw m (by simp only [List.map_cons, DataW.weightsEach, List.mem_append]; exact Or.inl hm))
  obtain ⟨z, hz, hgz⟩ := ht (xs := xs) hcs (by simpa using hxs) (fun i g hg => by simpa using hall (i + 1) g (by simpa using hg))
    (fun m hm => hw m (by simp only [List.map_cons, DataW.weightsEach, List.mem_append]; exact Or.inr hm))
  refine ⟨(y, z), ⟨(cs.drop o).take (P.cellsOf f.type), cs.drop o', ?_, hy, hz⟩, hgy, hgz⟩
  rw [ho', ← List.drop_drop, List.take_append_drop]
/-- A struct: its fields one behind the other. -/
theorem opens_struct {α β : Type} {P : Program} {t : TypeId} {fs : Array Field} {len : Nat} {d : Kd α} {good : α → Prop} (ht : P.underlying t = some (.struct fs)) (hl : P.cellsOf t = len) (h : OpensTail P fs.toList 0 len d good) (f : β → α) (g : α → β) (hfg : ∀ a, f (g a) = a) :
    Opens P t (Kd.iso d f) (fun x => good (f x)) := by
  intro H enc w base spare held fuel cs x hx hw
  obtain ⟨xs, n, rfl, rfl, hcs, hxs, hall⟩ := DataW.trod_struct ht hx
  obtain ⟨a, ha, hga⟩ := h (xs := xs) (hcs.trans hl) (by simpa using hxs) (fun i f hf => hall i f (by simpa using hf)) (fun m hm => hw m (by simp only [DataW.weights, ht]; exact hm))
  refine ⟨g a, ?_, by show good (f (g a)); rw [hfg]; exact hga⟩
  show d.K w (f (g a)) cs
  rw [hfg]
  simpa using ha
/-- A struct of one field. -/
theorem Opens.iso {α β : Type} {P : Program} {t : TypeId} {d : Kd α} {good : α → Prop} (h : Opens P t d good) (f : β → α) (g : α → β) (hfg : ∀ a, f (g a) = a) : Opens P t (Kd.iso d f) (fun x => good (f x)) := by
  intro H enc w base spare held fuel cs x hx hw
  obtain ⟨a, ha, hga⟩ := h hx hw
  refine ⟨g a, ?_, by show good (f (g a)); rw [hfg]; exact hga⟩
  show d.K w (f (g a)) cs
  rw [hfg]
  exact ha
end Go.Proofs.Ytfcpkehldmehjaa.Opn
/- The openings of the arguments of the law CritOf, and its pure statement. -/
set_option linter.unusedVariables false
namespace Go.Proofs.Ytfcpkehldmehjaa.X
open Go.RowKit Go.Proofs.YtfcpkehldmehjaaW.PrintWords Go.Proofs.YtfcpkehldmehjaaW.PrintLast Go.Proofs.YtfcpkehldmehjaaW.PrintMore Go.Proofs.Ytfcpkehldmehjaa.Opn
def good23 (x : S23) : Prop := ((Lit.int .i64 x.f0).wf = true) ∧ ((Lit.int .i64 x.f1).wf = true) ∧ (x.f2.size ≤ reachBytes)
theorem opens23 : Opens Try.prog 23 k23 good23 := opens_struct Try.underlying23 (len := 3) (by kernel_rfl) (tail_cons rfl (by kernel_rfl) (opens_int Try.underlying3) (tail_cons rfl (by kernel_rfl) (opens_int Try.underlying2) (tail_one rfl (Nat.le_of_eq (by kernel_rfl)) (opens_string Try.underlying9)))) (fun x : S23 => (x.f0, x.f1, x.f2)) (fun a => ⟨a.1, a.2.1, a.2.2⟩) (fun _ => rfl)
/-- What is left: a statement over numbers and lists alone. -/
def oculuslaw17_CritOf.PureX : Prop := ∀ (a0 : S23), (good23 a0) → ∃ k, oculuslaw17_CritOf.f k (a0.f0) (a0.f1) (a0.f2) = some true
end Go.Proofs.Ytfcpkehldmehjaa.X
/- Plain facts on whole numbers, bits and lists that the pure statements use. -/
set_option linter.unusedVariables false
set_option linter.unusedSimpArgs false
namespace Go.Proofs.Ytfcpkehldmehjaa.X
open Go.RowKit Go.Proofs.YtfcpkehldmehjaaW.PrintWords Go.Proofs.YtfcpkehldmehjaaW.PrintLast Go.Proofs.YtfcpkehldmehjaaW.PrintMore

theorem w64 {x : Int} (h0 : -9223372036854775808 ≤ x) (h1 : x ≤ 9223372036854775807) : wrap64 x = x := by unfold wrap64; omega
theorem w64s {i n : Nat} (h : i < n) (hn : n ≤ 9223372036854775807) : wrap64 ((i : Int) + 1) = ((i + 1 : Nat) : Int) := by unfold wrap64; omega

/-! Ev: with enough rounds. -/
theorem ev_some {α : Type} {g : Nat → Option α} {r : α} (h : ∀ k, g k = some r) : Ev g r := ⟨0, fun k _ => h k⟩
theorem ev_ite {α : Type} {c : Prop} [Decidable c] {f g : Nat → Option α} {r : α} (h1 : c → Ev f r) (h2 : ¬ c → Ev g r) : Ev (fun k => if c then f k else g k) r := by
  by_cases h : c
  · simp only [if_pos h]; exact h1 h
  · simp only [if_neg h]; exact h2 h
theorem ev_pos {α : Type} {c : Prop} [Decidable c] {f g : Nat → Option α} {r : α} (h : c) (h1 : Ev f r) : Ev (fun k => if c then f k else g k) r := by simp only [if_pos h]; exact h1
theorem ev_neg {α : Type} {c : Prop} [Decidable c] {f g : Nat → Option α} {r : α} (h : ¬ c) (h1 : Ev g r) : Ev (fun k => if c then f k else g k) r := by simp only [if_neg h]; exact h1
theorem ev_bind {α β : Type} {g : Nat → Option α} {f : Nat → α → Option β} {a : α} {r : β} (h : Ev g a) (k : Ev (fun n => f n a) r) : Ev (fun n => (g n).bind (f n)) r := Ev.bind h k
/-! Bits. -/
end Go.Proofs.Ytfcpkehldmehjaa.X
/- Plain facts on texts as lists of bytes. -/
set_option linter.unusedVariables false
set_option linter.unusedSimpArgs false
namespace Go.Proofs.Ytfcpkehldmehjaa.X
open Go.RowKit Go.Proofs.YtfcpkehldmehjaaW.PrintWords Go.Proofs.YtfcpkehldmehjaaW.PrintLast Go.Proofs.YtfcpkehldmehjaaW.PrintMore
/-- A text's bytes; the text of bytes. -/
def by_ (s : ByteArray) : List UInt8 := s.data.toList
def tx (l : List UInt8) : ByteArray := ⟨l.toArray⟩
theorem by_tx (l : List UInt8) : by_ (tx l) = l := by simp [by_, tx]
theorem tx_by (s : ByteArray) : tx (by_ s) = s := by
  obtain ⟨⟨l⟩⟩ := s
  rfl
theorem by_inj {s t : ByteArray} (h : by_ s = by_ t) : s = t := by rw [← tx_by s, ← tx_by t, h]
theorem toList_by (s : ByteArray) : s.toList = by_ s := ByteArray.toList_eq s
theorem size_by (s : ByteArray) : s.size = (by_ s).length := by
  obtain ⟨⟨l⟩⟩ := s
  rfl
theorem size_tx (l : List UInt8) : (tx l).size = l.length := by rw [size_by, by_tx]
theorem by_extract (s : ByteArray) (a b : Nat) : by_ (s.extract a b) = ((by_ s).drop a).take (b - a) := Go.Lib.extract_data s a b
theorem by_head (s : ByteArray) (b : Nat) : by_ (s.extract 0 b) = (by_ s).take b := by rw [by_extract]; simp
theorem by_tail (s : ByteArray) (a : Nat) : by_ (s.extract a s.size) = (by_ s).drop a := by
  rw [by_extract, List.take_of_length_le]
  rw [List.length_drop, size_by]
  exact Nat.le_refl _
theorem ext_head (s : ByteArray) (b : Nat) : s.extract 0 b = tx ((by_ s).take b) := by_inj (by rw [by_head, by_tx])
theorem ext_tail (s : ByteArray) (a : Nat) : s.extract a s.size = tx ((by_ s).drop a) := by_inj (by rw [by_tail, by_tx])
theorem bt_by (s : ByteArray) (i : Nat) (h : i < (by_ s).length) : bt s (i : Int) = ((by_ s)[i].toNat : Int) := by
  obtain ⟨⟨l⟩⟩ := s
  have h' : (i : Int).toNat < (⟨⟨l⟩⟩ : ByteArray).size := by rw [Int.toNat_natCast]; exact h
  unfold bt
  rw [dif_pos h']
  simp only [Int.toNat_natCast]
  rfl
theorem bt_tx (l : List UInt8) (i : Nat) (h : i < l.length) : bt (tx l) (i : Int) = (l[i].toNat : Int) := by
  rw [bt_by (tx l) i (by rw [by_tx]; exact h)]
  simp only [by_tx]
theorem bt_tx0 (c : UInt8) (l : List UInt8) : bt (tx (c :: l)) 0 = (c.toNat : Int) := bt_tx (c :: l) 0 (by simp)
theorem u8_lt (c : UInt8) : c.toNat < 256 := c.toNat_lt
theorem u8_inj {a b : UInt8} (h : a.toNat = b.toNat) : a = b := UInt8.toNat_inj.1 h
end Go.Proofs.Ytfcpkehldmehjaa.X
/- What strings.Cut at one byte answers. -/
set_option linter.unusedVariables false
set_option linter.unusedSimpArgs false
namespace Go.Proofs.Ytfcpkehldmehjaa.X
open Go.RowKit Go.Proofs.YtfcpkehldmehjaaW.PrintWords Go.Proofs.YtfcpkehldmehjaaW.PrintLast Go.Proofs.YtfcpkehldmehjaaW.PrintMore
/-- Cut at the first c. -/
def cutL (c : UInt8) : List UInt8 → List UInt8 × List UInt8 × Bool
  | [] => ([], [], false)
  | b :: l => if b = c then ([], l, true) else (b :: (cutL c l).1, (cutL c l).2.1, (cutL c l).2.2)
theorem index_cut (c : UInt8) : ∀ l : List UInt8, (Lib.indexByte l c = -1 ∧ (cutL c l).1 = l ∧ (cutL c l).2.1 = [] ∧ (cutL c l).2.2 = false) ∨
    ∃ n : Nat, Lib.indexByte l c = (n : Int) ∧ n < l.length ∧ (cutL c l).1 = l.take n ∧ (cutL c l).2.1 = l.drop (n + 1) ∧ (cutL c l).2.2 = true
  | [] => Or.inl ⟨rfl, rfl, rfl, rfl⟩
  | b :: l => by
    by_cases h : b = c
    · refine Or.inr ⟨0, ?_, by simp, ?_, ?_, ?_⟩
      · simp [Lib.indexByte, h]
      · simp [cutL, h]
      · simp [cutL, h]
      · simp [cutL, h]
    · rcases index_cut c l with ⟨h1, h2, h3, h4⟩ | ⟨n, h1, h2, h3, h4, h5⟩
      · left
        refine ⟨?_, ?_, ?_, ?_⟩
        · simp [Lib.indexByte, h, h1]
        · simp [cutL, h, h2]
        · simp [cutL, h, h3]
        · simp [cutL, h, h4]
      · right
        refine ⟨n + 1, ?_, by simp; omega, ?_, ?_, ?_⟩
        · simp only [Lib.indexByte, beq_eq_false_iff_ne.2 h, h1]
          rw [if_neg (by simp), if_neg (by first | (simp; done) | (simp; omega))]
          omega
        · simp [cutL, h, h3]
        · simp [cutL, h, h4]
        · simp [cutL, h, h5]
theorem cut_eq (s : ByteArray) (c : UInt8) (hs : s.size ≤ 4611686018427387904) : strings_Cut.f s (tx [c]) = some (tx (cutL c (by_ s)).1, tx (cutL c (by_ s)).2.1, (cutL c (by_ s)).2.2) := by
  unfold strings_Cut.f stringslite_Cut.f stringslite_Index.f
  have h1 : (tx [c]).size = 1 := by rw [size_tx]; rfl
  have h2 : (tx [c])[0]'(by rw [h1]; decide) = c := rfl
  rw [dif_pos h1, h2]
  simp only [Option.bind_some]
  rcases index_cut c (by_ s) with ⟨g1, g2, g3, g4⟩ | ⟨n, g1, g2, g3, g4, g5⟩
  · rw [show Lib.indexByte s.data.toList c = -1 from g1, if_neg (by decide), g2, g3, g4, tx_by]
    rfl
  · have hl := size_by s
    rw [show Lib.indexByte s.data.toList c = (n : Int) from g1, if_pos (by omega), if_pos (by omega), if_pos (by omega), h1]
    have hw : wrap64 ((n : Int) + ((1 : Nat) : Int)) = ((n + 1 : Nat) : Int) := by unfold wrap64; omega
    rw [hw, if_pos (by omega), if_pos (by omega), g3, g4, g5]
    simp only [Option.bind_some, Int.toNat_natCast, ext_head, ext_tail]
theorem cutL_length (c : UInt8) (l : List UInt8) : (cutL c l).1.length ≤ l.length ∧ (cutL c l).2.1.length ≤ l.length := by
  rcases index_cut c l with ⟨g1, g2, g3, g4⟩ | ⟨n, g1, g2, g3, g4, g5⟩
  · rw [g2, g3]; simp
  · rw [g3, g4]; simp; omega
end Go.Proofs.Ytfcpkehldmehjaa.X
/- What the program's reading of decimals answers. -/
set_option linter.unusedVariables false
set_option linter.unusedSimpArgs false
namespace Go.Proofs.Ytfcpkehldmehjaa.X
open Go.RowKit Go.Proofs.YtfcpkehldmehjaaW.PrintWords Go.Proofs.YtfcpkehldmehjaaW.PrintLast Go.Proofs.YtfcpkehldmehjaaW.PrintMore
def resR (x : Option Int) : Int × Bool := match x with
  | some v => (v, true)
  | none => (0, false)
def resN (x : Option Nat) : Int × Bool := match x with
  | some v => ((v : Int), true)
  | none => (0, false)
theorem may_nat (n : Nat) : dec_May.f (n : Int) = some true := by
  unfold dec_May.f
  rw [Option.some.injEq, bne_iff_ne]
  omega
theorem size_nat (n : Nat) (h : n ≤ 9223372036854775807) : dec_size.f (n : Int) = some (n : Int) := by
  unfold dec_size.f
  rw [if_neg (by omega), IntKind.wrap_u64]
  congr 1
  omega
theorem sign_nn (n : Nat) : ∃ s : Int, dec_Sign.f (n : Int) = some s ∧ 0 ≤ s ∧ s ≤ 1 := by
  unfold dec_Sign.f
  rw [if_neg (by omega)]
  by_cases h : (n : Int) > 0
  · rw [if_pos h]; exact ⟨1, rfl, by omega, by omega⟩
  · rw [if_neg h]; exact ⟨0, rfl, by omega, by omega⟩
theorem div_one (k : Nat) (p : Nat) (hp : p < 18446744073709551616) : bits_Div64.f k 0 (p : Int) 1 = some ((p : Int), 0) := by
  unfold bits_Div64.f
  rw [if_neg (by omega), if_neg (by omega), if_pos rfl, Int.tdiv_one, Int.tmod_one, IntKind.wrap_u64, Int.emod_eq_of_lt (by omega) (by omega)]
theorem scaled_ev (a b : Nat) (ha : a ≤ 9223372036854775807) (hb : b ≤ 10000) : Ev (fun k => dec_Scaled.f k (a : Int) (b : Int) 1) (resN (if a * b ≤ 9223372036854775807 then some (a * b) else none)) := by
  unfold dec_Scaled.f
  have m1 : dec_May.f (1 : Int) = some true := may_nat 1
  have s1 : dec_size.f (1 : Int) = some (1 : Int) := size_nat 1 (by omega)
  refine ev_bind (ev_some fun _ => may_nat a) (ev_pos rfl (ev_bind (ev_some fun _ => may_nat b) (ev_pos rfl (ev_bind (ev_some fun _ => m1) (ev_pos rfl ?_)))))
  refine Ev.step (fun k => dec_Scaled.j0.eq_2 ..) (ev_neg (by simp) ?_)
  refine ev_bind (ev_some fun _ => s1) (ev_bind (ev_some fun _ => size_nat a ha) (ev_bind (ev_some fun _ => size_nat b (by omega)) ?_))
  have em : bits_Mul64.f (a : Int) (b : Int) = some (((a * b / 18446744073709551616 : Nat) : Int), ((a * b % 18446744073709551616 : Nat) : Int)) := by
    unfold bits_Mul64.f
    rw [if_pos (by omega)]
    rfl
  refine ev_bind (ev_some fun _ => em) ?_
  generalize a * b = p at *
  refine ev_ite (fun g => ?_) (fun g => ?_)
  · rw [if_neg (by have g' : ((p / 18446744073709551616 : Nat) : Int) ≥ 1 := g; omega)]
    exact Ev.now _
  · have g' : ¬ ((p / 18446744073709551616 : Nat) : Int) ≥ 1 := g
    have e0 : p / 18446744073709551616 = 0 := by omega
    have e1 : p % 18446744073709551616 = p := by omega
    show Ev (fun k => (bits_Div64.f k ((p / 18446744073709551616 : Nat) : Int) ((p % 18446744073709551616 : Nat) : Int) 1).bind fun bt109 => (if bt109.2 ≥ (IntKind.u64.wrap (1 - bt109.2)) then (dec_Scaled.j1 k (a : Int) (b : Int) 1 (IntKind.u64.wrap (bt109.1 + 1))) else (dec_Scaled.j1 k (a : Int) (b : Int) 1 bt109.1))) _
    rw [e0, e1]
    refine ev_bind (ev_some fun k => div_one k p (by omega)) ?_
    refine ev_neg (by show ¬ (0 : Int) ≥ IntKind.u64.wrap (1 - 0); decide) ?_
    refine Ev.step (fun k => dec_Scaled.j1.eq_2 ..) ?_
    refine ev_ite (fun g2 => ?_) (fun g2 => ?_)
    · have g2' : (p : Int) > 9223372036854775807 := g2
      rw [if_neg (by omega)]
      exact Ev.now _
    · have g2' : ¬ (p : Int) > 9223372036854775807 := g2
      obtain ⟨x, hx, x0, x1⟩ := sign_nn a
      obtain ⟨y, hy, y0, y1⟩ := sign_nn b
      obtain ⟨z, hz, z0, z1⟩ := sign_nn 1
      rw [if_pos (by omega)]
      refine ev_bind (ev_some fun _ => hx) (ev_bind (ev_some fun _ => hy) (ev_bind (ev_some fun _ => hz) ?_))
      have hxy : x * y = 0 ∨ x * y = 1 := by
        have hx' : x = 0 ∨ x = 1 := by omega
        have hy' : y = 0 ∨ y = 1 := by omega
        rcases hx' with rfl | rfl <;> rcases hy' with rfl | rfl <;> simp
      have hs : ¬ wrap64 (wrap64 (x * y) * z) < 0 := by
        have hz' : z = 0 ∨ z = 1 := by omega
        rcases hxy with e | e <;> rcases hz' with rfl | rfl <;> rw [e] <;> decide +kernel
      refine ev_neg hs ?_
      show Ev (fun _ => some (wrap64 (p : Int), true)) _
      rw [w64 (x := (p : Int)) (by omega) (by omega)]
      exact Ev.now _
theorem add_ev (a b : Nat) (ha : a ≤ 9223372036854775807) (hb : b ≤ 9223372036854775807) : Ev (fun k => dec_Add.f k (a : Int) (b : Int)) (resN (if a + b ≤ 9223372036854775807 then some (a + b) else none)) := by
  unfold dec_Add.f
  have j0 : ∀ (s : Int) (r : Bool), Ev (fun k => dec_Add.j0 k s r) (if r = true then (0, false) else (s, true)) := by
    intro s r
    refine Ev.step (fun k => dec_Add.j0.eq_2 ..) ?_
    cases r with
    | true => exact ev_pos rfl (Ev.now _)
    | false => exact ev_neg (by simp) (Ev.now _)
  refine ev_bind (ev_some fun _ => may_nat a) (ev_pos rfl (ev_bind (ev_some fun _ => may_nat b) (ev_pos rfl (ev_bind (ev_some fun _ => rfl) ?_))))
  by_cases h : a + b ≤ 9223372036854775807
  · rw [if_pos h]
    have ew : wrap64 ((a : Int) + (b : Int)) = ((a + b : Nat) : Int) := by rw [w64 (by omega) (by omega)]; omega
    rw [ew]
    refine ev_pos (by rw [bne_iff_ne]; omega) ?_
    have jf := j0 ((a + b : Nat) : Int) false
    refine ev_ite (fun g1 => ?_) (fun g1 => ?_)
    · refine ev_ite (fun g2 => ?_) (fun g2 => ?_)
      · exact ev_neg (by omega) (ev_neg (by omega) jf)
      · exact ev_neg (by omega) jf
    · exact ev_neg (by omega) jf
  · rw [if_neg h]
    have ew : wrap64 ((a : Int) + (b : Int)) = ((a + b : Nat) : Int) - 18446744073709551616 := by unfold wrap64; omega
    rw [ew]
    have jt := j0 (((a + b : Nat) : Int) - 18446744073709551616) true
    refine ev_ite (fun _ => ?_) (fun _ => jt)
    exact ev_pos (by omega) (ev_pos (by omega) (ev_pos (by omega) jt))
/-! Whole numbers. -/
def numD : Nat → List UInt8 → Option Nat
  | a, [] => some a
  | a, c :: l => if 48 ≤ c.toNat ∧ c.toNat ≤ 57 then (if a * 10 + (c.toNat - 48) ≤ 9223372036854775807 then numD (a * 10 + (c.toNat - 48)) l else none) else none
def resW (x : Option Nat) (b : Bool) : Int × Bool := match x with
  | some v => ((v : Int), b)
  | none => (0, false)
theorem number_l0 (l : List UInt8) (hl : l.length ≤ 1000) : ∀ (n i : Nat), i + n = l.length → ∀ a : Nat, a ≤ 9223372036854775807 → Ev (fun k => digits_number.l0 k (tx l) (a : Int) (l.length : Int) (i : Int)) (resW (numD a (l.drop i)) (decide (l ≠ [])))
  | 0, i, hi, a, ha => by
    rw [List.drop_eq_nil_of_le (by omega), numD]
    refine Ev.step (fun k => digits_number.l0.eq_2 ..) (ev_neg (by omega) ?_)
    have e : ((tx l).toList != ([] : List UInt8)) = decide (l ≠ []) := by
      rw [toList_by, by_tx, Bool.eq_iff_iff, bne_iff_ne, decide_eq_true_eq]
    rw [e]
    exact Ev.now _
  | n + 1, i, hi, a, ha => by
    have h : i < l.length := by omega
    have hb := u8_lt l[i]
    rw [List.drop_eq_getElem_cons h, numD]
    refine Ev.step (fun k => digits_number.l0.eq_2 ..) ?_
    rw [size_tx, bt_tx l i h]
    refine ev_pos (by omega) (ev_pos (by omega) (ev_pos (by omega) ?_))
    have j1t : Ev (fun k => digits_number.j1 k (tx l) (a : Int) (i : Int) (l.length : Int) (i : Int) true) (0, false) := Ev.step (fun k => digits_number.j1.eq_2 ..) (ev_pos rfl (Ev.now _))
    refine ev_ite (fun g => ?_) (fun g => ?_)
    · rw [if_neg (by omega)]; exact j1t
    · by_cases g2 : (l[i].toNat : Int) > 57
      · rw [if_neg (by omega), decide_eq_true g2]; exact j1t
      · rw [if_pos (by omega), decide_eq_false g2]
        refine Ev.step (fun k => digits_number.j1.eq_2 ..) (ev_neg (by simp) ?_)
        refine ev_bind (scaled_ev a 10 ha (by omega)) ?_
        rw [size_tx, bt_tx l i h]
        refine ev_pos (by omega) (ev_pos (by omega) ?_)
        have ed : ((l[i].toNat : Int) - 48) % 256 = ((l[i].toNat - 48 : Nat) : Int) := by omega
        rw [ed]
        by_cases g3 : a * 10 ≤ 9223372036854775807
        · rw [if_pos g3]
          refine ev_bind (add_ev (a * 10) (l[i].toNat - 48) g3 (by omega)) (ev_pos rfl ?_)
          by_cases g4 : a * 10 + (l[i].toNat - 48) ≤ 9223372036854775807
          · rw [if_pos g4, if_pos g4]
            refine ev_pos rfl ?_
            rw [w64s (n := 10000) (by omega) (by omega)]
            exact number_l0 l hl n (i + 1) (by omega) _ g4
          · rw [if_neg g4, if_neg g4]
            exact ev_neg (by simp [resN]) (Ev.now _)
        · rw [if_neg g3, if_neg (by omega)]
          refine ev_bind (add_ev 0 (l[i].toNat - 48) (by omega) (by omega)) (ev_neg (by simp [resN]) (Ev.now _))
theorem number_ev (l : List UInt8) (hl : l.length ≤ 1000) : Ev (fun k => digits_number.f k (tx l)) (resW (numD 0 l) (decide (l ≠ []))) := by
  unfold digits_number.f
  rw [size_tx]
  have := number_l0 l hl l.length 0 (by omega) 0 (by omega)
  simpa using this
theorem numD_lt : ∀ (l : List UInt8) (a v : Nat), numD a l = some v → v < (a + 1) * 10 ^ l.length
  | [], a, v, h => by
    rw [numD] at h
    obtain rfl := Option.some.inj h
    simp
  | c :: l, a, v, h => by
    rw [numD] at h
    split at h
    · split at h
      · have := numD_lt l _ v h
        have hb : a * 10 + (c.toNat - 48) + 1 ≤ (a + 1) * 10 := by omega
        have h2 := Nat.mul_le_mul_right (10 ^ l.length) hb
        rw [List.length_cons, Nat.pow_succ, Nat.mul_comm (10 ^ l.length) 10, ← Nat.mul_assoc]
        omega
      · cases h
    · cases h
/-! Decimals. -/
def signed (minus : Bool) (v : Nat) : Int := if minus = true then -(v : Int) else (v : Int)
def putD (minus : Bool) (x y : Nat) : Option Int := if x * 10000 + y ≤ 9223372036854775807 then some (signed minus (x * 10000 + y)) else none
theorem put_ev (minus : Bool) (x y : Nat) (hx : x ≤ 9223372036854775807) (hy : y ≤ 99999999) : Ev (fun k => digits_put.f k (x : Int) (y : Int) minus) (resR (putD minus x y)) := by
  unfold digits_put.f putD
  have j0t : ∀ (b : Bool) (s : Int), Ev (fun k => digits_put.j0 k b s true) (0, false) := fun b s => Ev.step (fun k => digits_put.j0.eq_2 ..) (ev_pos rfl (Ev.now _))
  have hof : Ev (fun k => dec_Of.f k (x : Int)) (resN (if x * 10000 ≤ 9223372036854775807 then some (x * 10000) else none)) := by
    unfold dec_Of.f
    exact ev_bind (scaled_ev x 10000 hx (by omega)) (Ev.now _)
  refine ev_bind hof ?_
  by_cases g : x * 10000 ≤ 9223372036854775807
  · rw [if_pos g]
    refine ev_bind (add_ev (x * 10000) y g (by omega)) (ev_pos rfl ?_)
    by_cases g2 : x * 10000 + y ≤ 9223372036854775807
    · rw [if_pos g2, if_pos g2]
      generalize x * 10000 + y = s at *
      refine Ev.step (fun k => digits_put.j0.eq_2 ..) (ev_neg (by simp [resN]) ?_)
      show Ev (fun _ => if minus = true then ((dec_Neg.f ((s : Nat) : Int)).bind fun bt105 => (some (bt105.1, bt105.2))) else (some (((s : Nat) : Int), true))) (resR (some (signed minus s)))
      unfold signed
      cases minus with
      | false => exact ev_neg (by simp) (Ev.now _)
      | true =>
        refine ev_pos rfl (ev_some fun _ => ?_)
        unfold dec_Neg.f
        rw [may_nat, Option.bind_some, if_pos rfl, w64 (by omega) (by omega)]; rfl
    · rw [if_neg g2, if_neg g2]
      exact j0t _ _
  · rw [if_neg g, if_neg (Nat.not_le.2 (Nat.lt_of_lt_of_le (Nat.not_le.1 g) (Nat.le_add_right _ _)))]
    have h0 := add_ev 0 y (by omega) (by omega)
    refine ev_bind h0 (ev_neg (by simp [resN]) (j0t _ _))
/-- The decimal of a text without its sign. -/
def unsD (minus : Bool) (l : List UInt8) : Option Int :=
  match numD 0 (cutL 46 l).1 with
  | none => none
  | some x => if (cutL 46 l).1 = [] then none else
    if (cutL 46 l).2.2 = true then
      match numD 0 (cutL 46 l).2.1 with
      | none => none
      | some y => if (cutL 46 l).2.1 = [] ∨ (cutL 46 l).2.1.length > 4 then none else putD minus x (y * 10 ^ (4 - (cutL 46 l).2.1.length))
    else putD minus x 0
def isMinus : List UInt8 → Bool
  | [] => false
  | c :: _ => c == 45
def dRead (l : List UInt8) : Option Int := if l.length > 40 then none else unsD (isMinus l) (if isMinus l = true then l.drop 1 else l)
theorem cutPre (l : List UInt8) : strings_CutPrefix.f (tx l) (⟨#[45]⟩ : ByteArray) = some (tx (if isMinus l = true then l.drop 1 else l), isMinus l) := by
  unfold strings_CutPrefix.f stringslite_CutPrefix.f stringslite_HasPrefix.f
  have e1 : (⟨#[45]⟩ : ByteArray) = tx [45] := rfl
  rw [e1, size_tx, size_tx]
  have e45 : (([45] : List UInt8).length : Int) = 1 := rfl
  have e45n : ([45] : List UInt8).length = 1 := rfl
  rw [e45, e45n]
  cases l with
  | nil => rfl
  | cons c l =>
    rw [if_pos (by simp; omega), if_pos (by omega), if_pos (by simp; omega)]
    have e2 : ((tx (c :: l)).extract 0 1).toList = [c] := by rw [ext_head, by_tx, toList_by, by_tx]; rfl
    have e3 : (tx [45]).toList = [45] := by rw [toList_by, by_tx]
    rw [e2, e3, Option.bind_some]
    have e4 : (([c] : List UInt8) == [45]) = (c == 45) := by simp
    rw [e4]
    show (Option.bind (if (c == 45) = true then _ else _) _) = some (tx (if (c == 45) = true then _ else _), (c == 45))
    cases hc : (c == 45) with
    | true =>
      rw [if_pos rfl, if_pos (by omega), if_pos (by simp; omega), if_pos rfl]
      have := ext_tail (tx (c :: l)) 1
      rw [size_tx, by_tx] at this
      rw [this]; rfl
    | false => rw [if_neg (by simp), if_neg (by simp)]; rfl
theorem read_l0 (minus : Bool) (x : Nat) (hx : x ≤ 9223372036854775807) (r : Nat) (hr : r ≤ 4) (y : Nat) (hy : y * 10 ^ r ≤ 99999999) : ∀ (n i : Nat), i + n = r → Ev (fun k => digits_Read.l0 k minus (x : Int) ((y * 10 ^ i : Nat) : Int) (r : Int) (i : Int)) (resR (putD minus x (y * 10 ^ r)))
  | 0, i, hi => by
    obtain rfl : i = r := by omega
    refine Ev.step (fun k => digits_Read.l0.eq_2 ..) (ev_neg (by omega) ?_)
    exact ev_bind (put_ev minus x _ hx hy) (Ev.now _)
  | n + 1, i, hi => by
    have hle : y * 10 ^ (i + 1) ≤ y * 10 ^ r := Nat.mul_le_mul_left y (Nat.pow_le_pow_right (by omega) (by omega))
    have e : y * 10 ^ (i + 1) = y * 10 ^ i * 10 := by rw [Nat.pow_succ, Nat.mul_assoc]
    refine Ev.step (fun k => digits_Read.l0.eq_2 ..) (ev_pos (by omega) ?_)
    have ew : wrap64 (((y * 10 ^ i : Nat) : Int) * 10) = ((y * 10 ^ (i + 1) : Nat) : Int) := by
      rw [e] at hle ⊢
      generalize y * 10 ^ i = q at *
      rw [w64 (by omega) (by omega)]; omega
    rw [ew, w64s (n := 10000) (by omega) (by omega)]
    exact read_l0 minus x hx r hr y hy n (i + 1) (by omega)
theorem numD_le : ∀ (l : List UInt8) (a v : Nat), a ≤ 9223372036854775807 → numD a l = some v → v ≤ 9223372036854775807
  | [], a, v, ha, h => by rw [numD] at h; obtain rfl := Option.some.inj h; exact ha
  | c :: l, a, v, ha, h => by
    rw [numD] at h
    split at h
    · split at h
      · rename_i h2
        exact numD_le l _ v h2 h
      · cases h
    · cases h
theorem dread_ev (l : List UInt8) (hl : l.length ≤ 1000) : Ev (fun k => digits_Read.f k (tx l)) (resR (dRead l)) := by
  unfold digits_Read.f dRead
  refine ev_bind (ev_some fun _ => cutPre l) ?_
  rw [size_tx]
  refine ev_ite (fun g => ?_) (fun g => ?_)
  · rw [if_pos (show l.length > 40 by omega)]; exact Ev.now _
  · rw [if_neg (show ¬ l.length > 40 by omega)]
    have hlen : (if isMinus l = true then l.drop 1 else l).length ≤ 40 := by
      split
      · rw [List.length_drop]; omega
      · omega
    generalize (if isMinus l = true then l.drop 1 else l) = m at *
    generalize isMinus l = minus at *
    have hc := cutL_length 46 m
    have e := cut_eq (tx m) 46 (by rw [size_tx]; omega)
    rw [by_tx] at e
    refine ev_bind (ev_some fun _ => e) ?_
    have n1 := number_ev (cutL 46 m).1 (by omega)
    have n2 := number_ev (cutL 46 m).2.1 (by omega)
    refine ev_bind n1 (ev_bind n2 ?_)
    have j0t : ∀ (a : Bool) (b : ByteArray) (c d : Int), Ev (fun k => digits_Read.j0 k a b c d true) (0, false) := fun a b c d => Ev.step (fun k => digits_Read.j0.eq_2 ..) (ev_pos rfl (Ev.now _))
    unfold unsD
    cases h1 : numD 0 (cutL 46 m).1 with
    | none => exact ev_neg (by simp [resW]) (j0t _ _ _ _)
    | some x =>
      have hx := numD_le _ 0 x (by omega) h1
      by_cases h2 : (cutL 46 m).1 = []
      · refine ev_neg (by simp [resW, h2]) ?_
        show Ev _ (resR (if (cutL 46 m).1 = [] then none else _))
        rw [if_pos h2]
        exact j0t _ _ _ _
      · refine ev_pos (by simp [resW, h2]) ?_
        show Ev _ (resR (if (cutL 46 m).1 = [] then none else _))
        rw [if_neg h2]
        cases h3 : (cutL 46 m).2.2 with
        | false =>
          refine ev_neg (by simp) ?_
          rw [if_neg (by simp)]
          have ht : (cutL 46 m).2.1 = [] := by
            rcases index_cut 46 m with ⟨_, _, k, _⟩ | ⟨_, _, _, _, _, k⟩
            · exact k
            · rw [h3] at k; cases k
          rw [ht]
          refine Ev.step (fun k => digits_Read.j0.eq_2 ..) (ev_neg (by simp) ?_)
          rw [size_tx]
          have ew : wrap64 (4 - (([] : List UInt8).length : Int)) = ((4 : Nat) : Int) := by rw [List.length_nil]; exact w64 (x := 4 - ((0 : Nat) : Int)) (by omega) (by omega)
          have := read_l0 minus x hx 4 (by omega) 0 (by simp) 4 0 (by omega)
          simp only [Nat.zero_mul] at this
          rw [ew]
          simp only [numD, resW]
          exact this
        | true =>
          refine ev_pos rfl ?_
          rw [if_pos rfl]
          cases h4 : numD 0 (cutL 46 m).2.1 with
          | none => exact ev_neg (by simp [resW]) (j0t _ _ _ _)
          | some y =>
            by_cases h5 : (cutL 46 m).2.1 = []
            · refine ev_neg (by simp [resW, h5]) ?_
              show Ev _ (resR (if (cutL 46 m).2.1 = [] ∨ (cutL 46 m).2.1.length > 4 then none else _))
              rw [if_pos (Or.inl h5)]
              exact j0t _ _ _ _
            · refine ev_pos (by simp [resW, h5]) ?_
              show Ev (fun k => digits_Read.j0 k minus (tx (cutL 46 m).2.1) (x : Int) (y : Int) (decide (((tx (cutL 46 m).2.1).size : Int) > 4))) (resR (if (cutL 46 m).2.1 = [] ∨ (cutL 46 m).2.1.length > 4 then none else putD minus x (y * 10 ^ (4 - (cutL 46 m).2.1.length))))
              rw [size_tx]
              by_cases h6 : (cutL 46 m).2.1.length > 4
              · rw [if_pos (Or.inr h6), decide_eq_true (by omega)]
                exact j0t _ _ _ _
              · rw [if_neg (by rintro (k | k); exact h5 k; exact h6 k), decide_eq_false (by omega)]
                refine Ev.step (fun k => digits_Read.j0.eq_2 ..) (ev_neg (by simp) ?_)
                rw [size_tx]
                have hb := numD_lt _ 0 y h4
                generalize (cutL 46 m).2.1.length = q at *
                have ew : wrap64 (4 - (q : Int)) = ((4 - q : Nat) : Int) := by rw [w64 (by omega) (by omega)]; omega
                rw [ew]
                have hy : y * 10 ^ (4 - q) ≤ 99999999 := by
                  have h7 : y * 10 ^ (4 - q) ≤ 10 ^ q * 10 ^ (4 - q) := Nat.mul_le_mul_right _ (by rw [Nat.zero_add, Nat.one_mul] at hb; omega)
                  rw [← Nat.pow_add, show q + (4 - q) = 4 by omega] at h7
                  omega
                have := read_l0 minus x hx (4 - q) (by omega) y hy (4 - q) 0 (by omega)
                simpa using this
end Go.Proofs.Ytfcpkehldmehjaa.X
/- Patterns and texts: plain. -/
set_option linter.unusedVariables false
set_option linter.unusedSimpArgs false
namespace Go.Proofs.Ytfcpkehldmehjaa.X
open Go.RowKit Go.Proofs.YtfcpkehldmehjaaW.PrintWords Go.Proofs.YtfcpkehldmehjaaW.PrintLast Go.Proofs.YtfcpkehldmehjaaW.PrintMore
def okC (c b : UInt8) : Bool := c == 63 || c == b
/-- Does a pattern fit a text? -/
def gl : List UInt8 → List UInt8 → Bool
  | [], [] => true
  | [], _ :: _ => false
  | c :: p, [] => c == 42 && gl p []
  | c :: p, b :: t => if c = 42 then gl p (b :: t) || gl (c :: p) t else okC c b && gl p t
termination_by p t => p.length + t.length
theorem gl_nil (t : List UInt8) : gl [] t = true ↔ t = [] := by
  cases t with
  | nil => simp [gl]
  | cons b t => simp [gl]
theorem gl_star (p : List UInt8) : ∀ t : List UInt8, gl (42 :: p) t = true ↔ ∃ u v, t = u ++ v ∧ gl p v = true
  | [] => by
    rw [gl]
    simp only [beq_self_eq_true, Bool.true_and]
    constructor
    · intro h; exact ⟨[], [], rfl, h⟩
    · rintro ⟨u, v, h, hv⟩
      have := List.append_eq_nil_iff.1 h.symm
      rw [this.2] at hv; exact hv
  | b :: t => by
    rw [gl, if_pos rfl, Bool.or_eq_true, gl_star p t]
    constructor
    · rintro (h | ⟨u, v, h, hv⟩)
      · exact ⟨[], b :: t, rfl, h⟩
      · exact ⟨b :: u, v, by rw [h]; rfl, hv⟩
    · rintro ⟨u, v, h, hv⟩
      cases u with
      | nil => left; rw [show v = b :: t from h.symm] at hv; exact hv
      | cons x u =>
        right
        injection h with h1 h2
        exact ⟨u, v, h2, hv⟩
theorem gl_one {c : UInt8} (hc : c ≠ 42) (p : List UInt8) (t : List UInt8) : gl (c :: p) t = true ↔ ∃ b v, t = b :: v ∧ okC c b = true ∧ gl p v = true := by
  cases t with
  | nil =>
    rw [gl]
    constructor
    · intro h; rw [Bool.and_eq_true, beq_iff_eq] at h; exact absurd h.1 hc
    · rintro ⟨b, v, h, _⟩; cases h
  | cons b t =>
    rw [gl, if_neg hc, Bool.and_eq_true]
    constructor
    · rintro ⟨h1, h2⟩; exact ⟨b, t, rfl, h1, h2⟩
    · rintro ⟨b', v, h, h1, h2⟩; injection h with e1 e2; subst e1; subst e2; exact ⟨h1, h2⟩
/-! Without stars. -/
def fitL : List UInt8 → List UInt8 → Bool
  | [], _ => true
  | _ :: _, [] => false
  | c :: p, b :: t => okC c b && fitL p t
theorem gl_piece : ∀ (p q t : List UInt8), (42 : UInt8) ∉ p → (gl (p ++ q) t = true ↔ fitL p t = true ∧ gl q (t.drop p.length) = true)
  | [], q, t, _ => by simp [fitL]
  | c :: p, q, t, h => by
    simp only [List.mem_cons, not_or] at h
    rw [List.cons_append, gl_one (fun e => h.1 e.symm)]
    cases t with
    | nil => simp [fitL]
    | cons b t =>
      rw [fitL, Bool.and_eq_true, List.length_cons, List.drop_succ_cons]
      constructor
      · rintro ⟨b', v, h1, h2, h3⟩
        injection h1 with e1 e2
        subst e1; subst e2
        obtain ⟨k1, k2⟩ := (gl_piece p q t h.2).1 h3
        exact ⟨⟨h2, k1⟩, k2⟩
      · rintro ⟨⟨h1, h2⟩, h3⟩
        exact ⟨b, t, rfl, h1, (gl_piece p q t h.2).2 ⟨h2, h3⟩⟩
theorem fitL_len : ∀ (p t : List UInt8), fitL p t = true → p.length ≤ t.length
  | [], _, _ => Nat.zero_le _
  | _ :: _, [], h => by simp [fitL] at h
  | c :: p, b :: t, h => by
    rw [fitL, Bool.and_eq_true] at h
    have := fitL_len p t h.2
    simp; omega
theorem gl_plain (p t : List UInt8) (h : (42 : UInt8) ∉ p) : gl p t = true ↔ fitL p t = true ∧ p.length = t.length := by
  have := gl_piece p [] t h
  rw [List.append_nil] at this
  rw [this, gl_nil]
  constructor
  · rintro ⟨h1, h2⟩
    have := fitL_len p t h1
    have h3 := congrArg List.length h2
    rw [List.length_drop] at h3
    simp at h3
    exact ⟨h1, by omega⟩
  · rintro ⟨h1, h2⟩
    exact ⟨h1, List.drop_eq_nil_of_le (by omega)⟩
/-- A star lets more stand ahead. -/
theorem star_mono (p : List UInt8) (u t : List UInt8) (h : gl (42 :: p) t = true) : gl (42 :: p) (u ++ t) = true := by
  obtain ⟨x, v, h1, h2⟩ := (gl_star p t).1 h
  exact (gl_star p _).2 ⟨u ++ x, v, by rw [h1, List.append_assoc], h2⟩
/-- Behind a star, the last piece: at the end. -/
theorem star_last (p t : List UInt8) (h : (42 : UInt8) ∉ p) : gl (42 :: p) t = true ↔ p.length ≤ t.length ∧ fitL p (t.drop (t.length - p.length)) = true := by
  rw [gl_star]
  constructor
  · rintro ⟨u, v, h1, h2⟩
    obtain ⟨h3, h4⟩ := (gl_plain p v h).1 h2
    have e : t.length = u.length + v.length := by rw [h1, List.length_append]
    refine ⟨by omega, ?_⟩
    have : t.drop (t.length - p.length) = v := by
      rw [h1, List.drop_append_of_le_length (by rw [List.length_append]; omega)]
      rw [List.drop_eq_nil_of_le (by rw [List.length_append]; omega)]; rfl
    rw [this]; exact h3
  · rintro ⟨h1, h2⟩
    refine ⟨t.take (t.length - p.length), t.drop (t.length - p.length), (List.take_append_drop _ _).symm, (gl_plain p _ h).2 ⟨h2, ?_⟩⟩
    rw [List.length_drop]; omega
/-- Behind a star, a piece and a star: where it fits first. -/
theorem star_fit (p q t : List UInt8) (h : (42 : UInt8) ∉ p) (hf : fitL p t = true) : gl (42 :: (p ++ 42 :: q)) t = true ↔ gl (42 :: q) (t.drop p.length) = true := by
  constructor
  · intro hg
    obtain ⟨u, v, h1, h2⟩ := (gl_star _ t).1 hg
    obtain ⟨h3, h4⟩ := (gl_piece p (42 :: q) v h).1 h2
    have e : v.drop p.length = (t.drop p.length).drop u.length := by rw [List.drop_drop, Nat.add_comm, ← List.drop_drop, h1, List.drop_left]
    rw [e] at h4
    rw [← List.take_append_drop u.length (t.drop p.length)]
    exact star_mono q _ _ h4
  · intro hg
    exact (gl_star _ t).2 ⟨[], t, rfl, (gl_piece p (42 :: q) t h).2 ⟨hf, hg⟩⟩
theorem star_none (p q : List UInt8) (h : (42 : UInt8) ∉ p) (hf : ¬ fitL p [] = true) : gl (42 :: (p ++ 42 :: q)) [] = false := by
  rw [Bool.eq_false_iff]
  intro hg
  obtain ⟨u, v, h1, h2⟩ := (gl_star _ []).1 hg
  have := List.append_eq_nil_iff.1 h1.symm
  rw [this.2] at h2
  exact hf ((gl_piece p (42 :: q) [] h).1 h2).1
theorem star_skip (p q t : List UInt8) (b : UInt8) (h : (42 : UInt8) ∉ p) (hf : ¬ fitL p (b :: t) = true) : gl (42 :: (p ++ 42 :: q)) (b :: t) = gl (42 :: (p ++ 42 :: q)) t := by
  rw [Bool.eq_iff_iff]
  constructor
  · intro hg
    obtain ⟨u, v, h1, h2⟩ := (gl_star _ _).1 hg
    cases u with
    | nil =>
      rw [show v = b :: t from h1.symm] at h2
      exact absurd ((gl_piece p (42 :: q) _ h).1 h2).1 hf
    | cons x u =>
      injection h1 with e1 e2
      exact (gl_star _ _).2 ⟨u, v, e2, h2⟩
  · intro hg
    exact star_mono _ [b] t hg
/-! By its end: what the reference asks, row by row. -/
end Go.Proofs.Ytfcpkehldmehjaa.X
/- What the program's and the reference's pattern matching answer. -/
set_option linter.unusedVariables false
set_option linter.unusedSimpArgs false
namespace Go.Proofs.Ytfcpkehldmehjaa.X
open Go.RowKit Go.Proofs.YtfcpkehldmehjaaW.PrintWords Go.Proofs.YtfcpkehldmehjaaW.PrintLast Go.Proofs.YtfcpkehldmehjaaW.PrintMore
theorem okC_nat (c b : UInt8) : okC c b = (decide (c.toNat = 63) || decide (c.toNat = b.toNat)) := by
  unfold okC
  congr 1
  · rw [Bool.eq_iff_iff, beq_iff_eq, decide_eq_true_eq]
    exact ⟨fun h => by rw [h]; rfl, fun h => u8_inj h⟩
  · rw [Bool.eq_iff_iff, beq_iff_eq, decide_eq_true_eq]
    exact ⟨fun h => by rw [h], fun h => u8_inj h⟩
theorem fits_l0 (p t : List UInt8) (hp : p.length ≤ 1000) (hpt : p.length ≤ t.length) : ∀ (n i : Nat), i + n = p.length → Ev (fun k => crit_fits.l0 k (tx p) (tx t) (p.length : Int) (i : Int)) (fitL (p.drop i) (t.drop i))
  | 0, i, hi => by
    rw [List.drop_eq_nil_of_le (show p.length ≤ i by omega), fitL]
    refine Ev.step (fun k => crit_fits.l0.eq_2 ..) ?_
    exact ev_neg (by omega) (Ev.now _)
  | n + 1, i, hi => by
    have h : i < p.length := by omega
    have ht : i < t.length := by omega
    have ih := fits_l0 p t hp hpt n (i + 1) (by omega)
    rw [List.drop_eq_getElem_cons h, List.drop_eq_getElem_cons ht, fitL, okC_nat]
    refine Ev.step (fun k => crit_fits.l0.eq_2 ..) ?_
    rw [size_tx, size_tx, bt_tx p i h, bt_tx t i ht, w64s (n := 10000) (by omega) (by omega)]
    refine ev_pos (by omega) (ev_pos (by omega) (ev_pos (by omega) ?_))
    refine ev_ite (fun g => ?_) (fun g => ?_)
    · rw [decide_eq_true (by omega)]; simpa using ih
    · rw [decide_eq_false (by omega)]
      refine ev_pos (by omega) (ev_ite (fun g2 => ?_) (fun g2 => ?_))
      · rw [decide_eq_true (by omega)]; simpa using ih
      · rw [decide_eq_false (by omega)]; exact Ev.now _
theorem fitL_short : ∀ p t : List UInt8, t.length < p.length → fitL p t = false
  | [], _, h => by simp at h
  | _ :: _, [], _ => rfl
  | c :: p, b :: t, h => by rw [fitL, fitL_short p t (by simpa using h), Bool.and_false]
theorem fits_ev (p t : List UInt8) (hp : p.length ≤ 1000) (ht : t.length ≤ 1000) : Ev (fun k => crit_fits.f k (tx p) (tx t)) (fitL p t) := by
  unfold crit_fits.f
  rw [size_tx, size_tx]
  refine ev_ite (fun g => ?_) (fun g => ?_)
  · rw [fitL_short p t (by omega)]; exact Ev.now _
  · have := fits_l0 p t hp (by omega) p.length 0 (by omega)
    simpa using this
theorem cutC_app (c : UInt8) : ∀ l : List UInt8, (cutL c l).2.2 = true → l = (cutL c l).1 ++ c :: (cutL c l).2.1
  | [], h => by simp [cutL] at h
  | b :: l, h => by
    by_cases e : b = c
    · subst e; rw [cutL, if_pos rfl]; rfl
    · rw [cutL, if_neg e] at h ⊢
      have := cutC_app c l h
      show b :: l = b :: ((cutL c l).1 ++ c :: (cutL c l).2.1)
      rw [← this]
theorem cutC_no (c : UInt8) : ∀ l : List UInt8, c ∉ (cutL c l).1 ∧ ((cutL c l).2.2 = false → (cutL c l).1 = l ∧ (cutL c l).2.1 = [])
  | [] => by simp [cutL]
  | b :: l => by
    by_cases e : b = c
    · subst e; rw [cutL, if_pos rfl]; simp
    · rw [cutL, if_neg e]
      obtain ⟨h1, h2⟩ := cutC_no c l
      refine ⟨by simp only [List.mem_cons, not_or]; exact ⟨fun k => e k.symm, h1⟩, fun h => ?_⟩
      obtain ⟨k1, k2⟩ := h2 h
      exact ⟨by show b :: (cutL c l).1 = b :: l; rw [k1], k2⟩
theorem cut_tx (c : UInt8) (l : List UInt8) (hl : l.length ≤ 1000) : strings_Cut.f (tx l) (tx [c]) = some (tx (cutL c l).1, tx (cutL c l).2.1, (cutL c l).2.2) := by
  have e := cut_eq (tx l) c (by rw [size_tx]; omega)
  rw [by_tx] at e
  exact e
theorem ext_drop (l : List UInt8) (n : Nat) : (tx l).extract n l.length = tx (l.drop n) := by
  have := ext_tail (tx l) n
  rw [size_tx, by_tx] at this
  exact this
/-- Behind a star. -/
theorem like_l1 (p q : List UInt8) (h : (42 : UInt8) ∉ p) (hp : p.length ≤ 1000)
    (hq : ∀ t : List UInt8, t.length ≤ 1000 → Ev (fun k => crit_Like.l0 k (tx t) (tx q) true) (gl (42 :: q) t)) :
    ∀ t : List UInt8, t.length ≤ 1000 → Ev (fun k => crit_Like.l1 k (tx t) (tx p) (tx q) true) (gl (42 :: (p ++ 42 :: q)) t)
  | t, ht => by
    refine Ev.step (fun k => crit_Like.l1.eq_2 ..) ?_
    refine ev_bind (fits_ev p t hp ht) (ev_ite (fun g => ?_) (fun g => ?_))
    · have hl := fitL_len p t g
      have e : gl (42 :: (p ++ 42 :: q)) t = gl (42 :: q) (t.drop p.length) := by rw [Bool.eq_iff_iff]; exact star_fit p q t h g
      rw [e, size_tx, size_tx]
      refine ev_pos (by omega) (ev_pos (by omega) ?_)
      rw [ext_drop]
      exact hq _ (by rw [List.length_drop]; omega)
    · cases t with
      | nil =>
        rw [star_none p q h g]
        exact ev_pos (by rw [toList_by, by_tx]) (Ev.now _)
      | cons b t =>
        rw [star_skip p q t b h g]
        refine ev_neg (by rw [toList_by, by_tx]; simp) ?_
        rw [size_tx]
        refine ev_pos (by simp; omega) ?_
        rw [ext_drop]
        exact like_l1 p q h hp hq t (by simp at ht; omega)
theorem like_l0 : ∀ (n : Nat) (rest : List UInt8), rest.length < n → rest.length ≤ 1000 → ∀ t : List UInt8, t.length ≤ 1000 → Ev (fun k => crit_Like.l0 k (tx t) (tx rest) true) (gl (42 :: rest) t) := by
  intro n
  induction n with
  | zero => intro rest hr; omega
  | succ n ih =>
    intro rest hr hr2 t ht
    obtain ⟨h1, h2⟩ := cutC_no 42 rest
    have hc := cutL_length 42 rest
    refine Ev.step (fun k => crit_Like.l0.eq_2 ..) (ev_pos rfl ?_)
    refine ev_bind (ev_some fun _ => cut_tx 42 rest hr2) ?_
    cases hs : (cutL 42 rest).2.2 with
    | true =>
      refine ev_pos rfl ?_
      have e := cutC_app 42 rest hs
      have hlen : (cutL 42 rest).2.1.length < rest.length := by
        have := congrArg List.length e
        rw [List.length_append, List.length_cons] at this
        omega
      have := like_l1 (cutL 42 rest).1 (cutL 42 rest).2.1 h1 (by omega) (fun t' ht' => ih _ (by omega) (by omega) t' ht') t ht
      rw [← e] at this
      exact this
    | false =>
      obtain ⟨k1, k2⟩ := h2 hs
      refine ev_neg (by simp) ?_
      show Ev (fun k => if ((tx t).size : Int) ≥ ((tx (cutL 42 rest).1).size : Int) then _ else _) _
      rw [k1] at h1 ⊢
      rw [size_tx, size_tx]
      refine ev_ite (fun g => ?_) (fun g => ?_)
      · have ew : wrap64 ((t.length : Int) - (rest.length : Int)) = ((t.length - rest.length : Nat) : Int) := by rw [w64 (by omega) (by omega)]; omega
        rw [ew]
        refine ev_pos (by omega) (ev_pos (by omega) ?_)
        rw [Int.toNat_natCast, ext_drop]
        have e : gl (42 :: rest) t = fitL rest (t.drop (t.length - rest.length)) := by
          rw [Bool.eq_iff_iff, star_last rest t h1]
          exact ⟨fun h => h.2, fun h => ⟨by omega, h⟩⟩
        rw [e]
        refine ev_bind (fits_ev rest _ hr2 (by rw [List.length_drop]; omega)) (Ev.now _)
      · have e : gl (42 :: rest) t = false := by
          rw [Bool.eq_false_iff]
          intro h
          have := ((star_last rest t h1).1 h).1
          omega
        rw [e]
        exact Ev.now _
theorem like_ev (p t : List UInt8) (hp : p.length ≤ 1000) (ht : t.length ≤ 1000) : Ev (fun k => crit_Like.f k (tx p) (tx t)) (gl p t) := by
  unfold crit_Like.f
  obtain ⟨h1, h2⟩ := cutC_no 42 p
  have hc := cutL_length 42 p
  refine ev_bind (ev_some fun _ => cut_tx 42 p hp) (ev_bind (fits_ev _ t (by omega) ht) ?_)
  have j0t : ∀ (a b c : ByteArray) (d : Bool), Ev (fun k => crit_Like.j0 k a b c d true) false := fun a b c d => Ev.step (fun k => crit_Like.j0.eq_2 ..) (ev_pos rfl (Ev.now _))
  have j0f : ∀ (d : Bool) (r : Bool), (cutL 42 p).1.length ≤ t.length → Ev (fun k => crit_Like.l0 k (tx (t.drop (cutL 42 p).1.length)) (tx (cutL 42 p).2.1) d) r → Ev (fun k => crit_Like.j0 k (tx t) (tx (cutL 42 p).1) (tx (cutL 42 p).2.1) d false) r := by
    intro d r hl h
    refine Ev.step (fun k => crit_Like.j0.eq_2 ..) (ev_neg (by simp) ?_)
    rw [size_tx, size_tx]
    refine ev_pos (by omega) (ev_pos (by omega) ?_)
    rw [ext_drop]
    exact h
  cases hs : (cutL 42 p).2.2 with
  | true =>
    have e := cutC_app 42 p hs
    have eg : gl p t = (fitL (cutL 42 p).1 t && gl (42 :: (cutL 42 p).2.1) (t.drop (cutL 42 p).1.length)) := by
      conv => lhs; rw [e]
      rw [Bool.eq_iff_iff, gl_piece _ _ _ h1, Bool.and_eq_true]
    rw [eg]
    cases hf : fitL (cutL 42 p).1 t with
    | false => exact ev_neg (by simp) (j0t _ _ _ _)
    | true =>
      refine ev_pos rfl (ev_pos rfl ?_)
      rw [Bool.true_and]
      exact j0f _ _ (fitL_len _ _ hf) (like_l0 _ _ (Nat.lt_succ_self _) (by omega) _ (by rw [List.length_drop]; omega))
  | false =>
    obtain ⟨k1, k2⟩ := h2 hs
    have hp1 : (42 : UInt8) ∉ p := by rw [← k1]; exact h1
    cases hf : fitL (cutL 42 p).1 t with
    | false =>
      have eg : gl p t = false := by
        rw [Bool.eq_false_iff]
        intro h
        have := ((gl_plain p t hp1).1 h).1
        rw [k1] at hf
        rw [hf] at this
        cases this
      rw [eg]
      exact ev_neg (by simp) (j0t _ _ _ _)
    | true =>
      refine ev_pos rfl (ev_neg (by simp) ?_)
      rw [size_tx, size_tx]
      by_cases hl : (cutL 42 p).1.length = t.length
      · have eg : gl p t = true := (gl_plain p t hp1).2 ⟨by rw [k1] at hf; exact hf, by rw [k1] at hl; exact hl⟩
        have eb : (((cutL 42 p).1.length : Int) != (t.length : Int)) = false := by rw [hl]; simp
        rw [eg, eb]
        refine j0f _ _ (by omega) ?_
        refine Ev.step (fun k => crit_Like.l0.eq_2 ..) (ev_neg (by simp) (Ev.now _))
      · have eg : gl p t = false := by
          rw [Bool.eq_false_iff]
          intro h
          have := ((gl_plain p t hp1).1 h).2
          rw [k1] at hl
          exact hl this
        have eb : (((cutL 42 p).1.length : Int) != (t.length : Int)) = true := by rw [bne_iff_ne]; omega
        rw [eg, eb]
        exact j0t _ _ _ _
/-! The reference: row by row. -/
section
variable (p t : List UInt8) (hp : p.length ≤ 1000) (ht : t.length ≤ 1000) (i : Nat) (hi : i < p.length)
include hi in
end
end Go.Proofs.Ytfcpkehldmehjaa.X
/- The reference's reading of decimals answers as the program's. -/
set_option linter.unusedVariables false
set_option linter.unusedSimpArgs false
namespace Go.Proofs.Ytfcpkehldmehjaa.X
open Go.RowKit Go.Proofs.YtfcpkehldmehjaaW.PrintWords Go.Proofs.YtfcpkehldmehjaaW.PrintLast Go.Proofs.YtfcpkehldmehjaaW.PrintMore
theorem rmay_nat (n : Nat) : oculusref08_May.f (n : Int) = some true := by
  unfold oculusref08_May.f
  rw [decide_eq_true (by omega)]
theorem rabs_nat (n : Nat) (h : n ≤ 9223372036854775807) : oculusref08_Abs.f (n : Int) = some (n : Int) := by
  unfold oculusref08_Abs.f
  rw [if_neg (by omega), IntKind.wrap_u64]
  congr 1
  omega
theorem wu (n : Nat) : IntKind.u64.wrap (n : Int) = ((n % 18446744073709551616 : Nat) : Int) := by
  rw [IntKind.wrap_u64]; omega
theorem times_ten (a : Nat) (h : a ≤ 9223372036854775807) : oculusref08_Times.f (a : Int) 10 = some (((a * 10 / 18446744073709551616 : Nat) : Int), ((a * 10 % 18446744073709551616 : Nat) : Int)) := by
  unfold oculusref08_Times.f
  have e1 : Int.tdiv (a : Int) 4294967296 = ((a / 4294967296 : Nat) : Int) := rfl
  have e2 : Int.tmod (a : Int) 4294967296 = ((a % 4294967296 : Nat) : Int) := rfl
  have e3 : Int.tdiv (10 : Int) 4294967296 = 0 := by decide
  have e4 : Int.tmod (10 : Int) 4294967296 = 10 := by decide
  rw [e1, e2, e3, e4]
  have f1 : IntKind.u64.wrap (0 : Int) = 0 := by decide
  have d1 : a / 4294967296 < 2147483648 := by omega
  have d2 : a % 4294967296 < 4294967296 := by omega
  have d3 : a = a / 4294967296 * 4294967296 + a % 4294967296 := by omega
  generalize a / 4294967296 = h1 at *
  generalize a % 4294967296 = l1 at *
  have f2 : IntKind.u64.wrap ((h1 : Nat) : Int) = (h1 : Int) := by rw [wu]; omega
  have f3 : IntKind.u64.wrap (((l1 : Nat) : Int) * 10) = ((l1 * 10 : Nat) : Int) := by rw [IntKind.wrap_u64]; omega
  rw [f1, f2, f3]
  have f4 : Int.tdiv ((l1 * 10 : Nat) : Int) 4294967296 = ((l1 * 10 / 4294967296 : Nat) : Int) := rfl
  have f5 : Int.tmod ((l1 * 10 : Nat) : Int) 4294967296 = ((l1 * 10 % 4294967296 : Nat) : Int) := rfl
  rw [f4, f5]
  have f6 : IntKind.u64.wrap ((l1 * 10 / 4294967296 : Nat) : Int) = ((l1 * 10 / 4294967296 : Nat) : Int) := by rw [wu]; omega
  have f7 : IntKind.u64.wrap ((h1 : Int) * 10) = ((h1 * 10 : Nat) : Int) := by rw [IntKind.wrap_u64]; omega
  have f8 : IntKind.u64.wrap ((l1 * 10 % 4294967296 : Nat) : Int) = ((l1 * 10 % 4294967296 : Nat) : Int) := by rw [wu]; omega
  rw [f6, f7]
  have f9 : IntKind.u64.wrap (((h1 * 10 : Nat) : Int) + ((l1 * 10 / 4294967296 : Nat) : Int)) = ((h1 * 10 + l1 * 10 / 4294967296 : Nat) : Int) := by rw [IntKind.wrap_u64]; omega
  rw [f9]
  have g1 : Int.tdiv ((h1 * 10 + l1 * 10 / 4294967296 : Nat) : Int) 4294967296 = (((h1 * 10 + l1 * 10 / 4294967296) / 4294967296 : Nat) : Int) := rfl
  have g2 : Int.tmod ((h1 * 10 + l1 * 10 / 4294967296 : Nat) : Int) 4294967296 = (((h1 * 10 + l1 * 10 / 4294967296) % 4294967296 : Nat) : Int) := rfl
  rw [g1, g2]
  have f10 : IntKind.u64.wrap ((l1 : Int) * 0) = 0 := by rw [Int.mul_zero]; decide
  have f11 : IntKind.u64.wrap ((h1 : Int) * 0) = 0 := by rw [Int.mul_zero]; decide
  rw [f10, f11, Int.zero_add, Int.zero_add]
  have f12 : IntKind.u64.wrap (((h1 * 10 + l1 * 10 / 4294967296) % 4294967296 : Nat) : Int) = (((h1 * 10 + l1 * 10 / 4294967296) % 4294967296 : Nat) : Int) := by rw [wu]; omega
  have f13 : IntKind.u64.wrap (((h1 * 10 + l1 * 10 / 4294967296) / 4294967296 : Nat) : Int) = (((h1 * 10 + l1 * 10 / 4294967296) / 4294967296 : Nat) : Int) := by rw [wu]; omega
  rw [f12, f13, f13]
  have g3 : Int.tdiv (((h1 * 10 + l1 * 10 / 4294967296) % 4294967296 : Nat) : Int) 4294967296 = (((h1 * 10 + l1 * 10 / 4294967296) % 4294967296 / 4294967296 : Nat) : Int) := rfl
  have g4 : Int.tmod (((h1 * 10 + l1 * 10 / 4294967296) % 4294967296 : Nat) : Int) 4294967296 = (((h1 * 10 + l1 * 10 / 4294967296) % 4294967296 % 4294967296 : Nat) : Int) := rfl
  rw [g3, g4]
  have z1 : (h1 * 10 + l1 * 10 / 4294967296) % 4294967296 / 4294967296 = 0 := by omega
  rw [z1]
  simp only [IntKind.wrap_u64]
  congr 1
  refine Prod.ext ?_ ?_
  · show ((((h1 * 10 + l1 * 10 / 4294967296) / 4294967296 : Nat) : Int) + _ % _) % _ = _
    have k1 : (h1 * 10 + l1 * 10 / 4294967296) / 4294967296 = a * 10 / 18446744073709551616 := by clear f1 f2 f3 f4 f5 f6 f7 f8 f9 f10 f11 f12 f13 g1 g2 g3 g4; omega
    have k2 : (h1 * 10 + l1 * 10 / 4294967296) / 4294967296 < 100 := by omega
    rw [k1] at k2 ⊢
    clear f1 f2 f3 f4 f5 f6 f7 f8 f9 f10 f11 f12 f13 g1 g2 g3 g4 k1
    omega
  · show ((_ * _) % _ + _) % _ = _
    clear f1 f2 f3 f4 f5 f6 f7 f8 f9 f10 f11 f12 f13 g1 g2 g3 g4
    omega
theorem dstep (hi lo b s : Nat) (hv : hi * 18446744073709551616 + lo = b * 170141183460469231731687303715884105728 + s) (hb : b < 2) (hs : s < 170141183460469231731687303715884105728) (hlo : lo < 18446744073709551616) :
    hi / 9223372036854775808 = b ∧ (hi * 2 + lo / 9223372036854775808) % 18446744073709551616 * 18446744073709551616 + lo * 2 % 18446744073709551616 = s * 2 := by omega
/-- The reference's division by one, in plain numbers: r rounds, the rest w of the number, the quotient so far. -/
theorem divide_l0 (r : Nat) : ∀ (i w q hi lo : Nat) (ok : Bool), i + r = 128 → w < 2 ^ r → q < 18446744073709551616 → lo < 18446744073709551616 → hi * 18446744073709551616 + lo = w * 2 ^ i →
    ∃ (q' : Nat) (ok' : Bool), Ev (fun k => oculusref08_Divide.l0 k 1 (i : Int) (hi : Int) (lo : Int) (q : Int) 0 ok) ((q' : Int), 0, ok') ∧
      (ok = true → q * 2 ^ r + w < 18446744073709551616 → q' = q * 2 ^ r + w ∧ ok' = true) ∧ (ok = false → ok' = false) ∧ (¬ q * 2 ^ r + w < 18446744073709551616 → ok' = false) := by
  induction r with
  | zero =>
    intro i w q hi lo ok hi0 hw hq hlo hv
    refine ⟨q, ok, ?_, ?_, fun h => h, fun h => ?_⟩
    · exact Ev.step (fun k => oculusref08_Divide.l0.eq_2 ..) (ev_neg (by omega) (Ev.now _))
    · intro h _
      exact ⟨by omega, h⟩
    · exact absurd (show q * 2 ^ 0 + w < _ by omega) h
  | succ r ih =>
    intro i w q hi lo ok hi0 hw hq hlo hv
    have hp : 2 ^ i * 2 ^ (r + 1) = 340282366920938463463374607431768211456 := by rw [← Nat.pow_add, hi0]
    have hpi : 0 < 2 ^ i := Nat.pow_pos (by omega)
    have hp1 : 2 ^ (r + 1) = 2 ^ r * 2 := Nat.pow_succ ..
    have hp2 : 2 ^ (i + 1) = 2 ^ i * 2 := Nat.pow_succ ..
    have hpr : 0 < 2 ^ r := Nat.pow_pos (by omega)
    have hV : w * 2 ^ i < 340282366920938463463374607431768211456 := by
      rw [← hp, Nat.mul_comm (2 ^ i)]
      exact (Nat.mul_lt_mul_right hpi).2 hw
    have hhi : hi < 18446744073709551616 := by omega
    have hmod : w = w / 2 ^ r * 2 ^ r + w % 2 ^ r := by rw [Nat.mul_comm]; exact (Nat.div_add_mod w (2 ^ r)).symm
    have hb : w / 2 ^ r < 2 := Nat.div_lt_of_lt_mul (by rw [← hp1]; exact hw)
    have hwr : w % 2 ^ r < 2 ^ r := Nat.mod_lt _ hpr
    have half : 2 ^ r * 2 ^ i = 170141183460469231731687303715884105728 := by
      have : 2 ^ r * 2 ^ i * 2 = 340282366920938463463374607431768211456 := by rw [← hp, hp1, Nat.mul_comm (2 ^ i), Nat.mul_right_comm]
      omega
    have hrest : w % 2 ^ r * 2 ^ i < 170141183460469231731687303715884105728 := by rw [← half]; exact (Nat.mul_lt_mul_right hpi).2 hwr
    have hsplit : w * 2 ^ i = w / 2 ^ r * 170141183460469231731687303715884105728 + w % 2 ^ r * 2 ^ i := by
      rw [← half, ← Nat.mul_assoc, ← Nat.add_mul, ← hmod]
    obtain ⟨hbit, hnext⟩ := dstep hi lo (w / 2 ^ r) (w % 2 ^ r * 2 ^ i) (hv.trans hsplit) hb hrest hlo
    rw [Nat.mul_assoc, ← hp2] at hnext
    clear hsplit hrest hV hp half
    generalize hbb : w / 2 ^ r = b at *
    have q2 : (2 * q) % 18446744073709551616 + b < 18446744073709551616 := by omega
    obtain ⟨q', ok', ev, h1, h2, h3⟩ := ih (i + 1) (w % 2 ^ r) ((2 * q) % 18446744073709551616 + b) ((hi * 2 + lo / 9223372036854775808) % 18446744073709551616) (lo * 2 % 18446744073709551616) (ok && decide (q < 9223372036854775808)) (by omega) hwr q2 (Nat.mod_lt _ (by omega)) hnext
    have hsum : q < 9223372036854775808 → ((2 * q) % 18446744073709551616 + b) * 2 ^ r + w % 2 ^ r = q * 2 ^ (r + 1) + w := by
      intro hq2
      rw [show (2 * q) % 18446744073709551616 = 2 * q by omega, Nat.add_mul, Nat.add_assoc, ← hmod, hp1, Nat.mul_comm (2 ^ r) 2, ← Nat.mul_assoc, Nat.mul_comm 2 q]
    have hbig : ¬ q < 9223372036854775808 → ¬ q * 2 ^ (r + 1) + w < 18446744073709551616 := by
      intro hq2
      have : q * 2 ≤ q * (2 ^ r * 2) := Nat.mul_le_mul_left q (by omega)
      rw [hp1]
      omega
    refine ⟨q', ok', ?_, ?_, ?_, ?_⟩
    · refine Ev.step (fun k => oculusref08_Divide.l0.eq_2 ..) (ev_pos (by omega) ?_)
      have e1 : Int.tdiv (hi : Int) 9223372036854775808 = ((hi / 9223372036854775808 : Nat) : Int) := rfl
      have e2 : Int.tdiv (lo : Int) 9223372036854775808 = ((lo / 9223372036854775808 : Nat) : Int) := rfl
      have e3 : IntKind.u64.wrap ((0 : Int) * 2) = 0 := by decide
      have e4 : IntKind.u64.wrap (((hi / 9223372036854775808 : Nat) : Int)) = ((b : Nat) : Int) := by rw [hbit, wu]; omega
      have e5 : IntKind.u64.wrap ((0 : Int) + (b : Int)) = (b : Int) := by rw [Int.zero_add, wu]; omega
      have e6 : IntKind.u64.wrap ((IntKind.u64.wrap ((hi : Int) * 2)) + (IntKind.u64.wrap ((lo / 9223372036854775808 : Nat) : Int))) = (((hi * 2 + lo / 9223372036854775808) % 18446744073709551616 : Nat) : Int) := by
        simp only [IntKind.wrap_u64]; omega
      have e7 : IntKind.u64.wrap ((lo : Int) * 2) = ((lo * 2 % 18446744073709551616 : Nat) : Int) := by rw [IntKind.wrap_u64]; omega
      have e8 : wrap64 ((i : Int) + 1) = ((i + 1 : Nat) : Int) := w64s (n := 200) (by omega) (by omega)
      rw [e1, e2, e3, e4, e5, e6, e7, e8]
      have ed : decide ((q : Int) < 9223372036854775808) = decide (q < 9223372036854775808) := by
        rw [Bool.eq_iff_iff, decide_eq_true_eq, decide_eq_true_eq]; omega
      rw [ed]
      have e9 : IntKind.u64.wrap ((b : Int) - 1) = 0 ∨ b = 0 := by
        by_cases hb0 : b = 0
        · exact Or.inr hb0
        · left
          have : b = 1 := by omega
          rw [this]; decide
      have e10 : IntKind.u64.wrap ((q : Int) * 2) = ((2 * q % 18446744073709551616 : Nat) : Int) := by rw [IntKind.wrap_u64]; omega
      rw [e10]
      have go : ∀ ok2 : Bool, ok2 = (ok && decide (q < 9223372036854775808)) → Ev (fun k => if (b : Int) ≥ 1 then oculusref08_Divide.l0 k 1 ((i + 1 : Nat) : Int) (((hi * 2 + lo / 9223372036854775808) % 18446744073709551616 : Nat) : Int) ((lo * 2 % 18446744073709551616 : Nat) : Int) (IntKind.u64.wrap (((2 * q % 18446744073709551616 : Nat) : Int) + 1)) (IntKind.u64.wrap ((b : Int) - 1)) ok2 else oculusref08_Divide.l0 k 1 ((i + 1 : Nat) : Int) (((hi * 2 + lo / 9223372036854775808) % 18446744073709551616 : Nat) : Int) ((lo * 2 % 18446744073709551616 : Nat) : Int) ((2 * q % 18446744073709551616 : Nat) : Int) (b : Int) ok2) ((q' : Int), 0, ok') := by
        intro ok2 h
        rw [h]
        rcases e9 with e9 | e9
        · refine ev_ite (fun g => ?_) (fun g => ?_)
          · rw [e9]
            have hb1 : b = 1 := by omega
            have : IntKind.u64.wrap (((2 * q % 18446744073709551616 : Nat) : Int) + 1) = ((2 * q % 18446744073709551616 + b : Nat) : Int) := by rw [IntKind.wrap_u64]; omega
            rw [this]
            exact ev
          · have hb1 : b = 0 := by omega
            rw [hb1] at ev ⊢
            exact ev
        · rw [e9] at ev ⊢
          exact ev_neg (by omega) ev
      cases ok with
      | true => exact ev_pos rfl (go _ (by simp))
      | false => exact ev_neg (by simp) (go _ (by simp))
    · intro hok hlt
      have hq2 : q < 9223372036854775808 := Decidable.byContradiction fun h => hbig h hlt
      have := h1 (by rw [hok, decide_eq_true hq2]; rfl) (by rw [hsum hq2]; exact hlt)
      exact ⟨by rw [this.1, hsum hq2], this.2⟩
    · intro hok
      exact h2 (by rw [hok]; rfl)
    · intro hge
      by_cases hq2 : q < 9223372036854775808
      · exact h3 (by rw [hsum hq2]; exact hge)
      · exact h2 (by rw [decide_eq_false hq2]; simp)
theorem divide_one (p : Nat) (hp : p < 340282366920938463463374607431768211456) : ∃ (q' : Nat) (ok' : Bool), Ev (fun k => oculusref08_Divide.f k ((p / 18446744073709551616 : Nat) : Int) ((p % 18446744073709551616 : Nat) : Int) 1) ((q' : Int), 0, ok') ∧ (p < 18446744073709551616 → q' = p ∧ ok' = true) ∧ (¬ p < 18446744073709551616 → ok' = false) := by
  obtain ⟨q', ok', ev, h1, h2, h3⟩ := divide_l0 128 0 p 0 (p / 18446744073709551616) (p % 18446744073709551616) true rfl (by rw [show (2 : Nat) ^ 128 = 340282366920938463463374607431768211456 by decide]; exact hp) (by omega) (Nat.mod_lt _ (by omega)) (by omega)
  refine ⟨q', ok', ev, fun h => ?_, fun h => ?_⟩
  · have := h1 rfl (by rw [Nat.zero_mul, Nat.zero_add]; exact h)
    rw [Nat.zero_mul, Nat.zero_add] at this
    exact this
  · exact h3 (by rw [Nat.zero_mul, Nat.zero_add]; exact h)
theorem rscaled_ev (a : Nat) (ha : a ≤ 9223372036854775807) : Ev (fun k => oculusref08_Scaled.f k (a : Int) 10 1) (resN (if a * 10 ≤ 9223372036854775807 then some (a * 10) else none)) := by
  unfold oculusref08_Scaled.f
  have m10 : oculusref08_May.f (10 : Int) = some true := rmay_nat 10
  have m1 : oculusref08_May.f (1 : Int) = some true := rmay_nat 1
  refine ev_bind (ev_some fun _ => rmay_nat a) (ev_pos rfl (ev_bind (ev_some fun _ => m10) (ev_pos rfl (ev_bind (ev_some fun _ => m1) (ev_pos rfl ?_)))))
  refine Ev.step (fun k => oculusref08_Scaled.j0.eq_2 ..) (ev_neg (by decide) ?_)
  have a1 : oculusref08_Abs.f (1 : Int) = some 1 := rabs_nat 1 (by omega)
  have a10 : oculusref08_Abs.f (10 : Int) = some 10 := rabs_nat 10 (by omega)
  refine ev_bind (ev_some fun _ => a1) (ev_bind (ev_some fun _ => rabs_nat a ha) (ev_bind (ev_some fun _ => a10) (ev_bind (ev_some fun _ => times_ten a ha) ?_)))
  obtain ⟨q, ok, ev, h1, h2⟩ := divide_one (a * 10) (by omega)
  refine ev_bind ev ?_
  have jt : ∀ (x y z : Int) (o : Bool), Ev (fun k => oculusref08_Scaled.j1 k (a : Int) 10 1 1 true x y o) (0, false) := fun x y z o => Ev.step (fun k => oculusref08_Scaled.j1.eq_2 ..) (ev_pos rfl (Ev.now _))
  by_cases g : a * 10 < 18446744073709551616
  · obtain ⟨rfl, rfl⟩ := h1 g
    refine ev_pos rfl ?_
    by_cases g2 : a * 10 ≤ 9223372036854775807
    · rw [if_pos g2, decide_eq_false (by show ¬ ((a * 10 : Nat) : Int) > 9223372036854775807; omega)]
      refine Ev.step (fun k => oculusref08_Scaled.j1.eq_2 ..) (ev_neg (by simp) (ev_neg (by show ¬ IntKind.u64.wrap (1 - 0) ≤ (0 : Int); decide) ?_))
      refine Ev.step (fun k => oculusref08_Scaled.j2.eq_2 ..) (ev_neg (by show ¬ ((a * 10 : Nat) : Int) > 9223372036854775807; omega) ?_)
      refine ev_neg ?_ (ev_neg (by omega) (ev_some fun _ => ?_))
      · rw [decide_eq_false (by omega), decide_eq_false (by omega)]; simp
      · show some (wrap64 ((a * 10 : Nat) : Int), true) = _
        rw [w64 (by omega) (by omega)]; rfl
    · rw [if_neg g2, decide_eq_true (by show ((a * 10 : Nat) : Int) > 9223372036854775807; omega)]
      exact jt _ _ 0 _
  · obtain rfl := h2 g
    rw [if_neg (by omega)]
    exact ev_neg (by simp) (jt _ _ 0 _)
theorem radd_ev (a d : Nat) (ha : a ≤ 9223372036854775807) (hd : d ≤ 9) : Ev (fun k => oculusref08_Add.f k (a : Int) (d : Int)) (resN (if a + d ≤ 9223372036854775807 then some (a + d) else none)) := by
  unfold oculusref08_Add.f
  refine ev_bind (ev_some fun _ => rmay_nat a) (ev_pos rfl (ev_bind (ev_some fun _ => rmay_nat d) (ev_pos rfl ?_)))
  have jf : Ev (fun k => oculusref08_Add.j0 k (a : Int) (d : Int) false) (wrap64 ((a : Int) + (d : Int)), true) := Ev.step (fun k => oculusref08_Add.j0.eq_2 ..) (ev_neg (by simp) (Ev.now _))
  have jt : Ev (fun k => oculusref08_Add.j0 k (a : Int) (d : Int) true) (0, false) := Ev.step (fun k => oculusref08_Add.j0.eq_2 ..) (ev_pos rfl (Ev.now _))
  have ew : wrap64 (9223372036854775807 - (d : Int)) = 9223372036854775807 - (d : Int) := w64 (by omega) (by omega)
  rw [ew]
  by_cases g : a + d ≤ 9223372036854775807
  · rw [if_pos g]
    have e : (wrap64 ((a : Int) + (d : Int)), true) = resN (some (a + d)) := by rw [w64 (by omega) (by omega)]; simp [resN]
    rw [← e]
    refine ev_ite (fun _ => ev_neg (by omega) (ev_neg (by omega) jf)) (fun _ => ev_neg (by omega) jf)
  · rw [if_neg g]
    exact ev_pos (by omega) (ev_pos (by omega) jt)
def moreO (x : Option Nat) (d : Nat) : Option Nat := x.bind fun a => if a * 10 + d ≤ 9223372036854775807 then some (a * 10 + d) else none
def okO (x : Option Nat) : Prop := ∀ a, x = some a → a ≤ 9223372036854775807
theorem moreO_ok (x : Option Nat) (d : Nat) : okO (moreO x d) := by
  intro a h
  cases x with
  | none => cases h
  | some b =>
    by_cases g : b * 10 + d ≤ 9223372036854775807
    · rw [moreO, Option.bind_some, if_pos g] at h
      obtain rfl := Option.some.inj h
      exact g
    · rw [moreO, Option.bind_some, if_neg g] at h
      cases h
theorem more_ev (x : Option Nat) (hx : okO x) (d : Nat) (hd : d ≤ 9) : Ev (fun k => oculusref11_more.f k (resN x).1 (resN x).2 (d : Int)) (resN (moreO x d)) := by
  unfold oculusref11_more.f
  cases x with
  | none => exact ev_neg (by simp [resN]) (Ev.now _)
  | some a =>
    have ha := hx a rfl
    refine ev_pos rfl ?_
    refine ev_bind (rscaled_ev a ha) ?_
    rw [moreO, Option.bind_some]
    by_cases g : a * 10 ≤ 9223372036854775807
    · rw [if_pos g]
      refine ev_pos rfl (ev_bind (radd_ev (a * 10) d g hd) (Ev.now _))
    · rw [if_neg g, if_neg (by omega)]
      exact ev_neg (by simp [resN]) (Ev.now _)
/-! What the loop reads. -/
def rl : Int → Nat → Option Nat → List UInt8 → Option (Int × Option Nat)
  | b, _, x, [] => some (b, x)
  | b, i, x, c :: l => if c.toNat = 46 ∧ b < 0 ∧ 0 < i then rl 0 (i + 1) x l else if 48 ≤ c.toNat ∧ c.toNat ≤ 57 then rl (if b ≥ 0 then b + 1 else b) (i + 1) (moreO x (c.toNat - 48)) l else none
end Go.Proofs.Ytfcpkehldmehjaa.X
/- The reference reads of a text what the program reads. -/
set_option linter.unusedVariables false
set_option linter.unusedSimpArgs false
namespace Go.Proofs.Ytfcpkehldmehjaa.X
open Go.RowKit Go.Proofs.YtfcpkehldmehjaaW.PrintWords Go.Proofs.YtfcpkehldmehjaaW.PrintLast Go.Proofs.YtfcpkehldmehjaaW.PrintMore
def zerosO : Nat → Option Nat → Option Nat
  | 0, x => x
  | n + 1, x => zerosO n (moreO x 0)
def endO (minus : Bool) (l : List UInt8) (b : Int) (x : Option Nat) : Option Int := if l = [] ∨ b = 0 ∨ b > 4 then none else (zerosO (4 - b.toNat) x).map (signed minus)
theorem rread_l1 (minus : Bool) : ∀ (n k : Nat), k + n = 4 → ∀ x : Option Nat, okO x → Ev (fun m => oculusref11_Read.l1 m minus (k : Int) (resN x).1 (resN x).2) (resR ((zerosO n x).map (signed minus)))
  | 0, k, hk, x, hx => by
    refine Ev.step (fun k => oculusref11_Read.l1.eq_2 ..) (ev_neg (by omega) ?_)
    cases minus with
    | false =>
      refine ev_neg (by simp) (ev_some fun _ => ?_)
      cases x with
      | none => rfl
      | some a => rfl
    | true =>
      refine ev_pos rfl (ev_some fun _ => ?_)
      cases x with
      | none => show some (wrap64 (-(0 : Int)), false) = some ((0 : Int), false); rw [w64 (by omega) (by omega)]; rfl
      | some a =>
        have := hx a rfl
        show some (wrap64 (-(a : Int)), true) = some (-(a : Int), true)
        rw [w64 (by omega) (by omega)]
  | n + 1, k, hk, x, hx => by
    refine Ev.step (fun k => oculusref11_Read.l1.eq_2 ..) (ev_pos (by omega) ?_)
    refine ev_bind (more_ev x hx 0 (by omega)) ?_
    rw [w64s (n := 100) (by omega) (by omega)]
    exact rread_l1 minus n (k + 1) (by omega) _ (moreO_ok x 0)
theorem digit_eq (l : List UInt8) (i : Nat) (h : i < l.length) : oculusref11_Digit.f (tx l) (i : Int) = some (decide (48 ≤ l[i].toNat ∧ l[i].toNat ≤ 57)) := by
  unfold oculusref11_Digit.f
  rw [size_tx, bt_tx l i h, if_pos (by omega), if_pos (by omega)]
  by_cases g : (l[i].toNat : Int) ≥ 48
  · rw [if_pos g]; congr 1; rw [Bool.eq_iff_iff, decide_eq_true_eq, decide_eq_true_eq]; omega
  · rw [if_neg g, decide_eq_false (by omega)]
theorem rread_end (minus : Bool) (l : List UInt8) (hl : l.length ≤ 1000) (b : Int) (hb : -1 ≤ b ∧ b ≤ 1000) (x : Option Nat) (hx : okO x) :
    Ev (fun k => if ((l.length : Nat) : Int) = 0 then (oculusref11_Read.j6 k minus b true (resN x).1 (resN x).2) else (if b = 0 then (oculusref11_Read.j6 k minus b true (resN x).1 (resN x).2) else (oculusref11_Read.j6 k minus b (decide (b > 4)) (resN x).1 (resN x).2))) (resR (endO minus l b x)) := by
  have jt : Ev (fun k => oculusref11_Read.j6 k minus b true (resN x).1 (resN x).2) (0, false) := Ev.step (fun k => oculusref11_Read.j6.eq_2 ..) (ev_pos rfl (Ev.now _))
  unfold endO
  refine ev_ite (fun g => ?_) (fun g => ?_)
  · rw [if_pos (Or.inl (List.eq_nil_of_length_eq_zero (by omega)))]; exact jt
  · have hne : l ≠ [] := fun e => g (by rw [e]; rfl)
    refine ev_ite (fun g2 => ?_) (fun g2 => ?_)
    · rw [if_pos (Or.inr (Or.inl g2))]; exact jt
    · by_cases g3 : b > 4
      · rw [if_pos (Or.inr (Or.inr g3)), decide_eq_true g3]; exact jt
      · rw [if_neg (by rintro (e | e | e); exact hne e; exact g2 e; exact g3 e), decide_eq_false g3]
        refine Ev.step (fun k => oculusref11_Read.j6.eq_2 ..) (ev_neg (by simp) ?_)
        have em : mx b 0 = ((b.toNat : Nat) : Int) := by unfold mx; split <;> omega
        rw [em]
        exact rread_l1 minus (4 - b.toNat) b.toNat (by omega) x hx
theorem rread_l0 (minus : Bool) (l : List UInt8) (hl : l.length ≤ 1000) : ∀ (n i : Nat), i + n = l.length → ∀ (b : Int), -1 ≤ b ∧ b ≤ (i : Int) → ∀ x : Option Nat, okO x →
    Ev (fun k => oculusref11_Read.l0 k (tx l) minus b (i : Int) (resN x).1 (resN x).2) (resR ((rl b i x (l.drop i)).bind fun q => endO minus l q.1 q.2))
  | 0, i, hi, b, hb, x, hx => by
    rw [List.drop_eq_nil_of_le (by omega), rl, Option.bind_some]
    refine Ev.step (fun k => oculusref11_Read.l0.eq_2 ..) ?_
    rw [size_tx]
    exact ev_neg (by omega) (rread_end minus l hl b (by omega) x hx)
  | n + 1, i, hi, b, hb, x, hx => by
    have h : i < l.length := by omega
    rw [List.drop_eq_getElem_cons h, rl]
    refine Ev.step (fun k => oculusref11_Read.l0.eq_2 ..) ?_
    rw [size_tx, bt_tx l i h]
    refine ev_pos (by omega) (ev_pos (by omega) ?_)
    have hc := u8_lt l[i]
    have ew : wrap64 ((i : Int) + 1) = ((i + 1 : Nat) : Int) := w64s (n := 10000) (by omega) (by omega)
    -- no point here
    have jf : (¬ (l[i].toNat = 46 ∧ b < 0 ∧ 0 < i)) → Ev (fun k => oculusref11_Read.j3 k (tx l) minus b (i : Int) false (resN x).1 (resN x).2) (resR (((if 48 ≤ l[i].toNat ∧ l[i].toNat ≤ 57 then rl (if b ≥ 0 then b + 1 else b) (i + 1) (moreO x (l[i].toNat - 48)) (l.drop (i + 1)) else none)).bind fun q => endO minus l q.1 q.2)) := by
      intro _
      refine Ev.step (fun k => oculusref11_Read.j3.eq_2 ..) (ev_neg (by simp) (ev_bind (ev_some fun _ => digit_eq l i h) ?_))
      by_cases g : 48 ≤ l[i].toNat ∧ l[i].toNat ≤ 57
      · rw [decide_eq_true g, if_pos g]
        refine Ev.step (fun k => oculusref11_Read.j4.eq_2 ..) (ev_neg (by simp) ?_)
        have j5 : ∀ b2 : Int, -1 ≤ b2 ∧ b2 ≤ ((i + 1 : Nat) : Int) → Ev (fun k => oculusref11_Read.j5 k (tx l) minus b2 (i : Int) (resN x).1 (resN x).2) (resR ((rl b2 (i + 1) (moreO x (l[i].toNat - 48)) (l.drop (i + 1))).bind fun q => endO minus l q.1 q.2)) := by
          intro b2 hb2
          refine Ev.step (fun k => oculusref11_Read.j5.eq_2 ..) ?_
          rw [size_tx, bt_tx l i h]
          refine ev_pos (by omega) (ev_pos (by omega) ?_)
          have e1 : wrap64 ((wrap64 (l[i].toNat : Int)) - 48) = ((l[i].toNat - 48 : Nat) : Int) := by rw [w64 (x := (l[i].toNat : Int)) (by omega) (by omega), w64 (by omega) (by omega)]; omega
          rw [e1]
          refine ev_bind (more_ev x hx _ (by omega)) ?_
          rw [ew]
          exact rread_l0 minus l hl n (i + 1) (by omega) b2 hb2 _ (moreO_ok _ _)
        refine ev_ite (fun g2 => ?_) (fun g2 => ?_)
        · rw [if_pos g2, w64 (x := b + 1) (by omega) (by omega)]
          exact j5 _ (by omega)
        · rw [if_neg g2]
          exact j5 _ (by omega)
      · rw [decide_eq_false g, if_neg g]
        exact Ev.step (fun k => oculusref11_Read.j4.eq_2 ..) (ev_pos rfl (Ev.now _))
    refine ev_ite (fun g1 => ?_) (fun g1 => ?_)
    · refine ev_ite (fun g2 => ?_) (fun g2 => ?_)
      · by_cases g3 : (i : Int) > 0
        · rw [decide_eq_true g3, if_pos ⟨by omega, g2, by omega⟩]
          refine Ev.step (fun k => oculusref11_Read.j3.eq_2 ..) (ev_pos rfl ?_)
          rw [ew]
          exact rread_l0 minus l hl n (i + 1) (by omega) 0 (by omega) x hx
        · rw [decide_eq_false g3, if_neg (by omega)]
          exact jf (by omega)
      · rw [if_neg (by omega)]
        exact jf (by omega)
    · rw [if_neg (by omega)]
      exact jf (by omega)
/-! The same, of what the program reads. -/
def digL (l : List UInt8) : Bool := l.all fun c => decide (48 ≤ c.toNat ∧ c.toNat ≤ 57)
def numO (x : Option Nat) (l : List UInt8) : Option Nat := l.foldl (fun y c => moreO y (c.toNat - 48)) x
theorem numO_none : ∀ l : List UInt8, numO none l = none
  | [] => rfl
  | c :: l => numO_none l
theorem rl_digits (b0 : Int) (t : List UInt8) (hno : b0 ≥ 0 ∨ (46 : UInt8) ∉ t) : ∀ (i : Nat) (x : Option Nat), rl b0 i x t = if digL t = true then some (if b0 ≥ 0 then b0 + (t.length : Int) else b0, numO x t) else none := by
  induction t generalizing b0 with
  | nil => intro i x; rw [rl, digL, List.all_nil, if_pos rfl]; show _ = some (if b0 ≥ 0 then b0 + ((0 : Nat) : Int) else b0, x); split <;> simp
  | cons c t ih =>
    intro i x
    rw [rl]
    have hnot : ¬ (c.toNat = 46 ∧ b0 < 0 ∧ 0 < i) := by
      rintro ⟨h1, h2, _⟩
      rcases hno with h | h
      · omega
      · exact h (by rw [List.mem_cons]; left; exact (u8_inj (by rw [h1]; rfl)).symm)
    rw [if_neg hnot, digL, List.all_cons]
    by_cases g : 48 ≤ c.toNat ∧ c.toNat ≤ 57
    · rw [if_pos g, decide_eq_true g, Bool.true_and]
      have := ih (if b0 ≥ 0 then b0 + 1 else b0) (by
        rcases hno with h | h
        · left; rw [if_pos h]; omega
        · right; exact fun k => h (List.mem_cons_of_mem _ k)) (i + 1) (moreO x (c.toNat - 48))
      rw [this]
      show (if digL t = true then _ else _) = (if digL t = true then _ else _)
      cases digL t with
      | false => rfl
      | true =>
        rw [if_pos rfl, if_pos rfl]
        congr 2
        by_cases h : b0 ≥ 0
        · rw [if_pos h, if_pos h, if_pos (by omega), List.length_cons]; omega
        · rw [if_neg h, if_neg h, if_neg h]
    · rw [if_neg g, decide_eq_false g, Bool.false_and, if_neg (by simp)]
theorem rl_app (w : List UInt8) (hw : (46 : UInt8) ∉ w) (t : List UInt8) : ∀ (i : Nat) (x : Option Nat), 0 < i + w.length → rl (-1) i x (w ++ 46 :: t) = if digL w = true then rl 0 (i + w.length + 1) (numO x w) t else none := by
  induction w with
  | nil =>
    intro i x hi
    rw [List.nil_append, rl, if_pos ⟨rfl, by omega, by simpa using hi⟩, digL, List.all_nil, if_pos rfl]
    rfl
  | cons c w ih =>
    intro i x hi
    rw [List.cons_append, rl]
    have hnot : ¬ (c.toNat = 46 ∧ (-1 : Int) < 0 ∧ 0 < i) := fun h => hw (by rw [List.mem_cons]; left; exact (u8_inj (by rw [h.1]; rfl)).symm)
    rw [if_neg hnot, digL, List.all_cons]
    by_cases g : 48 ≤ c.toNat ∧ c.toNat ≤ 57
    · rw [if_pos g, decide_eq_true g, Bool.true_and, if_neg (show ¬ (-1 : Int) ≥ 0 by omega), ih (fun k => hw (List.mem_cons_of_mem _ k)) (i + 1) _ (by omega)]
      show (if digL w = true then rl 0 (i + 1 + w.length + 1) _ t else none) = (if digL w = true then rl 0 (i + (w.length + 1) + 1) _ t else none)
      rw [show i + 1 + w.length + 1 = i + (w.length + 1) + 1 by omega]
      rfl
    · rw [if_neg g, decide_eq_false g, Bool.false_and, if_neg (by simp)]
def valL (a : Nat) (l : List UInt8) : Nat := l.foldl (fun y c => y * 10 + (c.toNat - 48)) a
theorem valL_le : ∀ (l : List UInt8) (a : Nat), a ≤ valL a l
  | [], a => Nat.le_refl _
  | c :: l, a => Nat.le_trans (by omega) (valL_le l (a * 10 + (c.toNat - 48)))
theorem numO_val : ∀ (l : List UInt8) (a : Nat), a ≤ 9223372036854775807 → numO (some a) l = if valL a l ≤ 9223372036854775807 then some (valL a l) else none
  | [], a, h => by rw [if_pos (show valL a [] ≤ _ from h)]; rfl
  | c :: l, a, h => by
    show numO (moreO (some a) (c.toNat - 48)) l = if valL (a * 10 + (c.toNat - 48)) l ≤ 9223372036854775807 then some (valL (a * 10 + (c.toNat - 48)) l) else none
    rw [moreO, Option.bind_some]
    by_cases g : a * 10 + (c.toNat - 48) ≤ 9223372036854775807
    · rw [if_pos g]; exact numO_val l _ g
    · have := valL_le l (a * 10 + (c.toNat - 48))
      rw [if_neg g, if_neg (by omega), numO_none]
theorem numD_val : ∀ (l : List UInt8) (a : Nat), numD a l = if digL l = true then numO (some a) l else none
  | [], a => rfl
  | c :: l, a => by
    rw [numD, digL, List.all_cons]
    by_cases g : 48 ≤ c.toNat ∧ c.toNat ≤ 57
    · rw [if_pos g, decide_eq_true g, Bool.true_and]
      show _ = if digL l = true then numO (moreO (some a) (c.toNat - 48)) l else none
      rw [moreO, Option.bind_some]
      by_cases g2 : a * 10 + (c.toNat - 48) ≤ 9223372036854775807
      · rw [if_pos g2, if_pos g2]; exact numD_val l _
      · rw [if_neg g2, if_neg g2, numO_none]; split <;> rfl
    · rw [if_neg g, decide_eq_false g, Bool.false_and, if_neg (by simp)]
theorem valL_add : ∀ (l : List UInt8) (a : Nat), valL a l = a * 10 ^ l.length + valL 0 l
  | [], a => by simp [valL]
  | c :: l, a => by
    show valL (a * 10 + (c.toNat - 48)) l = a * 10 ^ (l.length + 1) + valL (0 * 10 + (c.toNat - 48)) l
    rw [valL_add l (a * 10 + (c.toNat - 48)), valL_add l (0 * 10 + (c.toNat - 48)), Nat.pow_succ, Nat.zero_mul, Nat.zero_add, Nat.add_mul, Nat.mul_assoc, Nat.mul_comm 10 (10 ^ l.length), Nat.add_assoc]
theorem valL_app (w t : List UInt8) (a : Nat) : valL a (w ++ t) = valL (valL a w) t := List.foldl_append ..
theorem numO_app (w t : List UInt8) (x : Option Nat) : numO x (w ++ t) = numO (numO x w) t := List.foldl_append ..
theorem zerosO_num : ∀ (n : Nat) (x : Option Nat), zerosO n x = numO x (List.replicate n 48)
  | 0, _ => rfl
  | n + 1, x => zerosO_num n (moreO x 0)
theorem valL_zeros : ∀ (n a : Nat), valL a (List.replicate n 48) = a * 10 ^ n
  | 0, a => by simp [valL]
  | n + 1, a => by
    show valL (a * 10 + 0) (List.replicate n 48) = _
    rw [valL_zeros n, Nat.pow_succ, Nat.add_zero, Nat.mul_assoc, Nat.mul_comm 10]
theorem valL_lt (l : List UInt8) (h : digL l = true) : valL 0 l < 10 ^ l.length := by
  induction l with
  | nil => simp [valL]
  | cons c l ih =>
    rw [digL, List.all_cons, Bool.and_eq_true, decide_eq_true_eq] at h
    have := ih h.2
    show valL (0 * 10 + (c.toNat - 48)) l < 10 ^ (l.length + 1)
    rw [valL_add, Nat.pow_succ]
    have h2 : (0 * 10 + (c.toNat - 48)) * 10 ^ l.length ≤ 9 * 10 ^ l.length := Nat.mul_le_mul_right _ (by omega)
    omega
theorem endO_val (minus : Bool) (l w t : List UInt8) (hl : l ≠ []) (q : Nat) (hq : q ≤ 4) (b : Int) (hb : b ≠ 0) (hb4 : b ≤ 4) (hbq : b.toNat = q) (hqt : t.length = q) :
    endO minus l b (numO (some 0) (w ++ t)) = putD minus (valL 0 w) (valL 0 t * 10 ^ (4 - q)) := by
  unfold endO putD
  rw [if_neg (by rintro (e | e | e); exact hl e; exact hb e; omega), hbq, zerosO_num, ← numO_app, numO_val _ 0 (by omega), valL_app, valL_app, valL_zeros, valL_add t, hqt]
  have e : (valL 0 w * 10 ^ q + valL 0 t) * 10 ^ (4 - q) = valL 0 w * 10000 + valL 0 t * 10 ^ (4 - q) := by
    rw [Nat.add_mul, Nat.mul_assoc, ← Nat.pow_add, show q + (4 - q) = 4 by omega]
  rw [e]
  split <;> rfl
theorem uns_eq (minus : Bool) (l : List UInt8) : ((rl (-1) 0 (some 0) l).bind fun q => endO minus l q.1 q.2) = unsD minus l := by
  unfold unsD
  have hno := cutC_no 46 l
  have happ := cutC_app 46 l
  rw [numD_val]
  cases h3 : (cutL 46 l).2.2 with
  | false =>
    obtain ⟨e1, e2⟩ := hno.2 h3
    rw [e1]
    have hw : (46 : UInt8) ∉ l := by rw [← e1]; exact hno.1
    rw [rl_digits (-1) l (Or.inr hw) 0 (some 0)]
    cases hd : digL l with
    | false => rfl
    | true =>
      rw [if_pos rfl, if_pos rfl, Option.bind_some, if_neg (show ¬ (-1 : Int) ≥ 0 by omega)]
      by_cases hl : l = []
      · rw [hl]; rfl
      · have := endO_val minus l l [] hl 0 (by omega) (-1) (by omega) (by omega) rfl rfl
        rw [List.append_nil] at this
        rw [this, numO_val l 0 (by omega)]
        by_cases g : valL 0 l ≤ 9223372036854775807
        · rw [if_pos g]
          show _ = if l = [] then none else if false = true then _ else _
          rw [if_neg hl, if_neg (by simp)]
          simp [valL]
        · rw [if_neg g]
          unfold putD
          rw [if_neg (Nat.not_le.2 (Nat.lt_of_lt_of_le (Nat.not_le.1 g) (Nat.le_trans (Nat.le_mul_of_pos_right _ (by decide)) (Nat.le_add_right _ _))))]
  | true =>
    have ea := happ h3
    have hw := hno.1
    generalize (cutL 46 l).1 = w at *
    generalize (cutL 46 l).2.1 = t at *
    have hl : l ≠ [] := by rw [ea]; simp
    by_cases hw0 : w = []
    · rw [ea, hw0, List.nil_append, rl, if_neg (by omega), if_neg (by decide)]
      rfl
    · have hpos : 0 < 0 + w.length := by have := List.length_pos_iff.2 hw0; omega
      have e := rl_app w hw t 0 (some 0) hpos
      rw [← ea] at e
      rw [e]
      cases hd : digL w with
      | false => rfl
      | true =>
        rw [if_pos rfl, if_pos rfl, rl_digits 0 t (Or.inl (by omega)), numD_val]
        cases hdt : digL t with
        | false =>
          rw [if_neg (by simp), if_neg (by simp), Option.bind_none]
          cases numO (some 0) w with
          | none => rfl
          | some x => show _ = if w = [] then none else if true = true then none else _; rw [if_neg hw0, if_pos rfl]
        | true =>
          rw [if_pos rfl, if_pos rfl, Option.bind_some, if_pos (show (0 : Int) ≥ 0 by omega), Int.zero_add, ← numO_app]
          by_cases ht : t = [] ∨ t.length > 4
          · have hend : endO minus l (t.length : Int) (numO (some 0) (w ++ t)) = none := by
              unfold endO
              rw [if_pos]
              rcases ht with h | h
              · right; left; rw [h]; rfl
              · right; right; omega
            rw [hend]
            cases numO (some 0) w with
            | none => rfl
            | some x =>
              show _ = if w = [] then none else if true = true then _ else _
              rw [if_neg hw0, if_pos rfl]
              cases numO (some 0) t with
              | none => rfl
              | some y => show none = if t = [] ∨ t.length > 4 then none else _; rw [if_pos ht]
          · have ht1 : t ≠ [] := fun h => ht (Or.inl h)
            have ht2 : t.length ≤ 4 := by have : ¬ t.length > 4 := fun h => ht (Or.inr h); omega
            have htp := List.length_pos_iff.2 ht1
            rw [endO_val minus l w t hl t.length ht2 (t.length : Int) (by omega) (by omega) (by omega) rfl, numO_val w 0 (by omega), numO_val t 0 (by omega)]
            have hlt := valL_lt t hdt
            have h10 : 10 ^ t.length ≤ 10 ^ 4 := Nat.pow_le_pow_right (by omega) ht2
            rw [if_pos (show valL 0 t ≤ 9223372036854775807 by omega)]
            by_cases g : valL 0 w ≤ 9223372036854775807
            · rw [if_pos g]
              show _ = if w = [] then none else if true = true then (if t = [] ∨ t.length > 4 then none else _) else _
              rw [if_neg hw0, if_pos rfl, if_neg ht]
            · rw [if_neg g]
              unfold putD
              rw [if_neg (Nat.not_le.2 (Nat.lt_of_lt_of_le (Nat.not_le.1 g) (Nat.le_trans (Nat.le_mul_of_pos_right _ (by decide)) (Nat.le_add_right _ _))))]
theorem rread_ev (l : List UInt8) (hl : l.length ≤ 1000) : Ev (fun k => oculusref11_Read.f k (tx l)) (resR (dRead l)) := by
  unfold oculusref11_Read.f dRead
  rw [size_tx]
  refine ev_ite (fun g => ?_) (fun g => ?_)
  · rw [if_pos (by omega)]; exact Ev.now _
  · rw [if_neg (show ¬ l.length > 40 by omega)]
    have j1 : ∀ (minus : Bool) (m : List UInt8), m.length ≤ 1000 → Ev (fun k => oculusref11_Read.j1 k (tx m) minus) (resR (unsD minus m)) := by
      intro minus m hm
      refine Ev.step (fun k => oculusref11_Read.j1.eq_2 ..) ?_
      have := rread_l0 minus m hm m.length 0 (by omega) (-1) (by omega) (some 0) (fun a h => by obtain rfl := Option.some.inj h; omega)
      rw [List.drop_zero, uns_eq] at this
      exact this
    cases l with
    | nil =>
      refine ev_neg (by simp) (Ev.step (fun k => oculusref11_Read.j0.eq_2 ..) (ev_neg (by simp) ?_))
      exact j1 false [] (by simp)
    | cons c l =>
      refine ev_pos (by rw [List.length_cons]; omega) (ev_pos (by rw [List.length_cons]; omega) ?_)
      rw [bt_tx0]
      have e45 : ((c.toNat : Int) == 45) = (c == 45) := by
        rw [Bool.eq_iff_iff, beq_iff_eq, beq_iff_eq]
        exact ⟨fun h => u8_inj (by have : c.toNat = 45 := by omega
                                   rw [this]; rfl), fun h => by rw [h]; rfl⟩
      rw [e45]
      show Ev _ (resR (unsD (c == 45) (if (c == 45) = true then _ else _)))
      cases hc : (c == 45) with
      | false =>
        rw [if_neg (by simp)]
        exact Ev.step (fun k => oculusref11_Read.j0.eq_2 ..) (ev_neg (by simp) (j1 false _ (by omega)))
      | true =>
        rw [if_pos rfl]
        refine Ev.step (fun k => oculusref11_Read.j0.eq_2 ..) (ev_pos rfl ?_)
        rw [size_tx]
        refine ev_pos (by rw [List.length_cons]; omega) ?_
        have := ext_drop (c :: l) 1
        rw [this]
        exact j1 true _ (by rw [List.length_drop]; omega)
theorem dRead_may (l : List UInt8) (v : Int) (h : dRead l = some v) : v ≠ -9223372036854775808 ∧ -9223372036854775807 ≤ v := by
  have hs : ∀ (minus : Bool) (x y : Nat) (v : Int), putD minus x y = some v → v ≠ -9223372036854775808 ∧ -9223372036854775807 ≤ v := by
    intro minus x y v h
    unfold putD signed at h
    split at h
    · obtain rfl := Option.some.inj h
      split <;> omega
    · cases h
  have hu : ∀ (minus : Bool) (m : List UInt8) (v : Int), unsD minus m = some v → v ≠ -9223372036854775808 ∧ -9223372036854775807 ≤ v := by
    intro minus m v h
    unfold unsD at h
    generalize (cutL 46 m).1 = w at *
    generalize (cutL 46 m).2.1 = t at *
    cases hw : numD 0 w with
    | none => rw [hw] at h; cases h
    | some x =>
      rw [hw] at h
      replace h : (if w = [] then none else if (cutL 46 m).2.2 = true then (match numD 0 t with | none => none | some y => if t = [] ∨ t.length > 4 then none else putD minus x (y * 10 ^ (4 - t.length))) else putD minus x 0) = some v := h
      by_cases g : w = []
      · rw [if_pos g] at h; cases h
      · rw [if_neg g] at h
        by_cases g2 : (cutL 46 m).2.2 = true
        · rw [if_pos g2] at h
          cases ht : numD 0 t with
          | none => rw [ht] at h; cases h
          | some y =>
            rw [ht] at h
            replace h : (if t = [] ∨ t.length > 4 then none else putD minus x (y * 10 ^ (4 - t.length))) = some v := h
            by_cases g3 : t = [] ∨ t.length > 4
            · rw [if_pos g3] at h; cases h
            · rw [if_neg g3] at h; exact hs _ _ _ _ h
        · rw [if_neg g2] at h; exact hs _ _ _ _ h
  unfold dRead at h
  by_cases g : l.length > 40
  · rw [if_pos g] at h; cases h
  · rw [if_neg g] at h; exact hu _ _ _ h
end Go.Proofs.Ytfcpkehldmehjaa.X
/- Values, what is looked for; that the statements of crit live. -/
set_option linter.unusedVariables false
set_option linter.unusedSimpArgs false
namespace Go.Proofs.Ytfcpkehldmehjaa.X
open Go.RowKit Go.Proofs.YtfcpkehldmehjaaW.PrintWords Go.Proofs.YtfcpkehldmehjaaW.PrintLast Go.Proofs.YtfcpkehldmehjaaW.PrintMore
theorem nil_toList : ((⟨#[]⟩ : ByteArray).toList == ([] : List UInt8)) = true := by rw [toList_by]; rfl
theorem str_eq (l : List UInt8) : value_Str.f (tx l) = some (if l.length ≤ 256 then (2, 0, tx l) else (4, 2, (⟨#[]⟩ : ByteArray))) := by
  unfold value_Str.f value_made.f value_May.f
  rw [if_neg (by omega), if_neg (by omega), if_pos rfl, if_pos rfl, Option.bind_some, size_tx]
  by_cases h : l.length ≤ 256
  · rw [if_pos h, decide_eq_true (by omega), if_pos rfl]; rfl
  · rw [if_neg h, decide_eq_false (by omega), if_neg (by simp)]; rfl
theorem num_eq (x : Int) (h : x ≠ -9223372036854775808) : value_Num.f x = some (1, x, (⟨#[]⟩ : ByteArray)) := by
  unfold value_Num.f value_made.f value_May.f dec_May.f
  rw [if_neg (by omega), if_pos rfl, Option.bind_some, if_pos (bne_iff_ne.2 h), Option.bind_some, nil_toList, if_pos rfl]; rfl
theorem bad_eq (c : Int) (h : 1 ≤ c ∧ c ≤ 7) : value_Bad.f c = some (4, c, (⟨#[]⟩ : ByteArray)) := by
  unfold value_Bad.f value_made.f value_May.f
  rw [if_neg (by omega), if_neg (by omega), if_neg (by omega), if_neg (by omega), if_pos rfl, if_pos h.1, if_pos h.2, Option.bind_some, nil_toList, if_pos rfl]; rfl
theorem alive17_ev : Ev (fun k => oculuslaw17_alive.f k) true := by
  unfold oculuslaw17_alive.f
  refine ev_bind (ev_some fun _ => str_eq [62, 50]) ?_
  rw [if_pos (by decide)]
  have hd := dread_ev [50] (by decide)
  rw [show dRead [50] = some 20000 by decide +kernel] at hd
  have hsign : crit_sign.f (tx [62, 50]) = some (11, 1) := by kernel_rfl
  have hof : Ev (fun k => crit_Of.f k 2 0 (tx [62, 50])) (11, 1, 20000, (⟨#[]⟩ : ByteArray), true) := by
    unfold crit_Of.f
    refine ev_neg (by omega) (ev_neg (by omega) (ev_pos rfl (ev_bind (ev_some fun _ => hsign) (ev_pos (by decide) (ev_pos (by decide) ?_)))))
    have e : (tx [62, 50]).extract ((1 : Int)).toNat (tx [62, 50]).size = tx [50] := by
      have := ext_tail (tx [62, 50]) 1
      rw [by_tx] at this
      exact this
    show Ev (fun k => (crit_read.f k ((tx [62, 50]).extract ((1 : Int)).toNat (tx [62, 50]).size)).bind fun bt108 => some (11, bt108.1, bt108.2.1, bt108.2.2, true)) _
    rw [e]
    refine ev_bind (a := (1, 20000, (⟨#[]⟩ : ByteArray))) ?_ (Ev.now _)
    unfold crit_read.f
    exact ev_bind hd (ev_pos rfl (ev_bind (ev_some fun _ => num_eq 20000 (by omega)) (Ev.now _)))
  refine ev_bind hof ?_
  refine ev_bind (ev_some fun _ => bad_eq 1 (by omega)) ?_
  have hof2 : Ev (fun k => crit_Of.f k 4 1 (⟨#[]⟩ : ByteArray)) (0, 0, 0, (⟨#[]⟩ : ByteArray), false) := by
    unfold crit_Of.f
    exact ev_pos rfl (Ev.now _)
  refine ev_bind hof2 (ev_pos rfl (ev_neg (by simp) (ev_pos rfl ?_)))
  refine ev_bind (ev_some fun _ => num_eq 20000 (by omega)) (ev_pos (by simp) ?_)
  refine ev_bind (ev_some fun _ => num_eq 20001 (by omega)) ?_
  have hh1 : Ev (fun k => crit_Hits.f k 11 1 20000 (⟨#[]⟩ : ByteArray) 1 20001 (⟨#[]⟩ : ByteArray)) true := by
    unfold crit_Hits.f
    refine ev_neg (by omega) (ev_neg (by omega) ?_)
    refine Ev.step (fun k => crit_Hits.j0.eq_2 ..) (ev_pos rfl (ev_neg (by omega) ?_))
    refine Ev.step (fun k => crit_Hits.j1.eq_2 ..) (ev_neg (by simp) ?_)
    refine ev_bind (a := (1 : Int)) ?_ ?_
    · unfold value_Compare.f
      refine ev_neg (by omega) ?_
      refine Ev.step (fun k => value_Compare.j0.eq_2 ..) (ev_neg (by decide) ?_)
      refine ev_bind (a := (1, 20001, (⟨#[]⟩ : ByteArray))) (ev_some fun _ => rfl) (ev_bind (a := (1, 20000, (⟨#[]⟩ : ByteArray))) (ev_some fun _ => rfl) ?_)
      refine Ev.step (fun k => value_Compare.j1.eq_2 ..) ?_
      exact ev_pos rfl (ev_neg (by decide) (ev_neg (by decide) (ev_pos (by decide) (Ev.now _))))
    · refine Ev.step (fun k => crit_Hits.j2.eq_2 ..) ?_
      simp only [Int.reduceEq, if_false, if_true]
      exact Ev.now _
  refine ev_bind hh1 (ev_pos rfl ?_)
  refine ev_bind (ev_some fun _ => str_eq [57]) ?_
  rw [if_pos (by decide)]
  have hh2 : Ev (fun k => crit_Hits.f k 11 1 20000 (⟨#[]⟩ : ByteArray) 2 0 (tx [57])) false := by
    unfold crit_Hits.f
    refine ev_neg (by omega) (ev_neg (by omega) ?_)
    refine Ev.step (fun k => crit_Hits.j0.eq_2 ..) (ev_neg (by omega) (Ev.now _))
  refine ev_bind hh2 (ev_neg (by simp) ?_)
  have l1 := like_ev [97, 42, 99, 63] [97, 98, 99, 98, 99, 100] (by decide) (by decide)
  rw [show gl [97, 42, 99, 63] [97, 98, 99, 98, 99, 100] = true by simp [gl, okC]] at l1
  have l2 := like_ev [97, 63] [97] (by decide) (by decide)
  rw [show gl [97, 63] [97] = false by simp [gl, okC]] at l2
  exact ev_bind l1 (ev_pos rfl (ev_bind l2 (Ev.now _)))
end Go.Proofs.Ytfcpkehldmehjaa.X
/- What is looked for, and whether a value is it: the program's answers and the reference's are the same. -/
set_option linter.unusedVariables false
set_option linter.unusedSimpArgs false
namespace Go.Proofs.Ytfcpkehldmehjaa.X
open Go.RowKit Go.Proofs.YtfcpkehldmehjaaW.PrintWords Go.Proofs.YtfcpkehldmehjaaW.PrintLast Go.Proofs.YtfcpkehldmehjaaW.PrintMore
abbrev Val : Type := Int × Int × ByteArray
def strV (l : List UInt8) : Val := if l.length ≤ 256 then (2, 0, tx l) else (4, 2, (⟨#[]⟩ : ByteArray))
def tTrue : List UInt8 := [84, 82, 85, 69]
def tFalse : List UInt8 := [70, 65, 76, 83, 69]
/-- The value that a text without a decimal means. -/
def wordV (l : List UInt8) : Val := if l = tTrue then (3, 1, (⟨#[]⟩ : ByteArray)) else if l = tFalse then (3, 0, (⟨#[]⟩ : ByteArray)) else strV l
def rdV (l : List UInt8) : Val := match dRead l with
  | some x => (1, x, (⟨#[]⟩ : ByteArray))
  | none => wordV l
theorem str_val (l : List UInt8) : value_Str.f (tx l) = some (strV l) := by rw [str_eq]; rfl
theorem bad2 : value_Bad.f 2 = some (4, 2, (⟨#[]⟩ : ByteArray)) := bad_eq 2 (by omega)
theorem truth_ev (l : List UInt8) : Ev (fun k => value_AsTruth.f k 2 0 (tx l)) (if l = tTrue then (3, 1, (⟨#[]⟩ : ByteArray)) else if l = tFalse then (3, 0, (⟨#[]⟩ : ByteArray)) else (4, 2, (⟨#[]⟩ : ByteArray))) := by
  unfold value_AsTruth.f
  refine ev_neg (by omega) (ev_neg (by omega) (ev_pos rfl ?_))
  rw [toList_by, by_tx]
  by_cases h : l = tTrue
  · rw [if_pos h]
    refine ev_pos h (Ev.step (fun k => value_AsTruth.j0.eq_2 ..) (ev_pos rfl ?_))
    rw [toList_by, by_tx, h]
    exact Ev.now _
  · rw [if_neg h]
    refine ev_neg h ?_
    by_cases h2 : l = tFalse
    · rw [if_pos h2]
      have e : (l == ([70, 65, 76, 83, 69] : List UInt8)) = true := beq_iff_eq.2 h2
      rw [e]
      refine Ev.step (fun k => value_AsTruth.j0.eq_2 ..) (ev_pos rfl ?_)
      rw [toList_by, by_tx, h2]
      exact Ev.now _
    · rw [if_neg h2]
      have e : (l == ([70, 65, 76, 83, 69] : List UInt8)) = false := beq_eq_false_iff_ne.2 h2
      rw [e]
      exact Ev.step (fun k => value_AsTruth.j0.eq_2 ..) (ev_neg (by simp) (ev_bind (ev_some fun _ => bad2) (Ev.now _)))
theorem cread_ev (l : List UInt8) (hl : l.length ≤ 1000) : Ev (fun k => crit_read.f k (tx l)) (rdV l) := by
  unfold crit_read.f
  refine ev_bind (dread_ev l hl) ?_
  unfold rdV
  cases hd : dRead l with
  | some x =>
    refine ev_pos rfl ?_
    exact ev_bind (ev_some fun _ => num_eq x (dRead_may l x hd).1) (Ev.now _)
  | none =>
    refine ev_neg (by simp [resR]) (ev_bind (ev_some fun _ => str_val l) ?_)
    show Ev _ (wordV l)
    by_cases h : l.length ≤ 256
    · have es : strV l = (2, 0, tx l) := if_pos h
      rw [es]
      refine ev_bind (truth_ev l) ?_
      unfold wordV
      by_cases h1 : l = tTrue
      · rw [if_pos h1, if_pos h1]; exact ev_pos rfl (Ev.now _)
      · rw [if_neg h1, if_neg h1]
        by_cases h2 : l = tFalse
        · rw [if_pos h2, if_pos h2]; exact ev_pos rfl (Ev.now _)
        · rw [if_neg h2, if_neg h2]
          exact ev_neg (by decide) (ev_bind (ev_some fun _ => str_val l) (Ev.now _))
    · have es : strV l = (4, 2, (⟨#[]⟩ : ByteArray)) := if_neg h
      have h1 : l ≠ tTrue := fun e => h (by rw [e]; decide)
      have h2 : l ≠ tFalse := fun e => h (by rw [e]; decide)
      rw [es]
      have et : Ev (fun k => value_AsTruth.f k 4 2 (⟨#[]⟩ : ByteArray)) (4, 2, (⟨#[]⟩ : ByteArray)) := by
        unfold value_AsTruth.f
        exact ev_neg (by omega) (ev_neg (by omega) (ev_neg (by omega) (Ev.now _)))
      refine ev_bind et ?_
      unfold wordV
      rw [if_neg h1, if_neg h2]
      exact ev_neg (by decide) (ev_bind (ev_some fun _ => str_val l) (Ev.now _))
theorem rstr_val (l : List UInt8) : oculusref12_Str.f (tx l) = some (strV l) := by
  unfold oculusref12_Str.f strV
  rw [size_tx]
  by_cases h : l.length ≤ 256
  · rw [if_neg (by omega), if_pos h]
  · rw [if_pos (by omega), if_neg h]; rfl
theorem rread17_ev (l : List UInt8) (hl : l.length ≤ 1000) : Ev (fun k => oculusref17_read.f k (tx l)) (rdV l) := by
  unfold oculusref17_read.f
  refine ev_bind (rread_ev l hl) ?_
  unfold rdV
  cases hd : dRead l with
  | some x =>
    refine ev_pos rfl ?_
    have e : oculusref12_Num.f x = some (1, x, (⟨#[]⟩ : ByteArray)) := by
      unfold oculusref12_Num.f oculusref08_May.f
      rw [decide_eq_true (by have := (dRead_may l x hd).2; omega), Option.bind_some, if_pos rfl]
    exact ev_bind (ev_some fun _ => e) (Ev.now _)
  | none =>
    refine ev_neg (by simp [resR]) ?_
    show Ev _ (wordV l)
    rw [toList_by, by_tx]
    unfold wordV
    by_cases h1 : l = tTrue
    · rw [if_pos h1]
      refine ev_pos h1 (Ev.step (fun k => oculusref17_read.j0.eq_2 ..) (ev_pos rfl ?_))
      rw [toList_by, by_tx, h1]
      exact Ev.now _
    · rw [if_neg h1]
      refine ev_neg h1 ?_
      by_cases h2 : l = tFalse
      · rw [if_pos h2]
        have e : (l == ([70, 65, 76, 83, 69] : List UInt8)) = true := beq_iff_eq.2 h2
        rw [e]
        refine Ev.step (fun k => oculusref17_read.j0.eq_2 ..) (ev_pos rfl ?_)
        rw [toList_by, by_tx, h2]
        exact Ev.now _
      · rw [if_neg h2]
        have e : (l == ([70, 65, 76, 83, 69] : List UInt8)) = false := beq_eq_false_iff_ne.2 h2
        rw [e]
        exact Ev.step (fun k => oculusref17_read.j0.eq_2 ..) (ev_neg (by simp) (ev_bind (ev_some fun _ => rstr_val l) (Ev.now _)))
/-! The operator. -/
def sgL (l : List UInt8) : Int × Nat := if l.take 2 = [60, 62] then (8, 2) else if l.take 2 = [60, 61] then (10, 2) else if l.take 2 = [62, 61] then (12, 2) else if l.take 1 = [60] then (9, 1) else if l.take 1 = [62] then (11, 1) else if l.take 1 = [61] then (7, 1) else (7, 0)
theorem take_mn (l : List UInt8) (n : Nat) : (((tx l).extract 0 (mn (n : Int) (l.length : Int)).toNat)).toList = l.take n := by
  rw [toList_by, by_head, by_tx]
  have : mn (n : Int) (l.length : Int) = ((min n l.length : Nat) : Int) := by unfold mn; split <;> omega
  rw [this, Int.toNat_natCast]
  by_cases h : n ≤ l.length
  · rw [Nat.min_eq_left h]
  · rw [Nat.min_eq_right (by omega), List.take_of_length_le (Nat.le_refl _), List.take_of_length_le (by omega)]
theorem sign_eq (l : List UInt8) : crit_sign.f (tx l) = some ((sgL l).1, ((sgL l).2 : Int)) := by
  unfold crit_sign.f sgL
  have t2 := take_mn l 2
  have t1 := take_mn l 1
  have e2 : ((2 : Nat) : Int) = 2 := rfl
  have e1 : ((1 : Nat) : Int) = 1 := rfl
  rw [e2] at t2
  rw [e1] at t1
  rw [size_tx, t2, t1]
  have b2 : 0 ≤ mn 2 (l.length : Int) ∧ mn 2 (l.length : Int) ≤ (l.length : Int) := by unfold mn; split <;> omega
  have b1 : 0 ≤ mn 1 (l.length : Int) ∧ mn 1 (l.length : Int) ≤ (l.length : Int) := by unfold mn; split <;> omega
  rw [if_pos b2.1, if_pos b2.2]
  by_cases g : l.take 2 = [60, 62]
  · rw [if_pos g, if_pos g]; rfl
  rw [if_neg g, if_neg g]
  by_cases g : l.take 2 = [60, 61]
  · rw [if_pos g, if_pos g]; rfl
  rw [if_neg g, if_neg g]
  by_cases g : l.take 2 = [62, 61]
  · rw [if_pos g, if_pos g]; rfl
  rw [if_neg g, if_neg g, if_pos b1.1, if_pos b1.2]
  by_cases g : l.take 1 = [60]
  · rw [if_pos g, if_pos g]; rfl
  rw [if_neg g, if_neg g]
  by_cases g : l.take 1 = [62]
  · rw [if_pos g, if_pos g]; rfl
  rw [if_neg g, if_neg g]
  by_cases g : l.take 1 = [61]
  · rw [if_pos g, if_pos g]; rfl
  rw [if_neg g, if_neg g]; rfl
theorem sgL_le (l : List UInt8) : (sgL l).2 ≤ l.length ∧ 7 ≤ (sgL l).1 ∧ (sgL l).1 ≤ 12 := by
  unfold sgL
  by_cases g : l.take 2 = [60, 62]
  · rw [if_pos g]
    have := congrArg List.length g
    rw [List.length_take] at this
    simp at this
    exact ⟨by simp; omega, by simp, by simp⟩
  rw [if_neg g]
  by_cases g : l.take 2 = [60, 61]
  · rw [if_pos g]
    have := congrArg List.length g
    rw [List.length_take] at this
    simp at this
    exact ⟨by simp; omega, by simp, by simp⟩
  rw [if_neg g]
  by_cases g : l.take 2 = [62, 61]
  · rw [if_pos g]
    have := congrArg List.length g
    rw [List.length_take] at this
    simp at this
    exact ⟨by simp; omega, by simp, by simp⟩
  rw [if_neg g]
  by_cases g : l.take 1 = [60]
  · rw [if_pos g]
    have := congrArg List.length g
    rw [List.length_take] at this
    simp at this
    exact ⟨by simp; omega, by simp, by simp⟩
  rw [if_neg g]
  by_cases g : l.take 1 = [62]
  · rw [if_pos g]
    have := congrArg List.length g
    rw [List.length_take] at this
    simp at this
    exact ⟨by simp; omega, by simp, by simp⟩
  rw [if_neg g]
  by_cases g : l.take 1 = [61]
  · rw [if_pos g]
    have := congrArg List.length g
    rw [List.length_take] at this
    simp at this
    exact ⟨by simp; omega, by simp, by simp⟩
  rw [if_neg g]
  exact ⟨by simp, by simp, by simp⟩
def ofV (l : List UInt8) : Int × Val := ((sgL l).1, rdV (l.drop (sgL l).2))
def WS : List ByteArray := [(⟨#[60, 62]⟩ : ByteArray), (⟨#[60, 61]⟩ : ByteArray), (⟨#[62, 61]⟩ : ByteArray), (⟨#[60]⟩ : ByteArray), (⟨#[62]⟩ : ByteArray), (⟨#[61]⟩ : ByteArray)]
def OPS : List Int := [8, 10, 12, 9, 11, 7]
theorem of_step (l : List UInt8) (hl : l.length ≤ 1000) (i : Nat) (hi : i < 6) (w : List UInt8) (o : Int) (hw : rdOf ByteArray.empty WS (i : Int) = tx w) (ho : rd OPS (i : Int) = o) (R : Int × Val)
    (hn : Ev (fun k => oculusref17_Of.l0 k (tx l) WS OPS ((i + 1 : Nat) : Int)) R) : Ev (fun k => oculusref17_Of.l0 k (tx l) WS OPS (i : Int)) (if l.take w.length = w then (o, rdV (l.drop w.length)) else R) := by
  refine Ev.step (fun k => oculusref17_Of.l0.eq_2 ..) (ev_pos (by omega) (ev_pos (by omega) (ev_pos (by show (i : Int) < ((6 : Nat) : Int); omega) ?_)))
  rw [hw, ho, size_tx, size_tx, w64s (n := 100) (by omega) (by omega)]
  refine ev_ite (fun g => ?_) (fun g => ?_)
  · refine ev_pos (by omega) (ev_pos (by omega) ?_)
    have e : ((tx l).extract 0 ((w.length : Nat) : Int).toNat).toList = l.take w.length := by rw [toList_by, by_head, by_tx]; rfl
    rw [e, toList_by, by_tx]
    refine ev_ite (fun g2 => ?_) (fun g2 => ?_)
    · rw [if_pos g2]
      refine ev_pos (by show (i : Int) < ((6 : Nat) : Int); omega) ?_
      have ed := ext_drop l w.length
      have et : (((w.length : Nat) : Int)).toNat = w.length := rfl
      rw [et, ed]
      exact ev_bind (rread17_ev _ (by rw [List.length_drop]; omega)) (Ev.now _)
    · rw [if_neg g2]; exact hn
  · rw [if_neg (fun e => g (by have := congrArg List.length e; rw [List.length_take] at this; omega))]
    exact hn
theorem rof_ev (l : List UInt8) (hl : l.length ≤ 1000) : Ev (fun k => oculusref17_Of.l0 k (tx l) WS OPS 0) (ofV l) := by
  have h6 : Ev (fun k => oculusref17_Of.l0 k (tx l) WS OPS ((6 : Nat) : Int)) (7, rdV l) := Ev.step (fun k => oculusref17_Of.l0.eq_2 ..) (ev_neg (by omega) (ev_bind (rread17_ev l hl) (Ev.now _)))
  have h5 := of_step l hl 5 (by omega) [61] 7 rfl rfl _ h6
  have h4 := of_step l hl 4 (by omega) [62] 11 rfl rfl _ h5
  have h3 := of_step l hl 3 (by omega) [60] 9 rfl rfl _ h4
  have h2 := of_step l hl 2 (by omega) [62, 61] 12 rfl rfl _ h3
  have h1 := of_step l hl 1 (by omega) [60, 61] 10 rfl rfl _ h2
  have h0 := of_step l hl 0 (by omega) [60, 62] 8 rfl rfl _ h1
  have e : (if l.take ([60, 62] : List UInt8).length = [60, 62] then (8, rdV (l.drop ([60, 62] : List UInt8).length)) else if l.take ([60, 61] : List UInt8).length = [60, 61] then (10, rdV (l.drop ([60, 61] : List UInt8).length)) else if l.take ([62, 61] : List UInt8).length = [62, 61] then (12, rdV (l.drop ([62, 61] : List UInt8).length)) else if l.take ([60] : List UInt8).length = [60] then (9, rdV (l.drop ([60] : List UInt8).length)) else if l.take ([62] : List UInt8).length = [62] then (11, rdV (l.drop ([62] : List UInt8).length)) else if l.take ([61] : List UInt8).length = [61] then (7, rdV (l.drop ([61] : List UInt8).length)) else ((7 : Int), rdV l)) = ofV l := by
    unfold ofV sgL
    show (if l.take 2 = [60, 62] then (8, rdV (l.drop 2)) else if l.take 2 = [60, 61] then (10, rdV (l.drop 2)) else if l.take 2 = [62, 61] then (12, rdV (l.drop 2)) else if l.take 1 = [60] then (9, rdV (l.drop 1)) else if l.take 1 = [62] then (11, rdV (l.drop 1)) else if l.take 1 = [61] then (7, rdV (l.drop 1)) else ((7 : Int), rdV l)) = _
    repeat' split
    all_goals rfl
  rw [e] at h0
  exact h0
/-! What is looked for. -/
theorem cof_ev (l : List UInt8) (hl : l.length ≤ 1000) (n : Int) : Ev (fun k => crit_Of.f k 2 n (tx l)) ((ofV l).1, (ofV l).2.1, (ofV l).2.2.1, (ofV l).2.2.2, true) := by
  unfold crit_Of.f
  have hs := sgL_le l
  refine ev_neg (by omega) (ev_neg (by omega) (ev_pos rfl (ev_bind (ev_some fun _ => sign_eq l) (ev_pos (by show (0 : Int) ≤ ((sgL l).2 : Int); omega) (ev_pos (by rw [size_tx]; show ((sgL l).2 : Int) ≤ _; omega) ?_)))))
  show Ev (fun k => (crit_read.f k ((tx l).extract (((sgL l).2 : Nat) : Int).toNat (tx l).size)).bind fun bt108 => some ((sgL l).1, bt108.1, bt108.2.1, bt108.2.2, true)) _
  have ed := ext_drop l (sgL l).2
  have et : (((sgL l).2 : Nat) : Int).toNat = (sgL l).2 := rfl
  rw [size_tx, et, ed]
  exact ev_bind (cread_ev _ (by rw [List.length_drop]; omega)) (Ev.now _)
theorem word_may (l : List UInt8) : value_May.f (wordV l).1 (wordV l).2.1 (wordV l).2.2 = some true := by
  unfold wordV strV
  by_cases h1 : l = tTrue
  · rw [if_pos h1]; show value_May.f 3 1 (⟨#[]⟩ : ByteArray) = some true; unfold value_May.f; rw [if_neg (by omega), if_neg (by omega), if_neg (by omega), if_pos rfl, if_neg (by omega), if_pos rfl]; exact congrArg some nil_toList
  rw [if_neg h1]
  by_cases h2 : l = tFalse
  · rw [if_pos h2]; show value_May.f 3 0 (⟨#[]⟩ : ByteArray) = some true; unfold value_May.f; rw [if_neg (by omega), if_neg (by omega), if_neg (by omega), if_pos rfl, if_pos rfl]; exact congrArg some nil_toList
  rw [if_neg h2]
  by_cases h3 : l.length ≤ 256
  · rw [if_pos h3]; show value_May.f 2 0 (tx l) = some true; unfold value_May.f; rw [if_neg (by omega), if_neg (by omega), if_pos rfl, if_pos rfl, size_tx, decide_eq_true (by omega)]
  · rw [if_neg h3]; show value_May.f 4 2 (⟨#[]⟩ : ByteArray) = some true; unfold value_May.f; rw [if_neg (by omega), if_neg (by omega), if_neg (by omega), if_neg (by omega), if_pos rfl, if_pos (by omega), if_pos (by omega)]; exact congrArg some nil_toList
theorem rd_may (l : List UInt8) : value_May.f (rdV l).1 (rdV l).2.1 (rdV l).2.2 = some true := by
  unfold rdV
  cases hd : dRead l with
  | none => exact word_may l
  | some x =>
    have hne := (dRead_may l x hd).1
    show value_May.f 1 x (⟨#[]⟩ : ByteArray) = some true
    unfold value_May.f dec_May.f
    rw [if_neg (by omega), if_pos rfl, Option.bind_some, if_pos (bne_iff_ne.2 hne)]
    exact congrArg some nil_toList
theorem mayV_ev (k n : Int) (t : ByteArray) : oculusref12_May.f k n t = some (mayV k n t) := rfl
theorem nil_of (t : ByteArray) (h : t.toList = []) : t = tx [] := by rw [toList_by] at h; exact by_inj (by rw [h, by_tx])
/-- Of a value that may be: what it looks for, told once; none of a fault. -/
theorem of_both (k n : Int) (t : ByteArray) (h : mayV k n t = true) : ∃ (o : Int) (v : Val) (ok : Bool),
    Ev (fun m => crit_Of.f m k n t) (o, v.1, v.2.1, v.2.2, ok) ∧ Ev (fun m => oculusref17_Of.f m k n t) (o, v.1, v.2.1, v.2.2) ∧ (ok = true → 7 ≤ o ∧ o ≤ 12 ∧ value_May.f v.1 v.2.1 v.2.2 = some true) ∧ (ok = false → o = 0 ∧ k = 4) := by
  rw [mayV, decide_eq_true_eq] at h
  rcases h with ⟨rfl, ht, rfl⟩ | ⟨rfl, ht, hn⟩ | ⟨rfl, rfl, hs⟩ | ⟨rfl, ht, hn⟩ | ⟨rfl, ht, hn⟩
  · obtain rfl := nil_of t ht
    have e0 : ofV [] = (7, strV []) := by decide +kernel
    refine ⟨7, strV [], true, ?_, ?_, fun _ => ⟨by omega, by omega, word_may []⟩, fun h => by cases h⟩
    · unfold crit_Of.f
      exact ev_neg (by omega) (ev_pos rfl (ev_bind (ev_some fun _ => str_val []) (Ev.now _)))
    · unfold oculusref17_Of.f
      refine ev_neg (by omega) (ev_neg (by omega) (Ev.step (fun k => oculusref17_Of.j0.eq_2 ..) (ev_neg (by decide) ?_)))
      have := rof_ev [] (by simp)
      rw [e0] at this
      exact this
  · obtain rfl := nil_of t ht
    refine ⟨7, (1, n, tx []), true, ?_, ?_, fun _ => ⟨by omega, by omega, ?_⟩, fun h => by cases h⟩
    · unfold crit_Of.f
      exact ev_neg (by omega) (ev_neg (by omega) (ev_neg (by omega) (Ev.now _)))
    · unfold oculusref17_Of.f
      exact ev_neg (by omega) (ev_pos rfl (Ev.step (fun k => oculusref17_Of.j0.eq_2 ..) (ev_pos rfl (Ev.now _))))
    · show value_May.f 1 n (tx []) = some true
      unfold value_May.f dec_May.f
      rw [if_neg (by omega), if_pos rfl, Option.bind_some, if_pos (bne_iff_ne.2 (by omega)), ht]; rfl
  · obtain ⟨l, rfl⟩ : ∃ l, t = tx l := ⟨by_ t, (tx_by t).symm⟩
    rw [size_tx] at hs
    have hb := sgL_le l
    refine ⟨(ofV l).1, (ofV l).2, true, cof_ev l (by omega) 0, ?_, fun _ => ⟨hb.2.1, hb.2.2, rd_may _⟩, fun h => by cases h⟩
    unfold oculusref17_Of.f
    refine ev_neg (by omega) (ev_neg (by omega) (Ev.step (fun k => oculusref17_Of.j0.eq_2 ..) (ev_neg (by decide) ?_)))
    exact rof_ev l (by omega)
  · obtain rfl := nil_of t ht
    refine ⟨7, (3, n, tx []), true, ?_, ?_, fun _ => ⟨by omega, by omega, ?_⟩, fun h => by cases h⟩
    · unfold crit_Of.f
      exact ev_neg (by omega) (ev_neg (by omega) (ev_neg (by omega) (Ev.now _)))
    · unfold oculusref17_Of.f
      exact ev_neg (by omega) (ev_neg (by omega) (Ev.step (fun k => oculusref17_Of.j0.eq_2 ..) (ev_pos rfl (Ev.now _))))
    · show value_May.f 3 n (tx []) = some true
      unfold value_May.f
      rw [if_neg (by omega), if_neg (by omega), if_neg (by omega), if_pos rfl, ht]
      rcases hn with rfl | rfl
      · rfl
      · rfl
  · obtain rfl := nil_of t ht
    refine ⟨0, (0, 0, (⟨#[]⟩ : ByteArray)), false, ?_, ?_, fun h => (by cases h), fun _ => ⟨rfl, rfl⟩⟩
    · unfold crit_Of.f
      exact ev_pos rfl (Ev.now _)
    · unfold oculusref17_Of.f
      exact ev_pos rfl (Ev.now _)
/-! Texts in order. -/
end Go.Proofs.Ytfcpkehldmehjaa.X
/- The pure statement of the law CritOf. -/
set_option linter.unusedVariables false
set_option linter.unusedSimpArgs false
namespace Go.Proofs.Ytfcpkehldmehjaa.Pure
open Go.RowKit Go.Proofs.Ytfcpkehldmehjaa.X Go.Proofs.YtfcpkehldmehjaaW.PrintWords Go.Proofs.YtfcpkehldmehjaaW.PrintLast Go.Proofs.YtfcpkehldmehjaaW.PrintMore
theorem CritOf : oculuslaw17_CritOf.PureX := by
  intro v _
  apply Ev.rounds
  obtain ⟨vk, vn, vt⟩ := v
  unfold oculuslaw17_CritOf.f
  refine ev_bind (ev_some fun _ => mayV_ev vk vn vt) ?_
  by_cases h : mayV vk vn vt = true
  · refine ev_pos h ?_
    obtain ⟨o, c, ok, h1, h2, h3, h4⟩ := of_both vk vn vt h
    refine ev_bind h1 (ev_bind h2 (ev_pos rfl (ev_pos ?_ (ev_pos ?_ ?_))))
    · show (c.1 == c.1 && (c.2.1 == c.2.1 && (c.2.2.toList == c.2.2.toList))) = true
      simp
    · cases ok with
      | true => have := (h3 rfl).1; rw [beq_iff_eq]; exact (bne_iff_ne.2 (by show o ≠ 0; omega)).symm
      | false => rw [(h4 rfl).1]; rfl
    · cases ok with
      | true =>
        refine ev_pos rfl (ev_bind (ev_some fun _ => (h3 rfl).2.2) (ev_pos rfl ?_))
        exact ev_bind alive17_ev (Ev.now _)
      | false => exact ev_neg (by simp) (ev_bind alive17_ev (Ev.now _))
  · exact ev_neg h (ev_bind alive17_ev (Ev.now _))
end Go.Proofs.Ytfcpkehldmehjaa.Pure
/- The row of the law CritOf: for every input the call returns true and each argument reads afterwards as before, out of its pure statement and the contract of its function. Conditions: none beyond the given statement. -/
namespace Go.Proofs.Ytfcpkehldmehjaa.critOf
open Go.ChangeShapes Go.WideShapes Go.ChangeAt Go.RowKit
open Go.ChangeMaps (open_string shut_string)
open Go.Proofs.Ytfcpkehldmehjaa.Opn Go.Proofs.Ytfcpkehldmehjaa.X
open Go.Proofs.YtfcpkehldmehjaaW.PrintWords (Kd Drawn0)
set_option linter.unusedVariables false
theorem own : ownKnob Try.prog.godebug = none := by kernel_rfl
theorem laidOut : laidOutB Try.prog = true := by kernel_rfl
set_option maxRecDepth 100000 in
set_option maxHeartbeats 1000000 in
theorem lifted (os : Os) (started : os.Started) (H : Type) (enc : TypeId × Value → H) :
    ReturnsInHanded {} Try.checked os 3 .any (Rows.critOfSpec.pre6 enc Try.prog Try.f3 Rows.critOfRow.domain false) (Rows.critOfSpec.post enc Try.prog Try.f3 false true false false) := by
  refine returnsInHanded_of_change_sized (C := Try.checked) own started (by kernel_rfl) Try.func3
    (ChangeSpec.witness6 (enc := enc) (C := Try.checked) false ⟨#[], #[.agg #[.int .i64 0, .int .i64 0, .string ByteArray.empty]], []⟩ 8 (by kernel_rfl) (by kernel_rfl) (by kernel_rfl) (by kernel_rfl)) ?_
  intro W base args ds gs before hval0 hW hcnd hsz0 _
  have hsz : (DataW.weightsEach Try.prog (Try.f3.params.toList ++ Rows.critOfSpec.plain.varTypes Try.prog) (ds ++ gs)).all (· ≤ reachBytes) = true := hsz0
  have hval : ∀ (j : Nat) t v, Try.f3.params[j]? = some t → args[j]? = some v → Value.okWide Try.prog W .any base t v := hval0
  have hW' := hW
  obtain ⟨p, q, hA0, hV, rfl, hfz, hnd⟩ := hW
  have hA : DataW.TrodAll enc Try.prog W 0 (fun _ => true) true Try.f3.params.toList args.toList ds p := hA0
  rw [Try.params3] at hA hval hsz
  obtain ⟨v0, vs0, d0, ds0, p0, q0, hargs, rfl, rfl, h0, r0⟩ := trodAll_cons hA
  obtain ⟨rfl, rfl, rfl⟩ := trodAll_nil r0
  obtain rfl : args = #[v0] := by cases args; simp_all
  obtain ⟨rfl, rfl⟩ := trodVars_none hV
  have lt0 : ∀ x ∈ p0, x.block < W.heap.size := by obtain ⟨m, hm⟩ := h0; exact DataW.trod_lt m _ _ _ hm
  have hw0 : ∀ m ∈ d0.weights Try.prog 23, m ≤ reachBytes := fun m hm => of_decide_eq_true (List.all_eq_true.1 hsz m (DataW.weights_mem_each (j := 0) (t := 23) rfl rfl m hm))
  obtain ⟨a0, K0, g0⟩ : ∃ a, (k23 : Kd S23).K W a v0.cells.toList ∧ (good23 a) := by
    obtain ⟨fuel, hf⟩ := h0
    exact opens23 hf hw0
  obtain ⟨cs0, rfl, _⟩ := okWide_struct Try.underlying23 (hval 0 23 v0 rfl rfl)
  have KO0 := k23_open K0
  obtain rfl : cs0 = #[.int .i64 a0.f0, .int .i64 a0.f1, .string a0.f2] := by
    have : cs0.toList = _ := KO0
    cases cs0; simp_all
  obtain ⟨k, hk⟩ := Pure.CritOf a0 g0
  clear hA0 hval0 hsz0 hsz
  refine (oculuslaw17_CritOf.calls k (a0.f0) (a0.f1) (a0.f2) true W hk).mono fun e W' ⟨he, bel0⟩ => ?_
  have bel : Below W.heap.size W W' := bel0
  subst he
  exact ⟨_, rfl, _, _, _, [], _, [], hW', trodAll_mk1 (shut_bool Try.underlying4 _), (trodAll_cons_mk (Below.trod laidOut (by kernel_rfl) (of_decide_eq_true (by kernel_rfl)) h0 bel lt0) trodAll_mk0), rfl, bel.frame _, fun h => by cases h⟩
theorem over : Rows.critOfRow.holds Try.pinned (OpenSpec.ofChange Rows.critOfSpec) :=
  OpenClaim.holds_of_wide 3 Try.f3 rfl rfl rfl rfl rfl rfl rfl ⟨rfl, rfl, rfl, rfl, rfl⟩ rfl rfl rfl rfl rfl (by kernel_rfl) Try.func3 (by kernel_rfl)
    (of_decide_eq_true (by kernel_rfl)) (by unfold Func.isWrapper; first | (rw [if_pos (by decide +kernel)]; kernel_rfl) | (rw [if_neg (by decide +kernel)]; exact ⟨rfl, rfl⟩))
    (fun os started H enc _ => lifted os started H enc)
theorem proved : Rows.CritOfSaid := over
end Go.Proofs.Ytfcpkehldmehjaa.critOf
namespace Go.Proofs.Ytfcpkehldmehjaa
/-- The row, under a short name, for the claim. -/
theorem critOf_holds : Rows.CritOfSaid := critOf.proved
#print axioms critOf_holds
end Go.Proofs.Ytfcpkehldmehjaa
