/- Contracts of the functions that the law LookCounts reaches, and what they answer (a session's own texts, joined; part 7). -/
import Derived.Test.YtejkoenlfcghbaaGreatBLookCounts6
set_option maxHeartbeats 8000000
set_option maxRecDepth 100000
namespace Go.Proofs.YtejkoenlfcghbaaGreat.X
open Go.RowKit Go.Proofs.YtejkoenlfcghbaaGreatW.PrintWords Go.Proofs.YtejkoenlfcghbaaGreatW.PrintLast Go.Proofs.YtejkoenlfcghbaaGreatW.PrintMore
attribute [local go_sem] max2_int min2_int max_two min_two max_three min_three max_four min_four
set_option linter.unusedVariables false
set_option linter.unusedSimpArgs false
def oculusref15_step.f (k : Nat) (a0 : Int) (a1 : Int) (a2 : Int) : Option (Int × Bool) := if a0 = 0 then ((oculusref08_Add.f k a1 a2).bind fun bt102 => (some (bt102.1, bt102.2))) else (if a0 = 1 then ((oculusref08_Mul.f k a1 a2).bind fun bt104 => (some (bt104.1, bt104.2))) else ((oculusref08_Mul.f k a2 a2).bind fun bt106 => (if bt106.2 = true then ((oculusref08_Add.f k a1 bt106.1).bind fun bt109 => (some (bt109.1, bt109.2))) else (some (bt106.1, bt106.2)))))
theorem oculusref15_step.calls (k : Nat) (a0 : Int) (a1 : Int) (a2 : Int) (r1 : Int) (r2 : Bool) (w : World) (h : oculusref15_step.f k a0 a1 a2 = some (r1, r2)) :
  Calls Tryz.prog 66 #[.int .i64 a0, .int .i64 a1, .int .i64 a2] w fun e w' => e = .returned (.agg #[.int .i64 r1, .bool r2]) ∧ Below w.heap.size w w' := by
 have hu71 := Tryz.underlying71; have HB := A_ (Below.refl w.heap.size w)
 have H : (if a0 = 0 then ((oculusref08_Add.f k a1 a2).bind fun bt102 => (some (bt102.1, bt102.2))) else (if a0 = 1 then ((oculusref08_Mul.f k a1 a2).bind fun bt104 => (some (bt104.1, bt104.2))) else ((oculusref08_Mul.f k a2 a2).bind fun bt106 => (if bt106.2 = true then ((oculusref08_Add.f k a1 bt106.1).bind fun bt109 => (some (bt109.1, bt109.2))) else (some (bt106.1, bt106.2)))))) = some (r1, r2) := h
 clear h
 by_cases c4 : a0 = 0
 ·rw [if_pos c4] at H; have ⟨c4b0,c4b1⟩ := e1_ c4; clear c4; obtain ⟨⟨t102, t103⟩, A5, H⟩ := bo_ H; dsimp only at H
  simp only [Option.some.injEq, Prod.mk.injEq] at H
  obtain ⟨rfl, rfl⟩ := H
  go_enter Tryz.func66, Tryz.ntmps66
  go_wp2_with (first | ((with_reducible refine gd_ 6 ?_); refine be_ (N:=6) (cs := #[.int .i64 0, .bool false]) (t:=71) ?_; intro g1 hg w6 hbox hb; have B1 := A_ (hbox); have GW101 := hs_ HB hg; have GE101 := hs_ HB hg; replace HB := bs_ HB hb; clear hb hbox hg) | ((with_reducible refine gate_callee (f:=81) rfl ?_); refine gL_ (some 13) rfl rfl Tryz.func81 rfl #[.int .i64 a1, .int .i64 a2] rfl ?_; (with_reducible refine (oculusref08_Add.calls k a1 a2 t102 t103 _ A5.out).mono ?_); rintro e w7 ⟨rfl, hb⟩; refine ⟨_, rfl, ?_⟩; replace B1 := bb_ B1 hb; replace HB := bs_ HB hb; have ⟨hcz8_0,hcz8_1,hfz8_0,hfz8_1⟩ := z2_ B1))
  refine bodyPost_ret (results_cell_row rfl _ _ g1 71 #[.int .i64 t102, .bool t103] (0, 0) _ rfl (by refine pp_ (cs := #[.int .i64 t102, .bool false]) 1 ?_ rfl; refine blk_put (cs := #[.int .i64 0, .bool false]) ?_ 0 _ rfl; exact pkx B1) Tryz.underlying71 rfl (by kernel_rfl)) rfl ?_
  exact fi_ bl_
 ·rw [if_neg c4] at H; have ⟨c4b0,c4b1⟩ := e0_ c4
  by_cases c9 : a0 = 1
  ·rw [if_pos c9] at H; have ⟨c9b0,c9b1⟩ := e1_ c9; clear c9; obtain ⟨⟨t104, t105⟩, A10, H⟩ := bo_ H; dsimp only at H
   simp only [Option.some.injEq, Prod.mk.injEq] at H
   obtain ⟨rfl, rfl⟩ := H
   go_enter Tryz.func66, Tryz.ntmps66
   go_wp2_with (first | ((with_reducible refine gd_ 6 ?_); refine be_ (N:=6) (cs := #[.int .i64 0, .bool false]) (t:=71) ?_; intro g1 hg w11 hbox hb; have B1 := A_ (hbox); have GW101 := hs_ HB hg; have GE101 := hs_ HB hg; replace HB := bs_ HB hb; clear hb hbox hg) | ((with_reducible refine gate_callee (f:=82) rfl ?_); refine gL_ (some 18) rfl rfl Tryz.func82 rfl #[.int .i64 a1, .int .i64 a2] rfl ?_; (with_reducible refine (oculusref08_Mul.calls k a1 a2 t104 t105 _ A10.out).mono ?_); rintro e w12 ⟨rfl, hb⟩; refine ⟨_, rfl, ?_⟩; replace B1 := bb_ B1 hb; replace HB := bs_ HB hb; have ⟨hcz13_0,hcz13_1,hfz13_0,hfz13_1⟩ := z2_ B1))
   refine bodyPost_ret (results_cell_row rfl _ _ g1 71 #[.int .i64 t104, .bool t105] (0, 0) _ rfl (by refine pp_ (cs := #[.int .i64 t104, .bool false]) 1 ?_ rfl; refine blk_put (cs := #[.int .i64 0, .bool false]) ?_ 0 _ rfl; exact pkx B1) Tryz.underlying71 rfl (by kernel_rfl)) rfl ?_
   exact fi_ bl_
  ·rw [if_neg c9] at H; have ⟨c9b0,c9b1⟩ := e0_ c9; obtain ⟨⟨t106, t107⟩, A14, H⟩ := bo_ H; dsimp only at H
   replace H := ib_ H; rcases H with ⟨rfl,H⟩|⟨rfl,H⟩
   ·obtain ⟨⟨t109, t110⟩, A16, H⟩ := bo_ H; dsimp only at H
    simp only [Option.some.injEq, Prod.mk.injEq] at H
    obtain ⟨rfl, rfl⟩ := H
    go_enter Tryz.func66, Tryz.ntmps66
    go_wp2_with (first | ((with_reducible refine gd_ 6 ?_); refine be_ (N:=6) (cs := #[.int .i64 0, .bool false]) (t:=71) ?_; intro g1 hg w17 hbox hb; have B1 := A_ (hbox); have GW101 := hs_ HB hg; have GE101 := hs_ HB hg; replace HB := bs_ HB hb; clear hb hbox hg) | ((with_reducible refine gate_callee (f:=82) rfl ?_); refine gL_ (some 21) rfl rfl Tryz.func82 rfl #[.int .i64 a2, .int .i64 a2] rfl ?_; (with_reducible refine (oculusref08_Mul.calls k a2 a2 t106 true _ A14.out).mono ?_); rintro e w18 ⟨rfl, hb⟩; refine ⟨_, rfl, ?_⟩; replace B1 := bb_ B1 hb; replace HB := bs_ HB hb; ) | ((with_reducible refine gd_ 7 ?_); refine be_ (N:=7) (cs := #[.int .i64 0, .bool false]) (t:=71) ?_; intro g8 hg w19 hbox hb; have B8 := A_ (hbox); have GW108 := hs_ HB hg; have GE108 := hs_ HB hg; have N18 := hl_ B1 hg; have N81 := hr_ B1 hg; replace B1 := bb_ B1 hb; replace HB := bs_ HB hb; clear hb hbox hg; have hnb20 := N81.out; have hnc20 := N18.out; have ⟨hcz21_0,hcz21_1,hfz21_0,hfz21_1⟩ := z2_ B8) | ((with_reducible refine gate_callee (f:=81) rfl ?_); refine gL_ (some 29) rfl rfl Tryz.func81 rfl #[.int .i64 a1, .int .i64 t106] rfl ?_; (with_reducible refine (oculusref08_Add.calls k a1 t106 t109 t110 _ A16.out).mono ?_); rintro e w22 ⟨rfl, hb⟩; refine ⟨_, rfl, ?_⟩; replace B1 := A_ (blk_below (g:=g1) (o := .cells #[.int .i64 0, .bool false] 71 (0, 0)) (by (iterate 2 refine pf_ ?_ N18.out); exact pkx B1) hb); replace B8 := A_ (blk_below (g:=g8) (o := .cells #[.int .i64 t106, .bool true] 71 (0, 0)) (by refine pp_ (cs := #[.int .i64 t106, .bool false]) 1 ?_ rfl; refine blk_put (cs := #[.int .i64 0, .bool false]) ?_ 0 _ rfl; exact pkx B8) hb); replace HB := A_ (below_step (by repeat (first | (with_reducible first | exact HB.out | apply below_alloc | apply pw_below_drewN | apply below_drew1 | refine below_set ?_ GE101.out | refine below_set ?_ GE108.out) | exact HB.out)) hb); have ⟨hcz23_0,hcz23_1,hfz23_0,hfz23_1⟩ := z2_ B1))
    refine bodyPost_ret (results_cell_row rfl _ _ g1 71 #[.int .i64 t109, .bool t110] (0, 0) _ rfl (by refine pp_ (cs := #[.int .i64 t109, .bool false]) 1 ?_ rfl; refine blk_put (cs := #[.int .i64 0, .bool false]) ?_ 0 _ rfl; exact pkx B1) Tryz.underlying71 rfl (by kernel_rfl)) rfl ?_
    exact fi_ bl_
   ·simp only [Option.some.injEq, Prod.mk.injEq] at H
    obtain ⟨rfl, rfl⟩ := H
    go_enter Tryz.func66, Tryz.ntmps66
    go_wp2_with (first | ((with_reducible refine gd_ 6 ?_); refine be_ (N:=6) (cs := #[.int .i64 0, .bool false]) (t:=71) ?_; intro g1 hg w24 hbox hb; have B1 := A_ (hbox); have GW101 := hs_ HB hg; have GE101 := hs_ HB hg; replace HB := bs_ HB hb; clear hb hbox hg) | ((with_reducible refine gate_callee (f:=82) rfl ?_); refine gL_ (some 21) rfl rfl Tryz.func82 rfl #[.int .i64 a2, .int .i64 a2] rfl ?_; (with_reducible refine (oculusref08_Mul.calls k a2 a2 t106 false _ A14.out).mono ?_); rintro e w25 ⟨rfl, hb⟩; refine ⟨_, rfl, ?_⟩; replace B1 := bb_ B1 hb; replace HB := bs_ HB hb; ) | ((with_reducible refine gd_ 7 ?_); refine be_ (N:=7) (cs := #[.int .i64 0, .bool false]) (t:=71) ?_; intro g8 hg w26 hbox hb; have B8 := A_ (hbox); have GW108 := hs_ HB hg; have GE108 := hs_ HB hg; have N18 := hl_ B1 hg; have N81 := hr_ B1 hg; replace B1 := bb_ B1 hb; replace HB := bs_ HB hb; clear hb hbox hg; have hnb27 := N81.out; have hnc27 := N18.out; have ⟨hcz28_0,hcz28_1,hfz28_0,hfz28_1⟩ := z2_ B8; have ⟨hcz29_0,hcz29_1,hfz29_0,hfz29_1⟩ := z2_ B1))
    refine bodyPost_ret (results_cell_row rfl _ _ g1 71 #[.int .i64 t106, .bool false] (0, 0) _ rfl (by refine pp_ (cs := #[.int .i64 t106, .bool false]) 1 ?_ rfl; refine blk_put (cs := #[.int .i64 0, .bool false]) ?_ 0 _ rfl; (iterate 2 refine pf_ ?_ N18.out); exact pkx B1) Tryz.underlying71 rfl (by kernel_rfl)) rfl ?_
    exact fi_ bl_

mutual
def oculusref15_Total.j0 : Nat → List Int → Int → Bool → Int → Bool → Option (Int × Bool)
 | 0, _, _, _, _, _ => none
 | k + 1, x0, x1, x14, x103000, x103001 => if x14 = true then (oculusref15_Total.j1 k x0 x1 10000 x103001) else (oculusref15_Total.j1 k x0 x1 x103000 x103001)
def oculusref15_Total.j1 : Nat → List Int → Int → Int → Bool → Option (Int × Bool)
 | 0, _, _, _, _ => none
 | k + 1, x0, x1, x103000, x103001 => oculusref15_Total.l0 k x0 x1 0 x103000 x103001
def oculusref15_Total.l0 : Nat → List Int → Int → Int → Int → Bool → Option (Int × Bool)
 | 0, _, _, _, _, _ => none
 | k + 1, x0, x1, x6, x103000, x103001 => if x6 < (x0.length : Int) then (if x103001 = true then (if 0 ≤ x6 then ((oculusref15_step.f k x1 x103000 (rd x0 x6)).bind fun bt104 => (oculusref15_Total.l0 k x0 x1 (wrap64 (x6 + 1)) bt104.1 bt104.2)) else (none)) else (some (x103000, x103001))) else (some (x103000, x103001))
end
def oculusref15_Total.f (k : Nat) (l0 : List Int) (a1 : Int) : Option (Int × Bool) := if a1 = 1 then (oculusref15_Total.j0 k l0 a1 (decide ((l0.length : Int) > 0)) 0 true) else (oculusref15_Total.j0 k l0 a1 false 0 true)
def oculusref15_Total.T7 : Bool × List (List Nat × List Nat) := (true, [([], []), ([], []), ([1], [1]), ([], []), ([], []), ([3, 4], [3, 4]), ([5], [5]), ([0, 2, 6], [0, 2, 6]), ([7, 7, 0, 1, 2, 3, 4, 5, 6, 7], [7])])
def oculusref15_Total.B7 : List Nat := [0, 0, 2, 0, 0, 24, 56, 127, 255]
theorem oculusref15_Total.tab7 : rtab .any (opsOf Tryz.f48 7) = oculusref15_Total.T7 := by kernel_rfl
theorem oculusref15_Total.bits7 : waitsOk oculusref15_Total.T7.2 oculusref15_Total.B7 = true := by kernel_rfl
theorem oculusref15_Total.calls (k : Nat) (A0 : Option Addr) (c0 : Nat) (l0 : List Int) (a1 : Int) (r1 : Int) (r2 : Bool) (w : World) (hr0 : Kd.C (Kd.int .i64) w A0 l0.length l0) (hc0 : l0.length ≤ c0) (h : oculusref15_Total.f k l0 a1 = some (r1, r2)) :
  Calls Tryz.prog 48 #[.slice A0 l0.length c0, .int .i64 a1] w fun e w' => e = .returned (.agg #[.int .i64 r1, .bool r2]) ∧ Below w.heap.size w w' := by
 have hu71 := Tryz.underlying71; have HR0 := A_ hr0; have HC0 := A_ hc0; clear hr0 hc0; have HB := A_ (Below.refl w.heap.size w)
 have H : (if a1 = 1 then (oculusref15_Total.j0 k l0 a1 (decide ((l0.length : Int) > 0)) 0 true) else (oculusref15_Total.j0 k l0 a1 false 0 true)) = some (r1, r2) := h
 clear h; have HC3 := A_ H; clear H
 go_enter Tryz.func48, Tryz.ntmps48
 go_upto_region 2 with (first | ((with_reducible refine gd_ 4 ?_); (try (refine gate_guard (by rfl) ?_; dsimp only)); refine be_ (N:=4) (cs := #[.int .i64 0, .bool false]) (t:=71) ?_; intro g1 hg w4 hbox hb; have B1 := A_ (hbox); have GW101 := hs_ HB hg; have GE101 := hs_ HB hg; replace HB := bs_ HB hb; clear hb hbox hg) | ((with_reducible refine gd_ 5 ?_); (try (refine gate_guard (by rfl) ?_; dsimp only)); refine be_ (N:=5) (cs := #[.int .i64 0, .bool false]) (t:=71) ?_; intro g2 hg w5 hbox hb; have B2 := A_ (hbox); have GW102 := hs_ HB hg; have GE102 := hs_ HB hg; have N12 := hl_ B1 hg; have N21 := hr_ B1 hg; replace B1 := bb_ B1 hb; replace HB := bs_ HB hb; clear hb hbox hg; have hnb6 := N21.out; have hnc6 := N12.out; have ⟨hcz7_0,hcz7_1,hfz7_0,hfz7_1⟩ := z2_ B2))
 (try simp only [q_])
 go_cut [14] (fun v14 wc => ∃ (kq : Nat) (x14_2 : Bool), v14 = .bool x14_2 ∧ Aside0 (oculusref15_Total.j0 kq l0 a1 x14_2 0 true = some (r1, r2)) ∧ Aside0 (kq ≤ k) ∧ Aside0 (wc.heap[g1]? = some (.cells #[.int .i64 0, .bool false] 71 (0, 0))) ∧ Aside0 (wc.heap[g2]? = some (.cells #[.int .i64 0, .bool true] 71 (0, 0))) ∧ Aside0 (Below w.heap.size w wc))
 case first =>
  have H := HC3.out; clear HC3
  by_cases c8 : a1 = 1
  ·rw [if_pos c8] at H; have ⟨c8b0,c8b1⟩ := e1_ c8; clear c8; (first | rw [c8b0] | (simp only [i64_w, i32_w]; rw [c8b0]) | skip)
   have H' := A_ H
   clear H
   go_wp2
   go_meet
   case rel => exact ⟨_, (decide ((l0.length : Int) > 0)), sq_, H', le_, ⟨by (iterate 2 refine pf_ ?_ N12.out); exact pkx B1⟩, ⟨by refine pp_ (cs := #[.int .i64 0, .bool false]) 1 ?_ rfl; refine blk_put (cs := #[.int .i64 0, .bool false]) ?_ 0 _ rfl; exact pkx B2⟩, ⟨bl_⟩⟩
  ·rw [if_neg c8] at H; have ⟨c8b0,c8b1⟩ := e0_ c8; (first | rw [c8b0] | (simp only [i64_w, i32_w]; rw [c8b0]) | skip)
   have H' := A_ H
   clear H
   go_wp2
   go_meet
   case rel => exact ⟨_, (false), sq_, H', le_, ⟨by (iterate 2 refine pf_ ?_ N12.out); exact pkx B1⟩, ⟨by refine pp_ (cs := #[.int .i64 0, .bool false]) 1 ?_ rfl; refine blk_put (cs := #[.int .i64 0, .bool false]) ?_ 0 _ rfl; exact pkx B2⟩, ⟨bl_⟩⟩
 case rest =>
  clear HC3; (try clear hcz7_0); (try clear hcz7_1); (try clear hfz7_0); (try clear hfz7_1); obtain ⟨kq, x14_2, rfl, HA, HJ2, B1, B2, HB⟩ := hcut
  cases kq with
  | zero => exact absurd HA.out (by simp [oculusref15_Total.j0])
  | succ kj2 =>
   have H := HA.out; clear HA
   simp only [oculusref15_Total.j0] at H
   have HC9 := A_ H; clear H
   go_upto_if 14 with (fail)
   go_cut [] (fun wc => ∃ (kq : Nat) (x103000_8 : Int), Aside0 (oculusref15_Total.j1 kq l0 a1 x103000_8 true = some (r1, r2)) ∧ Aside0 (kq ≤ kj2) ∧ Aside0 (wc.heap[g1]? = some (.cells #[.int .i64 0, .bool false] 71 (0, 0))) ∧ Aside0 (wc.heap[g2]? = some (.cells #[.int .i64 x103000_8, .bool true] 71 (0, 0))) ∧ Aside0 (Below w.heap.size w wc))
   case first =>
    have H := HC9.out; clear HC9
    replace H := ib_ H; rcases H with ⟨rfl,H⟩|⟨rfl,H⟩
    ·have H' := A_ H
     clear H; have hnb11 := N21.out; have hnc11 := N12.out
     have ⟨hcz12_0,hcz12_1,hfz12_0,hfz12_1⟩ := z2_ B2
     go_wp2
     go_meet
     case rel => exact ⟨_, (10000), H', ⟨by have := HJ2.out; first | omega | exact Nat.le_refl _⟩, ⟨by refine pf_ ?_ N12.out; exact pkx B1⟩, ⟨by refine pp_ (cs := #[.int .i64 0, .bool true]) 0 ?_ rfl; exact pkx B2⟩, ⟨bl_⟩⟩
    ·have H' := A_ H
     clear H
     go_wp2
     go_meet
     case rel => exact ⟨_, (0), H', ⟨by have := HJ2.out; first | omega | exact Nat.le_refl _⟩, ⟨pkx B1⟩, ⟨pkx B2⟩, ⟨pbx HB⟩⟩
   case rest =>
    clear HC9; (try clear hcz7_0); (try clear hcz7_1); (try clear hfz7_0); (try clear hfz7_1); obtain ⟨kq, x103000_8, HA, HJ8, B1, B2, HB⟩ := hcut
    cases kq with
    | zero => exact absurd HA.out (by simp [oculusref15_Total.j1])
    | succ kj8 =>
     have H := HA.out; clear HA
     simp only [oculusref15_Total.j1] at H
     have H' := A_ H
     clear H
     go_wp2
     go_loopg [6] kj8 (fun kq v6 w' => ∃ (x6_3 : Int) (x103000_3 : Int) (x103001_3 : Bool), v6 = .int .i64 x6_3 ∧ Aside0 (oculusref15_Total.l0 kq l0 a1 x6_3 x103000_3 x103001_3 = some (r1, r2)) ∧ Aside0 (kq ≤ kj8) ∧ Aside0 (w'.heap[g1]? = some (.cells #[.int .i64 0, .bool false] 71 (0, 0))) ∧ Aside0 (w'.heap[g2]? = some (.cells #[.int .i64 x103000_3, .bool x103001_3] 71 (0, 0))) ∧ Aside0 (Below w.heap.size w w'))
     case atStart => exact ⟨(0), (x103000_8), (true), sq_, H', ⟨Nat.le_refl _⟩, ⟨pkx B1⟩, ⟨pkx B2⟩, ⟨pbx HB⟩⟩
     case round =>
      clear H'; (try clear hcz7_0); (try clear hcz7_1); (try clear hfz7_0); (try clear hfz7_1); obtain ⟨x6_3, x103000_3, x103001_3, rfl, HA, HK3, B1, B2, HB⟩ := hrel
      cases gk with
      | zero => exact absurd HA.out (by simp [oculusref15_Total.l0])
      | succ k3 =>
       have H := HA.out; clear HA
       simp only [oculusref15_Total.l0] at H
       by_cases c13 : x6_3 < (l0.length : Int)
       ·rw [if_pos c13] at H; have c13b0 := decide_eq_true c13; clear c13
        replace H := ib_ H; rcases H with ⟨rfl,H⟩|⟨rfl,H⟩
        ·by_cases c15 : 0 ≤ x6_3
         ·rw [if_pos c15] at H; have c15b0 := decide_eq_true c15; clear c15; obtain ⟨⟨t104, t105⟩, A16, H⟩ := bo_ H; dsimp only at H
          have H' := A_ H
          clear H; have hnb17 := N21.out; have hnc17 := N12.out
          have ⟨hcz18_0,hcz18_1,hfz18_0,hfz18_1⟩ := z2_ B2
          try go_wp2
          (try (rw [drewN_self wr]; generalize hq_ : World.drewN wr _ = wr; have n0_ : Aside0 (wr.heap[g1]? = some (.cells #[.int .i64 0, .bool false] 71 (0, 0))) := ⟨by rw [← hq_]; exact (pkx B1)⟩; have n1_ : Aside0 (wr.heap[g2]? = some (.cells #[.int .i64 x103000_3, .bool true] 71 (0, 0))) := ⟨by rw [← hq_]; exact (pkx B2)⟩; have n2_ : Aside0 (Below w.heap.size w wr) := ⟨by rw [← hq_]; exact (pbx HB)⟩; clear B1 B2 HB hq_; have B1 := n0_; have B2 := n1_; have HB := n2_; clear n0_ n1_ n2_))
          replace B1 := A_ (blk_drew B1.out); replace B2 := A_ (blk_drew B2.out); replace HB := A_ (below_drew1 HB.out)
          have p103 : 0 ≤ (x6_3 : Int) := of_decide_eq_true as_
          have q103 : x6_3 < (l0.length : Int) := of_decide_eq_true as_
          obtain ⟨ad103, e103, hx103_0⟩ := Kd.at_int HR0.out x6_3 p103 q103; have hw103_0 := hx103_0
          cases e103
          replace hx103_0 := (HB.out.cell (World.block_lt_of_cell? w _ hx103_0)).trans hx103_0; replace p103 := eq_true p103; replace q103 := eq_true q103
          refine start_ (n:=9) (S := fun w' => w'.cell? ⟨g2, 0, none⟩ = some (.int .i64 x103000_3) ∧ w'.cell? ⟨g2, 1, none⟩ = some (.bool true) ∧ w'.cell? (ad103.add (x6_3).toNat) = some (.int .i64 (rd l0 x6_3))) (ds := [8]) #[F,F,F,F,F,F,F,F,F] (by kernel_rfl) rfl rfl ⟨bc_ B2 0 rfl, bc_ B2 1 rfl, ((HB.out.cell (World.block_lt_of_cell? w _ hw103_0)).trans hw103_0)⟩ (fun hHeld => ?_); refine with_tabW oculusref15_Total.tab7 oculusref15_Total.bits7 (fun HT_ HW_ => ?_)
          generalize wr.drew = w19 at B1 B2 HB hx103_0 hHeld ⊢; refine pure_ (i:=0) (N:=some 26) (v:=?_) (a':=?_) ⟨m_ 9 1⟩ rfl rfl (ao_ HT_) (fun _ _ _ h=>h) (Or.inl ⟨rfl, ?_⟩) ?_ ?_; rotate_left
          ·intro w'; go_simp; with_reducible rfl
          rotate_left
          ·simp only [q_, i64_w, i32_w]; rfl
          refine pure_ (i:=1) (N:=some 27) (v:=?_) (a':=?_) ⟨m_ 9 3⟩ rfl rfl (ao_ HT_) (fun _ _ _ h=>h) (Or.inl ⟨rfl, ?_⟩) ?_ ?_; rotate_left
          ·intro w'; go_simp; with_reducible rfl
          rotate_left
          ·simp only [q_, i64_w, i32_w]; rfl
          refine pure_ (i:=3) (N:=some 29) (v:=?_) (a':=?_) ⟨m_ 9 11⟩ rfl rfl (ao_ HT_) (fun _ _ _ h=>h) (Or.inl ⟨rfl, ?_⟩) ?_ ?_; rotate_left
          ·intro w'; go_simp; with_reducible rfl
          rotate_left
          ·simp only [q_, i64_w, i32_w]; rfl
          refine pure_ (i:=4) (N:=some 30) (v:=?_) (a':=?_) ⟨m_ 9 27⟩ rfl rfl (ao_ HT_) (fun _ _ _ h=>h) (Or.inl ⟨rfl, ?_⟩) ?_ ?_; rotate_left
          ·intro w'; go_simp; with_reducible rfl
          rotate_left
          ·simp only [q_, i64_w, i32_w]; rfl
          refine pure_ (i:=5) (N:=some 31) (v:=?_) (a':=?_) ⟨m_ 9 59⟩ rfl rfl (ao_ HT_) (fun _ _ _ h=>h) (Or.inl ⟨rfl, ?_⟩) ?_ ?_; rotate_left
          ·intro w'; go_simp; with_reducible rfl
          rotate_left
          ·simp only [q_, i64_w, i32_w]; rfl
          refine take_ (i:=2) (N:=some 28) (v:=?_) (a':=?_) ⟨m_ 9 63⟩ rfl rfl (tw_ HT_ HW_) (fun _ _ _ h=>h) (Or.inl ⟨rfl, ?_⟩) hHeld ?_ ?_; rotate_left
          ·rintro w' ⟨s0, s1, s2⟩; go_simp; with_reducible rfl
          rotate_left
          ·simp only [q_, i64_w, i32_w]; rfl
          refine take_ (i:=6) (N:=some 32) (v:=?_) (a':=?_) ⟨m_ 9 127⟩ rfl rfl (tw_ HT_ HW_) (fun _ _ _ h=>h) (Or.inl ⟨rfl, ?_⟩) hHeld ?_ ?_; rotate_left
          ·rintro w' ⟨s0, s1, s2⟩; go_simp; with_reducible rfl
          rotate_left
          ·simp only [q_, i64_w, i32_w]; rfl
          refine one_ (i:=7) (N:=some 33) ⟨m_ 9 255⟩ rfl rfl (oo_ HT_) (by decide) (fun K hK => ?_); refine goes_ Tryz.func66 (by kernel_rfl) rfl #[.int .i64 a1, .int .i64 x103000_3, .int .i64 (rd l0 x6_3)] (by rfl) rfl rfl ha_ ?_; with_reducible refine (oculusref15_step.calls k3 a1 x103000_3 (rd l0 x6_3) t104 t105 _ A16.out).mono ?_; rintro e w20 ⟨rfl, hb⟩; refine ⟨_, rfl, ?_⟩
          replace B1 := bb_ B1 hb; replace B2 := bb_ B2 hb; replace HB := bs_ HB hb; (try clear hb); refine hK.out _ _ ⟨bc_ B2 0 rfl, bc_ B2 1 rfl, ((HB.out.cell (World.block_lt_of_cell? w _ hw103_0)).trans hw103_0)⟩ (fun hHeld => ?_); clear hK K; refine norm_ (a':=?_) ?_ ?_; rotate_left
          ·show Act.put _ (some 33) _ = _; simp only [q_, i64_w, i32_w]; rfl
          refine last_ (i:=8) (N:=none) ⟨m_ 9 511⟩ rfl rfl (oo_ HT_) (by decide) (fun K hK => ?_)
          have hs21 : w20.cell? ⟨g2, 0, none⟩ = some (.int .i64 x103000_3) := bc_ B2 0 rfl
          have hfs21 := blk_frozen B2.out 0; have hns21_0 := N12.out; have hms21_0 := N21.out
          have hs22 : w20.cell? ⟨g2, 1, none⟩ = some (.bool true) := bc_ B2 1 rfl
          have hfs22 := blk_frozen B2.out 1; have hns22_0 := N12.out; have hms22_0 := N21.out
          refine skip_ (w1 := ?_) (by rfl) rfl ?_ ?_
          rotate_left
          ·go_simp; rfl
          refine hK.out _ _ ?_; clear hK K
          refine done_ (done_of HT_.out (by kernel_rfl)) ?_
          try go_wp2
          go_roundg k3
          case measure => have := HJ2.out; have := HJ8.out; have := HK3.out; omega
          case rel => exact ⟨(wrap64 (x6_3 + 1)), (t104), (t105), sq_, H', ⟨by have := HJ2.out; have := HJ8.out; have := HK3.out; omega⟩, ⟨by (iterate 2 refine pf_ ?_ N12.out); exact pkx B1⟩, ⟨by refine pp_ (cs := #[.int .i64 t104, .bool true]) 1 ?_ rfl; refine blk_put (cs := #[.int .i64 x103000_3, .bool true]) ?_ 0 _ rfl; exact pkx B2⟩, ⟨bl_⟩⟩
         ·rw [if_neg c15] at H
          exact absurd H (by simp)
        ·simp only [Option.some.injEq, Prod.mk.injEq] at H
         obtain ⟨rfl, rfl⟩ := H; have hnb23 := N21.out; have hnc23 := N12.out
         have ⟨hcz24_0,hcz24_1,hfz24_0,hfz24_1⟩ := z2_ B2
         have ⟨hcz25_0,hcz25_1,hfz25_0,hfz25_1⟩ := z2_ B1
         go_wp2
         refine bodyPost_ret (results_cell_row rfl _ _ g1 71 #[.int .i64 x103000_3, .bool false] (0, 0) _ rfl (by refine pp_ (cs := #[.int .i64 x103000_3, .bool false]) 1 ?_ rfl; refine blk_put (cs := #[.int .i64 0, .bool false]) ?_ 0 _ rfl; exact pkx B1) Tryz.underlying71 rfl (by kernel_rfl)) rfl ?_
         exact fi_ bl_
       ·rw [if_neg c13] at H; have c13b0 := decide_eq_false c13; clear c13
        simp only [Option.some.injEq, Prod.mk.injEq] at H
        obtain ⟨rfl, rfl⟩ := H; have hnb26 := N21.out; have hnc26 := N12.out
        have ⟨hcz27_0,hcz27_1,hfz27_0,hfz27_1⟩ := z2_ B2
        have ⟨hcz28_0,hcz28_1,hfz28_0,hfz28_1⟩ := z2_ B1
        go_wp2
        refine bodyPost_ret (results_cell_row rfl _ _ g1 71 #[.int .i64 x103000_3, .bool x103001_3] (0, 0) _ rfl (by refine pp_ (cs := #[.int .i64 x103000_3, .bool false]) 1 ?_ rfl; refine blk_put (cs := #[.int .i64 0, .bool false]) ?_ 0 _ rfl; exact pkx B1) Tryz.underlying71 rfl (by kernel_rfl)) rfl ?_
        exact fi_ bl_

def oculusref15_Numbers.l0 : Nat → List (S26) → List Int → Int → Option (List Int)
 | 0, _, _, _ => none
 | k + 1, x0, x3, x4 => if x4 < (x0.length : Int) then (if 0 ≤ x4 then (if ((rd_T26 x0 x4).f0) = 1 then (if x3.length < 17592186044416 then (oculusref15_Numbers.l0 k x0 (x3 ++ [(rd_T26 x0 x4).f1]) (wrap64 (x4 + 1))) else (none)) else (oculusref15_Numbers.l0 k x0 x3 (wrap64 (x4 + 1)))) else (none)) else (some x3)
def oculusref15_Numbers.f (k : Nat) (l0 : List (S26)) : Option (List Int) := (oculusref15_Fault.f k l0).bind fun t101 => (if t101 ≥ 0 then (some ([] : List Int)) else (oculusref15_Numbers.l0 k l0 ([] : List Int) 0))
theorem oculusref15_Numbers.calls (k : Nat) (A0 : Option Addr) (c0 : Nat) (l0 : List (S26)) (r : List Int) (w : World) (hr0 : Kd.C k26 w A0 l0.length l0) (hc0 : l0.length ≤ c0) (h : oculusref15_Numbers.f k l0 = some r) :
  Calls Tryz.prog 49 #[.slice A0 l0.length c0] w fun e w' => ∃ v0_ : Value, e = .returned (v0_) ∧ Kd.R (Kd.int .i64) 2 w' w.heap.size (fun _ => True) v0_ r ∧ Below w.heap.size w w' := by
 have HR0 := A_ hr0; have HC0 := A_ hc0; clear hr0 hc0; have HB := A_ (Below.refl w.heap.size w)
 have H : ((oculusref15_Fault.f k l0).bind fun t101 => (if t101 ≥ 0 then (some ([] : List Int)) else (oculusref15_Numbers.l0 k l0 ([] : List Int) 0))) = some r := h
 clear h; obtain ⟨t101, A2, H⟩ := bo_ H
 by_cases c3 : t101 ≥ 0
 ·rw [if_pos c3] at H; have c3b0 := decide_eq_true c3; clear c3; obtain rfl := Option.some.inj H
  go_enter Tryz.func49, Tryz.ntmps49
  go_wp2_with (first | ((with_reducible refine gate_callee (f:=46) rfl ?_); refine gL_ (some 6) rfl rfl Tryz.func46 rfl #[.slice A0 l0.length c0] rfl ?_; (with_reducible refine (oculusref15_Fault.calls k _ _ l0 t101 _ ?side1 ?side2 A2.out).mono ?_); (case side1 => exact ca_ HR0.out); (case side2 => exact HC0.out); rintro e w' ⟨rfl, ⟨nd, rfl⟩⟩; refine ⟨_, rfl, ?_⟩))
  go_ret
  exact ⟨_, by first | rfl | (simp [errW_none, errW_some] <;> rfl) | (simp [*, errW_none, errW_some] <;> rfl), by first | exact Kd.R_nil _ _ _ _ _ | exact Kd.N_nil _ _ _ _ _ | exact Kd.V_nil _ _ _ _ _ | exact Kd.Q_nil _ _ _ _ _ | exact Kd.S_nil _ _ _ _ _, pbx HB⟩
 ·rw [if_neg c3] at H; have c3b0 := decide_eq_false c3; clear c3
  have H' := A_ H
  clear H
  go_enter Tryz.func49, Tryz.ntmps49
  go_wp2_with (first | ((with_reducible refine gate_callee (f:=46) rfl ?_); refine gL_ (some 6) rfl rfl Tryz.func46 rfl #[.slice A0 l0.length c0] rfl ?_; (with_reducible refine (oculusref15_Fault.calls k _ _ l0 t101 _ ?side1 ?side2 A2.out).mono ?_); (case side1 => exact ca_ HR0.out); (case side2 => exact HC0.out); rintro e w' ⟨rfl, ⟨nd, rfl⟩⟩; refine ⟨_, rfl, ?_⟩))
  go_loopg [3, 4] k (fun kq v3 v4 w' => ∃ (x3_1 : List Int) (x4_1 : Int), v4 = .int .i64 x4_1 ∧ Aside0 (oculusref15_Numbers.l0 kq l0 x3_1 x4_1 = some r) ∧ Aside0 (kq ≤ k) ∧ Aside0 (Kd.R (Kd.int .i64) 2 w' w.heap.size (fun _ => True) v3 x3_1) ∧ Aside0 (Below w.heap.size w w'))
  case atStart => exact ⟨(([] : List Int)), (0), sq_, H', ⟨Nat.le_refl _⟩, ⟨by first | exact Kd.R_nil _ _ _ _ _ | exact Kd.N_nil _ _ _ _ _ | exact Kd.V_nil _ _ _ _ _ | exact Kd.Q_nil _ _ _ _ _ | exact Kd.S_nil _ _ _ _ _⟩, ⟨pbx HB⟩⟩
  case round =>
   clear H'; (try clear c3); (try clear c3b0); obtain ⟨x3_1, x4_1, rfl, HA, HK1, HO_3, HB⟩ := hrel
   cases gk with
   | zero => exact absurd HA.out (by simp [oculusref15_Numbers.l0])
   | succ k1 =>
    have H := HA.out; clear HA
    simp only [oculusref15_Numbers.l0] at H
    by_cases c4 : x4_1 < (l0.length : Int)
    ·rw [if_pos c4] at H; have c4b0 := decide_eq_true c4; clear c4
     by_cases c5 : 0 ≤ x4_1
     ·rw [if_pos c5] at H; have c5b0 := decide_eq_true c5; clear c5
      by_cases c6 : ((rd_T26 l0 x4_1).f0) = 1
      ·rw [if_pos c6] at H; have ⟨c6b0,c6b1⟩ := e1_ c6; clear c6
       by_cases c7 : x3_1.length < 17592186044416
       ·rw [if_pos c7] at H; have LMc7 := A_ c7; clear c7; obtain ⟨y104, hy104⟩ : ∃ y_ : List Int, y_ = (x3_1 ++ [(rd_T26 l0 x4_1).f1]) := ⟨_, rfl⟩
        replace H : (oculusref15_Numbers.l0 k1 l0 y104 (wrap64 (x4_1 + 1))) = some r := by first | (rw [hy104]; with_reducible exact H) | (have H2_ := (Option.bind_some _ _).symm.trans H; rw [hy104]; with_reducible exact H2_) | (have H2_ := (Option.bind_some _ _).symm.trans H; with_reducible exact H2_) | with_reducible exact H | (rw [hy104]; exact H) | exact H
        have Ny104 := A_ hy104; clear hy104
        have H' := A_ H
        clear H
        have p102 : 0 ≤ (x4_1 : Int) := of_decide_eq_true as_
        have q102 : x4_1 < (l0.length : Int) := of_decide_eq_true as_
        obtain ⟨ad102, e102, hx102_0, hx102_1, hx102_2⟩ := at_T26 HR0.out x4_1 p102 q102
        cases e102
        replace hx102_0 := (HB.out.cell (World.block_lt_of_cell? w _ hx102_0)).trans hx102_0; replace hx102_1 := (HB.out.cell (World.block_lt_of_cell? w _ hx102_1)).trans hx102_1; replace hx102_2 := (HB.out.cell (World.block_lt_of_cell? w _ hx102_2)).trans hx102_2; replace p102 := eq_true p102; replace q102 := eq_true q102
        have p103 : 0 ≤ (x4_1 : Int) := of_decide_eq_true as_
        have q103 : x4_1 < (l0.length : Int) := of_decide_eq_true as_
        obtain ⟨ad103, e103, hx103_0, hx103_1, hx103_2⟩ := at_T26 HR0.out x4_1 p103 q103; obtain rfl : ad102 = ad103 := (by injection e103); replace hx103_0 := (HB.out.cell (World.block_lt_of_cell? w _ hx103_0)).trans hx103_0; replace hx103_1 := (HB.out.cell (World.block_lt_of_cell? w _ hx103_1)).trans hx103_1; replace hx103_2 := (HB.out.cell (World.block_lt_of_cell? w _ hx103_2)).trans hx103_2; replace p103 := eq_true p103; replace q103 := eq_true q103
        go_wp2_with (first | ((with_reducible refine gate_builtin (b := .append) (xs := #[.tmp 21, .tmp 27]) rfl ?_); at_builtin; refine Kd.R_append (Kd.int .i64) (w0 := w) w.heap.size rfl (.tmp 21) (.tmp 27) 54 2 (.int .i64 0) 8 rfl Tryz.underlying54 info2 rfl (by decide) (by omega) u3 x3_1 ((rd_T26 l0 x4_1).f1) [.int .i64 ((rd_T26 l0 x4_1).f1)] (fun _ => True) (fun _ => False) rfl rfl ?aP (fun _ hk => hk.elim) ?aF ?aO ?aB ?aS ?aL ?_; (case aP => exact rfl); (case aB => exact (pbx HB)); (case aF => exact (fun _ _ => trivial)); (case aO => exact (ra_ HO_3.out)); (case aS => exact (below_size (pbx HB))); (case aL => have := LMc7.out; omega); intro v105 w8 ho hb hg hat; rw [← Ny104.out] at ho; have HO106 := A_ (ho); replace HB := A_ (hb); clear HO_3; clear ho hb hg hat))
        go_roundg k1
        case measure => have := HK1.out; omega
        case rel => exact ⟨(y104), (wrap64 (x4_1 + 1)), sq_, H', ⟨by have := HK1.out; omega⟩, ⟨ra_ HO106.out⟩, ⟨pbx HB⟩⟩
       ·rw [if_neg c7] at H
        exact absurd H (by simp)
      ·rw [if_neg c6] at H; have ⟨c6b0,c6b1⟩ := e0_ c6
       have H' := A_ H
       clear H
       have p102 : 0 ≤ (x4_1 : Int) := of_decide_eq_true as_
       have q102 : x4_1 < (l0.length : Int) := of_decide_eq_true as_
       obtain ⟨ad102, e102, hx102_0, hx102_1, hx102_2⟩ := at_T26 HR0.out x4_1 p102 q102
       cases e102
       replace hx102_0 := (HB.out.cell (World.block_lt_of_cell? w _ hx102_0)).trans hx102_0; replace hx102_1 := (HB.out.cell (World.block_lt_of_cell? w _ hx102_1)).trans hx102_1; replace hx102_2 := (HB.out.cell (World.block_lt_of_cell? w _ hx102_2)).trans hx102_2; replace p102 := eq_true p102; replace q102 := eq_true q102
       go_wp2
       go_roundg k1
       case measure => have := HK1.out; omega
       case rel => exact ⟨(x3_1), (wrap64 (x4_1 + 1)), sq_, H', ⟨by have := HK1.out; omega⟩, ⟨ra_ HO_3.out⟩, ⟨pbx HB⟩⟩
     ·rw [if_neg c5] at H
      exact absurd H (by simp)
    ·rw [if_neg c4] at H; have c4b0 := decide_eq_false c4; clear c4; obtain rfl := Option.some.inj H
     go_wp2
     go_ret
     exact ⟨_, by first | rfl | (simp [errW_none, errW_some] <;> rfl) | (simp [*, errW_none, errW_some] <;> rfl), ra_ HO_3.out, pbx HB⟩

def oculusref15_All.j0 : Nat → List (S26) → Int → Int → Option (Int × Int × ByteArray)
 | 0, _, _, _ => none
 | k + 1, x0, x1, x5 => if x5 ≥ 0 then (if 0 ≤ x5 then (if x5 < (x0.length : Int) then (some ((rd_T26 x0 x5).f0, (rd_T26 x0 x5).f1, (rd_T26 x0 x5).f2)) else (none)) else (none)) else ((oculusref15_Numbers.f k x0).bind fun t104 => ((oculusref15_Total.f k t104 x1).bind fun bt107 => ((oculusref12_Of.f bt107.1 bt107.2).bind fun bt109 => (some (bt109.1, bt109.2.1, bt109.2.2)))))
def oculusref15_All.f (k : Nat) (l0 : List (S26)) (a1 : Int) : Option (Int × Int × ByteArray) := (oculusref15_Fault.f k l0).bind fun t102 => (oculusref15_All.j0 k l0 a1 t102)
theorem oculusref15_All.calls (k : Nat) (A0 : Option Addr) (c0 : Nat) (l0 : List (S26)) (a1 : Int) (r1 : Int) (r2 : Int) (r3 : ByteArray) (w : World) (hr0 : Kd.C k26 w A0 l0.length l0) (hc0 : l0.length ≤ c0) (h : oculusref15_All.f k l0 a1 = some (r1, r2, r3)) :
  Calls Tryz.prog 27 #[.slice A0 l0.length c0, .int .i64 a1] w fun e w' => e = .returned (.agg #[.int .i64 r1, .int .i64 r2, .string r3]) ∧ Below w.heap.size w w' := by
 have hu26 := Tryz.underlying26; have HR0 := A_ hr0; have HC0 := A_ hc0; clear hr0 hc0; have HB := A_ (Below.refl w.heap.size w)
 have H : ((oculusref15_Fault.f k l0).bind fun t102 => (oculusref15_All.j0 k l0 a1 t102)) = some (r1, r2, r3) := h
 clear h; have HC3 := A_ H; clear H
 go_enter Tryz.func27, Tryz.ntmps27
 go_upto_region 1 with (first | ((with_reducible refine gd_ 4 ?_); refine be_ (N:=4) (cs := #[.int .i64 0, .int .i64 0, .string (⟨#[]⟩ : ByteArray)]) (t:=26) ?_; intro g1 hg w4 hbox hb; have B1 := A_ (hbox); have GW101 := hs_ HB hg; have GE101 := hs_ HB hg; replace HB := bs_ HB hb; clear hb hbox hg))
 (try simp only [q_])
 go_cut [5] (fun v5 wc => ∃ (kq : Nat) (x5_2 : Int), v5 = .int .i64 x5_2 ∧ Aside0 (oculusref15_All.j0 kq l0 a1 x5_2 = some (r1, r2, r3)) ∧ Aside0 (kq ≤ k) ∧ Aside0 (wc.heap[g1]? = some (.cells #[.int .i64 0, .int .i64 0, .string (⟨#[]⟩ : ByteArray)] 26 (0, 0))) ∧ Aside0 (Below w.heap.size w wc))
 case first =>
  have H := HC3.out; clear HC3; obtain ⟨t102, A5, H⟩ := bo_ H
  have H' := A_ H
  clear H
  go_wp2_with (first | ((with_reducible refine gate_callee (f:=46) rfl ?_); refine gL_ (some 7) rfl rfl Tryz.func46 rfl #[.slice A0 l0.length c0] rfl ?_; (with_reducible refine (oculusref15_Fault.calls k _ _ l0 t102 _ ?side1 ?side2 A5.out).mono ?_); (case side1 => exact ca_ (Kd.C_below HR0.out HB.out)); (case side2 => exact HC0.out); rintro e w' ⟨rfl, ⟨nd, rfl⟩⟩; refine ⟨_, rfl, ?_⟩))
  go_meet
  case rel => exact ⟨_, (t102), (by first | rfl | (simp; done) | (simp [*]; done) | (cases t102 <;> simp; done)), H', le_, ⟨pkx B1⟩, ⟨pbx HB⟩⟩
 case rest =>
  clear HC3; obtain ⟨kq, x5_2, rfl, HA, HJ2, B1, HB⟩ := hcut
  cases kq with
  | zero => exact absurd HA.out (by simp [oculusref15_All.j0])
  | succ kj2 =>
   have H := HA.out; clear HA
   simp only [oculusref15_All.j0] at H
   by_cases c6 : x5_2 ≥ 0
   ·rw [if_pos c6] at H; have c6b0 := decide_eq_true c6; clear c6
    by_cases c7 : 0 ≤ x5_2
    ·rw [if_pos c7] at H; have c7b0 := decide_eq_true c7; clear c7
     by_cases c8 : x5_2 < (l0.length : Int)
     ·rw [if_pos c8] at H; have c8b0 := decide_eq_true c8; clear c8
      simp only [Option.some.injEq, Prod.mk.injEq] at H
      obtain ⟨rfl, rfl, rfl⟩ := H
      have p103 : 0 ≤ (x5_2 : Int) := of_decide_eq_true as_
      have q103 : x5_2 < (l0.length : Int) := of_decide_eq_true as_
      obtain ⟨ad103, e103, hx103_0, hx103_1, hx103_2⟩ := at_T26 HR0.out x5_2 p103 q103
      cases e103
      replace hx103_0 := (HB.out.cell (World.block_lt_of_cell? w _ hx103_0)).trans hx103_0; replace hx103_1 := (HB.out.cell (World.block_lt_of_cell? w _ hx103_1)).trans hx103_1; replace hx103_2 := (HB.out.cell (World.block_lt_of_cell? w _ hx103_2)).trans hx103_2; replace p103 := eq_true p103; replace q103 := eq_true q103
      have ⟨hcz9_0,hcz9_1,hcz9_2,hfz9_0,hfz9_1,hfz9_2⟩ := z3_ B1
      go_wp2
      refine bodyPost_ret (results_cell_row rfl _ _ g1 26 #[.int .i64 ((rd_T26 l0 x5_2).f0), .int .i64 ((rd_T26 l0 x5_2).f1), .string ((rd_T26 l0 x5_2).f2)] (0, 0) _ rfl (by (iterate 3 apply pp_); exact pkx B1; all_goals rfl) Tryz.underlying26 rfl (by kernel_rfl)) rfl ?_
      exact fi_ bl_
     ·rw [if_neg c8] at H
      exact absurd H (by simp)
    ·rw [if_neg c7] at H
     exact absurd H (by simp)
   ·rw [if_neg c6] at H; have c6b0 := decide_eq_false c6; clear c6; obtain ⟨t104, A10, H⟩ := bo_ H; obtain ⟨⟨t107, t108⟩, A11, H⟩ := bo_ H; dsimp only at H; obtain ⟨⟨t109, t110, t111⟩, A12, H⟩ := bo_ H; dsimp only at H
    simp only [Option.some.injEq, Prod.mk.injEq] at H
    obtain ⟨rfl, rfl, rfl⟩ := H
    go_wp2_with (first | ((with_reducible refine gate_callee (f:=49) rfl ?_); refine gL_ (some 15) rfl rfl Tryz.func49 rfl #[.slice A0 l0.length c0] rfl ?_; (with_reducible refine (oculusref15_Numbers.calls kj2 _ _ l0 t104 _ ?side1 ?side2 A10.out).mono ?_); (case side1 => exact ca_ (Kd.C_below HR0.out HB.out)); (case side2 => exact HC0.out); rintro e w13 ⟨v105, rfl, ho0, hb⟩; refine ⟨_, rfl, ?_⟩; have HO106 := A_ (Kd.R_lower ho0 (below_size (pbx HB))); replace B1 := bb_ B1 hb; replace HB := bs_ HB hb; (try clear hb); obtain ⟨Ao14, co14, eo14⟩ := Kd.R_slice HO106.out; subst eo14) | ((with_reducible refine gate_callee (f:=48) rfl ?_); refine gL_ (some 17) rfl rfl Tryz.func48 rfl #[.slice Ao14 t104.length co14, .int .i64 a1] rfl ?_; (with_reducible refine (oculusref15_Total.calls kj2 _ _ t104 a1 t107 t108 _ ?side1 ?side2 A11.out).mono ?_); (case side1 => exact ca_ (Kd.R_reads' HO106.out).2.2); (case side2 => exact (Kd.R_reads' HO106.out).2.1); rintro e w15 ⟨rfl, hb⟩; refine ⟨_, rfl, ?_⟩; replace HO106 := A_ (Kd.R_below (ra_ HO106.out) hb); replace B1 := bb_ B1 hb; replace HB := bs_ HB hb; (try clear hb); ) | ((with_reducible refine gate_callee (f:=47) rfl ?_); refine gL_ (some 18) rfl rfl Tryz.func47 rfl #[.agg #[.int .i64 t107, .bool t108]] rfl ?_; (with_reducible refine (oculusref12_Of.calls t107 t108 t109 t110 t111 _ A12.out).mono ?_); rintro e w16 ⟨rfl, hb⟩; refine ⟨_, rfl, ?_⟩; replace HO106 := A_ (Kd.R_below (ra_ HO106.out) hb); replace B1 := bb_ B1 hb; replace HB := bs_ HB hb; (try clear hb); have ⟨hcz17_0,hcz17_1,hcz17_2,hfz17_0,hfz17_1,hfz17_2⟩ := z3_ B1))
    refine bodyPost_ret (results_cell_row rfl _ _ g1 26 #[.int .i64 t109, .int .i64 t110, .string t111] (0, 0) _ rfl (by (iterate 3 apply pp_); exact pkx B1; all_goals rfl) Tryz.underlying26 rfl (by kernel_rfl)) rfl ?_
    exact fi_ bl_

def oculusref18_Sum.f (k : Nat) (a0_0 : Int) (a0_1 : Int) (l0_2 : List (S26)) (a1_0 : Int) (a1_1 : Int) (a1_2 : ByteArray) : Option (Int × Int × ByteArray) := if a1_0 = 4 then (some (a1_0, a1_1, a1_2)) else ((oculusref18_Hit.f k a0_0 a0_1 l0_2 a1_0 a1_1 a1_2).bind fun t104 => ((oculusref15_All.f k t104 0).bind fun bt107 => (some (bt107.1, bt107.2.1, bt107.2.2))))
theorem oculusref18_Sum.calls (k : Nat) (a0_0 : Int) (a0_1 : Int) (A0_2 : Option Addr) (c0_2 : Nat) (l0_2 : List (S26)) (a1_0 : Int) (a1_1 : Int) (a1_2 : ByteArray) (r1 : Int) (r2 : Int) (r3 : ByteArray) (w : World) (hr0_2 : Kd.C k26 w A0_2 l0_2.length l0_2) (hc0_2 : l0_2.length ≤ c0_2) (h : oculusref18_Sum.f k a0_0 a0_1 l0_2 a1_0 a1_1 a1_2 = some (r1, r2, r3)) :
  Calls Tryz.prog 10 #[.agg #[.int .i64 a0_0, .int .i64 a0_1, .slice A0_2 l0_2.length c0_2], .agg #[.int .i64 a1_0, .int .i64 a1_1, .string a1_2]] w fun e w' => e = .returned (.agg #[.int .i64 r1, .int .i64 r2, .string r3]) ∧ Below w.heap.size w w' := by
 have hu24 := Tryz.underlying24; have hu26 := Tryz.underlying26; have HR0_2 := A_ hr0_2; have HC0_2 := A_ hc0_2; clear hr0_2 hc0_2; have HB := A_ (Below.refl w.heap.size w)
 have H : (if a1_0 = 4 then (some (a1_0, a1_1, a1_2)) else ((oculusref18_Hit.f k a0_0 a0_1 l0_2 a1_0 a1_1 a1_2).bind fun t104 => ((oculusref15_All.f k t104 0).bind fun bt107 => (some (bt107.1, bt107.2.1, bt107.2.2))))) = some (r1, r2, r3) := h
 clear h
 by_cases c3 : a1_0 = 4
 ·rw [if_pos c3] at H; have ⟨c3b0,c3b1⟩ := e1_ c3; clear c3
  simp only [Option.some.injEq, Prod.mk.injEq] at H
  obtain ⟨rfl, rfl, rfl⟩ := H
  go_enter Tryz.func10, Tryz.ntmps10
  go_wp2_with (first | ((with_reducible refine gd_ 2 ?_); refine be_ (N:=2) (cs := #[.int .i64 a0_0, .int .i64 a0_1, .slice A0_2 l0_2.length c0_2]) (t:=24) ?_; intro g1 hg w4 hbox hb; have B1 := A_ (hbox); have GW101 := hs_ HB hg; have GE101 := hs_ HB hg; replace HB := bs_ HB hb; clear hb hbox hg) | ((with_reducible refine gd_ 3 ?_); refine be_ (N:=3) (cs := #[.int .i64 a1_0, .int .i64 a1_1, .string a1_2]) (t:=26) ?_; intro g2 hg w5 hbox hb; have B2 := A_ (hbox); have GW102 := hs_ HB hg; have GE102 := hs_ HB hg; have N12 := hl_ B1 hg; have N21 := hr_ B1 hg; replace B1 := bb_ B1 hb; replace HB := bs_ HB hb; clear hb hbox hg) | ((with_reducible refine gd_ 4 ?_); refine be_ (N:=4) (cs := #[.int .i64 0, .int .i64 0, .string (⟨#[]⟩ : ByteArray)]) (t:=26) ?_; intro g3 hg w6 hbox hb; have B3 := A_ (hbox); have GW103 := hs_ HB hg; have GE103 := hs_ HB hg; have N13 := hl_ B1 hg; have N31 := hr_ B1 hg; have N23 := hl_ B2 hg; have N32 := hr_ B2 hg; replace B1 := bb_ B1 hb; replace B2 := bb_ B2 hb; replace HB := bs_ HB hb; clear hb hbox hg; have hnb7 := N21.out; have hnc7 := N12.out; have hnb8 := N23.out; have hnc8 := N32.out; have ⟨hcz9_0,hcz9_1,hcz9_2,hfz9_0,hfz9_1,hfz9_2⟩ := z3_ B2; have hnb10 := N31.out; have hnc10 := N13.out; have ⟨hcz11_0,hcz11_1,hcz11_2,hfz11_0,hfz11_1,hfz11_2⟩ := z3_ B3))
  refine bodyPost_ret (results_cell_row rfl _ _ g3 26 #[.int .i64 a1_0, .int .i64 a1_1, .string a1_2] (0, 0) _ rfl (by (iterate 3 apply pp_); exact pkx B3; all_goals rfl) Tryz.underlying26 rfl (by kernel_rfl)) rfl ?_
  exact fi_ bl_
 ·rw [if_neg c3] at H; have ⟨c3b0,c3b1⟩ := e0_ c3; obtain ⟨t104, A12, H⟩ := bo_ H; obtain ⟨⟨t107, t108, t109⟩, A13, H⟩ := bo_ H; dsimp only at H
  simp only [Option.some.injEq, Prod.mk.injEq] at H
  obtain ⟨rfl, rfl, rfl⟩ := H
  go_enter Tryz.func10, Tryz.ntmps10
  go_wp2_with (first | ((with_reducible refine gd_ 2 ?_); refine be_ (N:=2) (cs := #[.int .i64 a0_0, .int .i64 a0_1, .slice A0_2 l0_2.length c0_2]) (t:=24) ?_; intro g1 hg w14 hbox hb; have B1 := A_ (hbox); have GW101 := hs_ HB hg; have GE101 := hs_ HB hg; replace HB := bs_ HB hb; clear hb hbox hg) | ((with_reducible refine gd_ 3 ?_); refine be_ (N:=3) (cs := #[.int .i64 a1_0, .int .i64 a1_1, .string a1_2]) (t:=26) ?_; intro g2 hg w15 hbox hb; have B2 := A_ (hbox); have GW102 := hs_ HB hg; have GE102 := hs_ HB hg; have N12 := hl_ B1 hg; have N21 := hr_ B1 hg; replace B1 := bb_ B1 hb; replace HB := bs_ HB hb; clear hb hbox hg) | ((with_reducible refine gd_ 4 ?_); refine be_ (N:=4) (cs := #[.int .i64 0, .int .i64 0, .string (⟨#[]⟩ : ByteArray)]) (t:=26) ?_; intro g3 hg w16 hbox hb; have B3 := A_ (hbox); have GW103 := hs_ HB hg; have GE103 := hs_ HB hg; have N13 := hl_ B1 hg; have N31 := hr_ B1 hg; have N23 := hl_ B2 hg; have N32 := hr_ B2 hg; replace B1 := bb_ B1 hb; replace B2 := bb_ B2 hb; replace HB := bs_ HB hb; clear hb hbox hg; have hnb17 := N21.out; have hnc17 := N12.out; have hnb18 := N23.out; have hnc18 := N32.out; have ⟨hcz19_0,hcz19_1,hcz19_2,hfz19_0,hfz19_1,hfz19_2⟩ := z3_ B2; have hnb20 := N13.out; have hnc20 := N31.out; have ⟨hcz21_0,hcz21_1,hcz21_2,hfz21_0,hfz21_1,hfz21_2⟩ := z3_ B1) | ((with_reducible refine gate_callee (f:=25) rfl ?_); refine gL_ (some 11) rfl rfl Tryz.func25 rfl #[.agg #[.int .i64 a0_0, .int .i64 a0_1, .slice A0_2 l0_2.length c0_2], .agg #[.int .i64 a1_0, .int .i64 a1_1, .string a1_2]] rfl ?_; (with_reducible refine (oculusref18_Hit.calls k a0_0 a0_1 _ _ l0_2 a1_0 a1_1 a1_2 t104 _ ?side1 ?side2 A12.out).mono ?_); (case side1 => exact ca_ (Kd.C_below HR0_2.out HB.out)); (case side2 => exact HC0_2.out); rintro e w22 ⟨v105, rfl, ho0, hb⟩; refine ⟨_, rfl, ?_⟩; have HO106 := A_ (Kd.R_lower (Kd.R_newB (Kd.R_newB ho0 (pkx B2)) (pkx B3)) (below_size (pbx HB))); replace B1 := bb_ B1 hb; replace B2 := bb_ B2 hb; replace B3 := bb_ B3 hb; replace HB := bs_ HB hb; obtain ⟨Ao23, co23, eo23⟩ := Kd.R_slice HO106.out; subst eo23) | ((with_reducible refine gate_callee (f:=27) rfl ?_); refine gL_ (some 12) rfl rfl Tryz.func27 rfl #[.slice Ao23 t104.length co23, .int .i64 0] rfl ?_; (with_reducible refine (oculusref15_All.calls k _ _ t104 0 t107 t108 t109 _ ?side1 ?side2 A13.out).mono ?_); (case side1 => exact ca_ (Kd.R_reads' HO106.out).2.2); (case side2 => exact (Kd.R_reads' HO106.out).2.1); rintro e w24 ⟨rfl, hb⟩; refine ⟨_, rfl, ?_⟩; replace HO106 := A_ (Kd.R_below (ra_ HO106.out) hb); replace B1 := bb_ B1 hb; replace B2 := bb_ B2 hb; replace B3 := bb_ B3 hb; replace HB := bs_ HB hb; have ⟨hcz25_0,hcz25_1,hcz25_2,hfz25_0,hfz25_1,hfz25_2⟩ := z3_ B3))
  refine bodyPost_ret (results_cell_row rfl _ _ g3 26 #[.int .i64 t107, .int .i64 t108, .string t109] (0, 0) _ rfl (by (iterate 3 apply pp_); exact pkx B3; all_goals rfl) Tryz.underlying26 rfl (by kernel_rfl)) rfl ?_
  exact fi_ bl_

def fold_Count.l0 : Nat → Int → Int → List (S26) → Int → Int → Option (Int)
 | 0, _, _, _, _, _ => none
 | k + 1, x1, x5, x8, x9, x10 => if x10 < x9 then (if 0 ≤ x10 then (if x10 < (x8.length : Int) then (if x1 = 1 then (if ((rd_T26 x8 x10).f0) = 1 then (fold_Count.l0 k x1 (wrap64 (x5 + 1)) x8 x9 (wrap64 (x10 + 1))) else (fold_Count.l0 k x1 x5 x8 x9 (wrap64 (x10 + 1)))) else (if x1 = 0 then (if ((rd_T26 x8 x10).f0) = 0 then (fold_Count.l0 k x1 (wrap64 (x5 + 1)) x8 x9 (wrap64 (x10 + 1))) else (if ((rd_T26 x8 x10).f0) = 2 then (if ((rd_T26 x8 x10).f2).toList = ([] : List UInt8) then (fold_Count.l0 k x1 (wrap64 (x5 + 1)) x8 x9 (wrap64 (x10 + 1))) else (fold_Count.l0 k x1 x5 x8 x9 (wrap64 (x10 + 1)))) else (fold_Count.l0 k x1 x5 x8 x9 (wrap64 (x10 + 1))))) else (if ((rd_T26 x8 x10).f0) = 0 then (fold_Count.l0 k x1 x5 x8 x9 (wrap64 (x10 + 1))) else (fold_Count.l0 k x1 (wrap64 (x5 + 1)) x8 x9 (wrap64 (x10 + 1)))))) else (none)) else (none)) else (some x5)
def fold_Count.f (k : Nat) (l0 : List (S26)) (a1 : Int) : Option (Int) := fold_Count.l0 k a1 0 l0 (l0.length : Int) 0
theorem fold_Count.calls (k : Nat) (A0 : Option Addr) (c0 : Nat) (l0 : List (S26)) (a1 : Int) (r : Int) (w : World) (hr0 : Kd.C k26 w A0 l0.length l0) (hc0 : l0.length ≤ c0) (h : fold_Count.f k l0 a1 = some r) :
  Calls Tryz.prog 50 #[.slice A0 l0.length c0, .int .i64 a1] w fun e w' => e = .returned (.int .i64 r) ∧ Below w.heap.size w w' := by
 have hu26 := Tryz.underlying26; have HR0 := A_ hr0; have HC0 := A_ hc0; clear hr0 hc0; have HB := A_ (Below.refl w.heap.size w)
 have H : (fold_Count.l0 k a1 0 l0 (l0.length : Int) 0) = some r := h
 clear h
 have H' := A_ H
 clear H
 go_enter Tryz.func50, Tryz.ntmps50
 go_wp2
 go_loopg [5, 10] k (fun kq v5 v10 w' => ∃ (x5_1 : Int) (x10_1 : Int), v5 = .int .i64 x5_1 ∧ v10 = .int .i64 x10_1 ∧ Aside0 (fold_Count.l0 kq a1 x5_1 l0 (l0.length : Int) x10_1 = some r) ∧ Aside0 (kq ≤ k) ∧ Aside0 (Below w.heap.size w w'))
 case atStart => exact ⟨(0), (0), sq_, sq_, H', ⟨Nat.le_refl _⟩, ⟨pbx HB⟩⟩
 case round =>
  clear H'; obtain ⟨x5_1, x10_1, rfl, rfl, HA, HK1, HB⟩ := hrel
  cases gk with
  | zero => exact absurd HA.out (by simp [fold_Count.l0])
  | succ k1 =>
   have H := HA.out; clear HA
   simp only [fold_Count.l0] at H
   by_cases c3 : x10_1 < (l0.length : Int)
   ·rw [if_pos c3] at H; have c3b0 := decide_eq_true c3; clear c3
    by_cases c4 : 0 ≤ x10_1
    ·rw [if_pos c4] at H; have c4b0 := decide_eq_true c4; clear c4
     by_cases c5 : x10_1 < (l0.length : Int)
     ·rw [if_pos c5] at H; have c5b0 := decide_eq_true c5; clear c5
      by_cases c6 : a1 = 1
      ·rw [if_pos c6] at H; have ⟨c6b0,c6b1⟩ := e1_ c6; clear c6
       by_cases c7 : ((rd_T26 l0 x10_1).f0) = 1
       ·rw [if_pos c7] at H; have ⟨c7b0,c7b1⟩ := e1_ c7; clear c7
        have H' := A_ H
        clear H
        have p101 : 0 ≤ (x10_1 : Int) := of_decide_eq_true as_
        have q101 : x10_1 < (l0.length : Int) := of_decide_eq_true as_
        obtain ⟨ad101, e101, hx101_0, hx101_1, hx101_2⟩ := at_T26 HR0.out x10_1 p101 q101
        cases e101
        replace hx101_0 := (HB.out.cell (World.block_lt_of_cell? w _ hx101_0)).trans hx101_0; replace hx101_1 := (HB.out.cell (World.block_lt_of_cell? w _ hx101_1)).trans hx101_1; replace hx101_2 := (HB.out.cell (World.block_lt_of_cell? w _ hx101_2)).trans hx101_2; replace p101 := eq_true p101; replace q101 := eq_true q101
        go_wp2_with (first | ((with_reducible refine gd_ 7 ?_); refine be_ (N:=7) (cs := #[.int .i64 0, .int .i64 0, .string (⟨#[]⟩ : ByteArray)]) (t:=26) ?_; intro g2 hg w8 hbox hb; have B2 := A_ (hbox); have GW102 := hs_ HB hg; have GE102 := hs_ HB hg; replace HB := bs_ HB hb; clear hb hbox hg; have ⟨hcz9_0,hcz9_1,hcz9_2,hfz9_0,hfz9_1,hfz9_2⟩ := z3_ B2))
        go_roundg k1
        case measure => have := HK1.out; omega
        case rel => exact ⟨(wrap64 (x5_1 + 1)), (wrap64 (x10_1 + 1)), sq_, sq_, H', ⟨by have := HK1.out; omega⟩, ⟨bl_⟩⟩
       ·rw [if_neg c7] at H; have ⟨c7b0,c7b1⟩ := e0_ c7
        have H' := A_ H
        clear H
        have p101 : 0 ≤ (x10_1 : Int) := of_decide_eq_true as_
        have q101 : x10_1 < (l0.length : Int) := of_decide_eq_true as_
        obtain ⟨ad101, e101, hx101_0, hx101_1, hx101_2⟩ := at_T26 HR0.out x10_1 p101 q101
        cases e101
        replace hx101_0 := (HB.out.cell (World.block_lt_of_cell? w _ hx101_0)).trans hx101_0; replace hx101_1 := (HB.out.cell (World.block_lt_of_cell? w _ hx101_1)).trans hx101_1; replace hx101_2 := (HB.out.cell (World.block_lt_of_cell? w _ hx101_2)).trans hx101_2; replace p101 := eq_true p101; replace q101 := eq_true q101
        go_wp2_with (first | ((with_reducible refine gd_ 7 ?_); refine be_ (N:=7) (cs := #[.int .i64 0, .int .i64 0, .string (⟨#[]⟩ : ByteArray)]) (t:=26) ?_; intro g2 hg w10 hbox hb; have B2 := A_ (hbox); have GW102 := hs_ HB hg; have GE102 := hs_ HB hg; replace HB := bs_ HB hb; clear hb hbox hg; have ⟨hcz11_0,hcz11_1,hcz11_2,hfz11_0,hfz11_1,hfz11_2⟩ := z3_ B2))
        go_roundg k1
        case measure => have := HK1.out; omega
        case rel => exact ⟨(x5_1), (wrap64 (x10_1 + 1)), sq_, sq_, H', ⟨by have := HK1.out; omega⟩, ⟨bl_⟩⟩
      ·rw [if_neg c6] at H; have ⟨c6b0,c6b1⟩ := e0_ c6
       by_cases c12 : a1 = 0
       ·rw [if_pos c12] at H; have ⟨c12b0,c12b1⟩ := e1_ c12; clear c12
        by_cases c13 : ((rd_T26 l0 x10_1).f0) = 0
        ·rw [if_pos c13] at H; have ⟨c13b0,c13b1⟩ := e1_ c13; clear c13
         have H' := A_ H
         clear H
         have p101 : 0 ≤ (x10_1 : Int) := of_decide_eq_true as_
         have q101 : x10_1 < (l0.length : Int) := of_decide_eq_true as_
         obtain ⟨ad101, e101, hx101_0, hx101_1, hx101_2⟩ := at_T26 HR0.out x10_1 p101 q101
         cases e101
         replace hx101_0 := (HB.out.cell (World.block_lt_of_cell? w _ hx101_0)).trans hx101_0; replace hx101_1 := (HB.out.cell (World.block_lt_of_cell? w _ hx101_1)).trans hx101_1; replace hx101_2 := (HB.out.cell (World.block_lt_of_cell? w _ hx101_2)).trans hx101_2; replace p101 := eq_true p101; replace q101 := eq_true q101
         go_wp2_with (first | ((with_reducible refine gd_ 7 ?_); refine be_ (N:=7) (cs := #[.int .i64 0, .int .i64 0, .string (⟨#[]⟩ : ByteArray)]) (t:=26) ?_; intro g2 hg w14 hbox hb; have B2 := A_ (hbox); have GW102 := hs_ HB hg; have GE102 := hs_ HB hg; replace HB := bs_ HB hb; clear hb hbox hg; have ⟨hcz15_0,hcz15_1,hcz15_2,hfz15_0,hfz15_1,hfz15_2⟩ := z3_ B2))
         go_roundg k1
         case measure => have := HK1.out; omega
         case rel => exact ⟨(wrap64 (x5_1 + 1)), (wrap64 (x10_1 + 1)), sq_, sq_, H', ⟨by have := HK1.out; omega⟩, ⟨bl_⟩⟩
        ·rw [if_neg c13] at H; have ⟨c13b0,c13b1⟩ := e0_ c13
         by_cases c16 : ((rd_T26 l0 x10_1).f0) = 2
         ·rw [if_pos c16] at H; have ⟨c16b0,c16b1⟩ := e1_ c16; clear c16
          by_cases c17 : ((rd_T26 l0 x10_1).f2).toList = ([] : List UInt8)
          ·rw [if_pos c17] at H; have ⟨c17b0,c17b1⟩ := e1_ c17; clear c17
           have H' := A_ H
           clear H
           have p101 : 0 ≤ (x10_1 : Int) := of_decide_eq_true as_
           have q101 : x10_1 < (l0.length : Int) := of_decide_eq_true as_
           obtain ⟨ad101, e101, hx101_0, hx101_1, hx101_2⟩ := at_T26 HR0.out x10_1 p101 q101
           cases e101
           replace hx101_0 := (HB.out.cell (World.block_lt_of_cell? w _ hx101_0)).trans hx101_0; replace hx101_1 := (HB.out.cell (World.block_lt_of_cell? w _ hx101_1)).trans hx101_1; replace hx101_2 := (HB.out.cell (World.block_lt_of_cell? w _ hx101_2)).trans hx101_2; replace p101 := eq_true p101; replace q101 := eq_true q101
           go_wp2_with (first | ((with_reducible refine gd_ 7 ?_); refine be_ (N:=7) (cs := #[.int .i64 0, .int .i64 0, .string (⟨#[]⟩ : ByteArray)]) (t:=26) ?_; intro g2 hg w18 hbox hb; have B2 := A_ (hbox); have GW102 := hs_ HB hg; have GE102 := hs_ HB hg; replace HB := bs_ HB hb; clear hb hbox hg; have ⟨hcz19_0,hcz19_1,hcz19_2,hfz19_0,hfz19_1,hfz19_2⟩ := z3_ B2))
           go_roundg k1
           case measure => have := HK1.out; omega
           case rel => exact ⟨(wrap64 (x5_1 + 1)), (wrap64 (x10_1 + 1)), sq_, sq_, H', ⟨by have := HK1.out; omega⟩, ⟨bl_⟩⟩
          ·rw [if_neg c17] at H; have ⟨c17b0,c17b1⟩ := e0_ c17
           have H' := A_ H
           clear H
           have p101 : 0 ≤ (x10_1 : Int) := of_decide_eq_true as_
           have q101 : x10_1 < (l0.length : Int) := of_decide_eq_true as_
           obtain ⟨ad101, e101, hx101_0, hx101_1, hx101_2⟩ := at_T26 HR0.out x10_1 p101 q101
           cases e101
           replace hx101_0 := (HB.out.cell (World.block_lt_of_cell? w _ hx101_0)).trans hx101_0; replace hx101_1 := (HB.out.cell (World.block_lt_of_cell? w _ hx101_1)).trans hx101_1; replace hx101_2 := (HB.out.cell (World.block_lt_of_cell? w _ hx101_2)).trans hx101_2; replace p101 := eq_true p101; replace q101 := eq_true q101
           go_wp2_with (first | ((with_reducible refine gd_ 7 ?_); refine be_ (N:=7) (cs := #[.int .i64 0, .int .i64 0, .string (⟨#[]⟩ : ByteArray)]) (t:=26) ?_; intro g2 hg w20 hbox hb; have B2 := A_ (hbox); have GW102 := hs_ HB hg; have GE102 := hs_ HB hg; replace HB := bs_ HB hb; clear hb hbox hg; have ⟨hcz21_0,hcz21_1,hcz21_2,hfz21_0,hfz21_1,hfz21_2⟩ := z3_ B2))
           go_roundg k1
           case measure => have := HK1.out; omega
           case rel => exact ⟨(x5_1), (wrap64 (x10_1 + 1)), sq_, sq_, H', ⟨by have := HK1.out; omega⟩, ⟨bl_⟩⟩
         ·rw [if_neg c16] at H; have ⟨c16b0,c16b1⟩ := e0_ c16
          have H' := A_ H
          clear H
          have p101 : 0 ≤ (x10_1 : Int) := of_decide_eq_true as_
          have q101 : x10_1 < (l0.length : Int) := of_decide_eq_true as_
          obtain ⟨ad101, e101, hx101_0, hx101_1, hx101_2⟩ := at_T26 HR0.out x10_1 p101 q101
          cases e101
          replace hx101_0 := (HB.out.cell (World.block_lt_of_cell? w _ hx101_0)).trans hx101_0; replace hx101_1 := (HB.out.cell (World.block_lt_of_cell? w _ hx101_1)).trans hx101_1; replace hx101_2 := (HB.out.cell (World.block_lt_of_cell? w _ hx101_2)).trans hx101_2; replace p101 := eq_true p101; replace q101 := eq_true q101
          go_wp2_with (first | ((with_reducible refine gd_ 7 ?_); refine be_ (N:=7) (cs := #[.int .i64 0, .int .i64 0, .string (⟨#[]⟩ : ByteArray)]) (t:=26) ?_; intro g2 hg w22 hbox hb; have B2 := A_ (hbox); have GW102 := hs_ HB hg; have GE102 := hs_ HB hg; replace HB := bs_ HB hb; clear hb hbox hg; have ⟨hcz23_0,hcz23_1,hcz23_2,hfz23_0,hfz23_1,hfz23_2⟩ := z3_ B2))
          go_roundg k1
          case measure => have := HK1.out; omega
          case rel => exact ⟨(x5_1), (wrap64 (x10_1 + 1)), sq_, sq_, H', ⟨by have := HK1.out; omega⟩, ⟨bl_⟩⟩
       ·rw [if_neg c12] at H; have ⟨c12b0,c12b1⟩ := e0_ c12
        by_cases c24 : ((rd_T26 l0 x10_1).f0) = 0
        ·rw [if_pos c24] at H; have ⟨c24b0,c24b1⟩ := e1_ c24; clear c24
         have H' := A_ H
         clear H
         have p101 : 0 ≤ (x10_1 : Int) := of_decide_eq_true as_
         have q101 : x10_1 < (l0.length : Int) := of_decide_eq_true as_
         obtain ⟨ad101, e101, hx101_0, hx101_1, hx101_2⟩ := at_T26 HR0.out x10_1 p101 q101
         cases e101
         replace hx101_0 := (HB.out.cell (World.block_lt_of_cell? w _ hx101_0)).trans hx101_0; replace hx101_1 := (HB.out.cell (World.block_lt_of_cell? w _ hx101_1)).trans hx101_1; replace hx101_2 := (HB.out.cell (World.block_lt_of_cell? w _ hx101_2)).trans hx101_2; replace p101 := eq_true p101; replace q101 := eq_true q101
         go_wp2_with (first | ((with_reducible refine gd_ 7 ?_); refine be_ (N:=7) (cs := #[.int .i64 0, .int .i64 0, .string (⟨#[]⟩ : ByteArray)]) (t:=26) ?_; intro g2 hg w25 hbox hb; have B2 := A_ (hbox); have GW102 := hs_ HB hg; have GE102 := hs_ HB hg; replace HB := bs_ HB hb; clear hb hbox hg; have ⟨hcz26_0,hcz26_1,hcz26_2,hfz26_0,hfz26_1,hfz26_2⟩ := z3_ B2))
         go_roundg k1
         case measure => have := HK1.out; omega
         case rel => exact ⟨(x5_1), (wrap64 (x10_1 + 1)), sq_, sq_, H', ⟨by have := HK1.out; omega⟩, ⟨bl_⟩⟩
        ·rw [if_neg c24] at H; have ⟨c24b0,c24b1⟩ := e0_ c24
         have H' := A_ H
         clear H
         have p101 : 0 ≤ (x10_1 : Int) := of_decide_eq_true as_
         have q101 : x10_1 < (l0.length : Int) := of_decide_eq_true as_
         obtain ⟨ad101, e101, hx101_0, hx101_1, hx101_2⟩ := at_T26 HR0.out x10_1 p101 q101
         cases e101
         replace hx101_0 := (HB.out.cell (World.block_lt_of_cell? w _ hx101_0)).trans hx101_0; replace hx101_1 := (HB.out.cell (World.block_lt_of_cell? w _ hx101_1)).trans hx101_1; replace hx101_2 := (HB.out.cell (World.block_lt_of_cell? w _ hx101_2)).trans hx101_2; replace p101 := eq_true p101; replace q101 := eq_true q101
         go_wp2_with (first | ((with_reducible refine gd_ 7 ?_); refine be_ (N:=7) (cs := #[.int .i64 0, .int .i64 0, .string (⟨#[]⟩ : ByteArray)]) (t:=26) ?_; intro g2 hg w27 hbox hb; have B2 := A_ (hbox); have GW102 := hs_ HB hg; have GE102 := hs_ HB hg; replace HB := bs_ HB hb; clear hb hbox hg; have ⟨hcz28_0,hcz28_1,hcz28_2,hfz28_0,hfz28_1,hfz28_2⟩ := z3_ B2))
         go_roundg k1
         case measure => have := HK1.out; omega
         case rel => exact ⟨(wrap64 (x5_1 + 1)), (wrap64 (x10_1 + 1)), sq_, sq_, H', ⟨by have := HK1.out; omega⟩, ⟨bl_⟩⟩
     ·rw [if_neg c5] at H
      exact absurd H (by simp)
    ·rw [if_neg c4] at H
     exact absurd H (by simp)
   ·rw [if_neg c3] at H; have c3b0 := decide_eq_false c3; clear c3; obtain rfl := Option.some.inj H
    go_wp2
    go_ret
    exact fi_ (pbx HB)

end Go.Proofs.YtejkoenlfcghbaaGreat.X
namespace Go.Proofs.YtejkoenlfcghbaaGreat.X
open Go.RowKit Go.Proofs.YtejkoenlfcghbaaGreatW.PrintWords Go.Proofs.YtejkoenlfcghbaaGreatW.PrintLast Go.Proofs.YtejkoenlfcghbaaGreatW.PrintMore
attribute [local go_sem] Instr.field asAgg max2_int min2_int max_two min_two max_three min_three max_four min_four
set_option linter.unusedVariables false
set_option linter.unusedSimpArgs false
def fold_Mean.f (k : Nat) (l0 : List (S26)) : Option (Int × Int × ByteArray) := (fold_Sum.f k l0).bind fun bt102 => ((fold_Count.f k l0 1).bind fun t106 => ((fold_fault.f k l0).bind fun bt107 => (if bt107.1 = 4 then (some (bt102.1, bt102.2.1, bt102.2.2)) else (if t106 = 0 then ((value_Bad.f 1).bind fun bt110 => (some (bt110.1, bt110.2.1, bt110.2.2))) else (if bt102.1 = 4 then (some (bt102.1, bt102.2.1, bt102.2.2)) else ((dec_Scaled.f k bt102.2.1 1 t106).bind fun bt113 => ((value_Got.f bt113.1 bt113.2).bind fun bt115 => (some (bt115.1, bt115.2.1, bt115.2.2)))))))))
theorem fold_Mean.calls (k : Nat) (A0 : Option Addr) (c0 : Nat) (l0 : List (S26)) (r1 : Int) (r2 : Int) (r3 : ByteArray) (w : World) (hr0 : Kd.C k26 w A0 l0.length l0) (hc0 : l0.length ≤ c0) (h : fold_Mean.f k l0 = some (r1, r2, r3)) :
  Calls Tryz.prog 28 #[.slice A0 l0.length c0] w fun e w' => e = .returned (.agg #[.int .i64 r1, .int .i64 r2, .string r3]) ∧ Below w.heap.size w w' := by
 have hu26 := Tryz.underlying26; have HR0 := A_ hr0; have HC0 := A_ hc0; clear hr0 hc0; have HB := A_ (Below.refl w.heap.size w)
 have H : ((fold_Sum.f k l0).bind fun bt102 => ((fold_Count.f k l0 1).bind fun t106 => ((fold_fault.f k l0).bind fun bt107 => (if bt107.1 = 4 then (some (bt102.1, bt102.2.1, bt102.2.2)) else (if t106 = 0 then ((value_Bad.f 1).bind fun bt110 => (some (bt110.1, bt110.2.1, bt110.2.2))) else (if bt102.1 = 4 then (some (bt102.1, bt102.2.1, bt102.2.2)) else ((dec_Scaled.f k bt102.2.1 1 t106).bind fun bt113 => ((value_Got.f bt113.1 bt113.2).bind fun bt115 => (some (bt115.1, bt115.2.1, bt115.2.2)))))))))) = some (r1, r2, r3) := h
 clear h; obtain ⟨⟨t102, t103, t104⟩, A2, H⟩ := bo_ H; dsimp only at H; obtain ⟨t106, A3, H⟩ := bo_ H; obtain ⟨⟨t107, t108, t109⟩, A4, H⟩ := bo_ H; dsimp only at H
 by_cases c5 : t107 = 4
 ·rw [if_pos c5] at H; have ⟨c5b0,c5b1⟩ := e1_ c5; clear c5
  simp only [Option.some.injEq, Prod.mk.injEq] at H
  obtain ⟨rfl, rfl, rfl⟩ := H
  go_enter Tryz.func28, Tryz.ntmps28
  go_wp2_with (first | ((with_reducible refine gd_ 2 ?_); refine be_ (N:=2) (cs := #[.int .i64 0, .int .i64 0, .string (⟨#[]⟩ : ByteArray)]) (t:=26) ?_; intro g1 hg w6 hbox hb; have B1 := A_ (hbox); have GW101 := hs_ HB hg; have GE101 := hs_ HB hg; replace HB := bs_ HB hb; clear hb hbox hg) | ((with_reducible refine gate_callee (f:=26) rfl ?_); refine gL_ (some 8) rfl rfl Tryz.func26 rfl #[.slice A0 l0.length c0] rfl ?_; (with_reducible refine (fold_Sum.calls k _ _ l0 t102 t103 t104 _ ?side1 ?side2 A2.out).mono ?_); (case side1 => exact ca_ (Kd.C_below HR0.out HB.out)); (case side2 => exact HC0.out); rintro e w7 ⟨rfl, hb⟩; refine ⟨_, rfl, ?_⟩; replace B1 := bb_ B1 hb; replace HB := bs_ HB hb; ) | ((with_reducible refine gd_ 3 ?_); refine be_ (N:=3) (cs := #[.int .i64 0, .int .i64 0, .string (⟨#[]⟩ : ByteArray)]) (t:=26) ?_; intro g5 hg w8 hbox hb; have B5 := A_ (hbox); have GW105 := hs_ HB hg; have GE105 := hs_ HB hg; have N15 := hl_ B1 hg; have N51 := hr_ B1 hg; replace B1 := bb_ B1 hb; replace HB := bs_ HB hb; clear hb hbox hg; have hnb9 := N51.out; have hnc9 := N15.out; have ⟨hcz10_0,hcz10_1,hcz10_2,hfz10_0,hfz10_1,hfz10_2⟩ := z3_ B5) | ((with_reducible refine gate_callee (f:=50) rfl ?_); refine gL_ (some 10) rfl rfl Tryz.func50 rfl #[.slice A0 l0.length c0, .int .i64 1] rfl ?_; (with_reducible refine (fold_Count.calls k _ _ l0 1 t106 _ ?side1 ?side2 A3.out).mono ?_); (case side1 => exact Kd.C_below HR0.out bl_); (case side2 => exact HC0.out); rintro e w11 ⟨rfl, hb⟩; refine ⟨_, rfl, ?_⟩; replace B1 := A_ (blk_below (g:=g1) (o := .cells #[.int .i64 0, .int .i64 0, .string (⟨#[]⟩ : ByteArray)] 26 (0, 0)) (by (iterate 3 refine pf_ ?_ N15.out); exact pkx B1) hb); replace B5 := A_ (blk_below (g:=g5) (o := .cells #[.int .i64 t102, .int .i64 t103, .string t104] 26 (0, 0)) (by (iterate 3 apply pp_); exact pkx B5; all_goals rfl) hb); replace HB := A_ (below_step (by repeat (first | (with_reducible first | exact HB.out | apply below_alloc | apply pw_below_drewN | apply below_drew1 | refine below_set ?_ GE101.out | refine below_set ?_ GE105.out) | exact HB.out)) hb); ) | ((with_reducible refine gate_callee (f:=51) rfl ?_); refine gL_ (some 13) rfl rfl Tryz.func51 rfl #[.slice A0 l0.length c0] rfl ?_; (with_reducible refine (fold_fault.calls k _ _ l0 t107 t108 t109 _ ?side1 ?side2 A4.out).mono ?_); (case side1 => exact ca_ (Kd.C_below HR0.out HB.out)); (case side2 => exact HC0.out); rintro e w12 ⟨rfl, hb⟩; refine ⟨_, rfl, ?_⟩; replace B1 := bb_ B1 hb; replace B5 := bb_ B5 hb; replace HB := bs_ HB hb; have ⟨hcz13_0,hcz13_1,hcz13_2,hfz13_0,hfz13_1,hfz13_2⟩ := z3_ B5; have ⟨hcz14_0,hcz14_1,hcz14_2,hfz14_0,hfz14_1,hfz14_2⟩ := z3_ B1))
  refine bodyPost_ret (results_cell_row rfl _ _ g1 26 #[.int .i64 t102, .int .i64 t103, .string t104] (0, 0) _ rfl (by (iterate 3 apply pp_); exact pkx B1; all_goals rfl) Tryz.underlying26 rfl (by kernel_rfl)) rfl ?_
  exact fi_ bl_
 ·rw [if_neg c5] at H; have ⟨c5b0,c5b1⟩ := e0_ c5
  by_cases c15 : t106 = 0
  ·rw [if_pos c15] at H; have ⟨c15b0,c15b1⟩ := e1_ c15; clear c15; obtain ⟨⟨t110, t111, t112⟩, A16, H⟩ := bo_ H; dsimp only at H
   simp only [Option.some.injEq, Prod.mk.injEq] at H
   obtain ⟨rfl, rfl, rfl⟩ := H
   go_enter Tryz.func28, Tryz.ntmps28
   go_wp2_with (first | ((with_reducible refine gd_ 2 ?_); refine be_ (N:=2) (cs := #[.int .i64 0, .int .i64 0, .string (⟨#[]⟩ : ByteArray)]) (t:=26) ?_; intro g1 hg w17 hbox hb; have B1 := A_ (hbox); have GW101 := hs_ HB hg; have GE101 := hs_ HB hg; replace HB := bs_ HB hb; clear hb hbox hg) | ((with_reducible refine gate_callee (f:=26) rfl ?_); refine gL_ (some 8) rfl rfl Tryz.func26 rfl #[.slice A0 l0.length c0] rfl ?_; (with_reducible refine (fold_Sum.calls k _ _ l0 t102 t103 t104 _ ?side1 ?side2 A2.out).mono ?_); (case side1 => exact ca_ (Kd.C_below HR0.out HB.out)); (case side2 => exact HC0.out); rintro e w18 ⟨rfl, hb⟩; refine ⟨_, rfl, ?_⟩; replace B1 := bb_ B1 hb; replace HB := bs_ HB hb; ) | ((with_reducible refine gd_ 3 ?_); refine be_ (N:=3) (cs := #[.int .i64 0, .int .i64 0, .string (⟨#[]⟩ : ByteArray)]) (t:=26) ?_; intro g5 hg w19 hbox hb; have B5 := A_ (hbox); have GW105 := hs_ HB hg; have GE105 := hs_ HB hg; have N15 := hl_ B1 hg; have N51 := hr_ B1 hg; replace B1 := bb_ B1 hb; replace HB := bs_ HB hb; clear hb hbox hg; have hnb20 := N51.out; have hnc20 := N15.out; have ⟨hcz21_0,hcz21_1,hcz21_2,hfz21_0,hfz21_1,hfz21_2⟩ := z3_ B5) | ((with_reducible refine gate_callee (f:=50) rfl ?_); refine gL_ (some 10) rfl rfl Tryz.func50 rfl #[.slice A0 l0.length c0, .int .i64 1] rfl ?_; (with_reducible refine (fold_Count.calls k _ _ l0 1 t106 _ ?side1 ?side2 A3.out).mono ?_); (case side1 => exact Kd.C_below HR0.out bl_); (case side2 => exact HC0.out); rintro e w22 ⟨rfl, hb⟩; refine ⟨_, rfl, ?_⟩; replace B1 := A_ (blk_below (g:=g1) (o := .cells #[.int .i64 0, .int .i64 0, .string (⟨#[]⟩ : ByteArray)] 26 (0, 0)) (by (iterate 3 refine pf_ ?_ N15.out); exact pkx B1) hb); replace B5 := A_ (blk_below (g:=g5) (o := .cells #[.int .i64 t102, .int .i64 t103, .string t104] 26 (0, 0)) (by (iterate 3 apply pp_); exact pkx B5; all_goals rfl) hb); replace HB := A_ (below_step (by repeat (first | (with_reducible first | exact HB.out | apply below_alloc | apply pw_below_drewN | apply below_drew1 | refine below_set ?_ GE101.out | refine below_set ?_ GE105.out) | exact HB.out)) hb); ) | ((with_reducible refine gate_callee (f:=51) rfl ?_); refine gL_ (some 13) rfl rfl Tryz.func51 rfl #[.slice A0 l0.length c0] rfl ?_; (with_reducible refine (fold_fault.calls k _ _ l0 t107 t108 t109 _ ?side1 ?side2 A4.out).mono ?_); (case side1 => exact ca_ (Kd.C_below HR0.out HB.out)); (case side2 => exact HC0.out); rintro e w23 ⟨rfl, hb⟩; refine ⟨_, rfl, ?_⟩; replace B1 := bb_ B1 hb; replace B5 := bb_ B5 hb; replace HB := bs_ HB hb; ) | ((with_reducible refine gate_callee (f:=34) rfl ?_); refine gL_ (some 20) rfl rfl Tryz.func34 rfl #[.int .i64 1] rfl ?_; (with_reducible refine (value_Bad.calls 1 t110 t111 t112 _ A16.out).mono ?_); rintro e w24 ⟨rfl, hb⟩; refine ⟨_, rfl, ?_⟩; replace B1 := bb_ B1 hb; replace B5 := bb_ B5 hb; replace HB := bs_ HB hb; have ⟨hcz25_0,hcz25_1,hcz25_2,hfz25_0,hfz25_1,hfz25_2⟩ := z3_ B1))
   refine bodyPost_ret (results_cell_row rfl _ _ g1 26 #[.int .i64 t110, .int .i64 t111, .string t112] (0, 0) _ rfl (by (iterate 3 apply pp_); exact pkx B1; all_goals rfl) Tryz.underlying26 rfl (by kernel_rfl)) rfl ?_
   exact fi_ bl_
  ·rw [if_neg c15] at H; have ⟨c15b0,c15b1⟩ := e0_ c15
   by_cases c26 : t102 = 4
   ·rw [if_pos c26] at H; have ⟨c26b0,c26b1⟩ := e1_ c26; clear c26
    simp only [Option.some.injEq, Prod.mk.injEq] at H
    obtain ⟨rfl, rfl, rfl⟩ := H
    go_enter Tryz.func28, Tryz.ntmps28
    go_wp2_with (first | ((with_reducible refine gd_ 2 ?_); refine be_ (N:=2) (cs := #[.int .i64 0, .int .i64 0, .string (⟨#[]⟩ : ByteArray)]) (t:=26) ?_; intro g1 hg w27 hbox hb; have B1 := A_ (hbox); have GW101 := hs_ HB hg; have GE101 := hs_ HB hg; replace HB := bs_ HB hb; clear hb hbox hg) | ((with_reducible refine gate_callee (f:=26) rfl ?_); refine gL_ (some 8) rfl rfl Tryz.func26 rfl #[.slice A0 l0.length c0] rfl ?_; (with_reducible refine (fold_Sum.calls k _ _ l0 t102 t103 t104 _ ?side1 ?side2 A2.out).mono ?_); (case side1 => exact ca_ (Kd.C_below HR0.out HB.out)); (case side2 => exact HC0.out); rintro e w28 ⟨rfl, hb⟩; refine ⟨_, rfl, ?_⟩; replace B1 := bb_ B1 hb; replace HB := bs_ HB hb; ) | ((with_reducible refine gd_ 3 ?_); refine be_ (N:=3) (cs := #[.int .i64 0, .int .i64 0, .string (⟨#[]⟩ : ByteArray)]) (t:=26) ?_; intro g5 hg w29 hbox hb; have B5 := A_ (hbox); have GW105 := hs_ HB hg; have GE105 := hs_ HB hg; have N15 := hl_ B1 hg; have N51 := hr_ B1 hg; replace B1 := bb_ B1 hb; replace HB := bs_ HB hb; clear hb hbox hg; have hnb30 := N51.out; have hnc30 := N15.out; have ⟨hcz31_0,hcz31_1,hcz31_2,hfz31_0,hfz31_1,hfz31_2⟩ := z3_ B5) | ((with_reducible refine gate_callee (f:=50) rfl ?_); refine gL_ (some 10) rfl rfl Tryz.func50 rfl #[.slice A0 l0.length c0, .int .i64 1] rfl ?_; (with_reducible refine (fold_Count.calls k _ _ l0 1 t106 _ ?side1 ?side2 A3.out).mono ?_); (case side1 => exact Kd.C_below HR0.out bl_); (case side2 => exact HC0.out); rintro e w32 ⟨rfl, hb⟩; refine ⟨_, rfl, ?_⟩; replace B1 := A_ (blk_below (g:=g1) (o := .cells #[.int .i64 0, .int .i64 0, .string (⟨#[]⟩ : ByteArray)] 26 (0, 0)) (by (iterate 3 refine pf_ ?_ N15.out); exact pkx B1) hb); replace B5 := A_ (blk_below (g:=g5) (o := .cells #[.int .i64 t102, .int .i64 t103, .string t104] 26 (0, 0)) (by (iterate 3 apply pp_); exact pkx B5; all_goals rfl) hb); replace HB := A_ (below_step (by repeat (first | (with_reducible first | exact HB.out | apply below_alloc | apply pw_below_drewN | apply below_drew1 | refine below_set ?_ GE101.out | refine below_set ?_ GE105.out) | exact HB.out)) hb); ) | ((with_reducible refine gate_callee (f:=51) rfl ?_); refine gL_ (some 13) rfl rfl Tryz.func51 rfl #[.slice A0 l0.length c0] rfl ?_; (with_reducible refine (fold_fault.calls k _ _ l0 t107 t108 t109 _ ?side1 ?side2 A4.out).mono ?_); (case side1 => exact ca_ (Kd.C_below HR0.out HB.out)); (case side2 => exact HC0.out); rintro e w33 ⟨rfl, hb⟩; refine ⟨_, rfl, ?_⟩; replace B1 := bb_ B1 hb; replace B5 := bb_ B5 hb; replace HB := bs_ HB hb; have ⟨hcz34_0,hcz34_1,hcz34_2,hfz34_0,hfz34_1,hfz34_2⟩ := z3_ B5; have ⟨hcz35_0,hcz35_1,hcz35_2,hfz35_0,hfz35_1,hfz35_2⟩ := z3_ B1))
    refine bodyPost_ret (results_cell_row rfl _ _ g1 26 #[.int .i64 t102, .int .i64 t103, .string t104] (0, 0) _ rfl (by (iterate 3 apply pp_); exact pkx B1; all_goals rfl) Tryz.underlying26 rfl (by kernel_rfl)) rfl ?_
    exact fi_ bl_
   ·rw [if_neg c26] at H; have ⟨c26b0,c26b1⟩ := e0_ c26; obtain ⟨⟨t113, t114⟩, A36, H⟩ := bo_ H; dsimp only at H; obtain ⟨⟨t115, t116, t117⟩, A37, H⟩ := bo_ H; dsimp only at H
    simp only [Option.some.injEq, Prod.mk.injEq] at H
    obtain ⟨rfl, rfl, rfl⟩ := H
    go_enter Tryz.func28, Tryz.ntmps28
    go_wp2_with (first | ((with_reducible refine gd_ 2 ?_); refine be_ (N:=2) (cs := #[.int .i64 0, .int .i64 0, .string (⟨#[]⟩ : ByteArray)]) (t:=26) ?_; intro g1 hg w38 hbox hb; have B1 := A_ (hbox); have GW101 := hs_ HB hg; have GE101 := hs_ HB hg; replace HB := bs_ HB hb; clear hb hbox hg) | ((with_reducible refine gate_callee (f:=26) rfl ?_); refine gL_ (some 8) rfl rfl Tryz.func26 rfl #[.slice A0 l0.length c0] rfl ?_; (with_reducible refine (fold_Sum.calls k _ _ l0 t102 t103 t104 _ ?side1 ?side2 A2.out).mono ?_); (case side1 => exact ca_ (Kd.C_below HR0.out HB.out)); (case side2 => exact HC0.out); rintro e w39 ⟨rfl, hb⟩; refine ⟨_, rfl, ?_⟩; replace B1 := bb_ B1 hb; replace HB := bs_ HB hb; ) | ((with_reducible refine gd_ 3 ?_); refine be_ (N:=3) (cs := #[.int .i64 0, .int .i64 0, .string (⟨#[]⟩ : ByteArray)]) (t:=26) ?_; intro g5 hg w40 hbox hb; have B5 := A_ (hbox); have GW105 := hs_ HB hg; have GE105 := hs_ HB hg; have N15 := hl_ B1 hg; have N51 := hr_ B1 hg; replace B1 := bb_ B1 hb; replace HB := bs_ HB hb; clear hb hbox hg; have hnb41 := N51.out; have hnc41 := N15.out; have ⟨hcz42_0,hcz42_1,hcz42_2,hfz42_0,hfz42_1,hfz42_2⟩ := z3_ B5) | ((with_reducible refine gate_callee (f:=50) rfl ?_); refine gL_ (some 10) rfl rfl Tryz.func50 rfl #[.slice A0 l0.length c0, .int .i64 1] rfl ?_; (with_reducible refine (fold_Count.calls k _ _ l0 1 t106 _ ?side1 ?side2 A3.out).mono ?_); (case side1 => exact Kd.C_below HR0.out bl_); (case side2 => exact HC0.out); rintro e w43 ⟨rfl, hb⟩; refine ⟨_, rfl, ?_⟩; replace B1 := A_ (blk_below (g:=g1) (o := .cells #[.int .i64 0, .int .i64 0, .string (⟨#[]⟩ : ByteArray)] 26 (0, 0)) (by (iterate 3 refine pf_ ?_ N15.out); exact pkx B1) hb); replace B5 := A_ (blk_below (g:=g5) (o := .cells #[.int .i64 t102, .int .i64 t103, .string t104] 26 (0, 0)) (by (iterate 3 apply pp_); exact pkx B5; all_goals rfl) hb); replace HB := A_ (below_step (by repeat (first | (with_reducible first | exact HB.out | apply below_alloc | apply pw_below_drewN | apply below_drew1 | refine below_set ?_ GE101.out | refine below_set ?_ GE105.out) | exact HB.out)) hb); ) | ((with_reducible refine gate_callee (f:=51) rfl ?_); refine gL_ (some 13) rfl rfl Tryz.func51 rfl #[.slice A0 l0.length c0] rfl ?_; (with_reducible refine (fold_fault.calls k _ _ l0 t107 t108 t109 _ ?side1 ?side2 A4.out).mono ?_); (case side1 => exact ca_ (Kd.C_below HR0.out HB.out)); (case side2 => exact HC0.out); rintro e w44 ⟨rfl, hb⟩; refine ⟨_, rfl, ?_⟩; replace B1 := bb_ B1 hb; replace B5 := bb_ B5 hb; replace HB := bs_ HB hb; have ⟨hcz45_0,hcz45_1,hcz45_2,hfz45_0,hfz45_1,hfz45_2⟩ := z3_ B5) | ((with_reducible refine gate_callee (f:=41) rfl ?_); refine gL_ (some 30) rfl rfl Tryz.func41 rfl #[.int .i64 t103, .int .i64 1, .int .i64 t106] rfl ?_; (with_reducible refine (dec_Scaled.calls k t103 1 t106 t113 t114 _ A36.out).mono ?_); rintro e w' ⟨rfl, ⟨nd, rfl⟩⟩; refine ⟨_, rfl, ?_⟩; (try (rw [drewN_self w44]; generalize hq_ : World.drewN w44 _ = w44; have n0_ : Aside0 (w44.heap[g1]? = some (.cells #[.int .i64 0, .int .i64 0, .string (⟨#[]⟩ : ByteArray)] 26 (0, 0))) := ⟨by rw [← hq_]; exact (pkx B1)⟩; have n1_ : Aside0 (w44.heap[g5]? = some (.cells #[.int .i64 t102, .int .i64 t103, .string t104] 26 (0, 0))) := ⟨by rw [← hq_]; exact (pkx B5)⟩; have n2_ : Aside0 (Below w.heap.size w w44) := ⟨by rw [← hq_]; exact (pbx HB)⟩; clear B1 B5 HB hq_; have B1 := n0_; have B5 := n1_; have HB := n2_; clear n0_ n1_ n2_))) | ((with_reducible refine gate_callee (f:=22) rfl ?_); refine gL_ (some 35) rfl rfl Tryz.func22 rfl #[.int .i64 t113, .bool t114] rfl ?_; (with_reducible refine (value_Got.calls t113 t114 t115 t116 t117 _ A37.out).mono ?_); rintro e w46 ⟨rfl, hb⟩; refine ⟨_, rfl, ?_⟩; replace B1 := bb_ B1 hb; replace B5 := bb_ B5 hb; replace HB := bs_ HB hb; have ⟨hcz47_0,hcz47_1,hcz47_2,hfz47_0,hfz47_1,hfz47_2⟩ := z3_ B1))
    refine bodyPost_ret (results_cell_row rfl _ _ g1 26 #[.int .i64 t115, .int .i64 t116, .string t117] (0, 0) _ rfl (by (iterate 3 apply pp_); exact pkx B1; all_goals rfl) Tryz.underlying26 rfl (by kernel_rfl)) rfl ?_
    exact fi_ bl_

end Go.Proofs.YtejkoenlfcghbaaGreat.X
namespace Go.Proofs.YtejkoenlfcghbaaGreat.X
open Go.RowKit Go.Proofs.YtejkoenlfcghbaaGreatW.PrintWords Go.Proofs.YtejkoenlfcghbaaGreatW.PrintLast Go.Proofs.YtejkoenlfcghbaaGreatW.PrintMore
attribute [local go_sem] max2_int min2_int max_two min_two max_three min_three max_four min_four
set_option linter.unusedVariables false
set_option linter.unusedSimpArgs false
def look_MeanIf.f (k : Nat) (a0_0 : Int) (a0_1 : Int) (l0_2 : List (S26)) (a1_0 : Int) (a1_1 : Int) (a1_2 : ByteArray) : Option (Int × Int × ByteArray) := (look_hit.f k a0_0 a0_1 l0_2 a1_0 a1_1 a1_2).bind fun bt104 => (if bt104.2.1 = 4 then (some (bt104.2.1, bt104.2.2.1, bt104.2.2.2)) else ((fold_Mean.f k bt104.1).bind fun bt111 => (some (bt111.1, bt111.2.1, bt111.2.2))))
theorem look_MeanIf.calls (k : Nat) (a0_0 : Int) (a0_1 : Int) (A0_2 : Option Addr) (c0_2 : Nat) (l0_2 : List (S26)) (a1_0 : Int) (a1_1 : Int) (a1_2 : ByteArray) (r1 : Int) (r2 : Int) (r3 : ByteArray) (w : World) (hr0_2 : Kd.C k26 w A0_2 l0_2.length l0_2) (hc0_2 : l0_2.length ≤ c0_2) (h : look_MeanIf.f k a0_0 a0_1 l0_2 a1_0 a1_1 a1_2 = some (r1, r2, r3)) :
  Calls Tryz.prog 11 #[.agg #[.int .i64 a0_0, .int .i64 a0_1, .slice A0_2 l0_2.length c0_2], .agg #[.int .i64 a1_0, .int .i64 a1_1, .string a1_2]] w fun e w' => e = .returned (.agg #[.int .i64 r1, .int .i64 r2, .string r3]) ∧ Below w.heap.size w w' := by
 have hu24 := Tryz.underlying24; have hu26 := Tryz.underlying26; have HR0_2 := A_ hr0_2; have HC0_2 := A_ hc0_2; clear hr0_2 hc0_2; have HB := A_ (Below.refl w.heap.size w)
 have H : ((look_hit.f k a0_0 a0_1 l0_2 a1_0 a1_1 a1_2).bind fun bt104 => (if bt104.2.1 = 4 then (some (bt104.2.1, bt104.2.2.1, bt104.2.2.2)) else ((fold_Mean.f k bt104.1).bind fun bt111 => (some (bt111.1, bt111.2.1, bt111.2.2))))) = some (r1, r2, r3) := h
 clear h; obtain ⟨⟨t104, t107, t108, t109⟩, A3, H⟩ := bo_ H; dsimp only at H
 by_cases c4 : t107 = 4
 ·rw [if_pos c4] at H; have ⟨c4b0,c4b1⟩ := e1_ c4; clear c4
  simp only [Option.some.injEq, Prod.mk.injEq] at H
  obtain ⟨rfl, rfl, rfl⟩ := H
  go_enter Tryz.func11, Tryz.ntmps11
  go_wp2_with (first | ((with_reducible refine gd_ 2 ?_); refine be_ (N:=2) (cs := #[.int .i64 a0_0, .int .i64 a0_1, .slice A0_2 l0_2.length c0_2]) (t:=24) ?_; intro g1 hg w5 hbox hb; have B1 := A_ (hbox); have GW101 := hs_ HB hg; have GE101 := hs_ HB hg; replace HB := bs_ HB hb; clear hb hbox hg) | ((with_reducible refine gd_ 3 ?_); refine be_ (N:=3) (cs := #[.int .i64 a1_0, .int .i64 a1_1, .string a1_2]) (t:=26) ?_; intro g2 hg w6 hbox hb; have B2 := A_ (hbox); have GW102 := hs_ HB hg; have GE102 := hs_ HB hg; have N12 := hl_ B1 hg; have N21 := hr_ B1 hg; replace B1 := bb_ B1 hb; replace HB := bs_ HB hb; clear hb hbox hg) | ((with_reducible refine gd_ 4 ?_); refine be_ (N:=4) (cs := #[.int .i64 0, .int .i64 0, .string (⟨#[]⟩ : ByteArray)]) (t:=26) ?_; intro g3 hg w7 hbox hb; have B3 := A_ (hbox); have GW103 := hs_ HB hg; have GE103 := hs_ HB hg; have N13 := hl_ B1 hg; have N31 := hr_ B1 hg; have N23 := hl_ B2 hg; have N32 := hr_ B2 hg; replace B1 := bb_ B1 hb; replace B2 := bb_ B2 hb; replace HB := bs_ HB hb; clear hb hbox hg; have hnb8 := N12.out; have hnc8 := N21.out; have hnb9 := N13.out; have hnc9 := N31.out; have ⟨hcz10_0,hcz10_1,hcz10_2,hfz10_0,hfz10_1,hfz10_2⟩ := z3_ B1; have hnb11 := N23.out; have hnc11 := N32.out; have ⟨hcz12_0,hcz12_1,hcz12_2,hfz12_0,hfz12_1,hfz12_2⟩ := z3_ B2) | ((with_reducible refine gate_callee (f:=21) rfl ?_); refine gL_ (some 10) rfl rfl Tryz.func21 rfl #[.agg #[.int .i64 a0_0, .int .i64 a0_1, .slice A0_2 l0_2.length c0_2], .agg #[.int .i64 a1_0, .int .i64 a1_1, .string a1_2]] rfl ?_; (with_reducible refine (look_hit.calls k a0_0 a0_1 _ _ l0_2 a1_0 a1_1 a1_2 t104 t107 t108 t109 _ ?side1 ?side2 A3.out).mono ?_); (case side1 => exact ca_ (Kd.C_below HR0_2.out HB.out)); (case side2 => exact HC0_2.out); rintro e w13 ⟨v105, rfl, ho0, hb⟩; refine ⟨_, rfl, ?_⟩; have HO106 := A_ (Kd.R_lower (Kd.R_newB (Kd.R_newB ho0 (pkx B2)) (pkx B3)) (below_size (pbx HB))); replace B1 := bb_ B1 hb; replace B2 := bb_ B2 hb; replace B3 := bb_ B3 hb; replace HB := bs_ HB hb; ) | ((with_reducible refine gd_ 6 ?_); refine be_ (N:=6) (cs := #[.int .i64 0, .int .i64 0, .string (⟨#[]⟩ : ByteArray)]) (t:=26) ?_; intro gb110 hg w14 hbox hb; have BK110 := A_ (hbox); have GW110 := hs_ HB hg; have GE110 := hs_ HB hg; have NB101_110 := hl_ B1 hg; have NB110_101 := hr_ B1 hg; have NB102_110 := hl_ B2 hg; have NB110_102 := hr_ B2 hg; have NB103_110 := hl_ B3 hg; have NB110_103 := hr_ B3 hg; replace HO106 := A_ (Kd.R_below (Kd.R_elderB (ra_ HO106.out) gb110 (Nat.le_of_eq hg.symm)) hb); replace B1 := bb_ B1 hb; replace B2 := bb_ B2 hb; replace B3 := bb_ B3 hb; replace HB := bs_ HB hb; clear hb hbox hg; have hnb15 := NB110_101.out; have hnc15 := NB101_110.out; have hnb16 := NB110_102.out; have hnc16 := NB102_110.out; have hnb17 := NB110_103.out; have hnc17 := NB103_110.out; have ⟨hcz18_0,hcz18_1,hcz18_2,hfz18_0,hfz18_1,hfz18_2⟩ := z3_ BK110; have ⟨hcz19_0,hcz19_1,hcz19_2,hfz19_0,hfz19_1,hfz19_2⟩ := z3_ B3))
  refine bodyPost_ret (results_cell_row rfl _ _ g3 26 #[.int .i64 t107, .int .i64 t108, .string t109] (0, 0) _ rfl (by refine pp_ (cs := #[.int .i64 t107, .int .i64 t108, .string (⟨#[]⟩ : ByteArray)]) 2 ?_ rfl; refine pp_ (cs := #[.int .i64 t107, .int .i64 0, .string (⟨#[]⟩ : ByteArray)]) 1 ?_ rfl; refine pp_ (cs := #[.int .i64 0, .int .i64 0, .string (⟨#[]⟩ : ByteArray)]) 0 ?_ rfl; (iterate 3 refine pf_ ?_ NB103_110.out); exact pkx B3) Tryz.underlying26 rfl (by kernel_rfl)) rfl ?_
  exact fi_ bl_
 ·rw [if_neg c4] at H; have ⟨c4b0,c4b1⟩ := e0_ c4; obtain ⟨⟨t111, t112, t113⟩, A20, H⟩ := bo_ H; dsimp only at H
  simp only [Option.some.injEq, Prod.mk.injEq] at H
  obtain ⟨rfl, rfl, rfl⟩ := H
  go_enter Tryz.func11, Tryz.ntmps11
  go_wp2_with (first | ((with_reducible refine gd_ 2 ?_); refine be_ (N:=2) (cs := #[.int .i64 a0_0, .int .i64 a0_1, .slice A0_2 l0_2.length c0_2]) (t:=24) ?_; intro g1 hg w21 hbox hb; have B1 := A_ (hbox); have GW101 := hs_ HB hg; have GE101 := hs_ HB hg; replace HB := bs_ HB hb; clear hb hbox hg) | ((with_reducible refine gd_ 3 ?_); refine be_ (N:=3) (cs := #[.int .i64 a1_0, .int .i64 a1_1, .string a1_2]) (t:=26) ?_; intro g2 hg w22 hbox hb; have B2 := A_ (hbox); have GW102 := hs_ HB hg; have GE102 := hs_ HB hg; have N12 := hl_ B1 hg; have N21 := hr_ B1 hg; replace B1 := bb_ B1 hb; replace HB := bs_ HB hb; clear hb hbox hg) | ((with_reducible refine gd_ 4 ?_); refine be_ (N:=4) (cs := #[.int .i64 0, .int .i64 0, .string (⟨#[]⟩ : ByteArray)]) (t:=26) ?_; intro g3 hg w23 hbox hb; have B3 := A_ (hbox); have GW103 := hs_ HB hg; have GE103 := hs_ HB hg; have N13 := hl_ B1 hg; have N31 := hr_ B1 hg; have N23 := hl_ B2 hg; have N32 := hr_ B2 hg; replace B1 := bb_ B1 hb; replace B2 := bb_ B2 hb; replace HB := bs_ HB hb; clear hb hbox hg; have hnb24 := N12.out; have hnc24 := N21.out; have hnb25 := N13.out; have hnc25 := N31.out; have ⟨hcz26_0,hcz26_1,hcz26_2,hfz26_0,hfz26_1,hfz26_2⟩ := z3_ B1; have hnb27 := N23.out; have hnc27 := N32.out; have ⟨hcz28_0,hcz28_1,hcz28_2,hfz28_0,hfz28_1,hfz28_2⟩ := z3_ B2) | ((with_reducible refine gate_callee (f:=21) rfl ?_); refine gL_ (some 10) rfl rfl Tryz.func21 rfl #[.agg #[.int .i64 a0_0, .int .i64 a0_1, .slice A0_2 l0_2.length c0_2], .agg #[.int .i64 a1_0, .int .i64 a1_1, .string a1_2]] rfl ?_; (with_reducible refine (look_hit.calls k a0_0 a0_1 _ _ l0_2 a1_0 a1_1 a1_2 t104 t107 t108 t109 _ ?side1 ?side2 A3.out).mono ?_); (case side1 => exact ca_ (Kd.C_below HR0_2.out HB.out)); (case side2 => exact HC0_2.out); rintro e w29 ⟨v105, rfl, ho0, hb⟩; refine ⟨_, rfl, ?_⟩; have HO106 := A_ (Kd.R_lower (Kd.R_newB (Kd.R_newB ho0 (pkx B2)) (pkx B3)) (below_size (pbx HB))); replace B1 := bb_ B1 hb; replace B2 := bb_ B2 hb; replace B3 := bb_ B3 hb; replace HB := bs_ HB hb; ) | ((with_reducible refine gd_ 6 ?_); refine be_ (N:=6) (cs := #[.int .i64 0, .int .i64 0, .string (⟨#[]⟩ : ByteArray)]) (t:=26) ?_; intro gb110 hg w30 hbox hb; have BK110 := A_ (hbox); have GW110 := hs_ HB hg; have GE110 := hs_ HB hg; have NB101_110 := hl_ B1 hg; have NB110_101 := hr_ B1 hg; have NB102_110 := hl_ B2 hg; have NB110_102 := hr_ B2 hg; have NB103_110 := hl_ B3 hg; have NB110_103 := hr_ B3 hg; replace HO106 := A_ (Kd.R_below (Kd.R_elderB (ra_ HO106.out) gb110 (Nat.le_of_eq hg.symm)) hb); replace B1 := bb_ B1 hb; replace B2 := bb_ B2 hb; replace B3 := bb_ B3 hb; replace HB := bs_ HB hb; clear hb hbox hg; have hnb31 := NB110_101.out; have hnc31 := NB101_110.out; have hnb32 := NB110_102.out; have hnc32 := NB102_110.out; have hnb33 := NB110_103.out; have hnc33 := NB103_110.out; have ⟨hcz34_0,hcz34_1,hcz34_2,hfz34_0,hfz34_1,hfz34_2⟩ := z3_ BK110; obtain ⟨Ao35, co35, eo35⟩ := Kd.R_slice HO106.out; subst eo35) | ((with_reducible refine gate_callee (f:=28) rfl ?_); refine gL_ (some 18) rfl rfl Tryz.func28 rfl #[.slice Ao35 t104.length co35] rfl ?_; (with_reducible refine (fold_Mean.calls k _ _ t104 t111 t112 t113 _ ?side1 ?side2 A20.out).mono ?_); (case side1 => refine (Kd.R_reads' (e:=26) (base := w.heap.size) (ok := fun k_ => (((True ∧ k_ ≠ g2) ∧ k_ ≠ g3) ∧ k_ ≠ gb110)) (n := t104.length) (c:=co35) ?_).2.2; exact (by (with_reducible repeat (first | apply Kd.R_alloc | apply Kd.R_drewN | apply Kd.R_drew)); exact (Kd.R_mono (Kd.R_far (p := ⟨gb110, 2, none⟩) (Kd.R_far (p := ⟨gb110, 1, none⟩) (Kd.R_far (p := ⟨gb110, 0, none⟩) (Kd.R_mono HO106.out (fun k_ hk => (⟨hk, hk.2⟩ : _ ∧ k_ ≠ gb110))) (fun _ hk => hk.2) (.int .i64 t107)) (fun _ hk => hk.2) (.int .i64 t108)) (fun _ hk => hk.2) (.string t109)) (fun _ h_ => h_.1)))); (case side2 => exact (Kd.R_reads' HO106.out).2.1); rintro e w36 ⟨rfl, hb⟩; refine ⟨_, rfl, ?_⟩; replace HO106 := A_ (Kd.R_below (by (with_reducible repeat (first | apply Kd.R_alloc | apply Kd.R_drewN | apply Kd.R_drew)); exact (Kd.R_mono (Kd.R_far (p := ⟨gb110, 2, none⟩) (Kd.R_far (p := ⟨gb110, 1, none⟩) (Kd.R_far (p := ⟨gb110, 0, none⟩) (Kd.R_mono HO106.out (fun k_ hk => (⟨hk, hk.2⟩ : _ ∧ k_ ≠ gb110))) (fun _ hk => hk.2) (.int .i64 t107)) (fun _ hk => hk.2) (.int .i64 t108)) (fun _ hk => hk.2) (.string t109)) (fun _ h_ => h_.1))) hb); replace B1 := A_ (blk_below (g:=g1) (o := .cells #[.int .i64 a0_0, .int .i64 a0_1, .slice A0_2 l0_2.length c0_2] 24 (0, 0)) (by (iterate 3 refine pf_ ?_ NB101_110.out); exact pkx B1) hb); replace B2 := A_ (blk_below (g:=g2) (o := .cells #[.int .i64 a1_0, .int .i64 a1_1, .string a1_2] 26 (0, 0)) (by (iterate 3 refine pf_ ?_ NB102_110.out); exact pkx B2) hb); replace B3 := A_ (blk_below (g:=g3) (o := .cells #[.int .i64 0, .int .i64 0, .string (⟨#[]⟩ : ByteArray)] 26 (0, 0)) (by (iterate 3 refine pf_ ?_ NB103_110.out); exact pkx B3) hb); replace BK110 := A_ (blk_below (g:=gb110) (o := .cells #[.int .i64 t107, .int .i64 t108, .string t109] 26 (0, 0)) (by (iterate 3 apply pp_); exact pkx BK110; all_goals rfl) hb); replace HB := A_ (below_step (by repeat (first | (with_reducible first | exact HB.out | apply below_alloc | apply pw_below_drewN | apply below_drew1 | refine below_set ?_ GE101.out | refine below_set ?_ GE102.out | refine below_set ?_ GE103.out | refine below_set ?_ GE110.out) | exact HB.out)) hb); have ⟨hcz37_0,hcz37_1,hcz37_2,hfz37_0,hfz37_1,hfz37_2⟩ := z3_ B3))
  refine bodyPost_ret (results_cell_row rfl _ _ g3 26 #[.int .i64 t111, .int .i64 t112, .string t113] (0, 0) _ rfl (by (iterate 3 apply pp_); exact pkx B3; all_goals rfl) Tryz.underlying26 rfl (by kernel_rfl)) rfl ?_
  exact fi_ bl_

def oculusref15_Mean.j0 : Nat → List Int → Bool → Int → Int → ByteArray → Option (Int × Int × ByteArray)
 | 0, _, _, _, _, _ => none
 | k + 1, x3, x16, x109000, x109001, x109002 => if x16 = true then ((oculusref12_Bad.f 1).bind fun bt110 => (some (bt110.1, bt110.2.1, bt110.2.2))) else (if x109000 = 4 then (some (x109000, x109001, x109002)) else ((oculusref08_Scaled.f k x109001 1 (x3.length : Int)).bind fun bt113 => ((oculusref12_Of.f bt113.1 bt113.2).bind fun bt115 => (some (bt115.1, bt115.2.1, bt115.2.2)))))
def oculusref15_Mean.f (k : Nat) (l0 : List (S26)) : Option (Int × Int × ByteArray) := (oculusref15_Numbers.f k l0).bind fun t102 => ((oculusref15_All.f k l0 0).bind fun bt105 => ((oculusref15_Fault.f k l0).bind fun t109 => (if t109 < 0 then (oculusref15_Mean.j0 k t102 ((t102.length : Int) == 0) bt105.1 bt105.2.1 bt105.2.2) else (oculusref15_Mean.j0 k t102 false bt105.1 bt105.2.1 bt105.2.2))))
theorem oculusref15_Mean.calls (k : Nat) (A0 : Option Addr) (c0 : Nat) (l0 : List (S26)) (r1 : Int) (r2 : Int) (r3 : ByteArray) (w : World) (hr0 : Kd.C k26 w A0 l0.length l0) (hc0 : l0.length ≤ c0) (h : oculusref15_Mean.f k l0 = some (r1, r2, r3)) :
  Calls Tryz.prog 29 #[.slice A0 l0.length c0] w fun e w' => e = .returned (.agg #[.int .i64 r1, .int .i64 r2, .string r3]) ∧ Below w.heap.size w w' := by
 have hu26 := Tryz.underlying26; have HR0 := A_ hr0; have HC0 := A_ hc0; clear hr0 hc0; have HB := A_ (Below.refl w.heap.size w)
 have H : ((oculusref15_Numbers.f k l0).bind fun t102 => ((oculusref15_All.f k l0 0).bind fun bt105 => ((oculusref15_Fault.f k l0).bind fun t109 => (if t109 < 0 then (oculusref15_Mean.j0 k t102 ((t102.length : Int) == 0) bt105.1 bt105.2.1 bt105.2.2) else (oculusref15_Mean.j0 k t102 false bt105.1 bt105.2.1 bt105.2.2))))) = some (r1, r2, r3) := h
 clear h; obtain ⟨t102, A2, H⟩ := bo_ H; obtain ⟨⟨t105, t106, t107⟩, A3, H⟩ := bo_ H; dsimp only at H; have HC4 := A_ H; clear H
 go_enter Tryz.func29, Tryz.ntmps29
 go_upto_region 3 with (first | ((with_reducible refine gd_ 2 ?_); (try (refine gate_guard (by rfl) ?_; dsimp only)); refine be_ (N:=2) (cs := #[.int .i64 0, .int .i64 0, .string (⟨#[]⟩ : ByteArray)]) (t:=26) ?_; intro g1 hg w5 hbox hb; have B1 := A_ (hbox); have GW101 := hs_ HB hg; have GE101 := hs_ HB hg; replace HB := bs_ HB hb; clear hb hbox hg) | ((with_reducible refine gate_callee (f:=49) rfl ?_); refine gL_ (some 6) rfl rfl Tryz.func49 rfl #[.slice A0 l0.length c0] rfl ?_; (with_reducible refine (oculusref15_Numbers.calls k _ _ l0 t102 _ ?side1 ?side2 A2.out).mono ?_); (case side1 => exact ca_ (Kd.C_below HR0.out HB.out)); (case side2 => exact HC0.out); rintro e w6 ⟨v103, rfl, ho0, hb⟩; refine ⟨_, rfl, ?_⟩; have HO104 := A_ (Kd.R_lower ho0 (below_size (pbx HB))); replace B1 := bb_ B1 hb; replace HB := bs_ HB hb; ) | ((with_reducible refine gate_callee (f:=27) rfl ?_); refine gL_ (some 8) rfl rfl Tryz.func27 rfl #[.slice A0 l0.length c0, .int .i64 0] rfl ?_; (with_reducible refine (oculusref15_All.calls k _ _ l0 0 t105 t106 t107 _ ?side1 ?side2 A3.out).mono ?_); (case side1 => exact ca_ (Kd.C_below HR0.out HB.out)); (case side2 => exact HC0.out); rintro e w7 ⟨rfl, hb⟩; refine ⟨_, rfl, ?_⟩; replace HO104 := A_ (Kd.R_below (ra_ HO104.out) hb); replace B1 := bb_ B1 hb; replace HB := bs_ HB hb; ) | ((with_reducible refine gd_ 4 ?_); (try (refine gate_guard (by rfl) ?_; dsimp only)); refine be_ (N:=4) (cs := #[.int .i64 0, .int .i64 0, .string (⟨#[]⟩ : ByteArray)]) (t:=26) ?_; intro g8 hg w8 hbox hb; have B8 := A_ (hbox); have GW108 := hs_ HB hg; have GE108 := hs_ HB hg; have N18 := hl_ B1 hg; have N81 := hr_ B1 hg; replace HO104 := A_ (Kd.R_below (ra_ HO104.out) hb); replace B1 := bb_ B1 hb; replace HB := bs_ HB hb; clear hb hbox hg; have hnb9 := N81.out; have hnc9 := N18.out; have ⟨hcz10_0,hcz10_1,hcz10_2,hfz10_0,hfz10_1,hfz10_2⟩ := z3_ B8))
 (try simp only [q_])
 go_cut [16] (fun v16 wc => ∃ (kq : Nat) (x16_3 : Bool), v16 = .bool x16_3 ∧ Aside0 (oculusref15_Mean.j0 kq t102 x16_3 t105 t106 t107 = some (r1, r2, r3)) ∧ Aside0 (kq ≤ k) ∧ Aside0 (Kd.R (Kd.int .i64) 2 wc w.heap.size (fun _ => True) v103 t102) ∧ Aside0 (wc.heap[g1]? = some (.cells #[.int .i64 0, .int .i64 0, .string (⟨#[]⟩ : ByteArray)] 26 (0, 0))) ∧ Aside0 (wc.heap[g8]? = some (.cells #[.int .i64 t105, .int .i64 t106, .string t107] 26 (0, 0))) ∧ Aside0 (Below w.heap.size w wc))
 case first =>
  have H := HC4.out; clear HC4; obtain ⟨t109, A11, H⟩ := bo_ H
  by_cases c12 : t109 < 0
  ·rw [if_pos c12] at H; have c12b0 := decide_eq_true c12; clear c12; (first | rw [c12b0] | (simp only [i64_w, i32_w]; rw [c12b0]) | skip)
   have H' := A_ H
   clear H
   go_wp2_with (first | ((with_reducible refine gate_callee (f:=46) rfl ?_); refine gL_ (some 10) rfl rfl Tryz.func46 rfl #[.slice A0 l0.length c0] rfl ?_; (with_reducible refine (oculusref15_Fault.calls k _ _ l0 t109 _ ?side1 ?side2 A11.out).mono ?_); (case side1 => exact Kd.C_below HR0.out bl_); (case side2 => exact HC0.out); rintro e w' ⟨rfl, ⟨nd, rfl⟩⟩; refine ⟨_, rfl, ?_⟩; obtain ⟨Ao13, co13, eo13⟩ := Kd.R_slice HO104.out; subst eo13))
   go_meet
   case rel => exact ⟨_, (((t102.length : Int) == 0)), (by first | rfl | (simp; done) | (simp [*]; done) | (cases t102 <;> simp; done)), H', le_, ⟨by (with_reducible repeat (first | apply Kd.R_alloc | apply Kd.R_drewN | apply Kd.R_drew)); exact Kd.R_mono (Kd.R_far (p := ⟨g8, 2, none⟩) (Kd.R_far (p := ⟨g8, 1, none⟩) (Kd.R_far (p := ⟨g8, 0, none⟩) (Kd.R_types HO104.out B8.out (by decide)) (fun _ hk => hk.2) (.int .i64 t105)) (fun _ hk => hk.2) (.int .i64 t106)) (fun _ hk => hk.2) (.string t107)) (fun _ hk => trivial)⟩, ⟨by (iterate 3 refine pf_ ?_ N18.out); exact pkx B1⟩, ⟨by (iterate 3 apply pp_); exact pkx B8; all_goals rfl⟩, ⟨bl_⟩⟩
  ·rw [if_neg c12] at H; have c12b0 := decide_eq_false c12; clear c12; (first | rw [c12b0] | (simp only [i64_w, i32_w]; rw [c12b0]) | skip)
   have H' := A_ H
   clear H
   go_wp2_with (first | ((with_reducible refine gate_callee (f:=46) rfl ?_); refine gL_ (some 10) rfl rfl Tryz.func46 rfl #[.slice A0 l0.length c0] rfl ?_; (with_reducible refine (oculusref15_Fault.calls k _ _ l0 t109 _ ?side1 ?side2 A11.out).mono ?_); (case side1 => exact Kd.C_below HR0.out bl_); (case side2 => exact HC0.out); rintro e w' ⟨rfl, ⟨nd, rfl⟩⟩; refine ⟨_, rfl, ?_⟩))
   go_meet
   case rel => exact ⟨_, (false), sq_, H', le_, ⟨by (with_reducible repeat (first | apply Kd.R_alloc | apply Kd.R_drewN | apply Kd.R_drew)); exact Kd.R_mono (Kd.R_far (p := ⟨g8, 2, none⟩) (Kd.R_far (p := ⟨g8, 1, none⟩) (Kd.R_far (p := ⟨g8, 0, none⟩) (Kd.R_types HO104.out B8.out (by decide)) (fun _ hk => hk.2) (.int .i64 t105)) (fun _ hk => hk.2) (.int .i64 t106)) (fun _ hk => hk.2) (.string t107)) (fun _ hk => trivial)⟩, ⟨by (iterate 3 refine pf_ ?_ N18.out); exact pkx B1⟩, ⟨by (iterate 3 apply pp_); exact pkx B8; all_goals rfl⟩, ⟨bl_⟩⟩
 case rest =>
  clear HC4; (try clear hcz10_0); (try clear hcz10_1); (try clear hcz10_2); (try clear hfz10_0); (try clear hfz10_1); (try clear hfz10_2); obtain ⟨kq, x16_3, rfl, HA, HJ3, HO_3, B1, B8, HB⟩ := hcut
  cases kq with
  | zero => exact absurd HA.out (by simp [oculusref15_Mean.j0])
  | succ kj3 =>
   have H := HA.out; clear HA
   simp only [oculusref15_Mean.j0] at H
   replace H := ib_ H; rcases H with ⟨rfl,H⟩|⟨rfl,H⟩
   ·obtain ⟨⟨t110, t111, t112⟩, A15, H⟩ := bo_ H; dsimp only at H
    simp only [Option.some.injEq, Prod.mk.injEq] at H
    obtain ⟨rfl, rfl, rfl⟩ := H
    go_wp2_with (first | ((with_reducible refine gate_callee (f:=42) rfl ?_); refine gL_ (some 17) rfl rfl Tryz.func42 rfl #[.int .i64 1] rfl ?_; (with_reducible refine (oculusref12_Bad.calls 1 t110 t111 t112 _ A15.out).mono ?_); rintro e w16 ⟨rfl, hb⟩; refine ⟨_, rfl, ?_⟩; replace HO_3 := A_ (Kd.R_below (ra_ HO_3.out) hb); replace B1 := bb_ B1 hb; replace B8 := bb_ B8 hb; replace HB := bs_ HB hb; (try clear hb); have hnb17 := N18.out; have hnc17 := N81.out; have ⟨hcz18_0,hcz18_1,hcz18_2,hfz18_0,hfz18_1,hfz18_2⟩ := z3_ B1))
    refine bodyPost_ret (results_cell_row rfl _ _ g1 26 #[.int .i64 t110, .int .i64 t111, .string t112] (0, 0) _ rfl (by (iterate 3 apply pp_); exact pkx B1; all_goals rfl) Tryz.underlying26 rfl (by kernel_rfl)) rfl ?_
    exact fi_ bl_
   ·by_cases c19 : t105 = 4
    ·rw [if_pos c19] at H; have ⟨c19b0,c19b1⟩ := e1_ c19; clear c19
     simp only [Option.some.injEq, Prod.mk.injEq] at H
     obtain ⟨rfl, rfl, rfl⟩ := H; have hnb20 := N81.out; have hnc20 := N18.out
     have ⟨hcz21_0,hcz21_1,hcz21_2,hfz21_0,hfz21_1,hfz21_2⟩ := z3_ B8
     have ⟨hcz22_0,hcz22_1,hcz22_2,hfz22_0,hfz22_1,hfz22_2⟩ := z3_ B1
     go_wp2
     refine bodyPost_ret (results_cell_row rfl _ _ g1 26 #[.int .i64 t105, .int .i64 t106, .string t107] (0, 0) _ rfl (by (iterate 3 apply pp_); exact pkx B1; all_goals rfl) Tryz.underlying26 rfl (by kernel_rfl)) rfl ?_
     exact fi_ bl_
    ·rw [if_neg c19] at H; have ⟨c19b0,c19b1⟩ := e0_ c19; obtain ⟨⟨t113, t114⟩, A23, H⟩ := bo_ H; dsimp only at H; obtain ⟨⟨t115, t116, t117⟩, A24, H⟩ := bo_ H; dsimp only at H
     simp only [Option.some.injEq, Prod.mk.injEq] at H
     obtain ⟨rfl, rfl, rfl⟩ := H; have hnb25 := N81.out; have hnc25 := N18.out
     have ⟨hcz26_0,hcz26_1,hcz26_2,hfz26_0,hfz26_1,hfz26_2⟩ := z3_ B8; obtain ⟨Ao27, co27, eo27⟩ := Kd.R_slice HO_3.out; subst eo27
     go_wp2_with (first | ((with_reducible refine gate_callee (f:=52) rfl ?_); refine gL_ (some 26) rfl rfl Tryz.func52 rfl #[.int .i64 t106, .int .i64 1, .int .i64 (t102.length : Int)] rfl ?_; (with_reducible refine (oculusref08_Scaled.calls kj3 t106 1 (t102.length : Int) t113 t114 _ A23.out).mono ?_); rintro e w28 ⟨rfl, hb⟩; refine ⟨_, rfl, ?_⟩; replace HO_3 := A_ (Kd.R_below (ra_ HO_3.out) hb); replace B1 := bb_ B1 hb; replace B8 := bb_ B8 hb; replace HB := bs_ HB hb; (try clear hb); ) | ((with_reducible refine gate_callee (f:=47) rfl ?_); refine gL_ (some 27) rfl rfl Tryz.func47 rfl #[.agg #[.int .i64 t113, .bool t114]] rfl ?_; (with_reducible refine (oculusref12_Of.calls t113 t114 t115 t116 t117 _ A24.out).mono ?_); rintro e w29 ⟨rfl, hb⟩; refine ⟨_, rfl, ?_⟩; replace HO_3 := A_ (Kd.R_below (ra_ HO_3.out) hb); replace B1 := bb_ B1 hb; replace B8 := bb_ B8 hb; replace HB := bs_ HB hb; (try clear hb); have ⟨hcz30_0,hcz30_1,hcz30_2,hfz30_0,hfz30_1,hfz30_2⟩ := z3_ B1))
     refine bodyPost_ret (results_cell_row rfl _ _ g1 26 #[.int .i64 t115, .int .i64 t116, .string t117] (0, 0) _ rfl (by (iterate 3 apply pp_); exact pkx B1; all_goals rfl) Tryz.underlying26 rfl (by kernel_rfl)) rfl ?_
     exact fi_ bl_

def oculusref18_Mean.f (k : Nat) (a0_0 : Int) (a0_1 : Int) (l0_2 : List (S26)) (a1_0 : Int) (a1_1 : Int) (a1_2 : ByteArray) : Option (Int × Int × ByteArray) := if a1_0 = 4 then (some (a1_0, a1_1, a1_2)) else ((oculusref18_Hit.f k a0_0 a0_1 l0_2 a1_0 a1_1 a1_2).bind fun t104 => ((oculusref15_Mean.f k t104).bind fun bt107 => (some (bt107.1, bt107.2.1, bt107.2.2))))
theorem oculusref18_Mean.calls (k : Nat) (a0_0 : Int) (a0_1 : Int) (A0_2 : Option Addr) (c0_2 : Nat) (l0_2 : List (S26)) (a1_0 : Int) (a1_1 : Int) (a1_2 : ByteArray) (r1 : Int) (r2 : Int) (r3 : ByteArray) (w : World) (hr0_2 : Kd.C k26 w A0_2 l0_2.length l0_2) (hc0_2 : l0_2.length ≤ c0_2) (h : oculusref18_Mean.f k a0_0 a0_1 l0_2 a1_0 a1_1 a1_2 = some (r1, r2, r3)) :
  Calls Tryz.prog 12 #[.agg #[.int .i64 a0_0, .int .i64 a0_1, .slice A0_2 l0_2.length c0_2], .agg #[.int .i64 a1_0, .int .i64 a1_1, .string a1_2]] w fun e w' => e = .returned (.agg #[.int .i64 r1, .int .i64 r2, .string r3]) ∧ Below w.heap.size w w' := by
 have hu24 := Tryz.underlying24; have hu26 := Tryz.underlying26; have HR0_2 := A_ hr0_2; have HC0_2 := A_ hc0_2; clear hr0_2 hc0_2; have HB := A_ (Below.refl w.heap.size w)
 have H : (if a1_0 = 4 then (some (a1_0, a1_1, a1_2)) else ((oculusref18_Hit.f k a0_0 a0_1 l0_2 a1_0 a1_1 a1_2).bind fun t104 => ((oculusref15_Mean.f k t104).bind fun bt107 => (some (bt107.1, bt107.2.1, bt107.2.2))))) = some (r1, r2, r3) := h
 clear h
 by_cases c3 : a1_0 = 4
 ·rw [if_pos c3] at H; have ⟨c3b0,c3b1⟩ := e1_ c3; clear c3
  simp only [Option.some.injEq, Prod.mk.injEq] at H
  obtain ⟨rfl, rfl, rfl⟩ := H
  go_enter Tryz.func12, Tryz.ntmps12
  go_wp2_with (first | ((with_reducible refine gd_ 2 ?_); refine be_ (N:=2) (cs := #[.int .i64 a0_0, .int .i64 a0_1, .slice A0_2 l0_2.length c0_2]) (t:=24) ?_; intro g1 hg w4 hbox hb; have B1 := A_ (hbox); have GW101 := hs_ HB hg; have GE101 := hs_ HB hg; replace HB := bs_ HB hb; clear hb hbox hg) | ((with_reducible refine gd_ 3 ?_); refine be_ (N:=3) (cs := #[.int .i64 a1_0, .int .i64 a1_1, .string a1_2]) (t:=26) ?_; intro g2 hg w5 hbox hb; have B2 := A_ (hbox); have GW102 := hs_ HB hg; have GE102 := hs_ HB hg; have N12 := hl_ B1 hg; have N21 := hr_ B1 hg; replace B1 := bb_ B1 hb; replace HB := bs_ HB hb; clear hb hbox hg) | ((with_reducible refine gd_ 4 ?_); refine be_ (N:=4) (cs := #[.int .i64 0, .int .i64 0, .string (⟨#[]⟩ : ByteArray)]) (t:=26) ?_; intro g3 hg w6 hbox hb; have B3 := A_ (hbox); have GW103 := hs_ HB hg; have GE103 := hs_ HB hg; have N13 := hl_ B1 hg; have N31 := hr_ B1 hg; have N23 := hl_ B2 hg; have N32 := hr_ B2 hg; replace B1 := bb_ B1 hb; replace B2 := bb_ B2 hb; replace HB := bs_ HB hb; clear hb hbox hg; have hnb7 := N21.out; have hnc7 := N12.out; have hnb8 := N23.out; have hnc8 := N32.out; have ⟨hcz9_0,hcz9_1,hcz9_2,hfz9_0,hfz9_1,hfz9_2⟩ := z3_ B2; have hnb10 := N31.out; have hnc10 := N13.out; have ⟨hcz11_0,hcz11_1,hcz11_2,hfz11_0,hfz11_1,hfz11_2⟩ := z3_ B3))
  refine bodyPost_ret (results_cell_row rfl _ _ g3 26 #[.int .i64 a1_0, .int .i64 a1_1, .string a1_2] (0, 0) _ rfl (by (iterate 3 apply pp_); exact pkx B3; all_goals rfl) Tryz.underlying26 rfl (by kernel_rfl)) rfl ?_
  exact fi_ bl_
 ·rw [if_neg c3] at H; have ⟨c3b0,c3b1⟩ := e0_ c3; obtain ⟨t104, A12, H⟩ := bo_ H; obtain ⟨⟨t107, t108, t109⟩, A13, H⟩ := bo_ H; dsimp only at H
  simp only [Option.some.injEq, Prod.mk.injEq] at H
  obtain ⟨rfl, rfl, rfl⟩ := H
  go_enter Tryz.func12, Tryz.ntmps12
  go_wp2_with (first | ((with_reducible refine gd_ 2 ?_); refine be_ (N:=2) (cs := #[.int .i64 a0_0, .int .i64 a0_1, .slice A0_2 l0_2.length c0_2]) (t:=24) ?_; intro g1 hg w14 hbox hb; have B1 := A_ (hbox); have GW101 := hs_ HB hg; have GE101 := hs_ HB hg; replace HB := bs_ HB hb; clear hb hbox hg) | ((with_reducible refine gd_ 3 ?_); refine be_ (N:=3) (cs := #[.int .i64 a1_0, .int .i64 a1_1, .string a1_2]) (t:=26) ?_; intro g2 hg w15 hbox hb; have B2 := A_ (hbox); have GW102 := hs_ HB hg; have GE102 := hs_ HB hg; have N12 := hl_ B1 hg; have N21 := hr_ B1 hg; replace B1 := bb_ B1 hb; replace HB := bs_ HB hb; clear hb hbox hg) | ((with_reducible refine gd_ 4 ?_); refine be_ (N:=4) (cs := #[.int .i64 0, .int .i64 0, .string (⟨#[]⟩ : ByteArray)]) (t:=26) ?_; intro g3 hg w16 hbox hb; have B3 := A_ (hbox); have GW103 := hs_ HB hg; have GE103 := hs_ HB hg; have N13 := hl_ B1 hg; have N31 := hr_ B1 hg; have N23 := hl_ B2 hg; have N32 := hr_ B2 hg; replace B1 := bb_ B1 hb; replace B2 := bb_ B2 hb; replace HB := bs_ HB hb; clear hb hbox hg; have hnb17 := N21.out; have hnc17 := N12.out; have hnb18 := N23.out; have hnc18 := N32.out; have ⟨hcz19_0,hcz19_1,hcz19_2,hfz19_0,hfz19_1,hfz19_2⟩ := z3_ B2; have hnb20 := N13.out; have hnc20 := N31.out; have ⟨hcz21_0,hcz21_1,hcz21_2,hfz21_0,hfz21_1,hfz21_2⟩ := z3_ B1) | ((with_reducible refine gate_callee (f:=25) rfl ?_); refine gL_ (some 11) rfl rfl Tryz.func25 rfl #[.agg #[.int .i64 a0_0, .int .i64 a0_1, .slice A0_2 l0_2.length c0_2], .agg #[.int .i64 a1_0, .int .i64 a1_1, .string a1_2]] rfl ?_; (with_reducible refine (oculusref18_Hit.calls k a0_0 a0_1 _ _ l0_2 a1_0 a1_1 a1_2 t104 _ ?side1 ?side2 A12.out).mono ?_); (case side1 => exact ca_ (Kd.C_below HR0_2.out HB.out)); (case side2 => exact HC0_2.out); rintro e w22 ⟨v105, rfl, ho0, hb⟩; refine ⟨_, rfl, ?_⟩; have HO106 := A_ (Kd.R_lower (Kd.R_newB (Kd.R_newB ho0 (pkx B2)) (pkx B3)) (below_size (pbx HB))); replace B1 := bb_ B1 hb; replace B2 := bb_ B2 hb; replace B3 := bb_ B3 hb; replace HB := bs_ HB hb; obtain ⟨Ao23, co23, eo23⟩ := Kd.R_slice HO106.out; subst eo23) | ((with_reducible refine gate_callee (f:=29) rfl ?_); refine gL_ (some 12) rfl rfl Tryz.func29 rfl #[.slice Ao23 t104.length co23] rfl ?_; (with_reducible refine (oculusref15_Mean.calls k _ _ t104 t107 t108 t109 _ ?side1 ?side2 A13.out).mono ?_); (case side1 => exact ca_ (Kd.R_reads' HO106.out).2.2); (case side2 => exact (Kd.R_reads' HO106.out).2.1); rintro e w24 ⟨rfl, hb⟩; refine ⟨_, rfl, ?_⟩; replace HO106 := A_ (Kd.R_below (ra_ HO106.out) hb); replace B1 := bb_ B1 hb; replace B2 := bb_ B2 hb; replace B3 := bb_ B3 hb; replace HB := bs_ HB hb; have ⟨hcz25_0,hcz25_1,hcz25_2,hfz25_0,hfz25_1,hfz25_2⟩ := z3_ B3))
  refine bodyPost_ret (results_cell_row rfl _ _ g3 26 #[.int .i64 t107, .int .i64 t108, .string t109] (0, 0) _ rfl (by (iterate 3 apply pp_); exact pkx B3; all_goals rfl) Tryz.underlying26 rfl (by kernel_rfl)) rfl ?_
  exact fi_ bl_

end Go.Proofs.YtejkoenlfcghbaaGreat.X
namespace Go.Proofs.YtejkoenlfcghbaaGreat.X
open Go.RowKit Go.Proofs.YtejkoenlfcghbaaGreatW.PrintWords Go.Proofs.YtejkoenlfcghbaaGreatW.PrintLast Go.Proofs.YtejkoenlfcghbaaGreatW.PrintMore
attribute [local go_sem] max2_int min2_int max_two min_two max_three min_three max_four min_four
set_option linter.unusedVariables false
set_option linter.unusedSimpArgs false
attribute [local go_sem high] eqA26
mutual
def oculuslaw18_LookCounts.j0 : Nat → Bool → Int → Int → List (S26) → Int → Int → ByteArray → Option (Bool)
 | 0, _, _, _, _, _, _, _ => none
 | k + 1, x23, x102000, x102001, x102002, x103000, x103001, x103002 => if x23 = true then ((oculuslaw18_alive.f k).bind fun t105 => (some t105)) else ((look_CountIf.f k x102000 x102001 x102002 x103000 x103001 x103002).bind fun bt106 => ((oculusref18_Count.f k x102000 x102001 x102002 x103000 x103001 x103002).bind fun bt109 => (if (!(bt106.1 == bt109.1) || (!(bt106.2.1 == bt109.2.1) || (!(bt106.2.2.toList == bt109.2.2.toList)))) = true then (oculuslaw18_LookCounts.j1 k true x102000 x102001 x102002 x103000 x103001 x103002) else ((look_SumIf.f k x102000 x102001 x102002 x103000 x103001 x103002).bind fun bt112 => ((oculusref18_Sum.f k x102000 x102001 x102002 x103000 x103001 x103002).bind fun bt115 => (if (!(bt112.1 == bt115.1) || (!(bt112.2.1 == bt115.2.1) || (!(bt112.2.2.toList == bt115.2.2.toList)))) = true then (oculuslaw18_LookCounts.j1 k true x102000 x102001 x102002 x103000 x103001 x103002) else ((look_MeanIf.f k x102000 x102001 x102002 x103000 x103001 x103002).bind fun bt118 => ((oculusref18_Mean.f k x102000 x102001 x102002 x103000 x103001 x103002).bind fun bt121 => (oculuslaw18_LookCounts.j1 k (!(bt118.1 == bt121.1) || (!(bt118.2.1 == bt121.2.1) || (!(bt118.2.2.toList == bt121.2.2.toList)))) x102000 x102001 x102002 x103000 x103001 x103002)))))))))
def oculuslaw18_LookCounts.j1 : Nat → Bool → Int → Int → List (S26) → Int → Int → ByteArray → Option (Bool)
 | 0, _, _, _, _, _, _, _ => none
 | k + 1, x49, x102000, x102001, x102002, x103000, x103001, x103002 => if x49 = true then (none) else (if x103000 = 2 then (if 1 + x103002.size ≤ 9223372036854775807 then ((value_Str.f ((⟨#[61]⟩ : ByteArray) ++ x103002)).bind fun bt125 => ((look_CountIf.f k x102000 x102001 x102002 bt125.1 bt125.2.1 bt125.2.2).bind fun bt128 => (if 2 + x103002.size ≤ 9223372036854775807 then ((value_Str.f ((⟨#[60, 62]⟩ : ByteArray) ++ x103002)).bind fun bt132 => ((look_CountIf.f k x102000 x102001 x102002 bt132.1 bt132.2.1 bt132.2.2).bind fun bt135 => (oculuslaw18_LookCounts.l0 k 0 x102002 (x102002.length : Int) 0 x102000 x102001 x102002 bt128.1 bt128.2.1 bt128.2.2 bt135.1 bt135.2.1 bt135.2.2))) else (none)))) else (none)) else ((oculuslaw18_alive.f k).bind fun t124 => (some t124)))
def oculuslaw18_LookCounts.l0 : Nat → Int → List (S26) → Int → Int → Int → Int → List (S26) → Int → Int → ByteArray → Int → Int → ByteArray → Option (Bool)
 | 0, _, _, _, _, _, _, _, _, _, _, _, _, _ => none
 | k + 1, x7, x67, x68, x69, x102000, x102001, x102002, x132000, x132001, x132002, x139000, x139001, x139002 => if x69 < x68 then (if 0 ≤ x69 then (if x69 < (x67.length : Int) then (if ((rd_T26 x67 x69).f0) = 4 then (oculuslaw18_LookCounts.l0 k (wrap64 (x7 + 1)) x67 x68 (wrap64 (x69 + 1)) x102000 x102001 x102002 x132000 x132001 x132002 x139000 x139001 x139002) else (oculuslaw18_LookCounts.l0 k x7 x67 x68 (wrap64 (x69 + 1)) x102000 x102001 x102002 x132000 x132001 x132002 x139000 x139001 x139002)) else (none)) else (none)) else (if (wrap64 (x132001 + x139001)) = (wrap64 ((wrap64 ((x102002.length : Int) - x7)) * 10000)) then ((oculuslaw18_alive.f k).bind fun t141 => (some t141)) else (none))
end
def oculuslaw18_LookCounts.f (k : Nat) (a0_0 : Int) (a0_1 : Int) (l0_2 : List (S26)) (a1_0 : Int) (a1_1 : Int) (a1_2 : ByteArray) : Option (Bool) := (oculuslaw18_small.f k a0_0 a0_1 l0_2).bind fun t103 => (if t103 = true then ((oculusref12_May.f a1_0 a1_1 a1_2).bind fun t104 => (if t104 = true then (oculuslaw18_LookCounts.j0 k (decide ((a1_2.size : Int) > 60)) a0_0 a0_1 l0_2 a1_0 a1_1 a1_2) else (oculuslaw18_LookCounts.j0 k true a0_0 a0_1 l0_2 a1_0 a1_1 a1_2))) else (oculuslaw18_LookCounts.j0 k true a0_0 a0_1 l0_2 a1_0 a1_1 a1_2))
def oculuslaw18_LookCounts.T3 : Bool × List (List Nat × List Nat) := (true, [([], []), ([], []), ([0, 1], [0, 1]), ([], []), ([], []), ([3, 4, 2], [3, 4]), ([2, 5], [2, 5]), ([6, 5], [6]), ([7], [7]), ([7], [7]), ([8, 9, 7, 7], [7, 8, 9]), ([7], [7]), ([7], [7]), ([11, 12, 10, 7], [7, 11, 12]), ([10, 13, 7], [7, 10, 13]), ([7, 14], [7, 14]), ([15, 13], [15]), ([16], [16]), ([16], [16]), ([17, 18, 16, 16], [16, 17, 18]), ([16], [16]), ([16], [16]), ([20, 21, 19, 16], [16, 20, 21]), ([19, 22, 16], [16, 19, 22]), ([16, 23], [16, 23])])
def oculuslaw18_LookCounts.B3 : List Nat := [0, 0, 3, 0, 0, 31, 63, 127, 255, 255, 1023, 255, 255, 8191, 16383, 32767, 65535, 131071, 131071, 524287, 131071, 131071, 4194303, 8388607, 16777215]
theorem oculuslaw18_LookCounts.tab3 : rtab .any (opsOf Tryz.f3 3) = oculuslaw18_LookCounts.T3 := by kernel_rfl
theorem oculuslaw18_LookCounts.bits3 : waitsOk oculuslaw18_LookCounts.T3.2 oculuslaw18_LookCounts.B3 = true := by kernel_rfl
def oculuslaw18_LookCounts.T7 : Bool × List (List Nat × List Nat) := (true, [([], []), ([], []), ([1], [1]), ([2], [2]), ([3], [3]), ([0, 4, 4], [0, 4]), ([], []), ([6, 5, 5, 0, 1, 2, 3, 4, 5, 6], [5, 6])])
def oculuslaw18_LookCounts.B7 : List Nat := [0, 0, 2, 6, 14, 31, 0, 127]
theorem oculuslaw18_LookCounts.tab7 : rtab .any (opsOf Tryz.f3 7) = oculuslaw18_LookCounts.T7 := by kernel_rfl
theorem oculuslaw18_LookCounts.bits7 : waitsOk oculuslaw18_LookCounts.T7.2 oculuslaw18_LookCounts.B7 = true := by kernel_rfl
def oculuslaw18_LookCounts.T8 : Bool × List (List Nat × List Nat) := (true, [([], []), ([], []), ([1], [1]), ([2], [2]), ([3], [3]), ([0, 4, 4], [0, 4]), ([], []), ([6, 5, 5, 0, 1, 2, 3, 4, 5, 6], [5, 6])])
def oculuslaw18_LookCounts.B8 : List Nat := [0, 0, 2, 6, 14, 31, 0, 127]
theorem oculuslaw18_LookCounts.tab8 : rtab .any (opsOf Tryz.f3 8) = oculuslaw18_LookCounts.T8 := by kernel_rfl
theorem oculuslaw18_LookCounts.bits8 : waitsOk oculuslaw18_LookCounts.T8.2 oculuslaw18_LookCounts.B8 = true := by kernel_rfl
theorem oculuslaw18_LookCounts.calls (k : Nat) (a0_0 : Int) (a0_1 : Int) (A0_2 : Option Addr) (c0_2 : Nat) (l0_2 : List (S26)) (a1_0 : Int) (a1_1 : Int) (a1_2 : ByteArray) (r : Bool) (w : World) (hr0_2 : Kd.C k26 w A0_2 l0_2.length l0_2) (hc0_2 : l0_2.length ≤ c0_2) (h : oculuslaw18_LookCounts.f k a0_0 a0_1 l0_2 a1_0 a1_1 a1_2 = some r) :
  Calls Tryz.prog 3 #[.agg #[.int .i64 a0_0, .int .i64 a0_1, .slice A0_2 l0_2.length c0_2], .agg #[.int .i64 a1_0, .int .i64 a1_1, .string a1_2]] w fun e w' => e = .returned (.bool r) ∧ Below w.heap.size w w' := by
 have hu24 := Tryz.underlying24; have hu26 := Tryz.underlying26; have HR0_2 := A_ hr0_2; have HC0_2 := A_ hc0_2; clear hr0_2 hc0_2; have HB := A_ (Below.refl w.heap.size w)
 have H : ((oculuslaw18_small.f k a0_0 a0_1 l0_2).bind fun t103 => (if t103 = true then ((oculusref12_May.f a1_0 a1_1 a1_2).bind fun t104 => (if t104 = true then (oculuslaw18_LookCounts.j0 k (decide ((a1_2.size : Int) > 60)) a0_0 a0_1 l0_2 a1_0 a1_1 a1_2) else (oculuslaw18_LookCounts.j0 k true a0_0 a0_1 l0_2 a1_0 a1_1 a1_2))) else (oculuslaw18_LookCounts.j0 k true a0_0 a0_1 l0_2 a1_0 a1_1 a1_2))) = some r := h
 clear h; have HC3 := A_ H; clear H
 go_enter Tryz.func3, Tryz.ntmps3
 go_upto_region 1 with (first | ((with_reducible refine gd_ 2 ?_); (try (refine gate_guard (by rfl) ?_; dsimp only)); refine be_ (N:=2) (cs := #[.int .i64 a0_0, .int .i64 a0_1, .slice A0_2 l0_2.length c0_2]) (t:=24) ?_; intro g1 hg w4 hbox hb; have B1 := A_ (hbox); have GW101 := hs_ HB hg; have GE101 := hs_ HB hg; replace HB := bs_ HB hb; clear hb hbox hg) | ((with_reducible refine gd_ 3 ?_); (try (refine gate_guard (by rfl) ?_; dsimp only)); refine be_ (N:=3) (cs := #[.int .i64 a1_0, .int .i64 a1_1, .string a1_2]) (t:=26) ?_; intro g2 hg w5 hbox hb; have B2 := A_ (hbox); have GW102 := hs_ HB hg; have GE102 := hs_ HB hg; have N12 := hl_ B1 hg; have N21 := hr_ B1 hg; replace B1 := bb_ B1 hb; replace HB := bs_ HB hb; clear hb hbox hg))
 (try simp only [q_])
 go_cut [23] (fun v23 wc => ∃ (kq : Nat) (x23_2 : Bool), v23 = .bool x23_2 ∧ Aside0 (oculuslaw18_LookCounts.j0 kq x23_2 a0_0 a0_1 l0_2 a1_0 a1_1 a1_2 = some r) ∧ Aside0 (kq ≤ k) ∧ Aside0 (wc.heap[g1]? = some (.cells #[.int .i64 a0_0, .int .i64 a0_1, (.slice A0_2 l0_2.length c0_2)] 24 (0, 0))) ∧ Aside0 (wc.heap[g2]? = some (.cells #[.int .i64 a1_0, .int .i64 a1_1, .string a1_2] 26 (0, 0))) ∧ Aside0 (Below w.heap.size w wc))
 case first =>
  have H := HC3.out; clear HC3; obtain ⟨t103, A6, H⟩ := bo_ H
  replace H := ib_ H; rcases H with ⟨rfl,H⟩|⟨rfl,H⟩
  ·obtain ⟨t104, A8, H⟩ := bo_ H
   replace H := ib_ H; rcases H with ⟨rfl,H⟩|⟨rfl,H⟩
   ·have H' := A_ H
    clear H; have hnb10 := N12.out; have hnc10 := N21.out
    have ⟨hcz11_0,hcz11_1,hcz11_2,hfz11_0,hfz11_1,hfz11_2⟩ := z3_ B1
    go_wp2_with (first | ((with_reducible refine gate_callee (f:=4) rfl ?_); refine gL_ (some 11) rfl rfl Tryz.func4 rfl #[.agg #[.int .i64 a0_0, .int .i64 a0_1, .slice A0_2 l0_2.length c0_2]] rfl ?_; (with_reducible refine (oculuslaw18_small.calls k a0_0 a0_1 _ _ l0_2 true _ ?side1 ?side2 A6.out).mono ?_); (case side1 => exact ca_ (Kd.C_below HR0_2.out HB.out)); (case side2 => exact HC0_2.out); rintro e w12 ⟨rfl, hb⟩; refine ⟨_, rfl, ?_⟩; replace B1 := bb_ B1 hb; replace B2 := bb_ B2 hb; replace HB := bs_ HB hb; (try clear hb); have ⟨hcz13_0,hcz13_1,hcz13_2,hfz13_0,hfz13_1,hfz13_2⟩ := z3_ B2) | (go_at_call 5; (with_reducible refine (oculusref12_May.calls a1_0 a1_1 a1_2 true _ A8.out).mono ?_); rintro e w14 ⟨rfl, hb⟩; replace B1 := bb_ B1 hb; replace B2 := bb_ B2 hb; replace HB := bs_ HB hb; (try clear hb); have ⟨hcz15_0,hcz15_1,hcz15_2,hfz15_0,hfz15_1,hfz15_2⟩ := z3_ B2))
    go_meet
    case rel => exact ⟨_, (decide ((a1_2.size : Int) > 60)), sq_, H', le_, ⟨pkx B1⟩, ⟨pkx B2⟩, ⟨pbx HB⟩⟩
   ·have H' := A_ H
    clear H; have hnb16 := N12.out; have hnc16 := N21.out
    have ⟨hcz17_0,hcz17_1,hcz17_2,hfz17_0,hfz17_1,hfz17_2⟩ := z3_ B1
    go_wp2_with (first | ((with_reducible refine gate_callee (f:=4) rfl ?_); refine gL_ (some 11) rfl rfl Tryz.func4 rfl #[.agg #[.int .i64 a0_0, .int .i64 a0_1, .slice A0_2 l0_2.length c0_2]] rfl ?_; (with_reducible refine (oculuslaw18_small.calls k a0_0 a0_1 _ _ l0_2 true _ ?side1 ?side2 A6.out).mono ?_); (case side1 => exact ca_ (Kd.C_below HR0_2.out HB.out)); (case side2 => exact HC0_2.out); rintro e w18 ⟨rfl, hb⟩; refine ⟨_, rfl, ?_⟩; replace B1 := bb_ B1 hb; replace B2 := bb_ B2 hb; replace HB := bs_ HB hb; (try clear hb); have ⟨hcz19_0,hcz19_1,hcz19_2,hfz19_0,hfz19_1,hfz19_2⟩ := z3_ B2) | (go_at_call 5; (with_reducible refine (oculusref12_May.calls a1_0 a1_1 a1_2 false _ A8.out).mono ?_); rintro e w20 ⟨rfl, hb⟩; replace B1 := bb_ B1 hb; replace B2 := bb_ B2 hb; replace HB := bs_ HB hb; (try clear hb); ))
    go_meet
    case rel => exact ⟨_, (true), sq_, H', le_, ⟨pkx B1⟩, ⟨pkx B2⟩, ⟨pbx HB⟩⟩
  ·have H' := A_ H
   clear H; have hnb21 := N12.out; have hnc21 := N21.out
   have ⟨hcz22_0,hcz22_1,hcz22_2,hfz22_0,hfz22_1,hfz22_2⟩ := z3_ B1
   go_wp2_with (first | ((with_reducible refine gate_callee (f:=4) rfl ?_); refine gL_ (some 11) rfl rfl Tryz.func4 rfl #[.agg #[.int .i64 a0_0, .int .i64 a0_1, .slice A0_2 l0_2.length c0_2]] rfl ?_; (with_reducible refine (oculuslaw18_small.calls k a0_0 a0_1 _ _ l0_2 false _ ?side1 ?side2 A6.out).mono ?_); (case side1 => exact ca_ (Kd.C_below HR0_2.out HB.out)); (case side2 => exact HC0_2.out); rintro e w23 ⟨rfl, hb⟩; refine ⟨_, rfl, ?_⟩; replace B1 := bb_ B1 hb; replace B2 := bb_ B2 hb; replace HB := bs_ HB hb; (try clear hb); ))
   go_meet
   case rel => exact ⟨_, (true), sq_, H', le_, ⟨pkx B1⟩, ⟨pkx B2⟩, ⟨pbx HB⟩⟩
 case rest =>
  clear HC3
  obtain ⟨kq, x23_2, rfl, HA, HJ2, B1, B2, HB⟩ := hcut
  cases kq with
  | zero => exact absurd HA.out (by simp [oculuslaw18_LookCounts.j0])
  | succ kj2 =>
   have H := HA.out; clear HA
   simp only [oculuslaw18_LookCounts.j0] at H
   replace H := ib_ H; rcases H with ⟨rfl,H⟩|⟨rfl,H⟩
   ·obtain ⟨t105, A25, H⟩ := bo_ H; obtain rfl := Option.some.inj H
    go_wp2_with (first | ((with_reducible refine gate_callee (f:=6) rfl ?_); refine gL_ (some 24) rfl rfl Tryz.func6 rfl #[] rfl ?_; (with_reducible refine (oculuslaw18_alive.calls kj2  t105 _ A25.out).mono ?_); rintro e w26 ⟨rfl, hb⟩; refine ⟨_, rfl, ?_⟩; replace B1 := bb_ B1 hb; replace B2 := bb_ B2 hb; replace HB := bs_ HB hb; (try clear hb); ))
    go_ret
    exact fi_ (pbx HB)
   ·have HC27 := A_ H; clear H
    go_upto_region 3 with (fail)
    go_cut [49] (fun v49 wc => ∃ (kq : Nat) (x49_26 : Bool), v49 = .bool x49_26 ∧ Aside0 (oculuslaw18_LookCounts.j1 kq x49_26 a0_0 a0_1 l0_2 a1_0 a1_1 a1_2 = some r) ∧ Aside0 (kq ≤ kj2) ∧ Aside0 (wc.heap[g1]? = some (.cells #[.int .i64 a0_0, .int .i64 a0_1, (.slice A0_2 l0_2.length c0_2)] 24 (0, 0))) ∧ Aside0 (wc.heap[g2]? = some (.cells #[.int .i64 a1_0, .int .i64 a1_1, .string a1_2] 26 (0, 0))) ∧ Aside0 (Below w.heap.size w wc))
    case first =>
     have H := HC27.out; clear HC27; obtain ⟨⟨t106, t107, t108⟩, A28, H⟩ := bo_ H; dsimp only at H; obtain ⟨⟨t109, t110, t111⟩, A29, H⟩ := bo_ H; dsimp only at H
     by_cases c30 : (!(t106 == t109) || (!(t107 == t110) || (!(t108.toList == t111.toList)))) = true
     ·rw [if_pos c30] at H
      have c30b0 : (!(t106 == t109) || (!(t107 == t110) || (!(t108.toList == t111.toList)))) = true := c30
      clear c30; (first | rw [c30b0] | (simp only [i64_w, i32_w]; rw [c30b0]) | skip)
      have H' := A_ H
      clear H
      try go_wp2
      (try (rw [drewN_self wc]; generalize hq_ : World.drewN wc _ = wc; have n0_ : Aside0 (wc.heap[g1]? = some (.cells #[.int .i64 a0_0, .int .i64 a0_1, .slice A0_2 l0_2.length c0_2] 24 (0, 0))) := ⟨by rw [← hq_]; exact (pkx B1)⟩; have n1_ : Aside0 (wc.heap[g2]? = some (.cells #[.int .i64 a1_0, .int .i64 a1_1, .string a1_2] 26 (0, 0))) := ⟨by rw [← hq_]; exact (pkx B2)⟩; have n2_ : Aside0 (Below w.heap.size w wc) := ⟨by rw [← hq_]; exact (pbx HB)⟩; clear B1 B2 HB hq_; have B1 := n0_; have B2 := n1_; have HB := n2_; clear n0_ n1_ n2_))
      replace B1 := A_ (blk_drew B1.out); replace B2 := A_ (blk_drew B2.out); replace HB := A_ (below_drew1 HB.out)
      refine start_ (n:=25) (S := fun w' => w'.cell? ⟨g1, 0, none⟩ = some (.int .i64 a0_0) ∧ w'.cell? ⟨g1, 1, none⟩ = some (.int .i64 a0_1) ∧ w'.cell? ⟨g1, 2, none⟩ = some (.slice A0_2 l0_2.length c0_2) ∧ w'.cell? ⟨g2, 0, none⟩ = some (.int .i64 a1_0) ∧ w'.cell? ⟨g2, 1, none⟩ = some (.int .i64 a1_1) ∧ w'.cell? ⟨g2, 2, none⟩ = some (.string a1_2)) (ds := []) #[F,F,F,F,F,F,F,F,F,F,F,F,F,F,F,F,F,F,F,F,F,F,F,F,F] (by kernel_rfl) rfl rfl ⟨bc_ B1 0 rfl, bc_ B1 1 rfl, bc_ B1 2 rfl, bc_ B2 0 rfl, bc_ B2 1 rfl, bc_ B2 2 rfl⟩ (fun hHeld => ?_); refine with_tabW oculuslaw18_LookCounts.tab3 oculuslaw18_LookCounts.bits3 (fun HT_ HW_ => ?_)
      generalize wc.drew = w31 at B1 B2 HB hHeld ⊢; refine take_ (i:=0) (N:=some 25) (v:=?_) (a':=?_) ⟨m_ 25 1⟩ rfl rfl (tw_ HT_ HW_) (fun _ _ _ h=>h) (Or.inl ⟨rfl, ?_⟩) hHeld ?_ ?_; rotate_left
      ·rintro w' ⟨s0, s1, s2, s3, s4, s5⟩; go_simp; with_reducible rfl
      rotate_left
      ·simp only [q_, i64_w, i32_w]; rfl
      refine take_ (i:=1) (N:=some 26) (v:=?_) (a':=?_) ⟨m_ 25 3⟩ rfl rfl (tw_ HT_ HW_) (fun _ _ _ h=>h) (Or.inl ⟨rfl, ?_⟩) hHeld ?_ ?_; rotate_left
      ·rintro w' ⟨s0, s1, s2, s3, s4, s5⟩; go_simp; with_reducible rfl
      rotate_left
      ·simp only [q_, i64_w, i32_w]; rfl
      refine take_ (i:=3) (N:=some 28) (v:=?_) (a':=?_) ⟨m_ 25 11⟩ rfl rfl (tw_ HT_ HW_) (fun _ _ _ h=>h) (Or.inl ⟨rfl, ?_⟩) hHeld ?_ ?_; rotate_left
      ·rintro w' ⟨s0, s1, s2, s3, s4, s5⟩; go_simp; with_reducible rfl
      rotate_left
      ·simp only [q_, i64_w, i32_w]; rfl
      refine take_ (i:=4) (N:=some 29) (v:=?_) (a':=?_) ⟨m_ 25 27⟩ rfl rfl (tw_ HT_ HW_) (fun _ _ _ h=>h) (Or.inl ⟨rfl, ?_⟩) hHeld ?_ ?_; rotate_left
      ·rintro w' ⟨s0, s1, s2, s3, s4, s5⟩; go_simp; with_reducible rfl
      rotate_left
      ·simp only [q_, i64_w, i32_w]; rfl
      refine one_ (i:=2) (N:=some 27) ⟨m_ 25 31⟩ rfl rfl (oo_ HT_) (by decide) (fun K hK => ?_); refine goes_ Tryz.func7 (by kernel_rfl) rfl #[.agg #[.int .i64 a0_0, .int .i64 a0_1, .slice A0_2 l0_2.length c0_2], .agg #[.int .i64 a1_0, .int .i64 a1_1, .string a1_2]] (by rfl) rfl rfl ha_ ?_; with_reducible refine (look_CountIf.calls kj2 a0_0 a0_1 _ _ l0_2 a1_0 a1_1 a1_2 t106 t107 t108 _ ?side1 ?side2 A28.out).mono ?_; (case side1 => exact ca_ (Kd.C_below HR0_2.out HB.out)); (case side2 => exact HC0_2.out); rintro e w32 ⟨rfl, hb⟩; refine ⟨_, rfl, ?_⟩
      replace B1 := bb_ B1 hb; replace B2 := bb_ B2 hb; replace HB := bs_ HB hb; (try clear hb); refine hK.out _ _ ⟨bc_ B1 0 rfl, bc_ B1 1 rfl, bc_ B1 2 rfl, bc_ B2 0 rfl, bc_ B2 1 rfl, bc_ B2 2 rfl⟩ (fun hHeld => ?_); clear hK K; refine norm_ (a':=?_) ?_ ?_; rotate_left
      ·show Act.put _ (some 27) _ = _; simp only [q_, i64_w, i32_w]; rfl
      refine one_ (i:=5) (N:=some 30) ⟨m_ 25 63⟩ rfl rfl (oo_ HT_) (by decide) (fun K hK => ?_); refine goes_ Tryz.func8 (by kernel_rfl) rfl #[.agg #[.int .i64 a0_0, .int .i64 a0_1, .slice A0_2 l0_2.length c0_2], .agg #[.int .i64 a1_0, .int .i64 a1_1, .string a1_2]] (by rfl) rfl rfl ha_ ?_; with_reducible refine (oculusref18_Count.calls kj2 a0_0 a0_1 _ _ l0_2 a1_0 a1_1 a1_2 t109 t110 t111 _ ?side1 ?side2 A29.out).mono ?_; (case side1 => exact ca_ (Kd.C_below HR0_2.out HB.out)); (case side2 => exact HC0_2.out); rintro e w33 ⟨rfl, hb⟩; refine ⟨_, rfl, ?_⟩
      replace B1 := bb_ B1 hb; replace B2 := bb_ B2 hb; replace HB := bs_ HB hb; (try clear hb); refine hK.out _ _ ⟨bc_ B1 0 rfl, bc_ B1 1 rfl, bc_ B1 2 rfl, bc_ B2 0 rfl, bc_ B2 1 rfl, bc_ B2 2 rfl⟩ (fun hHeld => ?_); clear hK K; refine norm_ (a':=?_) ?_ ?_; rotate_left
      ·show Act.put _ (some 30) _ = _; simp only [q_, i64_w, i32_w]; rfl
      refine pure_ (i:=6) (N:=some 31) (v:=?_) (a':=?_) ⟨m_ 25 127⟩ rfl rfl (ao_ HT_) (fun _ _ _ h=>h) (Or.inl ⟨rfl, ?_⟩) ?_ ?_; rotate_left
      ·intro w'; go_simp; with_reducible rfl
      rotate_left
      ·simp only [q_, i64_w, i32_w]; rfl
      refine pure_ (i:=7) (N:=some 32) (v:=?_) (a':=?_) ⟨m_ 25 255⟩ rfl rfl (ao_ HT_) (fun _ _ _ h=>h) (Or.inl ⟨rfl, ?_⟩) ?_ ?_; rotate_left
      ·intro w'; go_simp; with_reducible rfl
      rotate_left
      ·simp only [q_, i64_w, i32_w]; rfl
      refine pure_ (i:=8) (N:=some 33) (v:=undef) (a':=?_) ⟨m_ 25 511⟩ rfl rfl (ao_ HT_) (fun _ _ _ h=>h) (Or.inr ⟨by rfl, rfl⟩) ?_ ?_; rotate_left
      ·simp only [q_, i64_w, i32_w]; rfl
      refine pure_ (i:=9) (N:=some 34) (v:=undef) (a':=?_) ⟨m_ 25 1023⟩ rfl rfl (ao_ HT_) (fun _ _ _ h=>h) (Or.inr ⟨by rfl, rfl⟩) ?_ ?_; rotate_left
      ·simp only [q_, i64_w, i32_w]; rfl
      refine pure_ (i:=10) (N:=some 35) (v:=undef) (a':=?_) ⟨m_ 25 2047⟩ rfl rfl (ao_ HT_) (fun _ _ _ h=>h) (Or.inr ⟨by rfl, rfl⟩) ?_ ?_; rotate_left
      ·simp only [q_, i64_w, i32_w]; rfl
      refine pure_ (i:=11) (N:=some 36) (v:=undef) (a':=?_) ⟨m_ 25 4095⟩ rfl rfl (ao_ HT_) (fun _ _ _ h=>h) (Or.inr ⟨by rfl, rfl⟩) ?_ ?_; rotate_left
      ·simp only [q_, i64_w, i32_w]; rfl
      refine pure_ (i:=12) (N:=some 37) (v:=undef) (a':=?_) ⟨m_ 25 8191⟩ rfl rfl (ao_ HT_) (fun _ _ _ h=>h) (Or.inr ⟨by rfl, rfl⟩) ?_ ?_; rotate_left
      ·simp only [q_, i64_w, i32_w]; rfl
      refine pure_ (i:=13) (N:=some 38) (v:=undef) (a':=?_) ⟨m_ 25 16383⟩ rfl rfl (ao_ HT_) (fun _ _ _ h=>h) (Or.inr ⟨by rfl, rfl⟩) ?_ ?_; rotate_left
      ·simp only [q_, i64_w, i32_w]; rfl
      refine pure_ (i:=14) (N:=some 39) (v:=undef) (a':=?_) ⟨m_ 25 32767⟩ rfl rfl (ao_ HT_) (fun _ _ _ h=>h) (Or.inr ⟨by rfl, rfl⟩) ?_ ?_; rotate_left
      ·simp only [q_, i64_w, i32_w]; rfl
      refine pure_ (i:=15) (N:=some 40) (v:=?_) (a':=?_) ⟨m_ 25 65535⟩ rfl rfl (ao_ HT_) (fun _ _ _ h=>h) (Or.inl ⟨rfl, ?_⟩) ?_ ?_; rotate_left
      ·intro w'; go_simp; with_reducible rfl
      rotate_left
      ·simp only [q_, i64_w, i32_w]; rfl
      refine pure_ (i:=16) (N:=some 41) (v:=?_) (a':=?_) ⟨m_ 25 131071⟩ rfl rfl (ao_ HT_) (fun _ _ _ h=>h) (Or.inl ⟨rfl, ?_⟩) ?_ ?_; rotate_left
      ·intro w'; go_simp; with_reducible rfl
      rotate_left
      ·simp only [q_, i64_w, i32_w]; rfl
      refine pure_ (i:=17) (N:=some 42) (v:=undef) (a':=?_) ⟨m_ 25 262143⟩ rfl rfl (ao_ HT_) (fun _ _ _ h=>h) (Or.inr ⟨by rfl, rfl⟩) ?_ ?_; rotate_left
      ·simp only [q_, i64_w, i32_w]; rfl
      refine pure_ (i:=18) (N:=some 43) (v:=undef) (a':=?_) ⟨m_ 25 524287⟩ rfl rfl (ao_ HT_) (fun _ _ _ h=>h) (Or.inr ⟨by rfl, rfl⟩) ?_ ?_; rotate_left
      ·simp only [q_, i64_w, i32_w]; rfl
      refine pure_ (i:=19) (N:=some 44) (v:=undef) (a':=?_) ⟨m_ 25 1048575⟩ rfl rfl (ao_ HT_) (fun _ _ _ h=>h) (Or.inr ⟨by rfl, rfl⟩) ?_ ?_; rotate_left
      ·simp only [q_, i64_w, i32_w]; rfl
      refine pure_ (i:=20) (N:=some 45) (v:=undef) (a':=?_) ⟨m_ 25 2097151⟩ rfl rfl (ao_ HT_) (fun _ _ _ h=>h) (Or.inr ⟨by rfl, rfl⟩) ?_ ?_; rotate_left
      ·simp only [q_, i64_w, i32_w]; rfl
      refine pure_ (i:=21) (N:=some 46) (v:=undef) (a':=?_) ⟨m_ 25 4194303⟩ rfl rfl (ao_ HT_) (fun _ _ _ h=>h) (Or.inr ⟨by rfl, rfl⟩) ?_ ?_; rotate_left
      ·simp only [q_, i64_w, i32_w]; rfl
      refine pure_ (i:=22) (N:=some 47) (v:=undef) (a':=?_) ⟨m_ 25 8388607⟩ rfl rfl (ao_ HT_) (fun _ _ _ h=>h) (Or.inr ⟨by rfl, rfl⟩) ?_ ?_; rotate_left
      ·simp only [q_, i64_w, i32_w]; rfl
      refine pure_ (i:=23) (N:=some 48) (v:=undef) (a':=?_) ⟨m_ 25 16777215⟩ rfl rfl (ao_ HT_) (fun _ _ _ h=>h) (Or.inr ⟨by rfl, rfl⟩) ?_ ?_; rotate_left
      ·simp only [q_, i64_w, i32_w]; rfl
      refine pure_ (i:=24) (N:=some 49) (v:=?_) (a':=?_) ⟨m_ 25 33554431⟩ rfl rfl (ao_ HT_) (fun _ _ _ h=>h) (Or.inl ⟨rfl, ?_⟩) ?_ ?_; rotate_left
      ·intro w'; go_simp; with_reducible rfl
      rotate_left
      ·simp only [q_, i64_w, i32_w]; rfl
      refine done_ (done_of HT_.out (by kernel_rfl)) ?_
      try go_wp2
      go_meet
      case rel => exact ⟨_, (true), sq_, H', ⟨by have := HJ2.out; first | omega | exact Nat.le_refl _⟩, ⟨pkx B1⟩, ⟨pkx B2⟩, ⟨pbx HB⟩⟩
     ·rw [if_neg c30] at H
      have c30b0 : (!(t106 == t109) || (!(t107 == t110) || (!(t108.toList == t111.toList)))) = false := by simpa using c30
      clear c30; (first | rw [c30b0] | (simp only [i64_w, i32_w]; rw [c30b0]) | skip)
      obtain ⟨⟨t112, t113, t114⟩, A34, H⟩ := bo_ H; dsimp only at H; obtain ⟨⟨t115, t116, t117⟩, A35, H⟩ := bo_ H; dsimp only at H
      by_cases c36 : (!(t112 == t115) || (!(t113 == t116) || (!(t114.toList == t117.toList)))) = true
      ·rw [if_pos c36] at H
       have c36b0 : (!(t112 == t115) || (!(t113 == t116) || (!(t114.toList == t117.toList)))) = true := c36
       clear c36
       have H' := A_ H
       clear H
       try go_wp2
       (try (rw [drewN_self wc]; generalize hq_ : World.drewN wc _ = wc; have n0_ : Aside0 (wc.heap[g1]? = some (.cells #[.int .i64 a0_0, .int .i64 a0_1, .slice A0_2 l0_2.length c0_2] 24 (0, 0))) := ⟨by rw [← hq_]; exact (pkx B1)⟩; have n1_ : Aside0 (wc.heap[g2]? = some (.cells #[.int .i64 a1_0, .int .i64 a1_1, .string a1_2] 26 (0, 0))) := ⟨by rw [← hq_]; exact (pkx B2)⟩; have n2_ : Aside0 (Below w.heap.size w wc) := ⟨by rw [← hq_]; exact (pbx HB)⟩; clear B1 B2 HB hq_; have B1 := n0_; have B2 := n1_; have HB := n2_; clear n0_ n1_ n2_))
       replace B1 := A_ (blk_drew B1.out); replace B2 := A_ (blk_drew B2.out); replace HB := A_ (below_drew1 HB.out)
       refine start_ (n:=25) (S := fun w' => w'.cell? ⟨g1, 0, none⟩ = some (.int .i64 a0_0) ∧ w'.cell? ⟨g1, 1, none⟩ = some (.int .i64 a0_1) ∧ w'.cell? ⟨g1, 2, none⟩ = some (.slice A0_2 l0_2.length c0_2) ∧ w'.cell? ⟨g2, 0, none⟩ = some (.int .i64 a1_0) ∧ w'.cell? ⟨g2, 1, none⟩ = some (.int .i64 a1_1) ∧ w'.cell? ⟨g2, 2, none⟩ = some (.string a1_2)) (ds := []) #[F,F,F,F,F,F,F,F,F,F,F,F,F,F,F,F,F,F,F,F,F,F,F,F,F] (by kernel_rfl) rfl rfl ⟨bc_ B1 0 rfl, bc_ B1 1 rfl, bc_ B1 2 rfl, bc_ B2 0 rfl, bc_ B2 1 rfl, bc_ B2 2 rfl⟩ (fun hHeld => ?_); refine with_tabW oculuslaw18_LookCounts.tab3 oculuslaw18_LookCounts.bits3 (fun HT_ HW_ => ?_)
       generalize wc.drew = w37 at B1 B2 HB hHeld ⊢; refine take_ (i:=0) (N:=some 25) (v:=?_) (a':=?_) ⟨m_ 25 1⟩ rfl rfl (tw_ HT_ HW_) (fun _ _ _ h=>h) (Or.inl ⟨rfl, ?_⟩) hHeld ?_ ?_; rotate_left
       ·rintro w' ⟨s0, s1, s2, s3, s4, s5⟩; go_simp; with_reducible rfl
       rotate_left
       ·simp only [q_, i64_w, i32_w]; rfl
       refine take_ (i:=1) (N:=some 26) (v:=?_) (a':=?_) ⟨m_ 25 3⟩ rfl rfl (tw_ HT_ HW_) (fun _ _ _ h=>h) (Or.inl ⟨rfl, ?_⟩) hHeld ?_ ?_; rotate_left
       ·rintro w' ⟨s0, s1, s2, s3, s4, s5⟩; go_simp; with_reducible rfl
       rotate_left
       ·simp only [q_, i64_w, i32_w]; rfl
       refine take_ (i:=3) (N:=some 28) (v:=?_) (a':=?_) ⟨m_ 25 11⟩ rfl rfl (tw_ HT_ HW_) (fun _ _ _ h=>h) (Or.inl ⟨rfl, ?_⟩) hHeld ?_ ?_; rotate_left
       ·rintro w' ⟨s0, s1, s2, s3, s4, s5⟩; go_simp; with_reducible rfl
       rotate_left
       ·simp only [q_, i64_w, i32_w]; rfl
       refine take_ (i:=4) (N:=some 29) (v:=?_) (a':=?_) ⟨m_ 25 27⟩ rfl rfl (tw_ HT_ HW_) (fun _ _ _ h=>h) (Or.inl ⟨rfl, ?_⟩) hHeld ?_ ?_; rotate_left
       ·rintro w' ⟨s0, s1, s2, s3, s4, s5⟩; go_simp; with_reducible rfl
       rotate_left
       ·simp only [q_, i64_w, i32_w]; rfl
       refine one_ (i:=2) (N:=some 27) ⟨m_ 25 31⟩ rfl rfl (oo_ HT_) (by decide) (fun K hK => ?_); refine goes_ Tryz.func7 (by kernel_rfl) rfl #[.agg #[.int .i64 a0_0, .int .i64 a0_1, .slice A0_2 l0_2.length c0_2], .agg #[.int .i64 a1_0, .int .i64 a1_1, .string a1_2]] (by rfl) rfl rfl ha_ ?_; with_reducible refine (look_CountIf.calls kj2 a0_0 a0_1 _ _ l0_2 a1_0 a1_1 a1_2 t106 t107 t108 _ ?side1 ?side2 A28.out).mono ?_; (case side1 => exact ca_ (Kd.C_below HR0_2.out HB.out)); (case side2 => exact HC0_2.out); rintro e w38 ⟨rfl, hb⟩; refine ⟨_, rfl, ?_⟩
       replace B1 := bb_ B1 hb; replace B2 := bb_ B2 hb; replace HB := bs_ HB hb; (try clear hb); refine hK.out _ _ ⟨bc_ B1 0 rfl, bc_ B1 1 rfl, bc_ B1 2 rfl, bc_ B2 0 rfl, bc_ B2 1 rfl, bc_ B2 2 rfl⟩ (fun hHeld => ?_); clear hK K; refine norm_ (a':=?_) ?_ ?_; rotate_left
       ·show Act.put _ (some 27) _ = _; simp only [q_, i64_w, i32_w]; rfl
       refine one_ (i:=5) (N:=some 30) ⟨m_ 25 63⟩ rfl rfl (oo_ HT_) (by decide) (fun K hK => ?_); refine goes_ Tryz.func8 (by kernel_rfl) rfl #[.agg #[.int .i64 a0_0, .int .i64 a0_1, .slice A0_2 l0_2.length c0_2], .agg #[.int .i64 a1_0, .int .i64 a1_1, .string a1_2]] (by rfl) rfl rfl ha_ ?_; with_reducible refine (oculusref18_Count.calls kj2 a0_0 a0_1 _ _ l0_2 a1_0 a1_1 a1_2 t109 t110 t111 _ ?side1 ?side2 A29.out).mono ?_; (case side1 => exact ca_ (Kd.C_below HR0_2.out HB.out)); (case side2 => exact HC0_2.out); rintro e w39 ⟨rfl, hb⟩; refine ⟨_, rfl, ?_⟩
       replace B1 := bb_ B1 hb; replace B2 := bb_ B2 hb; replace HB := bs_ HB hb; (try clear hb); refine hK.out _ _ ⟨bc_ B1 0 rfl, bc_ B1 1 rfl, bc_ B1 2 rfl, bc_ B2 0 rfl, bc_ B2 1 rfl, bc_ B2 2 rfl⟩ (fun hHeld => ?_); clear hK K; refine norm_ (a':=?_) ?_ ?_; rotate_left
       ·show Act.put _ (some 30) _ = _; simp only [q_, i64_w, i32_w]; rfl
       refine pure_ (i:=6) (N:=some 31) (v:=?_) (a':=?_) ⟨m_ 25 127⟩ rfl rfl (ao_ HT_) (fun _ _ _ h=>h) (Or.inl ⟨rfl, ?_⟩) ?_ ?_; rotate_left
       ·intro w'; go_simp; with_reducible rfl
       rotate_left
       ·simp only [q_, i64_w, i32_w]; rfl
       refine pure_ (i:=7) (N:=some 32) (v:=?_) (a':=?_) ⟨m_ 25 255⟩ rfl rfl (ao_ HT_) (fun _ _ _ h=>h) (Or.inl ⟨rfl, ?_⟩) ?_ ?_; rotate_left
       ·intro w'; go_simp; with_reducible rfl
       rotate_left
       ·simp only [q_, i64_w, i32_w]; rfl
       refine take_ (i:=8) (N:=some 33) (v:=?_) (a':=?_) ⟨m_ 25 511⟩ rfl rfl (tw_ HT_ HW_) (fun _ _ _ h=>h) (Or.inl ⟨rfl, ?_⟩) hHeld ?_ ?_; rotate_left
       ·rintro w' ⟨s0, s1, s2, s3, s4, s5⟩; go_simp; with_reducible rfl
       rotate_left
       ·simp only [q_, i64_w, i32_w]; rfl
       refine take_ (i:=9) (N:=some 34) (v:=?_) (a':=?_) ⟨m_ 25 1023⟩ rfl rfl (tw_ HT_ HW_) (fun _ _ _ h=>h) (Or.inl ⟨rfl, ?_⟩) hHeld ?_ ?_; rotate_left
       ·rintro w' ⟨s0, s1, s2, s3, s4, s5⟩; go_simp; with_reducible rfl
       rotate_left
       ·simp only [q_, i64_w, i32_w]; rfl
       refine take_ (i:=11) (N:=some 36) (v:=?_) (a':=?_) ⟨m_ 25 3071⟩ rfl rfl (tw_ HT_ HW_) (fun _ _ _ h=>h) (Or.inl ⟨rfl, ?_⟩) hHeld ?_ ?_; rotate_left
       ·rintro w' ⟨s0, s1, s2, s3, s4, s5⟩; go_simp; with_reducible rfl
       rotate_left
       ·simp only [q_, i64_w, i32_w]; rfl
       refine take_ (i:=12) (N:=some 37) (v:=?_) (a':=?_) ⟨m_ 25 7167⟩ rfl rfl (tw_ HT_ HW_) (fun _ _ _ h=>h) (Or.inl ⟨rfl, ?_⟩) hHeld ?_ ?_; rotate_left
       ·rintro w' ⟨s0, s1, s2, s3, s4, s5⟩; go_simp; with_reducible rfl
       rotate_left
       ·simp only [q_, i64_w, i32_w]; rfl
       refine one_ (i:=10) (N:=some 35) ⟨m_ 25 8191⟩ rfl rfl (oo_ HT_) (by decide) (fun K hK => ?_); refine goes_ Tryz.func9 (by kernel_rfl) rfl #[.agg #[.int .i64 a0_0, .int .i64 a0_1, .slice A0_2 l0_2.length c0_2], .agg #[.int .i64 a1_0, .int .i64 a1_1, .string a1_2]] (by rfl) rfl rfl ha_ ?_; with_reducible refine (look_SumIf.calls kj2 a0_0 a0_1 _ _ l0_2 a1_0 a1_1 a1_2 t112 t113 t114 _ ?side1 ?side2 A34.out).mono ?_; (case side1 => exact ca_ (Kd.C_below HR0_2.out HB.out)); (case side2 => exact HC0_2.out); rintro e w40 ⟨rfl, hb⟩; refine ⟨_, rfl, ?_⟩
       replace B1 := bb_ B1 hb; replace B2 := bb_ B2 hb; replace HB := bs_ HB hb; (try clear hb); refine hK.out _ _ ⟨bc_ B1 0 rfl, bc_ B1 1 rfl, bc_ B1 2 rfl, bc_ B2 0 rfl, bc_ B2 1 rfl, bc_ B2 2 rfl⟩ (fun hHeld => ?_); clear hK K; refine norm_ (a':=?_) ?_ ?_; rotate_left
       ·show Act.put _ (some 35) _ = _; simp only [q_, i64_w, i32_w]; rfl
       refine one_ (i:=13) (N:=some 38) ⟨m_ 25 16383⟩ rfl rfl (oo_ HT_) (by decide) (fun K hK => ?_); refine goes_ Tryz.func10 (by kernel_rfl) rfl #[.agg #[.int .i64 a0_0, .int .i64 a0_1, .slice A0_2 l0_2.length c0_2], .agg #[.int .i64 a1_0, .int .i64 a1_1, .string a1_2]] (by rfl) rfl rfl ha_ ?_; with_reducible refine (oculusref18_Sum.calls kj2 a0_0 a0_1 _ _ l0_2 a1_0 a1_1 a1_2 t115 t116 t117 _ ?side1 ?side2 A35.out).mono ?_; (case side1 => exact ca_ (Kd.C_below HR0_2.out HB.out)); (case side2 => exact HC0_2.out); rintro e w41 ⟨rfl, hb⟩; refine ⟨_, rfl, ?_⟩
       replace B1 := bb_ B1 hb; replace B2 := bb_ B2 hb; replace HB := bs_ HB hb; (try clear hb); refine hK.out _ _ ⟨bc_ B1 0 rfl, bc_ B1 1 rfl, bc_ B1 2 rfl, bc_ B2 0 rfl, bc_ B2 1 rfl, bc_ B2 2 rfl⟩ (fun hHeld => ?_); clear hK K; refine norm_ (a':=?_) ?_ ?_; rotate_left
       ·show Act.put _ (some 38) _ = _; simp only [q_, i64_w, i32_w]; rfl
       refine pure_ (i:=14) (N:=some 39) (v:=?_) (a':=?_) ⟨m_ 25 32767⟩ rfl rfl (ao_ HT_) (fun _ _ _ h=>h) (Or.inl ⟨rfl, ?_⟩) ?_ ?_; rotate_left
       ·intro w'; go_simp; with_reducible rfl
       rotate_left
       ·simp only [q_, i64_w, i32_w]; rfl
       refine pure_ (i:=15) (N:=some 40) (v:=?_) (a':=?_) ⟨m_ 25 65535⟩ rfl rfl (ao_ HT_) (fun _ _ _ h=>h) (Or.inl ⟨rfl, ?_⟩) ?_ ?_; rotate_left
       ·intro w'; go_simp; with_reducible rfl
       rotate_left
       ·simp only [q_, i64_w, i32_w]; rfl
       refine pure_ (i:=16) (N:=some 41) (v:=?_) (a':=?_) ⟨m_ 25 131071⟩ rfl rfl (ao_ HT_) (fun _ _ _ h=>h) (Or.inl ⟨rfl, ?_⟩) ?_ ?_; rotate_left
       ·intro w'; go_simp; with_reducible rfl
       rotate_left
       ·simp only [q_, i64_w, i32_w]; rfl
       refine pure_ (i:=17) (N:=some 42) (v:=undef) (a':=?_) ⟨m_ 25 262143⟩ rfl rfl (ao_ HT_) (fun _ _ _ h=>h) (Or.inr ⟨by rfl, rfl⟩) ?_ ?_; rotate_left
       ·simp only [q_, i64_w, i32_w]; rfl
       refine pure_ (i:=18) (N:=some 43) (v:=undef) (a':=?_) ⟨m_ 25 524287⟩ rfl rfl (ao_ HT_) (fun _ _ _ h=>h) (Or.inr ⟨by rfl, rfl⟩) ?_ ?_; rotate_left
       ·simp only [q_, i64_w, i32_w]; rfl
       refine pure_ (i:=19) (N:=some 44) (v:=undef) (a':=?_) ⟨m_ 25 1048575⟩ rfl rfl (ao_ HT_) (fun _ _ _ h=>h) (Or.inr ⟨by rfl, rfl⟩) ?_ ?_; rotate_left
       ·simp only [q_, i64_w, i32_w]; rfl
       refine pure_ (i:=20) (N:=some 45) (v:=undef) (a':=?_) ⟨m_ 25 2097151⟩ rfl rfl (ao_ HT_) (fun _ _ _ h=>h) (Or.inr ⟨by rfl, rfl⟩) ?_ ?_; rotate_left
       ·simp only [q_, i64_w, i32_w]; rfl
       refine pure_ (i:=21) (N:=some 46) (v:=undef) (a':=?_) ⟨m_ 25 4194303⟩ rfl rfl (ao_ HT_) (fun _ _ _ h=>h) (Or.inr ⟨by rfl, rfl⟩) ?_ ?_; rotate_left
       ·simp only [q_, i64_w, i32_w]; rfl
       refine pure_ (i:=22) (N:=some 47) (v:=undef) (a':=?_) ⟨m_ 25 8388607⟩ rfl rfl (ao_ HT_) (fun _ _ _ h=>h) (Or.inr ⟨by rfl, rfl⟩) ?_ ?_; rotate_left
       ·simp only [q_, i64_w, i32_w]; rfl
       refine pure_ (i:=23) (N:=some 48) (v:=undef) (a':=?_) ⟨m_ 25 16777215⟩ rfl rfl (ao_ HT_) (fun _ _ _ h=>h) (Or.inr ⟨by rfl, rfl⟩) ?_ ?_; rotate_left
       ·simp only [q_, i64_w, i32_w]; rfl
       refine pure_ (i:=24) (N:=some 49) (v:=?_) (a':=?_) ⟨m_ 25 33554431⟩ rfl rfl (ao_ HT_) (fun _ _ _ h=>h) (Or.inl ⟨rfl, ?_⟩) ?_ ?_; rotate_left
       ·intro w'; go_simp; with_reducible rfl
       rotate_left
       ·simp only [q_, i64_w, i32_w]; rfl
       refine done_ (done_of HT_.out (by kernel_rfl)) ?_
       try go_wp2
       go_meet
       case rel => exact ⟨_, (true), sq_, H', ⟨by have := HJ2.out; first | omega | exact Nat.le_refl _⟩, ⟨pkx B1⟩, ⟨pkx B2⟩, ⟨pbx HB⟩⟩
      ·rw [if_neg c36] at H
       have c36b0 : (!(t112 == t115) || (!(t113 == t116) || (!(t114.toList == t117.toList)))) = false := by simpa using c36
       clear c36; obtain ⟨⟨t118, t119, t120⟩, A42, H⟩ := bo_ H; dsimp only at H; obtain ⟨⟨t121, t122, t123⟩, A43, H⟩ := bo_ H; dsimp only at H
       have H' := A_ H
       clear H
       try go_wp2
       (try (rw [drewN_self wc]; generalize hq_ : World.drewN wc _ = wc; have n0_ : Aside0 (wc.heap[g1]? = some (.cells #[.int .i64 a0_0, .int .i64 a0_1, .slice A0_2 l0_2.length c0_2] 24 (0, 0))) := ⟨by rw [← hq_]; exact (pkx B1)⟩; have n1_ : Aside0 (wc.heap[g2]? = some (.cells #[.int .i64 a1_0, .int .i64 a1_1, .string a1_2] 26 (0, 0))) := ⟨by rw [← hq_]; exact (pkx B2)⟩; have n2_ : Aside0 (Below w.heap.size w wc) := ⟨by rw [← hq_]; exact (pbx HB)⟩; clear B1 B2 HB hq_; have B1 := n0_; have B2 := n1_; have HB := n2_; clear n0_ n1_ n2_))
       replace B1 := A_ (blk_drew B1.out); replace B2 := A_ (blk_drew B2.out); replace HB := A_ (below_drew1 HB.out)
       refine start_ (n:=25) (S := fun w' => w'.cell? ⟨g1, 0, none⟩ = some (.int .i64 a0_0) ∧ w'.cell? ⟨g1, 1, none⟩ = some (.int .i64 a0_1) ∧ w'.cell? ⟨g1, 2, none⟩ = some (.slice A0_2 l0_2.length c0_2) ∧ w'.cell? ⟨g2, 0, none⟩ = some (.int .i64 a1_0) ∧ w'.cell? ⟨g2, 1, none⟩ = some (.int .i64 a1_1) ∧ w'.cell? ⟨g2, 2, none⟩ = some (.string a1_2)) (ds := []) #[F,F,F,F,F,F,F,F,F,F,F,F,F,F,F,F,F,F,F,F,F,F,F,F,F] (by kernel_rfl) rfl rfl ⟨bc_ B1 0 rfl, bc_ B1 1 rfl, bc_ B1 2 rfl, bc_ B2 0 rfl, bc_ B2 1 rfl, bc_ B2 2 rfl⟩ (fun hHeld => ?_); refine with_tabW oculuslaw18_LookCounts.tab3 oculuslaw18_LookCounts.bits3 (fun HT_ HW_ => ?_)
       generalize wc.drew = w44 at B1 B2 HB hHeld ⊢; refine take_ (i:=0) (N:=some 25) (v:=?_) (a':=?_) ⟨m_ 25 1⟩ rfl rfl (tw_ HT_ HW_) (fun _ _ _ h=>h) (Or.inl ⟨rfl, ?_⟩) hHeld ?_ ?_; rotate_left
       ·rintro w' ⟨s0, s1, s2, s3, s4, s5⟩; go_simp; with_reducible rfl
       rotate_left
       ·simp only [q_, i64_w, i32_w]; rfl
       refine take_ (i:=1) (N:=some 26) (v:=?_) (a':=?_) ⟨m_ 25 3⟩ rfl rfl (tw_ HT_ HW_) (fun _ _ _ h=>h) (Or.inl ⟨rfl, ?_⟩) hHeld ?_ ?_; rotate_left
       ·rintro w' ⟨s0, s1, s2, s3, s4, s5⟩; go_simp; with_reducible rfl
       rotate_left
       ·simp only [q_, i64_w, i32_w]; rfl
       refine take_ (i:=3) (N:=some 28) (v:=?_) (a':=?_) ⟨m_ 25 11⟩ rfl rfl (tw_ HT_ HW_) (fun _ _ _ h=>h) (Or.inl ⟨rfl, ?_⟩) hHeld ?_ ?_; rotate_left
       ·rintro w' ⟨s0, s1, s2, s3, s4, s5⟩; go_simp; with_reducible rfl
       rotate_left
       ·simp only [q_, i64_w, i32_w]; rfl
       refine take_ (i:=4) (N:=some 29) (v:=?_) (a':=?_) ⟨m_ 25 27⟩ rfl rfl (tw_ HT_ HW_) (fun _ _ _ h=>h) (Or.inl ⟨rfl, ?_⟩) hHeld ?_ ?_; rotate_left
       ·rintro w' ⟨s0, s1, s2, s3, s4, s5⟩; go_simp; with_reducible rfl
       rotate_left
       ·simp only [q_, i64_w, i32_w]; rfl
       refine one_ (i:=2) (N:=some 27) ⟨m_ 25 31⟩ rfl rfl (oo_ HT_) (by decide) (fun K hK => ?_); refine goes_ Tryz.func7 (by kernel_rfl) rfl #[.agg #[.int .i64 a0_0, .int .i64 a0_1, .slice A0_2 l0_2.length c0_2], .agg #[.int .i64 a1_0, .int .i64 a1_1, .string a1_2]] (by rfl) rfl rfl ha_ ?_; with_reducible refine (look_CountIf.calls kj2 a0_0 a0_1 _ _ l0_2 a1_0 a1_1 a1_2 t106 t107 t108 _ ?side1 ?side2 A28.out).mono ?_; (case side1 => exact ca_ (Kd.C_below HR0_2.out HB.out)); (case side2 => exact HC0_2.out); rintro e w45 ⟨rfl, hb⟩; refine ⟨_, rfl, ?_⟩
       replace B1 := bb_ B1 hb; replace B2 := bb_ B2 hb; replace HB := bs_ HB hb; (try clear hb); refine hK.out _ _ ⟨bc_ B1 0 rfl, bc_ B1 1 rfl, bc_ B1 2 rfl, bc_ B2 0 rfl, bc_ B2 1 rfl, bc_ B2 2 rfl⟩ (fun hHeld => ?_); clear hK K; refine norm_ (a':=?_) ?_ ?_; rotate_left
       ·show Act.put _ (some 27) _ = _; simp only [q_, i64_w, i32_w]; rfl
       refine one_ (i:=5) (N:=some 30) ⟨m_ 25 63⟩ rfl rfl (oo_ HT_) (by decide) (fun K hK => ?_); refine goes_ Tryz.func8 (by kernel_rfl) rfl #[.agg #[.int .i64 a0_0, .int .i64 a0_1, .slice A0_2 l0_2.length c0_2], .agg #[.int .i64 a1_0, .int .i64 a1_1, .string a1_2]] (by rfl) rfl rfl ha_ ?_; with_reducible refine (oculusref18_Count.calls kj2 a0_0 a0_1 _ _ l0_2 a1_0 a1_1 a1_2 t109 t110 t111 _ ?side1 ?side2 A29.out).mono ?_; (case side1 => exact ca_ (Kd.C_below HR0_2.out HB.out)); (case side2 => exact HC0_2.out); rintro e w46 ⟨rfl, hb⟩; refine ⟨_, rfl, ?_⟩
       replace B1 := bb_ B1 hb; replace B2 := bb_ B2 hb; replace HB := bs_ HB hb; (try clear hb); refine hK.out _ _ ⟨bc_ B1 0 rfl, bc_ B1 1 rfl, bc_ B1 2 rfl, bc_ B2 0 rfl, bc_ B2 1 rfl, bc_ B2 2 rfl⟩ (fun hHeld => ?_); clear hK K; refine norm_ (a':=?_) ?_ ?_; rotate_left
       ·show Act.put _ (some 30) _ = _; simp only [q_, i64_w, i32_w]; rfl
       refine pure_ (i:=6) (N:=some 31) (v:=?_) (a':=?_) ⟨m_ 25 127⟩ rfl rfl (ao_ HT_) (fun _ _ _ h=>h) (Or.inl ⟨rfl, ?_⟩) ?_ ?_; rotate_left
       ·intro w'; go_simp; with_reducible rfl
       rotate_left
       ·simp only [q_, i64_w, i32_w]; rfl
       refine pure_ (i:=7) (N:=some 32) (v:=?_) (a':=?_) ⟨m_ 25 255⟩ rfl rfl (ao_ HT_) (fun _ _ _ h=>h) (Or.inl ⟨rfl, ?_⟩) ?_ ?_; rotate_left
       ·intro w'; go_simp; with_reducible rfl
       rotate_left
       ·simp only [q_, i64_w, i32_w]; rfl
       refine take_ (i:=8) (N:=some 33) (v:=?_) (a':=?_) ⟨m_ 25 511⟩ rfl rfl (tw_ HT_ HW_) (fun _ _ _ h=>h) (Or.inl ⟨rfl, ?_⟩) hHeld ?_ ?_; rotate_left
       ·rintro w' ⟨s0, s1, s2, s3, s4, s5⟩; go_simp; with_reducible rfl
       rotate_left
       ·simp only [q_, i64_w, i32_w]; rfl
       refine take_ (i:=9) (N:=some 34) (v:=?_) (a':=?_) ⟨m_ 25 1023⟩ rfl rfl (tw_ HT_ HW_) (fun _ _ _ h=>h) (Or.inl ⟨rfl, ?_⟩) hHeld ?_ ?_; rotate_left
       ·rintro w' ⟨s0, s1, s2, s3, s4, s5⟩; go_simp; with_reducible rfl
       rotate_left
       ·simp only [q_, i64_w, i32_w]; rfl
       refine take_ (i:=11) (N:=some 36) (v:=?_) (a':=?_) ⟨m_ 25 3071⟩ rfl rfl (tw_ HT_ HW_) (fun _ _ _ h=>h) (Or.inl ⟨rfl, ?_⟩) hHeld ?_ ?_; rotate_left
       ·rintro w' ⟨s0, s1, s2, s3, s4, s5⟩; go_simp; with_reducible rfl
       rotate_left
       ·simp only [q_, i64_w, i32_w]; rfl
       refine take_ (i:=12) (N:=some 37) (v:=?_) (a':=?_) ⟨m_ 25 7167⟩ rfl rfl (tw_ HT_ HW_) (fun _ _ _ h=>h) (Or.inl ⟨rfl, ?_⟩) hHeld ?_ ?_; rotate_left
       ·rintro w' ⟨s0, s1, s2, s3, s4, s5⟩; go_simp; with_reducible rfl
       rotate_left
       ·simp only [q_, i64_w, i32_w]; rfl
       refine one_ (i:=10) (N:=some 35) ⟨m_ 25 8191⟩ rfl rfl (oo_ HT_) (by decide) (fun K hK => ?_); refine goes_ Tryz.func9 (by kernel_rfl) rfl #[.agg #[.int .i64 a0_0, .int .i64 a0_1, .slice A0_2 l0_2.length c0_2], .agg #[.int .i64 a1_0, .int .i64 a1_1, .string a1_2]] (by rfl) rfl rfl ha_ ?_; with_reducible refine (look_SumIf.calls kj2 a0_0 a0_1 _ _ l0_2 a1_0 a1_1 a1_2 t112 t113 t114 _ ?side1 ?side2 A34.out).mono ?_; (case side1 => exact ca_ (Kd.C_below HR0_2.out HB.out)); (case side2 => exact HC0_2.out); rintro e w47 ⟨rfl, hb⟩; refine ⟨_, rfl, ?_⟩
       replace B1 := bb_ B1 hb; replace B2 := bb_ B2 hb; replace HB := bs_ HB hb; (try clear hb); refine hK.out _ _ ⟨bc_ B1 0 rfl, bc_ B1 1 rfl, bc_ B1 2 rfl, bc_ B2 0 rfl, bc_ B2 1 rfl, bc_ B2 2 rfl⟩ (fun hHeld => ?_); clear hK K; refine norm_ (a':=?_) ?_ ?_; rotate_left
       ·show Act.put _ (some 35) _ = _; simp only [q_, i64_w, i32_w]; rfl
       refine one_ (i:=13) (N:=some 38) ⟨m_ 25 16383⟩ rfl rfl (oo_ HT_) (by decide) (fun K hK => ?_); refine goes_ Tryz.func10 (by kernel_rfl) rfl #[.agg #[.int .i64 a0_0, .int .i64 a0_1, .slice A0_2 l0_2.length c0_2], .agg #[.int .i64 a1_0, .int .i64 a1_1, .string a1_2]] (by rfl) rfl rfl ha_ ?_; with_reducible refine (oculusref18_Sum.calls kj2 a0_0 a0_1 _ _ l0_2 a1_0 a1_1 a1_2 t115 t116 t117 _ ?side1 ?side2 A35.out).mono ?_; (case side1 => exact ca_ (Kd.C_below HR0_2.out HB.out)); (case side2 => exact HC0_2.out); rintro e w48 ⟨rfl, hb⟩; refine ⟨_, rfl, ?_⟩
       replace B1 := bb_ B1 hb; replace B2 := bb_ B2 hb; replace HB := bs_ HB hb; (try clear hb); refine hK.out _ _ ⟨bc_ B1 0 rfl, bc_ B1 1 rfl, bc_ B1 2 rfl, bc_ B2 0 rfl, bc_ B2 1 rfl, bc_ B2 2 rfl⟩ (fun hHeld => ?_); clear hK K; refine norm_ (a':=?_) ?_ ?_; rotate_left
       ·show Act.put _ (some 38) _ = _; simp only [q_, i64_w, i32_w]; rfl
       refine pure_ (i:=14) (N:=some 39) (v:=?_) (a':=?_) ⟨m_ 25 32767⟩ rfl rfl (ao_ HT_) (fun _ _ _ h=>h) (Or.inl ⟨rfl, ?_⟩) ?_ ?_; rotate_left
       ·intro w'; go_simp; with_reducible rfl
       rotate_left
       ·simp only [q_, i64_w, i32_w]; rfl
       refine pure_ (i:=15) (N:=some 40) (v:=?_) (a':=?_) ⟨m_ 25 65535⟩ rfl rfl (ao_ HT_) (fun _ _ _ h=>h) (Or.inl ⟨rfl, ?_⟩) ?_ ?_; rotate_left
       ·intro w'; go_simp; with_reducible rfl
       rotate_left
       ·simp only [q_, i64_w, i32_w]; rfl
       refine pure_ (i:=16) (N:=some 41) (v:=?_) (a':=?_) ⟨m_ 25 131071⟩ rfl rfl (ao_ HT_) (fun _ _ _ h=>h) (Or.inl ⟨rfl, ?_⟩) ?_ ?_; rotate_left
       ·intro w'; go_simp; with_reducible rfl
       rotate_left
       ·simp only [q_, i64_w, i32_w]; rfl
       refine take_ (i:=17) (N:=some 42) (v:=?_) (a':=?_) ⟨m_ 25 262143⟩ rfl rfl (tw_ HT_ HW_) (fun _ _ _ h=>h) (Or.inl ⟨rfl, ?_⟩) hHeld ?_ ?_; rotate_left
       ·rintro w' ⟨s0, s1, s2, s3, s4, s5⟩; go_simp; with_reducible rfl
       rotate_left
       ·simp only [q_, i64_w, i32_w]; rfl
       refine take_ (i:=18) (N:=some 43) (v:=?_) (a':=?_) ⟨m_ 25 524287⟩ rfl rfl (tw_ HT_ HW_) (fun _ _ _ h=>h) (Or.inl ⟨rfl, ?_⟩) hHeld ?_ ?_; rotate_left
       ·rintro w' ⟨s0, s1, s2, s3, s4, s5⟩; go_simp; with_reducible rfl
       rotate_left
       ·simp only [q_, i64_w, i32_w]; rfl
       refine take_ (i:=20) (N:=some 45) (v:=?_) (a':=?_) ⟨m_ 25 1572863⟩ rfl rfl (tw_ HT_ HW_) (fun _ _ _ h=>h) (Or.inl ⟨rfl, ?_⟩) hHeld ?_ ?_; rotate_left
       ·rintro w' ⟨s0, s1, s2, s3, s4, s5⟩; go_simp; with_reducible rfl
       rotate_left
       ·simp only [q_, i64_w, i32_w]; rfl
       refine take_ (i:=21) (N:=some 46) (v:=?_) (a':=?_) ⟨m_ 25 3670015⟩ rfl rfl (tw_ HT_ HW_) (fun _ _ _ h=>h) (Or.inl ⟨rfl, ?_⟩) hHeld ?_ ?_; rotate_left
       ·rintro w' ⟨s0, s1, s2, s3, s4, s5⟩; go_simp; with_reducible rfl
       rotate_left
       ·simp only [q_, i64_w, i32_w]; rfl
       refine one_ (i:=19) (N:=some 44) ⟨m_ 25 4194303⟩ rfl rfl (oo_ HT_) (by decide) (fun K hK => ?_); refine goes_ Tryz.func11 (by kernel_rfl) rfl #[.agg #[.int .i64 a0_0, .int .i64 a0_1, .slice A0_2 l0_2.length c0_2], .agg #[.int .i64 a1_0, .int .i64 a1_1, .string a1_2]] (by rfl) rfl rfl ha_ ?_; with_reducible refine (look_MeanIf.calls kj2 a0_0 a0_1 _ _ l0_2 a1_0 a1_1 a1_2 t118 t119 t120 _ ?side1 ?side2 A42.out).mono ?_; (case side1 => exact ca_ (Kd.C_below HR0_2.out HB.out)); (case side2 => exact HC0_2.out); rintro e w49 ⟨rfl, hb⟩; refine ⟨_, rfl, ?_⟩
       replace B1 := bb_ B1 hb; replace B2 := bb_ B2 hb; replace HB := bs_ HB hb; (try clear hb); refine hK.out _ _ ⟨bc_ B1 0 rfl, bc_ B1 1 rfl, bc_ B1 2 rfl, bc_ B2 0 rfl, bc_ B2 1 rfl, bc_ B2 2 rfl⟩ (fun hHeld => ?_); clear hK K; refine norm_ (a':=?_) ?_ ?_; rotate_left
       ·show Act.put _ (some 44) _ = _; simp only [q_, i64_w, i32_w]; rfl
       refine one_ (i:=22) (N:=some 47) ⟨m_ 25 8388607⟩ rfl rfl (oo_ HT_) (by decide) (fun K hK => ?_); refine goes_ Tryz.func12 (by kernel_rfl) rfl #[.agg #[.int .i64 a0_0, .int .i64 a0_1, .slice A0_2 l0_2.length c0_2], .agg #[.int .i64 a1_0, .int .i64 a1_1, .string a1_2]] (by rfl) rfl rfl ha_ ?_; with_reducible refine (oculusref18_Mean.calls kj2 a0_0 a0_1 _ _ l0_2 a1_0 a1_1 a1_2 t121 t122 t123 _ ?side1 ?side2 A43.out).mono ?_; (case side1 => exact ca_ (Kd.C_below HR0_2.out HB.out)); (case side2 => exact HC0_2.out); rintro e w50 ⟨rfl, hb⟩; refine ⟨_, rfl, ?_⟩
       replace B1 := bb_ B1 hb; replace B2 := bb_ B2 hb; replace HB := bs_ HB hb; (try clear hb); refine hK.out _ _ ⟨bc_ B1 0 rfl, bc_ B1 1 rfl, bc_ B1 2 rfl, bc_ B2 0 rfl, bc_ B2 1 rfl, bc_ B2 2 rfl⟩ (fun hHeld => ?_); clear hK K; refine norm_ (a':=?_) ?_ ?_; rotate_left
       ·show Act.put _ (some 47) _ = _; simp only [q_, i64_w, i32_w]; rfl
       refine pure_ (i:=23) (N:=some 48) (v:=?_) (a':=?_) ⟨m_ 25 16777215⟩ rfl rfl (ao_ HT_) (fun _ _ _ h=>h) (Or.inl ⟨rfl, ?_⟩) ?_ ?_; rotate_left
       ·intro w'; go_simp; with_reducible rfl
       rotate_left
       ·simp only [q_, i64_w, i32_w]; rfl
       refine pure_ (i:=24) (N:=some 49) (v:=?_) (a':=?_) ⟨m_ 25 33554431⟩ rfl rfl (ao_ HT_) (fun _ _ _ h=>h) (Or.inl ⟨rfl, ?_⟩) ?_ ?_; rotate_left
       ·intro w'; go_simp; with_reducible rfl
       rotate_left
       ·simp only [q_, i64_w, i32_w]; rfl
       refine done_ (done_of HT_.out (by kernel_rfl)) ?_
       try go_wp2
       go_meet
       case rel => exact ⟨_, ((!(t118 == t121) || (!(t119 == t122) || (!(t120.toList == t123.toList))))), (by first | rfl | (simp; done) | (simp [*]; done) | (cases t118 <;> simp; done) | (cases t121 <;> simp; done) | (cases t119 <;> simp; done)), H', ⟨by have := HJ2.out; first | omega | exact Nat.le_refl _⟩, ⟨pkx B1⟩, ⟨pkx B2⟩, ⟨pbx HB⟩⟩
    case rest =>
     clear HC27; obtain ⟨kq, x49_26, rfl, HA, HJ26, B1, B2, HB⟩ := hcut
     cases kq with
     | zero => exact absurd HA.out (by simp [oculuslaw18_LookCounts.j1])
     | succ kj26 =>
      have H := HA.out; clear HA
      simp only [oculuslaw18_LookCounts.j1] at H
      replace H := ib_ H; rcases H with ⟨rfl,H⟩|⟨rfl,H⟩
      ·exact absurd H (by simp)
      ·by_cases c52 : a1_0 = 2
       ·rw [if_pos c52] at H; have ⟨c52b0,c52b1⟩ := e1_ c52; clear c52
        by_cases c53 : 1 + a1_2.size ≤ 9223372036854775807
        ·rw [if_pos c53] at H; have c53b0 := eq_true c53; have c53b1 := decide_eq_true c53
         try have c53b2 : (9223372036854775807 < 1 + a1_2.size) = False := eq_false (Nat.not_lt.2 c53)
         obtain ⟨⟨t125, t126, t127⟩, A54, H⟩ := bo_ H; dsimp only at H; obtain ⟨⟨t128, t129, t130⟩, A55, H⟩ := bo_ H; dsimp only at H
         by_cases c56 : 2 + a1_2.size ≤ 9223372036854775807
         ·rw [if_pos c56] at H; have c56b0 := eq_true c56; have c56b1 := decide_eq_true c56
          try have c56b2 : (9223372036854775807 < 2 + a1_2.size) = False := eq_false (Nat.not_lt.2 c56)
          obtain ⟨⟨t132, t133, t134⟩, A57, H⟩ := bo_ H; dsimp only at H; obtain ⟨⟨t135, t136, t137⟩, A58, H⟩ := bo_ H; dsimp only at H
          have H' := A_ H
          clear H; have hnb59 := N21.out; have hnc59 := N12.out
          have ⟨hcz60_0,hcz60_1,hcz60_2,hfz60_0,hfz60_1,hfz60_2⟩ := z3_ B2
          try go_wp2
          (try (rw [drewN_self wc]; generalize hq_ : World.drewN wc _ = wc; have n0_ : Aside0 (wc.heap[g1]? = some (.cells #[.int .i64 a0_0, .int .i64 a0_1, .slice A0_2 l0_2.length c0_2] 24 (0, 0))) := ⟨by rw [← hq_]; exact (pkx B1)⟩; have n1_ : Aside0 (wc.heap[g2]? = some (.cells #[.int .i64 a1_0, .int .i64 a1_1, .string a1_2] 26 (0, 0))) := ⟨by rw [← hq_]; exact (pkx B2)⟩; have n2_ : Aside0 (Below w.heap.size w wc) := ⟨by rw [← hq_]; exact (pbx HB)⟩; clear B1 B2 HB hq_; have B1 := n0_; have B2 := n1_; have HB := n2_; clear n0_ n1_ n2_))
          replace B1 := A_ (blk_drew B1.out); replace B2 := A_ (blk_drew B2.out); replace HB := A_ (below_drew1 HB.out)
          refine start_ (n:=8) (S := fun w' => w'.cell? ⟨g1, 0, none⟩ = some (.int .i64 a0_0) ∧ w'.cell? ⟨g1, 1, none⟩ = some (.int .i64 a0_1) ∧ w'.cell? ⟨g1, 2, none⟩ = some (.slice A0_2 l0_2.length c0_2) ∧ w'.cell? ⟨g2, 0, none⟩ = some (.int .i64 a1_0) ∧ w'.cell? ⟨g2, 1, none⟩ = some (.int .i64 a1_1) ∧ w'.cell? ⟨g2, 2, none⟩ = some (.string a1_2)) (ds := []) #[F,F,F,F,F,F,F,F] (by kernel_rfl) rfl rfl ⟨bc_ B1 0 rfl, bc_ B1 1 rfl, bc_ B1 2 rfl, bc_ B2 0 rfl, bc_ B2 1 rfl, bc_ B2 2 rfl⟩ (fun hHeld => ?_); refine with_tabW oculuslaw18_LookCounts.tab7 oculuslaw18_LookCounts.bits7 (fun HT_ HW_ => ?_)
          generalize wc.drew = w61 at B1 B2 HB hHeld ⊢; refine pure_ (i:=1) (N:=some 55) (v:=?_) (a':=?_) ⟨m_ 8 2⟩ rfl rfl (ao_ HT_) (fun _ _ _ h=>h) (Or.inl ⟨rfl, ?_⟩) ?_ ?_; rotate_left
          ·intro w'; go_simp; with_reducible rfl
          rotate_left
          ·simp only [q_, i64_w, i32_w]; rfl
          refine take_ (i:=0) (N:=some 54) (v:=?_) (a':=?_) ⟨m_ 8 3⟩ rfl rfl (tw_ HT_ HW_) (fun _ _ _ h=>h) (Or.inl ⟨rfl, ?_⟩) hHeld ?_ ?_; rotate_left
          ·rintro w' ⟨s0, s1, s2, s3, s4, s5⟩; go_simp; with_reducible rfl
          rotate_left
          ·simp only [q_, i64_w, i32_w]; rfl
          refine take_ (i:=2) (N:=some 56) (v:=?_) (a':=?_) ⟨m_ 8 7⟩ rfl rfl (tw_ HT_ HW_) (fun _ _ _ h=>h) (Or.inl ⟨rfl, ?_⟩) hHeld ?_ ?_; rotate_left
          ·rintro w' ⟨s0, s1, s2, s3, s4, s5⟩; go_simp; with_reducible rfl
          rotate_left
          ·simp only [q_, i64_w, i32_w]; rfl
          refine pure_ (i:=3) (N:=some 57) (v:=?_) (a':=?_) ⟨m_ 8 15⟩ rfl rfl (ao_ HT_) (fun _ _ _ h=>h) (Or.inl ⟨rfl, ?_⟩) ?_ ?_; rotate_left
          ·intro w'; go_simp; with_reducible rfl
          rotate_left
          ·simp only [q_, i64_w, i32_w]; rfl
          refine join_ (σ:=Nat) 1 #[T,T,T,T,T,T,T,F] (fun s_ => [(58, .agg #[.int .i64 t125, .int .i64 t126, .string t127]), (59, .agg #[.int .i64 t128, .int .i64 t129, .string t130]), (5, .pointer (some ⟨s_, 0, none⟩))]) (fun s_ w' => (w'.cell? ⟨g1, 0, none⟩ = some (.int .i64 a0_0) ∧ w'.cell? ⟨g1, 1, none⟩ = some (.int .i64 a0_1) ∧ w'.cell? ⟨g1, 2, none⟩ = some (.slice A0_2 l0_2.length c0_2) ∧ w'.cell? ⟨g2, 0, none⟩ = some (.int .i64 a1_0) ∧ w'.cell? ⟨g2, 1, none⟩ = some (.int .i64 a1_1) ∧ w'.cell? ⟨g2, 2, none⟩ = some (.string a1_2)) ∧ (w'.heap[g1]? = some (.cells #[.int .i64 a0_0, .int .i64 a0_1, .slice A0_2 l0_2.length c0_2] 24 (0, 0))) ∧ (w'.heap[g2]? = some (.cells #[.int .i64 a1_0, .int .i64 a1_1, .string a1_2] 26 (0, 0))) ∧ (w'.heap[s_]? = some (.cells #[.int .i64 0, .int .i64 0, .string (⟨#[]⟩ : ByteArray)] 26 (0, 0))) ∧ (w.heap.size ≤ s_) ∧ (w.heap.size ≤ s_) ∧ (g1 ≠ s_) ∧ (s_ ≠ g1) ∧ (g2 ≠ s_) ∧ (s_ ≠ g2) ∧ (Below w.heap.size w w')) ?_ ?_
          rotate_left
          ·intro hCont
           refine two_ (i:=4) (j:=6) (Ni := some 58) (Nj := some 5) #[T,T,T,T,T,F,F,F] ⟨m_ 8 79⟩ rfl rfl rfl rfl (two_of HT_.out (by kernel_rfl)) (by decide) (by decide) (fun K hK => ?_) (fun K hK => ?_)
           ·skip
            refine goes_ Tryz.func13 (by kernel_rfl) rfl #[.string ((⟨#[61]⟩ : ByteArray) ++ a1_2)] (by rfl) rfl rfl ha_ ?_; with_reducible refine (value_Str.calls ((⟨#[61]⟩ : ByteArray) ++ a1_2) t125 t126 t127 _ A54.out).mono ?_; rintro e w62 ⟨rfl, hb⟩; refine ⟨_, rfl, ?_⟩
            replace B1 := bb_ B1 hb; replace B2 := bb_ B2 hb; replace HB := bs_ HB hb; (try clear hb); refine hK.out _ _ ⟨bc_ B1 0 rfl, bc_ B1 1 rfl, bc_ B1 2 rfl, bc_ B2 0 rfl, bc_ B2 1 rfl, bc_ B2 2 rfl⟩ (fun hHeld => ?_); clear hK K; refine norm_ (a':=?_) ?_ ?_; rotate_left
            ·show Act.put _ (some 58) _ = _; simp only [q_, i64_w, i32_w]; rfl
            refine two_ (i:=5) (j:=6) (Ni := some 59) (Nj := some 5) #[T,T,T,T,T,T,F,F] ⟨m_ 8 95⟩ rfl rfl rfl rfl (two_of HT_.out (by kernel_rfl)) (by decide) (by decide) (fun K hK => ?_) (fun K hK => ?_)
            ·skip
             refine goes_ Tryz.func7 (by kernel_rfl) rfl #[.agg #[.int .i64 a0_0, .int .i64 a0_1, .slice A0_2 l0_2.length c0_2], .agg #[.int .i64 t125, .int .i64 t126, .string t127]] (by rfl) rfl rfl ha_ ?_; with_reducible refine (look_CountIf.calls kj26 a0_0 a0_1 _ _ l0_2 t125 t126 t127 t128 t129 t130 _ ?side1 ?side2 A55.out).mono ?_; (case side1 => exact ca_ (Kd.C_below HR0_2.out HB.out)); (case side2 => exact HC0_2.out); rintro e w63 ⟨rfl, hb⟩; refine ⟨_, rfl, ?_⟩
             replace B1 := bb_ B1 hb; replace B2 := bb_ B2 hb; replace HB := bs_ HB hb; (try clear hb); refine hK.out _ _ ⟨bc_ B1 0 rfl, bc_ B1 1 rfl, bc_ B1 2 rfl, bc_ B2 0 rfl, bc_ B2 1 rfl, bc_ B2 2 rfl⟩ (fun hHeld => ?_); clear hK K; refine norm_ (a':=?_) ?_ ?_; rotate_left
             ·show Act.put _ (some 59) _ = _; simp only [q_, i64_w, i32_w]; rfl
             refine one_ (i:=6) (N:=some 5) ⟨m_ 8 127⟩ rfl rfl (oo_ HT_) (by decide) (fun K hK => ?_)
             refine box_step ?hg (N:=5) ?hd (cs := #[.int .i64 0, .int .i64 0, .string (⟨#[]⟩ : ByteArray)]) (t:=26) ?hr ?_; (case hd => rfl); (case hg => rfl); (case hr => first | (go_simp; done) | (go_simp; rfl))
             intro gb131 hg w64 hbox hb
             have BK131 := A_ (hbox); have GW131 := hs_ HB hg; have GE131 := hs_ HB hg; have NB101_131 := hl_ B1 hg; have NB131_101 := hr_ B1 hg; have NB102_131 := hl_ B2 hg; have NB131_102 := hr_ B2 hg; replace B1 := bb_ B1 hb; replace B2 := bb_ B2 hb; replace HB := bs_ HB hb; clear hb hbox hg; refine hK.out _ _ ⟨bc_ B1 0 rfl, bc_ B1 1 rfl, bc_ B1 2 rfl, bc_ B2 0 rfl, bc_ B2 1 rfl, bc_ B2 2 rfl⟩ (fun hHeld => ?_); clear hK K; refine norm_ (a':=?_) ?_ ?_; rotate_left
             ·show Act.put _ (some 5) _ = _; simp only [q_, i64_w, i32_w]; rfl
             exact norm_ (by simp only [putAll, q_]) (hCont (gb131) _ ⟨hHeld, (pkx B1), (pkx B2), (pkx BK131), GW131.out, GE131.out, NB101_131.out, NB131_101.out, NB102_131.out, NB131_102.out, (pbx HB)⟩)
            ·skip
             refine box_step ?hg (N:=5) ?hd (cs := #[.int .i64 0, .int .i64 0, .string (⟨#[]⟩ : ByteArray)]) (t:=26) ?hr ?_; (case hd => rfl); (case hg => rfl); (case hr => first | (go_simp; done) | (go_simp; rfl))
             intro gb131 hg w63 hbox hb
             have BK131 := A_ (hbox); have GW131 := hs_ HB hg; have GE131 := hs_ HB hg; have NB101_131 := hl_ B1 hg; have NB131_101 := hr_ B1 hg; have NB102_131 := hl_ B2 hg; have NB131_102 := hr_ B2 hg; replace B1 := bb_ B1 hb; replace B2 := bb_ B2 hb; replace HB := bs_ HB hb; clear hb hbox hg; refine hK.out _ _ ⟨bc_ B1 0 rfl, bc_ B1 1 rfl, bc_ B1 2 rfl, bc_ B2 0 rfl, bc_ B2 1 rfl, bc_ B2 2 rfl⟩ (fun hHeld => ?_); clear hK K; refine norm_ (a':=?_) ?_ ?_; rotate_left
             ·show Act.put _ (some 5) _ = _; simp only [q_, i64_w, i32_w]; rfl
             refine one_ (i:=5) (N:=some 59) ⟨m_ 8 127⟩ rfl rfl (oo_ HT_) (by decide) (fun K hK => ?_); refine goes_ Tryz.func7 (by kernel_rfl) rfl #[.agg #[.int .i64 a0_0, .int .i64 a0_1, .slice A0_2 l0_2.length c0_2], .agg #[.int .i64 t125, .int .i64 t126, .string t127]] (by rfl) rfl rfl ha_ ?_; with_reducible refine (look_CountIf.calls kj26 a0_0 a0_1 _ _ l0_2 t125 t126 t127 t128 t129 t130 _ ?side1 ?side2 A55.out).mono ?_; (case side1 => exact ca_ (Kd.C_below HR0_2.out HB.out)); (case side2 => exact HC0_2.out); rintro e w64 ⟨rfl, hb⟩; refine ⟨_, rfl, ?_⟩
             replace B1 := bb_ B1 hb; replace B2 := bb_ B2 hb; replace BK131 := bb_ BK131 hb; replace HB := bs_ HB hb; (try clear hb); refine hK.out _ _ ⟨bc_ B1 0 rfl, bc_ B1 1 rfl, bc_ B1 2 rfl, bc_ B2 0 rfl, bc_ B2 1 rfl, bc_ B2 2 rfl⟩ (fun hHeld => ?_); clear hK K; refine norm_ (a':=?_) ?_ ?_; rotate_left
             ·show Act.put _ (some 59) _ = _; simp only [q_, i64_w, i32_w]; rfl
             exact norm_ (by simp only [putAll, q_]) (hCont (gb131) _ ⟨hHeld, (pkx B1), (pkx B2), (pkx BK131), GW131.out, GE131.out, NB101_131.out, NB131_101.out, NB102_131.out, NB131_102.out, (pbx HB)⟩)
           ·skip
            refine box_step ?hg (N:=5) ?hd (cs := #[.int .i64 0, .int .i64 0, .string (⟨#[]⟩ : ByteArray)]) (t:=26) ?hr ?_; (case hd => rfl); (case hg => rfl); (case hr => first | (go_simp; done) | (go_simp; rfl))
            intro gb131 hg w62 hbox hb
            have BK131 := A_ (hbox); have GW131 := hs_ HB hg; have GE131 := hs_ HB hg; have NB101_131 := hl_ B1 hg; have NB131_101 := hr_ B1 hg; have NB102_131 := hl_ B2 hg; have NB131_102 := hr_ B2 hg; replace B1 := bb_ B1 hb; replace B2 := bb_ B2 hb; replace HB := bs_ HB hb; clear hb hbox hg; refine hK.out _ _ ⟨bc_ B1 0 rfl, bc_ B1 1 rfl, bc_ B1 2 rfl, bc_ B2 0 rfl, bc_ B2 1 rfl, bc_ B2 2 rfl⟩ (fun hHeld => ?_); clear hK K; refine norm_ (a':=?_) ?_ ?_; rotate_left
            ·show Act.put _ (some 5) _ = _; simp only [q_, i64_w, i32_w]; rfl
            refine one_ (i:=4) (N:=some 58) ⟨m_ 8 95⟩ rfl rfl (oo_ HT_) (by decide) (fun K hK => ?_); refine goes_ Tryz.func13 (by kernel_rfl) rfl #[.string ((⟨#[61]⟩ : ByteArray) ++ a1_2)] (by rfl) rfl rfl ha_ ?_; with_reducible refine (value_Str.calls ((⟨#[61]⟩ : ByteArray) ++ a1_2) t125 t126 t127 _ A54.out).mono ?_; rintro e w63 ⟨rfl, hb⟩; refine ⟨_, rfl, ?_⟩
            replace B1 := bb_ B1 hb; replace B2 := bb_ B2 hb; replace BK131 := bb_ BK131 hb; replace HB := bs_ HB hb; (try clear hb); refine hK.out _ _ ⟨bc_ B1 0 rfl, bc_ B1 1 rfl, bc_ B1 2 rfl, bc_ B2 0 rfl, bc_ B2 1 rfl, bc_ B2 2 rfl⟩ (fun hHeld => ?_); clear hK K; refine norm_ (a':=?_) ?_ ?_; rotate_left
            ·show Act.put _ (some 58) _ = _; simp only [q_, i64_w, i32_w]; rfl
            refine one_ (i:=5) (N:=some 59) ⟨m_ 8 127⟩ rfl rfl (oo_ HT_) (by decide) (fun K hK => ?_); refine goes_ Tryz.func7 (by kernel_rfl) rfl #[.agg #[.int .i64 a0_0, .int .i64 a0_1, .slice A0_2 l0_2.length c0_2], .agg #[.int .i64 t125, .int .i64 t126, .string t127]] (by rfl) rfl rfl ha_ ?_; with_reducible refine (look_CountIf.calls kj26 a0_0 a0_1 _ _ l0_2 t125 t126 t127 t128 t129 t130 _ ?side1 ?side2 A55.out).mono ?_; (case side1 => exact ca_ (Kd.C_below HR0_2.out HB.out)); (case side2 => exact HC0_2.out); rintro e w64 ⟨rfl, hb⟩; refine ⟨_, rfl, ?_⟩
            replace B1 := bb_ B1 hb; replace B2 := bb_ B2 hb; replace BK131 := bb_ BK131 hb; replace HB := bs_ HB hb; (try clear hb); refine hK.out _ _ ⟨bc_ B1 0 rfl, bc_ B1 1 rfl, bc_ B1 2 rfl, bc_ B2 0 rfl, bc_ B2 1 rfl, bc_ B2 2 rfl⟩ (fun hHeld => ?_); clear hK K; refine norm_ (a':=?_) ?_ ?_; rotate_left
            ·show Act.put _ (some 59) _ = _; simp only [q_, i64_w, i32_w]; rfl
            exact norm_ (by simp only [putAll, q_]) (hCont (gb131) _ ⟨hHeld, (pkx B1), (pkx B2), (pkx BK131), GW131.out, GE131.out, NB101_131.out, NB131_101.out, NB102_131.out, NB131_102.out, (pbx HB)⟩)
          rintro gb131 w65 ⟨hS_, h0_, h1_, h2_, h3_, h4_, h5_, h6_, h7_, h8_, h9_⟩
          have BK131 := A_ h2_; have GW131 := A_ h3_; have GE131 := A_ h4_; have NB101_131 := A_ h5_; have NB131_101 := A_ h6_; have NB102_131 := A_ h7_; have NB131_102 := A_ h8_; replace B1 := A_ h0_; replace B2 := A_ h1_; replace HB := A_ h9_; clear h0_ h1_ h2_ h3_ h4_ h5_ h6_ h7_ h8_ h9_
          have hHeld : w65.cell? ⟨g1, 0, none⟩ = some (.int .i64 a0_0) ∧ w65.cell? ⟨g1, 1, none⟩ = some (.int .i64 a0_1) ∧ w65.cell? ⟨g1, 2, none⟩ = some (.slice A0_2 l0_2.length c0_2) ∧ w65.cell? ⟨g2, 0, none⟩ = some (.int .i64 a1_0) ∧ w65.cell? ⟨g2, 1, none⟩ = some (.int .i64 a1_1) ∧ w65.cell? ⟨g2, 2, none⟩ = some (.string a1_2) := hS_
          refine norm_ (a':=?_) ?_ ?_; rotate_left
          ·simp only [putAll, q_]; rfl
          refine one_ (i:=7) (N:=none) ⟨m_ 8 255⟩ rfl rfl (oo_ HT_) (by decide) (fun K hK => ?_)
          have hs66 : w65.cell? ⟨gb131, 0, none⟩ = some (.int .i64 0) := bc_ BK131 0 rfl
          have hfs66 := blk_frozen BK131.out 0; have hns66_0 := NB101_131.out; have hns66_1 := NB102_131.out; have hms66_0 := NB131_101.out; have hms66_1 := NB131_102.out
          have hs67 : w65.cell? ⟨gb131, 1, none⟩ = some (.int .i64 0) := bc_ BK131 1 rfl
          have hfs67 := blk_frozen BK131.out 1; have hns67_0 := NB101_131.out; have hns67_1 := NB102_131.out; have hms67_0 := NB131_101.out; have hms67_1 := NB131_102.out
          have hs68 : w65.cell? ⟨gb131, 2, none⟩ = some (.string (⟨#[]⟩ : ByteArray)) := bc_ BK131 2 rfl
          have hfs68 := blk_frozen BK131.out 2; have hns68_0 := NB101_131.out; have hns68_1 := NB102_131.out; have hms68_0 := NB131_101.out; have hms68_1 := NB131_102.out
          refine skip_ (w1 := ?_) (by rfl) rfl ?_ ?_
          rotate_left
          ·go_simp; rfl
          refine hK.out _ _ ⟨((cell_far (p := ⟨gb131, _, none⟩) NB101_131.out _).trans (((cell_far (p := ⟨gb131, _, none⟩) NB101_131.out _).trans (((cell_far (p := ⟨gb131, _, none⟩) NB101_131.out _).trans (hHeld.1)))))), ((cell_far (p := ⟨gb131, _, none⟩) NB101_131.out _).trans (((cell_far (p := ⟨gb131, _, none⟩) NB101_131.out _).trans (((cell_far (p := ⟨gb131, _, none⟩) NB101_131.out _).trans (hHeld.2.1)))))), ((cell_far (p := ⟨gb131, _, none⟩) NB101_131.out _).trans (((cell_far (p := ⟨gb131, _, none⟩) NB101_131.out _).trans (((cell_far (p := ⟨gb131, _, none⟩) NB101_131.out _).trans (hHeld.2.2.1)))))), ((cell_far (p := ⟨gb131, _, none⟩) NB102_131.out _).trans (((cell_far (p := ⟨gb131, _, none⟩) NB102_131.out _).trans (((cell_far (p := ⟨gb131, _, none⟩) NB102_131.out _).trans (hHeld.2.2.2.1)))))), ((cell_far (p := ⟨gb131, _, none⟩) NB102_131.out _).trans (((cell_far (p := ⟨gb131, _, none⟩) NB102_131.out _).trans (((cell_far (p := ⟨gb131, _, none⟩) NB102_131.out _).trans (hHeld.2.2.2.2.1)))))), ((cell_far (p := ⟨gb131, _, none⟩) NB102_131.out _).trans (((cell_far (p := ⟨gb131, _, none⟩) NB102_131.out _).trans (((cell_far (p := ⟨gb131, _, none⟩) NB102_131.out _).trans (hHeld.2.2.2.2.2))))))⟩ (fun hHeld => ?_); clear hK K
          refine done_ (done_of HT_.out (by kernel_rfl)) ?_
          try go_wp2
          have n0_ : Aside0 ((((w65.setCell ⟨gb131, 0, none⟩ (.int .i64 t128)).setCell ⟨gb131, 1, none⟩ (.int .i64 t129)).setCell ⟨gb131, 2, none⟩ (.string t130)).heap[g1]? = some (.cells #[.int .i64 a0_0, .int .i64 a0_1, .slice A0_2 l0_2.length c0_2] 24 (0, 0))) := ⟨by (iterate 3 refine pf_ ?_ NB101_131.out); exact pkx B1⟩; have n1_ : Aside0 ((((w65.setCell ⟨gb131, 0, none⟩ (.int .i64 t128)).setCell ⟨gb131, 1, none⟩ (.int .i64 t129)).setCell ⟨gb131, 2, none⟩ (.string t130)).heap[g2]? = some (.cells #[.int .i64 a1_0, .int .i64 a1_1, .string a1_2] 26 (0, 0))) := ⟨by (iterate 3 refine pf_ ?_ NB102_131.out); exact pkx B2⟩
          have n2_ : Aside0 ((((w65.setCell ⟨gb131, 0, none⟩ (.int .i64 t128)).setCell ⟨gb131, 1, none⟩ (.int .i64 t129)).setCell ⟨gb131, 2, none⟩ (.string t130)).heap[gb131]? = some (.cells #[.int .i64 t128, .int .i64 t129, .string t130] 26 (0, 0))) := ⟨by (iterate 3 apply pp_); exact pkx BK131; all_goals rfl⟩; have n3_ : Aside0 (Below w.heap.size w (((w65.setCell ⟨gb131, 0, none⟩ (.int .i64 t128)).setCell ⟨gb131, 1, none⟩ (.int .i64 t129)).setCell ⟨gb131, 2, none⟩ (.string t130))) := ⟨bl_⟩; (try clear B1); (try clear B2); (try clear BK131); (try clear HB)
          generalize (((w65.setCell ⟨gb131, 0, none⟩ (.int .i64 t128)).setCell ⟨gb131, 1, none⟩ (.int .i64 t129)).setCell ⟨gb131, 2, none⟩ (.string t130)) = w69 at n0_ n1_ n2_ n3_ ⊢; have B1 := n0_; have B2 := n1_; have BK131 := n2_; have HB := n3_; clear n0_ n1_ n2_ n3_; (try (rw [drewN_self w69]; generalize hq_ : World.drewN w69 _ = w69; have n0_ : Aside0 (w69.heap[g1]? = some (.cells #[.int .i64 a0_0, .int .i64 a0_1, .slice A0_2 l0_2.length c0_2] 24 (0, 0))) := ⟨by rw [← hq_]; exact (pkx B1)⟩; have n1_ : Aside0 (w69.heap[g2]? = some (.cells #[.int .i64 a1_0, .int .i64 a1_1, .string a1_2] 26 (0, 0))) := ⟨by rw [← hq_]; exact (pkx B2)⟩; have n2_ : Aside0 (w69.heap[gb131]? = some (.cells #[.int .i64 t128, .int .i64 t129, .string t130] 26 (0, 0))) := ⟨by rw [← hq_]; exact (pkx BK131)⟩; have n3_ : Aside0 (Below w.heap.size w w69) := ⟨by rw [← hq_]; exact (pbx HB)⟩; clear B1 B2 BK131 HB hq_; have B1 := n0_; have B2 := n1_; have BK131 := n2_; have HB := n3_; clear n0_ n1_ n2_ n3_))
          replace B1 := A_ (blk_drew B1.out); replace B2 := A_ (blk_drew B2.out); replace BK131 := A_ (blk_drew BK131.out); replace HB := A_ (below_drew1 HB.out)
          refine start_ (n:=8) (S := fun w' => w'.cell? ⟨g1, 0, none⟩ = some (.int .i64 a0_0) ∧ w'.cell? ⟨g1, 1, none⟩ = some (.int .i64 a0_1) ∧ w'.cell? ⟨g1, 2, none⟩ = some (.slice A0_2 l0_2.length c0_2) ∧ w'.cell? ⟨g2, 0, none⟩ = some (.int .i64 a1_0) ∧ w'.cell? ⟨g2, 1, none⟩ = some (.int .i64 a1_1) ∧ w'.cell? ⟨g2, 2, none⟩ = some (.string a1_2)) (ds := []) #[F,F,F,F,F,F,F,F] (by kernel_rfl) rfl rfl ⟨bc_ B1 0 rfl, bc_ B1 1 rfl, bc_ B1 2 rfl, bc_ B2 0 rfl, bc_ B2 1 rfl, bc_ B2 2 rfl⟩ (fun hHeld => ?_); refine with_tabW oculuslaw18_LookCounts.tab8 oculuslaw18_LookCounts.bits8 (fun HT_ HW_ => ?_)
          generalize w69.drew = w70 at B1 B2 BK131 HB hHeld ⊢; refine pure_ (i:=1) (N:=some 61) (v:=?_) (a':=?_) ⟨m_ 8 2⟩ rfl rfl (ao_ HT_) (fun _ _ _ h=>h) (Or.inl ⟨rfl, ?_⟩) ?_ ?_; rotate_left
          ·intro w'; go_simp; with_reducible rfl
          rotate_left
          ·simp only [q_, i64_w, i32_w]; rfl
          refine take_ (i:=0) (N:=some 60) (v:=?_) (a':=?_) ⟨m_ 8 3⟩ rfl rfl (tw_ HT_ HW_) (fun _ _ _ h=>h) (Or.inl ⟨rfl, ?_⟩) hHeld ?_ ?_; rotate_left
          ·rintro w' ⟨s0, s1, s2, s3, s4, s5⟩; go_simp; with_reducible rfl
          rotate_left
          ·simp only [q_, i64_w, i32_w]; rfl
          refine take_ (i:=2) (N:=some 62) (v:=?_) (a':=?_) ⟨m_ 8 7⟩ rfl rfl (tw_ HT_ HW_) (fun _ _ _ h=>h) (Or.inl ⟨rfl, ?_⟩) hHeld ?_ ?_; rotate_left
          ·rintro w' ⟨s0, s1, s2, s3, s4, s5⟩; go_simp; with_reducible rfl
          rotate_left
          ·simp only [q_, i64_w, i32_w]; rfl
          refine pure_ (i:=3) (N:=some 63) (v:=?_) (a':=?_) ⟨m_ 8 15⟩ rfl rfl (ao_ HT_) (fun _ _ _ h=>h) (Or.inl ⟨rfl, ?_⟩) ?_ ?_; rotate_left
          ·intro w'; go_simp; with_reducible rfl
          rotate_left
          ·simp only [q_, i64_w, i32_w]; rfl
          refine join_ (σ:=Nat) 1 #[T,T,T,T,T,T,T,F] (fun s_ => [(64, .agg #[.int .i64 t132, .int .i64 t133, .string t134]), (65, .agg #[.int .i64 t135, .int .i64 t136, .string t137]), (6, .pointer (some ⟨s_, 0, none⟩))]) (fun s_ w' => (w'.cell? ⟨g1, 0, none⟩ = some (.int .i64 a0_0) ∧ w'.cell? ⟨g1, 1, none⟩ = some (.int .i64 a0_1) ∧ w'.cell? ⟨g1, 2, none⟩ = some (.slice A0_2 l0_2.length c0_2) ∧ w'.cell? ⟨g2, 0, none⟩ = some (.int .i64 a1_0) ∧ w'.cell? ⟨g2, 1, none⟩ = some (.int .i64 a1_1) ∧ w'.cell? ⟨g2, 2, none⟩ = some (.string a1_2)) ∧ (w'.heap[g1]? = some (.cells #[.int .i64 a0_0, .int .i64 a0_1, .slice A0_2 l0_2.length c0_2] 24 (0, 0))) ∧ (w'.heap[g2]? = some (.cells #[.int .i64 a1_0, .int .i64 a1_1, .string a1_2] 26 (0, 0))) ∧ (w'.heap[gb131]? = some (.cells #[.int .i64 t128, .int .i64 t129, .string t130] 26 (0, 0))) ∧ (w'.heap[s_]? = some (.cells #[.int .i64 0, .int .i64 0, .string (⟨#[]⟩ : ByteArray)] 26 (0, 0))) ∧ (w.heap.size ≤ s_) ∧ (w.heap.size ≤ s_) ∧ (g1 ≠ s_) ∧ (s_ ≠ g1) ∧ (g2 ≠ s_) ∧ (s_ ≠ g2) ∧ (gb131 ≠ s_) ∧ (s_ ≠ gb131) ∧ (Below w.heap.size w w')) ?_ ?_
          rotate_left
          ·intro hCont
           refine two_ (i:=4) (j:=6) (Ni := some 64) (Nj := some 6) #[T,T,T,T,T,F,F,F] ⟨m_ 8 79⟩ rfl rfl rfl rfl (two_of HT_.out (by kernel_rfl)) (by decide) (by decide) (fun K hK => ?_) (fun K hK => ?_)
           ·skip
            refine goes_ Tryz.func13 (by kernel_rfl) rfl #[.string ((⟨#[60, 62]⟩ : ByteArray) ++ a1_2)] (by rfl) rfl rfl ha_ ?_; with_reducible refine (value_Str.calls ((⟨#[60, 62]⟩ : ByteArray) ++ a1_2) t132 t133 t134 _ A57.out).mono ?_; rintro e w71 ⟨rfl, hb⟩; refine ⟨_, rfl, ?_⟩
            replace B1 := bb_ B1 hb; replace B2 := bb_ B2 hb; replace BK131 := bb_ BK131 hb; replace HB := bs_ HB hb; (try clear hb); refine hK.out _ _ ⟨bc_ B1 0 rfl, bc_ B1 1 rfl, bc_ B1 2 rfl, bc_ B2 0 rfl, bc_ B2 1 rfl, bc_ B2 2 rfl⟩ (fun hHeld => ?_); clear hK K; refine norm_ (a':=?_) ?_ ?_; rotate_left
            ·show Act.put _ (some 64) _ = _; simp only [q_, i64_w, i32_w]; rfl
            refine two_ (i:=5) (j:=6) (Ni := some 65) (Nj := some 6) #[T,T,T,T,T,T,F,F] ⟨m_ 8 95⟩ rfl rfl rfl rfl (two_of HT_.out (by kernel_rfl)) (by decide) (by decide) (fun K hK => ?_) (fun K hK => ?_)
            ·skip
             refine goes_ Tryz.func7 (by kernel_rfl) rfl #[.agg #[.int .i64 a0_0, .int .i64 a0_1, .slice A0_2 l0_2.length c0_2], .agg #[.int .i64 t132, .int .i64 t133, .string t134]] (by rfl) rfl rfl ha_ ?_; with_reducible refine (look_CountIf.calls kj26 a0_0 a0_1 _ _ l0_2 t132 t133 t134 t135 t136 t137 _ ?side1 ?side2 A58.out).mono ?_; (case side1 => exact ca_ (Kd.C_below HR0_2.out HB.out)); (case side2 => exact HC0_2.out); rintro e w72 ⟨rfl, hb⟩; refine ⟨_, rfl, ?_⟩
             replace B1 := bb_ B1 hb; replace B2 := bb_ B2 hb; replace BK131 := bb_ BK131 hb; replace HB := bs_ HB hb; (try clear hb); refine hK.out _ _ ⟨bc_ B1 0 rfl, bc_ B1 1 rfl, bc_ B1 2 rfl, bc_ B2 0 rfl, bc_ B2 1 rfl, bc_ B2 2 rfl⟩ (fun hHeld => ?_); clear hK K; refine norm_ (a':=?_) ?_ ?_; rotate_left
             ·show Act.put _ (some 65) _ = _; simp only [q_, i64_w, i32_w]; rfl
             refine one_ (i:=6) (N:=some 6) ⟨m_ 8 127⟩ rfl rfl (oo_ HT_) (by decide) (fun K hK => ?_)
             refine box_step ?hg (N:=6) ?hd (cs := #[.int .i64 0, .int .i64 0, .string (⟨#[]⟩ : ByteArray)]) (t:=26) ?hr ?_; (case hd => rfl); (case hg => rfl); (case hr => first | (go_simp; done) | (go_simp; rfl))
             intro gb138 hg w73 hbox hb
             have BK138 := A_ (hbox); have GW138 := hs_ HB hg; have GE138 := hs_ HB hg; have NB101_138 := hl_ B1 hg; have NB138_101 := hr_ B1 hg; have NB102_138 := hl_ B2 hg; have NB138_102 := hr_ B2 hg; have NB131_138 := hl_ BK131 hg; have NB138_131 := hr_ BK131 hg; replace B1 := bb_ B1 hb; replace B2 := bb_ B2 hb; replace BK131 := bb_ BK131 hb; replace HB := bs_ HB hb; clear hb hbox hg; refine hK.out _ _ ⟨bc_ B1 0 rfl, bc_ B1 1 rfl, bc_ B1 2 rfl, bc_ B2 0 rfl, bc_ B2 1 rfl, bc_ B2 2 rfl⟩ (fun hHeld => ?_); clear hK K; refine norm_ (a':=?_) ?_ ?_; rotate_left
             ·show Act.put _ (some 6) _ = _; simp only [q_, i64_w, i32_w]; rfl
             exact norm_ (by simp only [putAll, q_]) (hCont (gb138) _ ⟨hHeld, (pkx B1), (pkx B2), (pkx BK131), (pkx BK138), GW138.out, GE138.out, NB101_138.out, NB138_101.out, NB102_138.out, NB138_102.out, NB131_138.out, NB138_131.out, (pbx HB)⟩)
            ·skip
             refine box_step ?hg (N:=6) ?hd (cs := #[.int .i64 0, .int .i64 0, .string (⟨#[]⟩ : ByteArray)]) (t:=26) ?hr ?_; (case hd => rfl); (case hg => rfl); (case hr => first | (go_simp; done) | (go_simp; rfl))
             intro gb138 hg w72 hbox hb
             have BK138 := A_ (hbox); have GW138 := hs_ HB hg; have GE138 := hs_ HB hg; have NB101_138 := hl_ B1 hg; have NB138_101 := hr_ B1 hg; have NB102_138 := hl_ B2 hg; have NB138_102 := hr_ B2 hg; have NB131_138 := hl_ BK131 hg; have NB138_131 := hr_ BK131 hg; replace B1 := bb_ B1 hb; replace B2 := bb_ B2 hb; replace BK131 := bb_ BK131 hb; replace HB := bs_ HB hb; clear hb hbox hg; refine hK.out _ _ ⟨bc_ B1 0 rfl, bc_ B1 1 rfl, bc_ B1 2 rfl, bc_ B2 0 rfl, bc_ B2 1 rfl, bc_ B2 2 rfl⟩ (fun hHeld => ?_); clear hK K; refine norm_ (a':=?_) ?_ ?_; rotate_left
             ·show Act.put _ (some 6) _ = _; simp only [q_, i64_w, i32_w]; rfl
             refine one_ (i:=5) (N:=some 65) ⟨m_ 8 127⟩ rfl rfl (oo_ HT_) (by decide) (fun K hK => ?_); refine goes_ Tryz.func7 (by kernel_rfl) rfl #[.agg #[.int .i64 a0_0, .int .i64 a0_1, .slice A0_2 l0_2.length c0_2], .agg #[.int .i64 t132, .int .i64 t133, .string t134]] (by rfl) rfl rfl ha_ ?_; with_reducible refine (look_CountIf.calls kj26 a0_0 a0_1 _ _ l0_2 t132 t133 t134 t135 t136 t137 _ ?side1 ?side2 A58.out).mono ?_; (case side1 => exact ca_ (Kd.C_below HR0_2.out HB.out)); (case side2 => exact HC0_2.out); rintro e w73 ⟨rfl, hb⟩; refine ⟨_, rfl, ?_⟩
             replace B1 := bb_ B1 hb; replace B2 := bb_ B2 hb; replace BK131 := bb_ BK131 hb; replace BK138 := bb_ BK138 hb; replace HB := bs_ HB hb; (try clear hb); refine hK.out _ _ ⟨bc_ B1 0 rfl, bc_ B1 1 rfl, bc_ B1 2 rfl, bc_ B2 0 rfl, bc_ B2 1 rfl, bc_ B2 2 rfl⟩ (fun hHeld => ?_); clear hK K; refine norm_ (a':=?_) ?_ ?_; rotate_left
             ·show Act.put _ (some 65) _ = _; simp only [q_, i64_w, i32_w]; rfl
             exact norm_ (by simp only [putAll, q_]) (hCont (gb138) _ ⟨hHeld, (pkx B1), (pkx B2), (pkx BK131), (pkx BK138), GW138.out, GE138.out, NB101_138.out, NB138_101.out, NB102_138.out, NB138_102.out, NB131_138.out, NB138_131.out, (pbx HB)⟩)
           ·skip
            refine box_step ?hg (N:=6) ?hd (cs := #[.int .i64 0, .int .i64 0, .string (⟨#[]⟩ : ByteArray)]) (t:=26) ?hr ?_; (case hd => rfl); (case hg => rfl); (case hr => first | (go_simp; done) | (go_simp; rfl))
            intro gb138 hg w71 hbox hb
            have BK138 := A_ (hbox); have GW138 := hs_ HB hg; have GE138 := hs_ HB hg; have NB101_138 := hl_ B1 hg; have NB138_101 := hr_ B1 hg; have NB102_138 := hl_ B2 hg; have NB138_102 := hr_ B2 hg; have NB131_138 := hl_ BK131 hg; have NB138_131 := hr_ BK131 hg; replace B1 := bb_ B1 hb; replace B2 := bb_ B2 hb; replace BK131 := bb_ BK131 hb; replace HB := bs_ HB hb; clear hb hbox hg; refine hK.out _ _ ⟨bc_ B1 0 rfl, bc_ B1 1 rfl, bc_ B1 2 rfl, bc_ B2 0 rfl, bc_ B2 1 rfl, bc_ B2 2 rfl⟩ (fun hHeld => ?_); clear hK K; refine norm_ (a':=?_) ?_ ?_; rotate_left
            ·show Act.put _ (some 6) _ = _; simp only [q_, i64_w, i32_w]; rfl
            refine one_ (i:=4) (N:=some 64) ⟨m_ 8 95⟩ rfl rfl (oo_ HT_) (by decide) (fun K hK => ?_); refine goes_ Tryz.func13 (by kernel_rfl) rfl #[.string ((⟨#[60, 62]⟩ : ByteArray) ++ a1_2)] (by rfl) rfl rfl ha_ ?_; with_reducible refine (value_Str.calls ((⟨#[60, 62]⟩ : ByteArray) ++ a1_2) t132 t133 t134 _ A57.out).mono ?_; rintro e w72 ⟨rfl, hb⟩; refine ⟨_, rfl, ?_⟩
            replace B1 := bb_ B1 hb; replace B2 := bb_ B2 hb; replace BK131 := bb_ BK131 hb; replace BK138 := bb_ BK138 hb; replace HB := bs_ HB hb; (try clear hb); refine hK.out _ _ ⟨bc_ B1 0 rfl, bc_ B1 1 rfl, bc_ B1 2 rfl, bc_ B2 0 rfl, bc_ B2 1 rfl, bc_ B2 2 rfl⟩ (fun hHeld => ?_); clear hK K; refine norm_ (a':=?_) ?_ ?_; rotate_left
            ·show Act.put _ (some 64) _ = _; simp only [q_, i64_w, i32_w]; rfl
            refine one_ (i:=5) (N:=some 65) ⟨m_ 8 127⟩ rfl rfl (oo_ HT_) (by decide) (fun K hK => ?_); refine goes_ Tryz.func7 (by kernel_rfl) rfl #[.agg #[.int .i64 a0_0, .int .i64 a0_1, .slice A0_2 l0_2.length c0_2], .agg #[.int .i64 t132, .int .i64 t133, .string t134]] (by rfl) rfl rfl ha_ ?_; with_reducible refine (look_CountIf.calls kj26 a0_0 a0_1 _ _ l0_2 t132 t133 t134 t135 t136 t137 _ ?side1 ?side2 A58.out).mono ?_; (case side1 => exact ca_ (Kd.C_below HR0_2.out HB.out)); (case side2 => exact HC0_2.out); rintro e w73 ⟨rfl, hb⟩; refine ⟨_, rfl, ?_⟩
            replace B1 := bb_ B1 hb; replace B2 := bb_ B2 hb; replace BK131 := bb_ BK131 hb; replace BK138 := bb_ BK138 hb; replace HB := bs_ HB hb; (try clear hb); refine hK.out _ _ ⟨bc_ B1 0 rfl, bc_ B1 1 rfl, bc_ B1 2 rfl, bc_ B2 0 rfl, bc_ B2 1 rfl, bc_ B2 2 rfl⟩ (fun hHeld => ?_); clear hK K; refine norm_ (a':=?_) ?_ ?_; rotate_left
            ·show Act.put _ (some 65) _ = _; simp only [q_, i64_w, i32_w]; rfl
            exact norm_ (by simp only [putAll, q_]) (hCont (gb138) _ ⟨hHeld, (pkx B1), (pkx B2), (pkx BK131), (pkx BK138), GW138.out, GE138.out, NB101_138.out, NB138_101.out, NB102_138.out, NB138_102.out, NB131_138.out, NB138_131.out, (pbx HB)⟩)
          rintro gb138 w74 ⟨hS_, h0_, h1_, h2_, h3_, h4_, h5_, h6_, h7_, h8_, h9_, h10_, h11_, h12_⟩
          have BK138 := A_ h3_; have GW138 := A_ h4_; have GE138 := A_ h5_; have NB101_138 := A_ h6_; have NB138_101 := A_ h7_; have NB102_138 := A_ h8_; have NB138_102 := A_ h9_; have NB131_138 := A_ h10_; have NB138_131 := A_ h11_; replace B1 := A_ h0_; replace B2 := A_ h1_; replace BK131 := A_ h2_; replace HB := A_ h12_; clear h0_ h1_ h2_ h3_ h4_ h5_ h6_ h7_ h8_ h9_ h10_ h11_ h12_
          have hHeld : w74.cell? ⟨g1, 0, none⟩ = some (.int .i64 a0_0) ∧ w74.cell? ⟨g1, 1, none⟩ = some (.int .i64 a0_1) ∧ w74.cell? ⟨g1, 2, none⟩ = some (.slice A0_2 l0_2.length c0_2) ∧ w74.cell? ⟨g2, 0, none⟩ = some (.int .i64 a1_0) ∧ w74.cell? ⟨g2, 1, none⟩ = some (.int .i64 a1_1) ∧ w74.cell? ⟨g2, 2, none⟩ = some (.string a1_2) := hS_
          refine norm_ (a':=?_) ?_ ?_; rotate_left
          ·simp only [putAll, q_]; rfl
          refine one_ (i:=7) (N:=none) ⟨m_ 8 255⟩ rfl rfl (oo_ HT_) (by decide) (fun K hK => ?_)
          have hs75 : w74.cell? ⟨gb138, 0, none⟩ = some (.int .i64 0) := bc_ BK138 0 rfl
          have hfs75 := blk_frozen BK138.out 0; have hns75_0 := NB101_138.out; have hns75_1 := NB102_138.out; have hns75_2 := NB131_138.out; have hms75_0 := NB138_101.out; have hms75_1 := NB138_102.out; have hms75_2 := NB138_131.out
          have hs76 : w74.cell? ⟨gb138, 1, none⟩ = some (.int .i64 0) := bc_ BK138 1 rfl
          have hfs76 := blk_frozen BK138.out 1; have hns76_0 := NB101_138.out; have hns76_1 := NB102_138.out; have hns76_2 := NB131_138.out; have hms76_0 := NB138_101.out; have hms76_1 := NB138_102.out; have hms76_2 := NB138_131.out
          have hs77 : w74.cell? ⟨gb138, 2, none⟩ = some (.string (⟨#[]⟩ : ByteArray)) := bc_ BK138 2 rfl
          have hfs77 := blk_frozen BK138.out 2; have hns77_0 := NB101_138.out; have hns77_1 := NB102_138.out; have hns77_2 := NB131_138.out; have hms77_0 := NB138_101.out; have hms77_1 := NB138_102.out; have hms77_2 := NB138_131.out
          refine skip_ (w1 := ?_) (by rfl) rfl ?_ ?_
          rotate_left
          ·go_simp; rfl
          refine hK.out _ _ ⟨((cell_far (p := ⟨gb138, _, none⟩) NB101_138.out _).trans (((cell_far (p := ⟨gb138, _, none⟩) NB101_138.out _).trans (((cell_far (p := ⟨gb138, _, none⟩) NB101_138.out _).trans (hHeld.1)))))), ((cell_far (p := ⟨gb138, _, none⟩) NB101_138.out _).trans (((cell_far (p := ⟨gb138, _, none⟩) NB101_138.out _).trans (((cell_far (p := ⟨gb138, _, none⟩) NB101_138.out _).trans (hHeld.2.1)))))), ((cell_far (p := ⟨gb138, _, none⟩) NB101_138.out _).trans (((cell_far (p := ⟨gb138, _, none⟩) NB101_138.out _).trans (((cell_far (p := ⟨gb138, _, none⟩) NB101_138.out _).trans (hHeld.2.2.1)))))), ((cell_far (p := ⟨gb138, _, none⟩) NB102_138.out _).trans (((cell_far (p := ⟨gb138, _, none⟩) NB102_138.out _).trans (((cell_far (p := ⟨gb138, _, none⟩) NB102_138.out _).trans (hHeld.2.2.2.1)))))), ((cell_far (p := ⟨gb138, _, none⟩) NB102_138.out _).trans (((cell_far (p := ⟨gb138, _, none⟩) NB102_138.out _).trans (((cell_far (p := ⟨gb138, _, none⟩) NB102_138.out _).trans (hHeld.2.2.2.2.1)))))), ((cell_far (p := ⟨gb138, _, none⟩) NB102_138.out _).trans (((cell_far (p := ⟨gb138, _, none⟩) NB102_138.out _).trans (((cell_far (p := ⟨gb138, _, none⟩) NB102_138.out _).trans (hHeld.2.2.2.2.2))))))⟩ (fun hHeld => ?_); clear hK K
          refine done_ (done_of HT_.out (by kernel_rfl)) ?_
          have hnb78 := NB101_131.out; have hnc78 := NB131_101.out; have hnb79 := NB101_138.out; have hnc79 := NB138_101.out
          have ⟨hcz80_0,hcz80_1,hcz80_2,hfz80_0,hfz80_1,hfz80_2⟩ := z3_ B1
          try go_wp2
          go_loopg [7, 69] kj26 (fun kq v7 v69 w' => ∃ (x7_3 : Int) (x69_3 : Int), v7 = .int .i64 x7_3 ∧ v69 = .int .i64 x69_3 ∧ Aside0 (oculuslaw18_LookCounts.l0 kq x7_3 l0_2 (l0_2.length : Int) x69_3 a0_0 a0_1 l0_2 t128 t129 t130 t135 t136 t137 = some r) ∧ Aside0 (kq ≤ kj26) ∧ Aside0 (w'.heap[g1]? = some (.cells #[.int .i64 a0_0, .int .i64 a0_1, (.slice A0_2 l0_2.length c0_2)] 24 (0, 0))) ∧ Aside0 (w'.heap[g2]? = some (.cells #[.int .i64 a1_0, .int .i64 a1_1, .string a1_2] 26 (0, 0))) ∧ Aside0 (w'.heap[gb131]? = some (.cells #[.int .i64 t128, .int .i64 t129, .string t130] 26 (0, 0))) ∧ Aside0 (w'.heap[gb138]? = some (.cells #[.int .i64 t135, .int .i64 t136, .string t137] 26 (0, 0))) ∧ Aside0 (Below w.heap.size w w'))
          case atStart => exact ⟨(0), (0), sq_, sq_, H', ⟨Nat.le_refl _⟩, ⟨by (iterate 3 refine pf_ ?_ NB101_138.out); exact pkx B1⟩, ⟨by (iterate 3 refine pf_ ?_ NB102_138.out); exact pkx B2⟩, ⟨by (iterate 3 refine pf_ ?_ NB131_138.out); exact pkx BK131⟩, ⟨by (iterate 3 apply pp_); exact pkx BK138; all_goals rfl⟩, ⟨bl_⟩⟩
          case round =>
           clear H'; (try clear hcz80_0); (try clear hcz80_1); (try clear hcz80_2); (try clear hfz80_0); (try clear hfz80_1); (try clear hfz80_2); obtain ⟨x7_3, x69_3, rfl, rfl, HA, HK3, B1, B2, BK131, BK138, HB⟩ := hrel
           cases gk with
           | zero => exact absurd HA.out (by simp [oculuslaw18_LookCounts.l0])
           | succ k3 =>
            have H := HA.out; clear HA
            simp only [oculuslaw18_LookCounts.l0] at H
            by_cases c81 : x69_3 < (l0_2.length : Int)
            ·rw [if_pos c81] at H; have c81b0 := decide_eq_true c81; clear c81
             by_cases c82 : 0 ≤ x69_3
             ·rw [if_pos c82] at H; have c82b0 := decide_eq_true c82; clear c82
              by_cases c83 : x69_3 < (l0_2.length : Int)
              ·rw [if_pos c83] at H; have c83b0 := decide_eq_true c83; clear c83
               by_cases c84 : ((rd_T26 l0_2 x69_3).f0) = 4
               ·rw [if_pos c84] at H; have ⟨c84b0,c84b1⟩ := e1_ c84; clear c84
                have H' := A_ H
                clear H
                have p139 : 0 ≤ (x69_3 : Int) := of_decide_eq_true as_
                have q139 : x69_3 < (l0_2.length : Int) := of_decide_eq_true as_
                obtain ⟨ad139, e139, hx139_0, hx139_1, hx139_2⟩ := at_T26 HR0_2.out x69_3 p139 q139
                cases e139
                replace hx139_0 := (HB.out.cell (World.block_lt_of_cell? w _ hx139_0)).trans hx139_0; replace hx139_1 := (HB.out.cell (World.block_lt_of_cell? w _ hx139_1)).trans hx139_1; replace hx139_2 := (HB.out.cell (World.block_lt_of_cell? w _ hx139_2)).trans hx139_2; replace p139 := eq_true p139; replace q139 := eq_true q139
                go_wp2_with (first | ((with_reducible refine gd_ 9 ?_); (try (refine gate_guard (by rfl) ?_; dsimp only)); refine be_ (N:=9) (cs := #[.int .i64 0, .int .i64 0, .string (⟨#[]⟩ : ByteArray)]) (t:=26) ?_; intro gb140 hg w85 hbox hb; have BK140 := A_ (hbox); have GW140 := hs_ HB hg; have GE140 := hs_ HB hg; have NB101_140 := hl_ B1 hg; have NB140_101 := hr_ B1 hg; have NB102_140 := hl_ B2 hg; have NB140_102 := hr_ B2 hg; have NB131_140 := hl_ BK131 hg; have NB140_131 := hr_ BK131 hg; have NB138_140 := hl_ BK138 hg; have NB140_138 := hr_ BK138 hg; replace B1 := bb_ B1 hb; replace B2 := bb_ B2 hb; replace BK131 := bb_ BK131 hb; replace BK138 := bb_ BK138 hb; replace HB := bs_ HB hb; clear hb hbox hg; have hnb86 := NB140_101.out; have hnc86 := NB101_140.out; have hnb87 := NB140_102.out; have hnc87 := NB102_140.out; have hnb88 := NB140_131.out; have hnc88 := NB131_140.out; have hnb89 := NB140_138.out; have hnc89 := NB138_140.out; have ⟨hcz90_0,hcz90_1,hcz90_2,hfz90_0,hfz90_1,hfz90_2⟩ := z3_ BK140))
                go_roundg k3
                case measure => have := HJ2.out; have := HJ26.out; have := HK3.out; omega
                case rel => exact ⟨(wrap64 (x7_3 + 1)), (wrap64 (x69_3 + 1)), sq_, sq_, H', ⟨by have := HJ2.out; have := HJ26.out; have := HK3.out; omega⟩, ⟨by (iterate 3 refine pf_ ?_ NB101_140.out); exact pkx B1⟩, ⟨by (iterate 3 refine pf_ ?_ NB102_140.out); exact pkx B2⟩, ⟨by (iterate 3 refine pf_ ?_ NB131_140.out); exact pkx BK131⟩, ⟨by (iterate 3 refine pf_ ?_ NB138_140.out); exact pkx BK138⟩, ⟨bl_⟩⟩
               ·rw [if_neg c84] at H; have ⟨c84b0,c84b1⟩ := e0_ c84
                have H' := A_ H
                clear H
                have p139 : 0 ≤ (x69_3 : Int) := of_decide_eq_true as_
                have q139 : x69_3 < (l0_2.length : Int) := of_decide_eq_true as_
                obtain ⟨ad139, e139, hx139_0, hx139_1, hx139_2⟩ := at_T26 HR0_2.out x69_3 p139 q139
                cases e139
                replace hx139_0 := (HB.out.cell (World.block_lt_of_cell? w _ hx139_0)).trans hx139_0; replace hx139_1 := (HB.out.cell (World.block_lt_of_cell? w _ hx139_1)).trans hx139_1; replace hx139_2 := (HB.out.cell (World.block_lt_of_cell? w _ hx139_2)).trans hx139_2; replace p139 := eq_true p139; replace q139 := eq_true q139
                go_wp2_with (first | ((with_reducible refine gd_ 9 ?_); (try (refine gate_guard (by rfl) ?_; dsimp only)); refine be_ (N:=9) (cs := #[.int .i64 0, .int .i64 0, .string (⟨#[]⟩ : ByteArray)]) (t:=26) ?_; intro gb140 hg w91 hbox hb; have BK140 := A_ (hbox); have GW140 := hs_ HB hg; have GE140 := hs_ HB hg; have NB101_140 := hl_ B1 hg; have NB140_101 := hr_ B1 hg; have NB102_140 := hl_ B2 hg; have NB140_102 := hr_ B2 hg; have NB131_140 := hl_ BK131 hg; have NB140_131 := hr_ BK131 hg; have NB138_140 := hl_ BK138 hg; have NB140_138 := hr_ BK138 hg; replace B1 := bb_ B1 hb; replace B2 := bb_ B2 hb; replace BK131 := bb_ BK131 hb; replace BK138 := bb_ BK138 hb; replace HB := bs_ HB hb; clear hb hbox hg; have hnb92 := NB140_101.out; have hnc92 := NB101_140.out; have hnb93 := NB140_102.out; have hnc93 := NB102_140.out; have hnb94 := NB140_131.out; have hnc94 := NB131_140.out; have hnb95 := NB140_138.out; have hnc95 := NB138_140.out; have ⟨hcz96_0,hcz96_1,hcz96_2,hfz96_0,hfz96_1,hfz96_2⟩ := z3_ BK140))
                go_roundg k3
                case measure => have := HJ2.out; have := HJ26.out; have := HK3.out; omega
                case rel => exact ⟨(x7_3), (wrap64 (x69_3 + 1)), sq_, sq_, H', ⟨by have := HJ2.out; have := HJ26.out; have := HK3.out; omega⟩, ⟨by (iterate 3 refine pf_ ?_ NB101_140.out); exact pkx B1⟩, ⟨by (iterate 3 refine pf_ ?_ NB102_140.out); exact pkx B2⟩, ⟨by (iterate 3 refine pf_ ?_ NB131_140.out); exact pkx BK131⟩, ⟨by (iterate 3 refine pf_ ?_ NB138_140.out); exact pkx BK138⟩, ⟨bl_⟩⟩
              ·rw [if_neg c83] at H
               exact absurd H (by simp)
             ·rw [if_neg c82] at H
              exact absurd H (by simp)
            ·rw [if_neg c81] at H; have c81b0 := decide_eq_false c81; clear c81
             by_cases c97 : (wrap64 (t129 + t136)) = (wrap64 ((wrap64 ((l0_2.length : Int) - x7_3)) * 10000))
             ·rw [if_pos c97] at H; have c97b0 : ((wrap64 (t129 + t136)) == (wrap64 ((wrap64 ((l0_2.length : Int) - x7_3)) * 10000))) = true := beq_iff_eq.mpr c97; have c97b1 : ((wrap64 (t129 + t136)) != (wrap64 ((wrap64 ((l0_2.length : Int) - x7_3)) * 10000))) = false := bne_eq_false_iff_eq.mpr c97; clear c97; obtain ⟨t141, A98, H⟩ := bo_ H; obtain rfl := Option.some.inj H; have hnb99 := NB131_101.out; have hnc99 := NB101_131.out; have hnb100 := NB131_102.out; have hnc100 := NB102_131.out; have hnb101 := NB131_138.out; have hnc101 := NB138_131.out
              have ⟨hcz102_0,hcz102_1,hcz102_2,hfz102_0,hfz102_1,hfz102_2⟩ := z3_ BK131; have hnb103 := NB138_101.out; have hnc103 := NB101_138.out; have hnb104 := NB138_102.out; have hnc104 := NB102_138.out
              have ⟨hcz105_0,hcz105_1,hcz105_2,hfz105_0,hfz105_1,hfz105_2⟩ := z3_ BK138; have hnb106 := N12.out; have hnc106 := N21.out
              have ⟨hcz107_0,hcz107_1,hcz107_2,hfz107_0,hfz107_1,hfz107_2⟩ := z3_ B1
              go_wp2_with (first | (go_at_call 6; (with_reducible refine (oculuslaw18_alive.calls k3  t141 _ A98.out).mono ?_); rintro e w108 ⟨rfl, hb⟩; replace B1 := bb_ B1 hb; replace B2 := bb_ B2 hb; replace BK131 := bb_ BK131 hb; replace BK138 := bb_ BK138 hb; replace HB := bs_ HB hb; (try clear hb); ))
              go_ret
              exact fi_ (pbx HB)
             ·rw [if_neg c97] at H
              exact absurd H (by simp)
         ·rw [if_neg c56] at H
          exact absurd H (by simp)
        ·rw [if_neg c53] at H
         exact absurd H (by simp)
       ·rw [if_neg c52] at H; have ⟨c52b0,c52b1⟩ := e0_ c52; obtain ⟨t124, A109, H⟩ := bo_ H; obtain rfl := Option.some.inj H; have hnb110 := N21.out; have hnc110 := N12.out
        have ⟨hcz111_0,hcz111_1,hcz111_2,hfz111_0,hfz111_1,hfz111_2⟩ := z3_ B2
        go_wp2_with (first | ((with_reducible refine gate_callee (f:=6) rfl ?_); refine gL_ (some 53) rfl rfl Tryz.func6 rfl #[] rfl ?_; (with_reducible refine (oculuslaw18_alive.calls kj26  t124 _ A109.out).mono ?_); rintro e w112 ⟨rfl, hb⟩; refine ⟨_, rfl, ?_⟩; replace B1 := bb_ B1 hb; replace B2 := bb_ B2 hb; replace HB := bs_ HB hb; (try clear hb); ))
        go_ret
        exact fi_ (pbx HB)

end Go.Proofs.YtejkoenlfcghbaaGreat.X
