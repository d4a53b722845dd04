/- Contracts of the functions that the law PolicyWrong reaches, and what they answer (a session's own texts, joined; part 3). -/
import Derived.Test.YtbboanfggaknjaaDoorBPolicyWrong2
namespace Go.Proofs.YtbboanfggaknjaaDoor.X
open Go.RowKit Go.Proofs.YtbboanfggaknjaaDoorW.PrintWords Go.Proofs.YtbboanfggaknjaaDoorW.PrintLast Go.Proofs.YtbboanfggaknjaaDoorW.PrintMore
attribute [local go_sem] max2_int min2_int max_two min_two max_three min_three max_four min_four
set_option linter.unusedVariables false
set_option linter.unusedSimpArgs false
mutual
def right_Grants.l0 : Nat → List (S65) → List (S67) → Int → Int → Option (Int × Int)
 | 0, _, _, _, _ => none
 | k + 1, x1, x10, x11, x12 => if x12 < x11 then (if 0 ≤ x12 then (if x12 < (x10.length : Int) then ((right_Find.f k x1 ((rd_T67 x10 x12).f0)).bind fun bt103 => (right_Grants.j1 k x1 x12 bt103.2.2 x10 x11 x12 ((rd_T67 x10 x12).f0) ((rd_T67 x10 x12).f1.f0) ((rd_T67 x10 x12).f1.f1) ((rd_T67 x10 x12).f2.f0) ((rd_T67 x10 x12).f2.f1))) else (none)) else (none)) else (some (0, 0))
def right_Grants.j1 : Nat → List (S65) → Int → Bool → List (S67) → Int → Int → ByteArray → Int → Int → Int → Int → Option (Int × Int)
 | 0, _, _, _, _, _, _, _, _, _, _, _ => none
 | k + 1, x1, x6, x9, x10, x11, x12, x103000, x103001, x103002, x103003, x103004 => if x6 ≥ 32 then (some (x6, 10)) else (if x9 = true then ((label_May.f x103001 x103002).bind fun t107 => (if t107 = true then ((label_May.f x103003 x103004).bind fun t108 => (if t108 = true then (right_Grants.l0 k x1 x10 x11 (wrap64 (x12 + 1))) else (some (x6, 7)))) else (some (x6, 7)))) else (some (x6, 11)))
end
def right_Grants.f (k : Nat) (l0 : List (S67)) (l1 : List (S65)) : Option (Int × Int) := right_Grants.l0 k l1 l0 (l0.length : Int) 0
set_option maxHeartbeats 8000000 in
set_option maxRecDepth 100000 in
theorem right_Grants.calls (k : Nat) (A0 : Option Addr) (c0 : Nat) (l0 : List (S67)) (A1 : Option Addr) (c1 : Nat) (l1 : List (S65)) (r1 : Int) (r2 : Int) (w : World) (hr0 : Kd.C k67 w A0 l0.length l0) (hc0 : l0.length ≤ c0) (hr1 : Kd.C k65 w A1 l1.length l1) (hc1 : l1.length ≤ c1) (h : right_Grants.f k l0 l1 = some (r1, r2)) :
  Calls Tryd.prog 34 #[.slice A0 l0.length c0, .slice A1 l1.length c1] w fun e w' => e = .returned (.tuple #[.int .i64 r1, .int .i64 r2]) ∧ Below w.heap.size w w' := by
 have hu67 := Tryd.underlying67; have hu59 := Tryd.underlying59; have HR0 := Aside0.mk hr0; have HC0 := Aside0.mk hc0; clear hr0 hc0; have HR1 := Aside0.mk hr1; have HC1 := Aside0.mk hc1; clear hr1 hc1; have HB := Aside0.mk (Below.refl w.heap.size w)
 have H : (right_Grants.l0 k l1 l0 (l0.length : Int) 0) = some (r1, r2) := h
 clear h
 have H' := Aside0.mk H
 clear H
 go_enter Tryd.func34, Tryd.ntmps34
 go_wp2
 go_loopg [12] k (fun kq v12 w' => ∃ (x12_1 : Int), v12 = .int .i64 x12_1 ∧ Aside0 (right_Grants.l0 kq l1 l0 (l0.length : Int) x12_1 = some (r1, r2)) ∧ Aside0 (kq ≤ k) ∧ Aside0 (Below w.heap.size w w'))
 case atStart => exact ⟨(0), (by first | rfl | (simp; done) | (simp [*]; done)), H', ⟨Nat.le_refl _⟩, ⟨pbx HB⟩⟩
 case round =>
  clear H'; (try clear c1); (try clear p2); obtain ⟨x12_1, rfl, HA, HK1, HB⟩ := hrel
  cases gk with
  | zero => exact absurd HA.out (by simp [right_Grants.l0])
  | succ k1 =>
   have H := HA.out; clear HA
   simp only [right_Grants.l0] at H
   by_cases c3 : x12_1 < (l0.length : Int)
   ·rw [if_pos c3] at H; have c3b0 : decide (x12_1 < (l0.length : Int)) = true := decide_eq_true c3; clear c3
    by_cases c4 : 0 ≤ x12_1
    ·rw [if_pos c4] at H; have c4b0 : decide (0 ≤ x12_1) = true := decide_eq_true c4; clear c4
     by_cases c5 : x12_1 < (l0.length : Int)
     ·rw [if_pos c5] at H; have c5b0 : decide (x12_1 < (l0.length : Int)) = true := decide_eq_true c5; clear c5; have HC6 := Aside0.mk H; clear H
      have p101 : 0 ≤ (x12_1 : Int) := of_decide_eq_true (by first | (with_reducible assumption) | assumption)
      have q101 : x12_1 < (l0.length : Int) := of_decide_eq_true (by first | (with_reducible assumption) | assumption)
      obtain ⟨ad101, e101, hx101_0, hx101_1, hx101_2, hx101_3, hx101_4⟩ := at_T67 HR0.out x12_1 p101 q101
      cases e101
      replace hx101_0 := (HB.out.cell (World.block_lt_of_cell? w _ hx101_0)).trans hx101_0; replace hx101_1 := (HB.out.cell (World.block_lt_of_cell? w _ hx101_1)).trans hx101_1; replace hx101_2 := (HB.out.cell (World.block_lt_of_cell? w _ hx101_2)).trans hx101_2; replace hx101_3 := (HB.out.cell (World.block_lt_of_cell? w _ hx101_3)).trans hx101_3; replace hx101_4 := (HB.out.cell (World.block_lt_of_cell? w _ hx101_4)).trans hx101_4; replace p101 := eq_true p101; replace q101 := eq_true q101
      go_upto_region 4 with (first | ((with_reducible refine gate_dst (N:=7) rfl ?_); refine be_ (N:=7) (cs := #[.string (⟨#[]⟩ : ByteArray), .int .i64 0, .int .u64 0, .int .i64 0, .int .u64 0]) (t:=67) ?_; intro gb102 hg w7 hbox hb; have BK102 := Aside0.mk (hbox); have GW102 := hs_ HB hg; have GE102 := hs_ HB hg; replace HB := bs_ HB hb; clear hb hbox hg; have hcz8_0 : w7.cell? ⟨gb102, 0, none⟩ = some (.string (⟨#[]⟩ : ByteArray)) := bc_ BK102 0 rfl; have hcz8_1 : w7.cell? ⟨gb102, 1, none⟩ = some (.int .i64 0) := bc_ BK102 1 rfl; have hcz8_2 : w7.cell? ⟨gb102, 2, none⟩ = some (.int .u64 0) := bc_ BK102 2 rfl; have hcz8_3 : w7.cell? ⟨gb102, 3, none⟩ = some (.int .i64 0) := bc_ BK102 3 rfl; have hcz8_4 : w7.cell? ⟨gb102, 4, none⟩ = some (.int .u64 0) := bc_ BK102 4 rfl; have hfz8_0 := blk_frozen BK102.out 0; have hfz8_1 := blk_frozen BK102.out 1; have hfz8_2 := blk_frozen BK102.out 2; have hfz8_3 := blk_frozen BK102.out 3; have hfz8_4 := blk_frozen BK102.out 4))
      (try simp only [q_])
      go_cut [9] (fun v9 wc => ∃ (kq : Nat) (x9_5 : Bool), v9 = .bool x9_5 ∧ Aside0 (right_Grants.j1 kq l1 x12_1 x9_5 l0 (l0.length : Int) x12_1 ((rd_T67 l0 x12_1).f0) ((rd_T67 l0 x12_1).f1.f0) ((rd_T67 l0 x12_1).f1.f1) ((rd_T67 l0 x12_1).f2.f0) ((rd_T67 l0 x12_1).f2.f1) = some (r1, r2)) ∧ Aside0 (kq ≤ k1) ∧ Aside0 (wc.heap[gb102]? = some (.cells #[.string ((rd_T67 l0 x12_1).f0), .int .i64 ((rd_T67 l0 x12_1).f1.f0), .int .u64 ((rd_T67 l0 x12_1).f1.f1), .int .i64 ((rd_T67 l0 x12_1).f2.f0), .int .u64 ((rd_T67 l0 x12_1).f2.f1)] 67 (0, 0))) ∧ Aside0 (Below w.heap.size w wc))
      case first =>
       have H := HC6.out; clear HC6; replace H := Option.bind_eq_some_iff.mp H; obtain ⟨⟨t103, t104, t105⟩, A90, H⟩ := H
       replace H : (right_Grants.j1 k1 l1 x12_1 t105 l0 (l0.length : Int) x12_1 ((rd_T67 l0 x12_1).f0) ((rd_T67 l0 x12_1).f1.f0) ((rd_T67 l0 x12_1).f1.f1) ((rd_T67 l0 x12_1).f2.f0) ((rd_T67 l0 x12_1).f2.f1)) = some (r1, r2) := H
       have A9 := Aside0.mk A90; clear A90
       have H' := Aside0.mk H
       clear H
       have hcz10_0 : w7.cell? ⟨gb102, 0, none⟩ = some (.string (⟨#[]⟩ : ByteArray)) := bc_ BK102 0 rfl
       have hcz10_1 : w7.cell? ⟨gb102, 1, none⟩ = some (.int .i64 0) := bc_ BK102 1 rfl
       have hcz10_2 : w7.cell? ⟨gb102, 2, none⟩ = some (.int .u64 0) := bc_ BK102 2 rfl
       have hcz10_3 : w7.cell? ⟨gb102, 3, none⟩ = some (.int .i64 0) := bc_ BK102 3 rfl
       have hcz10_4 : w7.cell? ⟨gb102, 4, none⟩ = some (.int .u64 0) := bc_ BK102 4 rfl
       have hfz10_0 := blk_frozen BK102.out 0; have hfz10_1 := blk_frozen BK102.out 1; have hfz10_2 := blk_frozen BK102.out 2; have hfz10_3 := blk_frozen BK102.out 3; have hfz10_4 := blk_frozen BK102.out 4
       go_wp2_with (first | ((with_reducible refine gate_callee (f:=56) rfl ?_); refine gL_ (some 21) rfl rfl Tryd.func56 rfl #[.slice A1 l1.length c1, .string ((rd_T67 l0 x12_1).f0)] rfl ?_; (with_reducible refine (right_Find.calls k1 _ _ l1 ((rd_T67 l0 x12_1).f0) t103 t104 t105 _ ?side1 ?side2 A9.out).mono ?_); (case side1 => exact Kd.C_below HR1.out (by repeat (first | (with_reducible first | exact HB.out | apply below_alloc | apply pw_below_drewN | apply below_drew1 | refine below_set ?_ GE102.out) | exact HB.out))); (case side2 => exact HC1.out); rintro e w11 ⟨rfl, hb⟩; refine ⟨_, rfl, ?_⟩; replace BK102 := Aside0.mk (blk_below (g:=gb102) (o := .cells #[.string ((rd_T67 l0 x12_1).f0), .int .i64 ((rd_T67 l0 x12_1).f1.f0), .int .u64 ((rd_T67 l0 x12_1).f1.f1), .int .i64 ((rd_T67 l0 x12_1).f2.f0), .int .u64 ((rd_T67 l0 x12_1).f2.f1)] 67 (0, 0)) (by refine pp_ (cs := #[.string ((rd_T67 l0 x12_1).f0), .int .i64 ((rd_T67 l0 x12_1).f1.f0), .int .u64 ((rd_T67 l0 x12_1).f1.f1), .int .i64 ((rd_T67 l0 x12_1).f2.f0), .int .u64 0]) 4 ?_ rfl; refine blk_put (cs := #[.string ((rd_T67 l0 x12_1).f0), .int .i64 ((rd_T67 l0 x12_1).f1.f0), .int .u64 ((rd_T67 l0 x12_1).f1.f1), .int .i64 0, .int .u64 0]) ?_ 3 _ rfl; refine blk_put (cs := #[.string ((rd_T67 l0 x12_1).f0), .int .i64 ((rd_T67 l0 x12_1).f1.f0), .int .u64 0, .int .i64 0, .int .u64 0]) ?_ 2 _ rfl; refine blk_put (cs := #[.string ((rd_T67 l0 x12_1).f0), .int .i64 0, .int .u64 0, .int .i64 0, .int .u64 0]) ?_ 1 _ rfl; refine blk_put (cs := #[.string (⟨#[]⟩ : ByteArray), .int .i64 0, .int .u64 0, .int .i64 0, .int .u64 0]) ?_ 0 _ rfl; exact pkx BK102) hb); replace HB := Aside0.mk (below_step (by repeat (first | (with_reducible first | exact HB.out | apply below_alloc | apply pw_below_drewN | apply below_drew1 | refine below_set ?_ GE102.out) | exact HB.out)) hb); (try clear hb); (try clear hb2); (try clear hk); (try clear hi)) | ((with_reducible refine gate_dst (N:=8) rfl ?_); refine be_ (N:=8) (cs := #[.int .i64 0, .int .u64 0]) (t:=59) ?_; intro gb106 hg w12 hbox hb; have BK106 := Aside0.mk (hbox); have GW106 := hs_ HB hg; have GE106 := hs_ HB hg; have NB102_106 := hl_ BK102 hg; have NB106_102 := hr_ BK102 hg; replace BK102 := bb_ BK102 hb; replace HB := bs_ HB hb; clear hb hbox hg; have hnb13 := NB106_102.out; have hnc13 := NB102_106.out; have hcz14_0 : w12.cell? ⟨gb106, 0, none⟩ = some (.int .i64 0) := bc_ BK106 0 rfl; have hcz14_1 : w12.cell? ⟨gb106, 1, none⟩ = some (.int .u64 0) := bc_ BK106 1 rfl; have hfz14_0 := blk_frozen BK106.out 0; have hfz14_1 := blk_frozen BK106.out 1))
       go_meet
       case rel => exact ⟨_, (t105), (by first | rfl | (simp; done) | (simp [*]; done) | (cases t105 <;> simp; done)), H', ⟨by have := HK1.out; first | omega | exact Nat.le_refl _⟩, ⟨by refine pf_ ?_ NB102_106.out; refine blk_far ?_ NB102_106.out _; exact pkx BK102⟩, ⟨by repeat (first | (with_reducible first | exact HB.out | apply below_alloc | apply pw_below_drewN | apply below_drew1 | refine below_set ?_ GE102.out | refine below_set ?_ GE106.out) | exact HB.out)⟩⟩
      case rest =>
       clear HC6; (try clear c1); (try clear p1); (try clear q1); (try clear hx1); (try clear p2); (try clear c3); (try clear c3b0); (try clear c4); (try clear c4b0); (try clear c5); (try clear c5b0); (try clear p10); (try clear q10); (try clear hx10); (try clear c13); (try clear hcz10_0); (try clear hcz10_1); (try clear hcz10_2); (try clear hcz10_3); (try clear hcz10_4); (try clear hcz14_0); (try clear hcz14_1); (try clear hcz8_0); (try clear hcz8_1); (try clear hcz8_2); (try clear hcz8_3); (try clear hcz8_4); (try clear hfz10_0); (try clear hfz10_1); (try clear hfz10_2); (try clear hfz10_3); (try clear hfz10_4); (try clear hfz14_0); (try clear hfz14_1); (try clear hfz8_0); (try clear hfz8_1); (try clear hfz8_2); (try clear hfz8_3); (try clear hfz8_4); (try clear hx101_0); (try clear hx101_1); (try clear hx101_2); (try clear hx101_3); (try clear hx101_4); (try clear p101); (try clear p2)
       (try clear q101); obtain ⟨kq, x9_5, rfl, HA, HJ5, BK102, HB⟩ := hcut
       cases kq with
       | zero => exact absurd HA.out (by simp [right_Grants.j1])
       | succ kj5 =>
        have H := HA.out; clear HA
        simp only [right_Grants.j1] at H
        by_cases c15 : x12_1 ≥ 32
        ·rw [if_pos c15] at H; have c15b0 : decide (32 ≤ x12_1) = true := decide_eq_true c15; clear c15
         simp only [Option.some.injEq, Prod.mk.injEq] at H
         obtain ⟨rfl, rfl⟩ := H
         go_wp2
         go_ret2
         exact ⟨by first | rfl | (simp [errW_none, errW_some] <;> rfl) | (simp [*, errW_none, errW_some] <;> rfl), pbx HB⟩
        ·rw [if_neg c15] at H; have c15b0 : decide (32 ≤ x12_1) = false := decide_eq_false c15; clear c15
         by_cases c16 : x9_5 = true
         ·subst c16
          have H1 : ((label_May.f ((rd_T67 l0 x12_1).f1.f0) ((rd_T67 l0 x12_1).f1.f1)).bind fun t107 => (if t107 = true then ((label_May.f ((rd_T67 l0 x12_1).f2.f0) ((rd_T67 l0 x12_1).f2.f1)).bind fun t108 => (if t108 = true then (right_Grants.l0 kj5 l1 l0 (l0.length : Int) (wrap64 (x12_1 + 1))) else (some (x12_1, 7)))) else (some (x12_1, 7)))) = some (r1, r2) := by rw [if_pos rfl] at H; exact H
          clear H; have H := H1; clear H1; replace H := Option.bind_eq_some_iff.mp H; obtain ⟨t107, A170, H⟩ := H
          replace H : (if t107 = true then ((label_May.f ((rd_T67 l0 x12_1).f2.f0) ((rd_T67 l0 x12_1).f2.f1)).bind fun t108 => (if t108 = true then (right_Grants.l0 kj5 l1 l0 (l0.length : Int) (wrap64 (x12_1 + 1))) else (some (x12_1, 7)))) else (some (x12_1, 7))) = some (r1, r2) := H
          have A17 := Aside0.mk A170; clear A170
          by_cases c18 : t107 = true
          ·subst c18
           have H1 : ((label_May.f ((rd_T67 l0 x12_1).f2.f0) ((rd_T67 l0 x12_1).f2.f1)).bind fun t108 => (if t108 = true then (right_Grants.l0 kj5 l1 l0 (l0.length : Int) (wrap64 (x12_1 + 1))) else (some (x12_1, 7)))) = some (r1, r2) := by rw [if_pos rfl] at H; exact H
           clear H; have H := H1; clear H1; replace H := Option.bind_eq_some_iff.mp H; obtain ⟨t108, A190, H⟩ := H
           replace H : (if t108 = true then (right_Grants.l0 kj5 l1 l0 (l0.length : Int) (wrap64 (x12_1 + 1))) else (some (x12_1, 7))) = some (r1, r2) := H
           have A19 := Aside0.mk A190; clear A190
           by_cases c20 : t108 = true
           ·subst c20
            have H1 : (right_Grants.l0 kj5 l1 l0 (l0.length : Int) (wrap64 (x12_1 + 1))) = some (r1, r2) := by rw [if_pos rfl] at H; exact H
            clear H; have H := H1; clear H1
            have H' := Aside0.mk H
            clear H
            have hcz21_0 : wc.cell? ⟨gb102, 0, none⟩ = some (.string ((rd_T67 l0 x12_1).f0)) := bc_ BK102 0 rfl
            have hcz21_1 : wc.cell? ⟨gb102, 1, none⟩ = some (.int .i64 ((rd_T67 l0 x12_1).f1.f0)) := bc_ BK102 1 rfl
            have hcz21_2 : wc.cell? ⟨gb102, 2, none⟩ = some (.int .u64 ((rd_T67 l0 x12_1).f1.f1)) := bc_ BK102 2 rfl
            have hcz21_3 : wc.cell? ⟨gb102, 3, none⟩ = some (.int .i64 ((rd_T67 l0 x12_1).f2.f0)) := bc_ BK102 3 rfl
            have hcz21_4 : wc.cell? ⟨gb102, 4, none⟩ = some (.int .u64 ((rd_T67 l0 x12_1).f2.f1)) := bc_ BK102 4 rfl
            have hfz21_0 := blk_frozen BK102.out 0; have hfz21_1 := blk_frozen BK102.out 1; have hfz21_2 := blk_frozen BK102.out 2; have hfz21_3 := blk_frozen BK102.out 3; have hfz21_4 := blk_frozen BK102.out 4
            go_wp2_with (first | ((with_reducible refine gate_callee (f:=40) rfl ?_); refine gL_ (some 35) rfl rfl Tryd.func40 rfl #[.agg #[.int .i64 ((rd_T67 l0 x12_1).f1.f0), .int .u64 ((rd_T67 l0 x12_1).f1.f1)]] rfl ?_; (with_reducible refine (label_May.calls ((rd_T67 l0 x12_1).f1.f0) ((rd_T67 l0 x12_1).f1.f1) true _ A17.out).mono ?_); rintro e w22 ⟨rfl, hb⟩; refine ⟨_, rfl, ?_⟩; replace BK102 := bb_ BK102 hb; replace HB := bs_ HB hb; (try clear hb); (try clear hb2); (try clear hk); (try clear hi); have hcz23_0 : w22.cell? ⟨gb102, 0, none⟩ = some (.string ((rd_T67 l0 x12_1).f0)) := bc_ BK102 0 rfl; have hcz23_1 : w22.cell? ⟨gb102, 1, none⟩ = some (.int .i64 ((rd_T67 l0 x12_1).f1.f0)) := bc_ BK102 1 rfl; have hcz23_2 : w22.cell? ⟨gb102, 2, none⟩ = some (.int .u64 ((rd_T67 l0 x12_1).f1.f1)) := bc_ BK102 2 rfl; have hcz23_3 : w22.cell? ⟨gb102, 3, none⟩ = some (.int .i64 ((rd_T67 l0 x12_1).f2.f0)) := bc_ BK102 3 rfl; have hcz23_4 : w22.cell? ⟨gb102, 4, none⟩ = some (.int .u64 ((rd_T67 l0 x12_1).f2.f1)) := bc_ BK102 4 rfl; have hfz23_0 := blk_frozen BK102.out 0; have hfz23_1 := blk_frozen BK102.out 1; have hfz23_2 := blk_frozen BK102.out 2; have hfz23_3 := blk_frozen BK102.out 3; have hfz23_4 := blk_frozen BK102.out 4) | (go_at_call 40; (with_reducible refine (label_May.calls ((rd_T67 l0 x12_1).f2.f0) ((rd_T67 l0 x12_1).f2.f1) true _ A19.out).mono ?_); rintro e w24 ⟨rfl, hb⟩; replace BK102 := bb_ BK102 hb; replace HB := bs_ HB hb; (try clear hb); (try clear hb2); (try clear hk); (try clear hi)))
            go_roundg kj5
            case measure => have := HK1.out; have := HJ5.out; omega
            case rel => exact ⟨(wrap64 (x12_1 + 1)), (by first | rfl | (simp; done) | (simp [*]; done)), H', ⟨by have := HK1.out; have := HJ5.out; omega⟩, ⟨pbx HB⟩⟩
           ·replace c20 := Bool.eq_false_iff.mpr c20; subst c20
            have H1 : (some (x12_1, 7)) = some (r1, r2) := by rw [if_neg (show ¬ (false = true) by decide)] at H; exact H
            clear H; have H := H1; clear H1
            simp only [Option.some.injEq, Prod.mk.injEq] at H
            obtain ⟨rfl, rfl⟩ := H
            have hcz25_0 : wc.cell? ⟨gb102, 0, none⟩ = some (.string ((rd_T67 l0 x12_1).f0)) := bc_ BK102 0 rfl
            have hcz25_1 : wc.cell? ⟨gb102, 1, none⟩ = some (.int .i64 ((rd_T67 l0 x12_1).f1.f0)) := bc_ BK102 1 rfl
            have hcz25_2 : wc.cell? ⟨gb102, 2, none⟩ = some (.int .u64 ((rd_T67 l0 x12_1).f1.f1)) := bc_ BK102 2 rfl
            have hcz25_3 : wc.cell? ⟨gb102, 3, none⟩ = some (.int .i64 ((rd_T67 l0 x12_1).f2.f0)) := bc_ BK102 3 rfl
            have hcz25_4 : wc.cell? ⟨gb102, 4, none⟩ = some (.int .u64 ((rd_T67 l0 x12_1).f2.f1)) := bc_ BK102 4 rfl
            have hfz25_0 := blk_frozen BK102.out 0; have hfz25_1 := blk_frozen BK102.out 1; have hfz25_2 := blk_frozen BK102.out 2; have hfz25_3 := blk_frozen BK102.out 3; have hfz25_4 := blk_frozen BK102.out 4
            go_wp2_with (first | ((with_reducible refine gate_callee (f:=40) rfl ?_); refine gL_ (some 35) rfl rfl Tryd.func40 rfl #[.agg #[.int .i64 ((rd_T67 l0 x12_1).f1.f0), .int .u64 ((rd_T67 l0 x12_1).f1.f1)]] rfl ?_; (with_reducible refine (label_May.calls ((rd_T67 l0 x12_1).f1.f0) ((rd_T67 l0 x12_1).f1.f1) true _ A17.out).mono ?_); rintro e w26 ⟨rfl, hb⟩; refine ⟨_, rfl, ?_⟩; replace BK102 := bb_ BK102 hb; replace HB := bs_ HB hb; (try clear hb); (try clear hb2); (try clear hk); (try clear hi); have hcz27_0 : w26.cell? ⟨gb102, 0, none⟩ = some (.string ((rd_T67 l0 x12_1).f0)) := bc_ BK102 0 rfl; have hcz27_1 : w26.cell? ⟨gb102, 1, none⟩ = some (.int .i64 ((rd_T67 l0 x12_1).f1.f0)) := bc_ BK102 1 rfl; have hcz27_2 : w26.cell? ⟨gb102, 2, none⟩ = some (.int .u64 ((rd_T67 l0 x12_1).f1.f1)) := bc_ BK102 2 rfl; have hcz27_3 : w26.cell? ⟨gb102, 3, none⟩ = some (.int .i64 ((rd_T67 l0 x12_1).f2.f0)) := bc_ BK102 3 rfl; have hcz27_4 : w26.cell? ⟨gb102, 4, none⟩ = some (.int .u64 ((rd_T67 l0 x12_1).f2.f1)) := bc_ BK102 4 rfl; have hfz27_0 := blk_frozen BK102.out 0; have hfz27_1 := blk_frozen BK102.out 1; have hfz27_2 := blk_frozen BK102.out 2; have hfz27_3 := blk_frozen BK102.out 3; have hfz27_4 := blk_frozen BK102.out 4) | (go_at_call 40; (with_reducible refine (label_May.calls ((rd_T67 l0 x12_1).f2.f0) ((rd_T67 l0 x12_1).f2.f1) false _ A19.out).mono ?_); rintro e w28 ⟨rfl, hb⟩; replace BK102 := bb_ BK102 hb; replace HB := bs_ HB hb; (try clear hb); (try clear hb2); (try clear hk); (try clear hi)))
            go_ret2
            exact ⟨by first | rfl | (simp [errW_none, errW_some] <;> rfl) | (simp [*, errW_none, errW_some] <;> rfl), pbx HB⟩
          ·replace c18 := Bool.eq_false_iff.mpr c18; subst c18
           have H1 : (some (x12_1, 7)) = some (r1, r2) := by rw [if_neg (show ¬ (false = true) by decide)] at H; exact H
           clear H; have H := H1; clear H1
           simp only [Option.some.injEq, Prod.mk.injEq] at H
           obtain ⟨rfl, rfl⟩ := H
           have hcz29_0 : wc.cell? ⟨gb102, 0, none⟩ = some (.string ((rd_T67 l0 x12_1).f0)) := bc_ BK102 0 rfl
           have hcz29_1 : wc.cell? ⟨gb102, 1, none⟩ = some (.int .i64 ((rd_T67 l0 x12_1).f1.f0)) := bc_ BK102 1 rfl
           have hcz29_2 : wc.cell? ⟨gb102, 2, none⟩ = some (.int .u64 ((rd_T67 l0 x12_1).f1.f1)) := bc_ BK102 2 rfl
           have hcz29_3 : wc.cell? ⟨gb102, 3, none⟩ = some (.int .i64 ((rd_T67 l0 x12_1).f2.f0)) := bc_ BK102 3 rfl
           have hcz29_4 : wc.cell? ⟨gb102, 4, none⟩ = some (.int .u64 ((rd_T67 l0 x12_1).f2.f1)) := bc_ BK102 4 rfl
           have hfz29_0 := blk_frozen BK102.out 0; have hfz29_1 := blk_frozen BK102.out 1; have hfz29_2 := blk_frozen BK102.out 2; have hfz29_3 := blk_frozen BK102.out 3; have hfz29_4 := blk_frozen BK102.out 4
           go_wp2_with (first | ((with_reducible refine gate_callee (f:=40) rfl ?_); refine gL_ (some 35) rfl rfl Tryd.func40 rfl #[.agg #[.int .i64 ((rd_T67 l0 x12_1).f1.f0), .int .u64 ((rd_T67 l0 x12_1).f1.f1)]] rfl ?_; (with_reducible refine (label_May.calls ((rd_T67 l0 x12_1).f1.f0) ((rd_T67 l0 x12_1).f1.f1) false _ A17.out).mono ?_); rintro e w30 ⟨rfl, hb⟩; refine ⟨_, rfl, ?_⟩; replace BK102 := bb_ BK102 hb; replace HB := bs_ HB hb; (try clear hb); (try clear hb2); (try clear hk); (try clear hi)))
           go_ret2
           exact ⟨by first | rfl | (simp [errW_none, errW_some] <;> rfl) | (simp [*, errW_none, errW_some] <;> rfl), pbx HB⟩
         ·replace c16 := Bool.eq_false_iff.mpr c16; subst c16
          have H1 : (some (x12_1, 11)) = some (r1, r2) := by rw [if_neg (show ¬ (false = true) by decide)] at H; exact H
          clear H; have H := H1; clear H1
          simp only [Option.some.injEq, Prod.mk.injEq] at H
          obtain ⟨rfl, rfl⟩ := H
          go_wp2
          go_ret2
          exact ⟨by first | rfl | (simp [errW_none, errW_some] <;> rfl) | (simp [*, errW_none, errW_some] <;> rfl), pbx HB⟩
     ·rw [if_neg c5] at H
      exact absurd H (by simp)
    ·rw [if_neg c4] at H
     exact absurd H (by simp)
   ·rw [if_neg c3] at H; have c3b0 : decide (x12_1 < (l0.length : Int)) = false := decide_eq_false c3; clear c3
    simp only [Option.some.injEq, Prod.mk.injEq] at H
    obtain ⟨rfl, rfl⟩ := H
    go_wp2
    go_ret2
    exact ⟨by first | rfl | (simp [errW_none, errW_some] <;> rfl) | (simp [*, errW_none, errW_some] <;> rfl), pbx HB⟩

def policy_Wrong.j0 : Nat → Bool → Int → Int → List (S61) → List (S65) → List (S67) → Option (Int × Int)
 | 0, _, _, _, _, _, _ => none
 | k + 1, x36, x102000, x102001, x102002, x102003, x102004 => if x36 = true then (some (1, 2)) else ((zone_Wrong.f k x102002 x102000 x102001).bind fun bt102 => (if bt102.2 = 0 then ((right_Users.f k x102003).bind fun bt104 => (if bt104.2 = 0 then ((right_Grants.f k x102004 x102003).bind fun bt106 => (if bt106.2 = 0 then (some (0, 0)) else (some (wrap64 ((wrap64 ((wrap64 (2 + (x102002.length : Int))) + (x102003.length : Int))) + bt106.1), bt106.2)))) else (some (wrap64 ((wrap64 (2 + (x102002.length : Int))) + bt104.1), bt104.2)))) else (some (wrap64 (2 + bt102.1), bt102.2))))
def policy_Wrong.f (k : Nat) (a0_0 : Int) (a0_1 : Int) (l0_2 : List (S61)) (l0_3 : List (S65)) (l0_4 : List (S67)) : Option (Int × Int) := if a0_0 < 1 then (policy_Wrong.j0 k true a0_0 a0_1 l0_2 l0_3 l0_4) else (if a0_0 > 999 then (policy_Wrong.j0 k true a0_0 a0_1 l0_2 l0_3 l0_4) else (if a0_1 < 1 then (policy_Wrong.j0 k true a0_0 a0_1 l0_2 l0_3 l0_4) else (if a0_1 > 702 then (policy_Wrong.j0 k true a0_0 a0_1 l0_2 l0_3 l0_4) else (policy_Wrong.j0 k (decide ((wrap64 (a0_0 * a0_1)) > 400)) a0_0 a0_1 l0_2 l0_3 l0_4))))
set_option maxHeartbeats 8000000 in
set_option maxRecDepth 100000 in
theorem policy_Wrong.calls (k : Nat) (a0_0 : Int) (a0_1 : Int) (A0_2 : Option Addr) (c0_2 : Nat) (l0_2 : List (S61)) (A0_3 : Option Addr) (c0_3 : Nat) (l0_3 : List (S65)) (A0_4 : Option Addr) (c0_4 : Nat) (l0_4 : List (S67)) (r1 : Int) (r2 : Int) (w : World) (hr0_2 : Kd.C k61 w A0_2 l0_2.length l0_2) (hc0_2 : l0_2.length ≤ c0_2) (hr0_3 : Kd.C k65 w A0_3 l0_3.length l0_3) (hc0_3 : l0_3.length ≤ c0_3) (hr0_4 : Kd.C k67 w A0_4 l0_4.length l0_4) (hc0_4 : l0_4.length ≤ c0_4) (h : policy_Wrong.f k a0_0 a0_1 l0_2 l0_3 l0_4 = some (r1, r2)) :
  Calls Tryd.prog 12 #[.agg #[.int .i64 a0_0, .int .i64 a0_1, .slice A0_2 l0_2.length c0_2, .slice A0_3 l0_3.length c0_3, .slice A0_4 l0_4.length c0_4]] w fun e w' => e = .returned (.tuple #[.int .i64 r1, .int .i64 r2]) ∧ Below w.heap.size w w' := by
 have hu26 := Tryd.underlying26; have HR0_2 := Aside0.mk hr0_2; have HC0_2 := Aside0.mk hc0_2; clear hr0_2 hc0_2; have HR0_3 := Aside0.mk hr0_3; have HC0_3 := Aside0.mk hc0_3; clear hr0_3 hc0_3; have HR0_4 := Aside0.mk hr0_4; have HC0_4 := Aside0.mk hc0_4; clear hr0_4 hc0_4; have HB := Aside0.mk (Below.refl w.heap.size w)
 have H : (if a0_0 < 1 then (policy_Wrong.j0 k true a0_0 a0_1 l0_2 l0_3 l0_4) else (if a0_0 > 999 then (policy_Wrong.j0 k true a0_0 a0_1 l0_2 l0_3 l0_4) else (if a0_1 < 1 then (policy_Wrong.j0 k true a0_0 a0_1 l0_2 l0_3 l0_4) else (if a0_1 > 702 then (policy_Wrong.j0 k true a0_0 a0_1 l0_2 l0_3 l0_4) else (policy_Wrong.j0 k (decide ((wrap64 (a0_0 * a0_1)) > 400)) a0_0 a0_1 l0_2 l0_3 l0_4))))) = some (r1, r2) := h
 clear h; have HC2 := Aside0.mk H; clear H
 go_enter Tryd.func12, Tryd.ntmps12
 go_upto_region 1 with (first | ((with_reducible refine gate_dst (N:=1) rfl ?_); refine be_ (N:=1) (cs := #[.int .i64 a0_0, .int .i64 a0_1, .slice A0_2 l0_2.length c0_2, .slice A0_3 l0_3.length c0_3, .slice A0_4 l0_4.length c0_4]) (t:=26) ?_; intro gb101 hg w3 hbox hb; have BK101 := Aside0.mk (hbox); replace HB := bs_ HB hb; clear hb hbox hg))
 (try simp only [q_])
 go_cut [36] (fun v36 wc => ∃ (kq : Nat) (x36_1 : Bool), v36 = .bool x36_1 ∧ Aside0 (policy_Wrong.j0 kq x36_1 a0_0 a0_1 l0_2 l0_3 l0_4 = some (r1, r2)) ∧ Aside0 (kq ≤ k) ∧ Aside0 (wc.heap[gb101]? = some (.cells #[.int .i64 a0_0, .int .i64 a0_1, (.slice A0_2 l0_2.length c0_2), (.slice A0_3 l0_3.length c0_3), (.slice A0_4 l0_4.length c0_4)] 26 (0, 0))) ∧ Aside0 (Below w.heap.size w wc))
 case first =>
  have H := HC2.out; clear HC2
  by_cases c4 : a0_0 < 1
  ·rw [if_pos c4] at H; have c4b0 : decide (a0_0 < 1) = true := decide_eq_true c4; clear c4; (first | rw [c4b0] | (simp only [i64_w, i32_w]; rw [c4b0]) | skip)
   have H' := Aside0.mk H
   clear H
   have hcz5_0 : w3.cell? ⟨gb101, 0, none⟩ = some (.int .i64 a0_0) := bc_ BK101 0 rfl
   have hcz5_1 : w3.cell? ⟨gb101, 1, none⟩ = some (.int .i64 a0_1) := bc_ BK101 1 rfl
   have hcz5_2 : w3.cell? ⟨gb101, 2, none⟩ = some (.slice A0_2 l0_2.length c0_2) := bc_ BK101 2 rfl
   have hcz5_3 : w3.cell? ⟨gb101, 3, none⟩ = some (.slice A0_3 l0_3.length c0_3) := bc_ BK101 3 rfl
   have hcz5_4 : w3.cell? ⟨gb101, 4, none⟩ = some (.slice A0_4 l0_4.length c0_4) := bc_ BK101 4 rfl
   go_wp2
   go_meet
   case rel => exact ⟨_, (true), (by first | rfl | (simp; done) | (simp [*]; done)), H', ⟨by first | omega | exact Nat.le_refl _⟩, ⟨pkx BK101⟩, ⟨pbx HB⟩⟩
  ·rw [if_neg c4] at H; have c4b0 : decide (a0_0 < 1) = false := decide_eq_false c4; clear c4; (first | rw [c4b0] | (simp only [i64_w, i32_w]; rw [c4b0]) | skip)
   by_cases c6 : a0_0 > 999
   ·rw [if_pos c6] at H; have c6b0 : decide (999 < a0_0) = true := decide_eq_true c6; clear c6
    have H' := Aside0.mk H
    clear H
    have hcz7_0 : w3.cell? ⟨gb101, 0, none⟩ = some (.int .i64 a0_0) := bc_ BK101 0 rfl
    have hcz7_1 : w3.cell? ⟨gb101, 1, none⟩ = some (.int .i64 a0_1) := bc_ BK101 1 rfl
    have hcz7_2 : w3.cell? ⟨gb101, 2, none⟩ = some (.slice A0_2 l0_2.length c0_2) := bc_ BK101 2 rfl
    have hcz7_3 : w3.cell? ⟨gb101, 3, none⟩ = some (.slice A0_3 l0_3.length c0_3) := bc_ BK101 3 rfl
    have hcz7_4 : w3.cell? ⟨gb101, 4, none⟩ = some (.slice A0_4 l0_4.length c0_4) := bc_ BK101 4 rfl
    go_wp2
    go_meet
    case rel => exact ⟨_, (true), (by first | rfl | (simp; done) | (simp [*]; done)), H', ⟨by first | omega | exact Nat.le_refl _⟩, ⟨pkx BK101⟩, ⟨pbx HB⟩⟩
   ·rw [if_neg c6] at H; have c6b0 : decide (999 < a0_0) = false := decide_eq_false c6; clear c6
    by_cases c8 : a0_1 < 1
    ·rw [if_pos c8] at H; have c8b0 : decide (a0_1 < 1) = true := decide_eq_true c8; clear c8
     have H' := Aside0.mk H
     clear H
     have hcz9_0 : w3.cell? ⟨gb101, 0, none⟩ = some (.int .i64 a0_0) := bc_ BK101 0 rfl
     have hcz9_1 : w3.cell? ⟨gb101, 1, none⟩ = some (.int .i64 a0_1) := bc_ BK101 1 rfl
     have hcz9_2 : w3.cell? ⟨gb101, 2, none⟩ = some (.slice A0_2 l0_2.length c0_2) := bc_ BK101 2 rfl
     have hcz9_3 : w3.cell? ⟨gb101, 3, none⟩ = some (.slice A0_3 l0_3.length c0_3) := bc_ BK101 3 rfl
     have hcz9_4 : w3.cell? ⟨gb101, 4, none⟩ = some (.slice A0_4 l0_4.length c0_4) := bc_ BK101 4 rfl
     go_wp2
     go_meet
     case rel => exact ⟨_, (true), (by first | rfl | (simp; done) | (simp [*]; done)), H', ⟨by first | omega | exact Nat.le_refl _⟩, ⟨pkx BK101⟩, ⟨pbx HB⟩⟩
    ·rw [if_neg c8] at H; have c8b0 : decide (a0_1 < 1) = false := decide_eq_false c8; clear c8
     by_cases c10 : a0_1 > 702
     ·rw [if_pos c10] at H; have c10b0 : decide (702 < a0_1) = true := decide_eq_true c10; clear c10
      have H' := Aside0.mk H
      clear H
      have hcz11_0 : w3.cell? ⟨gb101, 0, none⟩ = some (.int .i64 a0_0) := bc_ BK101 0 rfl
      have hcz11_1 : w3.cell? ⟨gb101, 1, none⟩ = some (.int .i64 a0_1) := bc_ BK101 1 rfl
      have hcz11_2 : w3.cell? ⟨gb101, 2, none⟩ = some (.slice A0_2 l0_2.length c0_2) := bc_ BK101 2 rfl
      have hcz11_3 : w3.cell? ⟨gb101, 3, none⟩ = some (.slice A0_3 l0_3.length c0_3) := bc_ BK101 3 rfl
      have hcz11_4 : w3.cell? ⟨gb101, 4, none⟩ = some (.slice A0_4 l0_4.length c0_4) := bc_ BK101 4 rfl
      go_wp2
      go_meet
      case rel => exact ⟨_, (true), (by first | rfl | (simp; done) | (simp [*]; done)), H', ⟨by first | omega | exact Nat.le_refl _⟩, ⟨pkx BK101⟩, ⟨pbx HB⟩⟩
     ·rw [if_neg c10] at H; have c10b0 : decide (702 < a0_1) = false := decide_eq_false c10; clear c10
      have H' := Aside0.mk H
      clear H
      have hcz12_0 : w3.cell? ⟨gb101, 0, none⟩ = some (.int .i64 a0_0) := bc_ BK101 0 rfl
      have hcz12_1 : w3.cell? ⟨gb101, 1, none⟩ = some (.int .i64 a0_1) := bc_ BK101 1 rfl
      have hcz12_2 : w3.cell? ⟨gb101, 2, none⟩ = some (.slice A0_2 l0_2.length c0_2) := bc_ BK101 2 rfl
      have hcz12_3 : w3.cell? ⟨gb101, 3, none⟩ = some (.slice A0_3 l0_3.length c0_3) := bc_ BK101 3 rfl
      have hcz12_4 : w3.cell? ⟨gb101, 4, none⟩ = some (.slice A0_4 l0_4.length c0_4) := bc_ BK101 4 rfl
      go_wp2
      go_meet
      case rel => exact ⟨_, (decide ((wrap64 (a0_0 * a0_1)) > 400)), (by first | rfl | (simp; done) | (simp [*]; done)), H', ⟨by first | omega | exact Nat.le_refl _⟩, ⟨pkx BK101⟩, ⟨pbx HB⟩⟩
 case rest =>
  clear HC2; (try clear c1); (try clear p2); (try clear c4); (try clear c4b0); (try clear c6); (try clear c6b0); (try clear p6); (try clear c8); (try clear c8b0); (try clear c10); (try clear c10b0); (try clear c12); (try clear hcz11_0); (try clear hcz11_1); (try clear hcz11_2); (try clear hcz11_3); (try clear hcz11_4); (try clear hcz12_0); (try clear hcz12_1); (try clear hcz12_2); (try clear hcz12_3); (try clear hcz12_4); (try clear hcz5_0); (try clear hcz5_1); (try clear hcz5_2); (try clear hcz5_3); (try clear hcz5_4); (try clear hcz7_0); (try clear hcz7_1); (try clear hcz7_2); (try clear hcz7_3); (try clear hcz7_4); (try clear hcz9_0); (try clear hcz9_1); (try clear hcz9_2); (try clear hcz9_3); (try clear hcz9_4); obtain ⟨kq, x36_1, rfl, HA, HJ1, BK101, HB⟩ := hcut
  cases kq with
  | zero => exact absurd HA.out (by simp [policy_Wrong.j0])
  | succ kj1 =>
   have H := HA.out; clear HA
   simp only [policy_Wrong.j0] at H
   by_cases c13 : x36_1 = true
   ·subst c13
    have H1 : (some (1, 2)) = some (r1, r2) := by rw [if_pos rfl] at H; exact H
    clear H; have H := H1; clear H1
    simp only [Option.some.injEq, Prod.mk.injEq] at H
    obtain ⟨rfl, rfl⟩ := H
    go_wp2
    go_ret2
    exact ⟨by first | rfl | (simp [errW_none, errW_some] <;> rfl) | (simp [*, errW_none, errW_some] <;> rfl), pbx HB⟩
   ·replace c13 := Bool.eq_false_iff.mpr c13; subst c13
    have H1 : ((zone_Wrong.f kj1 l0_2 a0_0 a0_1).bind fun bt102 => (if bt102.2 = 0 then ((right_Users.f kj1 l0_3).bind fun bt104 => (if bt104.2 = 0 then ((right_Grants.f kj1 l0_4 l0_3).bind fun bt106 => (if bt106.2 = 0 then (some (0, 0)) else (some (wrap64 ((wrap64 ((wrap64 (2 + (l0_2.length : Int))) + (l0_3.length : Int))) + bt106.1), bt106.2)))) else (some (wrap64 ((wrap64 (2 + (l0_2.length : Int))) + bt104.1), bt104.2)))) else (some (wrap64 (2 + bt102.1), bt102.2)))) = some (r1, r2) := by rw [if_neg (show ¬ (false = true) by decide)] at H; exact H
    clear H; have H := H1; clear H1; replace H := Option.bind_eq_some_iff.mp H; obtain ⟨⟨t102, t103⟩, A140, H⟩ := H
    replace H : (if t103 = 0 then ((right_Users.f kj1 l0_3).bind fun bt104 => (if bt104.2 = 0 then ((right_Grants.f kj1 l0_4 l0_3).bind fun bt106 => (if bt106.2 = 0 then (some (0, 0)) else (some (wrap64 ((wrap64 ((wrap64 (2 + (l0_2.length : Int))) + (l0_3.length : Int))) + bt106.1), bt106.2)))) else (some (wrap64 ((wrap64 (2 + (l0_2.length : Int))) + bt104.1), bt104.2)))) else (some (wrap64 (2 + t102), t103))) = some (r1, r2) := H
    have A14 := Aside0.mk A140; clear A140
    by_cases c15 : t103 = 0
    ·rw [if_pos c15] at H; have c15b0 : (t103 == 0) = true := beq_iff_eq.mpr c15; have c15b1 : (t103 != 0) = false := bne_eq_false_iff_eq.mpr c15; clear c15; replace H := Option.bind_eq_some_iff.mp H; obtain ⟨⟨t104, t105⟩, A160, H⟩ := H
     replace H : (if t105 = 0 then ((right_Grants.f kj1 l0_4 l0_3).bind fun bt106 => (if bt106.2 = 0 then (some (0, 0)) else (some (wrap64 ((wrap64 ((wrap64 (2 + (l0_2.length : Int))) + (l0_3.length : Int))) + bt106.1), bt106.2)))) else (some (wrap64 ((wrap64 (2 + (l0_2.length : Int))) + t104), t105))) = some (r1, r2) := H
     have A16 := Aside0.mk A160; clear A160
     by_cases c17 : t105 = 0
     ·rw [if_pos c17] at H; have c17b0 : (t105 == 0) = true := beq_iff_eq.mpr c17; have c17b1 : (t105 != 0) = false := bne_eq_false_iff_eq.mpr c17; clear c17; replace H := Option.bind_eq_some_iff.mp H; obtain ⟨⟨t106, t107⟩, A180, H⟩ := H
      replace H : (if t107 = 0 then (some (0, 0)) else (some (wrap64 ((wrap64 ((wrap64 (2 + (l0_2.length : Int))) + (l0_3.length : Int))) + t106), t107))) = some (r1, r2) := H
      have A18 := Aside0.mk A180; clear A180
      by_cases c19 : t107 = 0
      ·rw [if_pos c19] at H; have c19b0 : (t107 == 0) = true := beq_iff_eq.mpr c19; have c19b1 : (t107 != 0) = false := bne_eq_false_iff_eq.mpr c19; clear c19
       simp only [Option.some.injEq, Prod.mk.injEq] at H
       obtain ⟨rfl, rfl⟩ := H
       have hcz20_0 : wc.cell? ⟨gb101, 0, none⟩ = some (.int .i64 a0_0) := bc_ BK101 0 rfl
       have hcz20_1 : wc.cell? ⟨gb101, 1, none⟩ = some (.int .i64 a0_1) := bc_ BK101 1 rfl
       have hcz20_2 : wc.cell? ⟨gb101, 2, none⟩ = some (.slice A0_2 l0_2.length c0_2) := bc_ BK101 2 rfl
       have hcz20_3 : wc.cell? ⟨gb101, 3, none⟩ = some (.slice A0_3 l0_3.length c0_3) := bc_ BK101 3 rfl
       have hcz20_4 : wc.cell? ⟨gb101, 4, none⟩ = some (.slice A0_4 l0_4.length c0_4) := bc_ BK101 4 rfl
       go_wp2_with (first | ((with_reducible refine gate_callee (f:=32) rfl ?_); refine gL_ (some 44) rfl rfl Tryd.func32 rfl #[.slice A0_2 l0_2.length c0_2, .int .i64 a0_0, .int .i64 a0_1] rfl ?_; (with_reducible refine (zone_Wrong.calls kj1 _ _ l0_2 a0_0 a0_1 t102 t103 _ ?side1 ?side2 A14.out).mono ?_); (case side1 => repeat (first | exact (Kd.C_below HR0_2.out HB.out) | (with_reducible refine Kd.C_alloc ?_ _) | (with_reducible refine Kd.C_drewN ?_ _) | (with_reducible refine Kd.C_drew ?_))); (case side2 => exact HC0_2.out); rintro e w21 ⟨rfl, hb⟩; refine ⟨_, rfl, ?_⟩; replace BK101 := bb_ BK101 hb; replace HB := bs_ HB hb; (try clear hb); (try clear hb2); (try clear hk); (try clear hi); have hcz22_0 : w21.cell? ⟨gb101, 0, none⟩ = some (.int .i64 a0_0) := bc_ BK101 0 rfl; have hcz22_1 : w21.cell? ⟨gb101, 1, none⟩ = some (.int .i64 a0_1) := bc_ BK101 1 rfl; have hcz22_2 : w21.cell? ⟨gb101, 2, none⟩ = some (.slice A0_2 l0_2.length c0_2) := bc_ BK101 2 rfl; have hcz22_3 : w21.cell? ⟨gb101, 3, none⟩ = some (.slice A0_3 l0_3.length c0_3) := bc_ BK101 3 rfl; have hcz22_4 : w21.cell? ⟨gb101, 4, none⟩ = some (.slice A0_4 l0_4.length c0_4) := bc_ BK101 4 rfl) | ((with_reducible refine gate_callee (f:=33) rfl ?_); refine gL_ (some 61) rfl rfl Tryd.func33 rfl #[.slice A0_3 l0_3.length c0_3] rfl ?_; (with_reducible refine (right_Users.calls kj1 _ _ l0_3 t104 t105 _ ?side1 ?side2 A16.out).mono ?_); (case side1 => repeat (first | exact (Kd.C_below HR0_3.out HB.out) | (with_reducible refine Kd.C_alloc ?_ _) | (with_reducible refine Kd.C_drewN ?_ _) | (with_reducible refine Kd.C_drew ?_))); (case side2 => exact HC0_3.out); rintro e w23 ⟨rfl, hb⟩; refine ⟨_, rfl, ?_⟩; replace BK101 := bb_ BK101 hb; replace HB := bs_ HB hb; (try clear hb); (try clear hb2); (try clear hk); (try clear hi); have hcz24_0 : w23.cell? ⟨gb101, 0, none⟩ = some (.int .i64 a0_0) := bc_ BK101 0 rfl; have hcz24_1 : w23.cell? ⟨gb101, 1, none⟩ = some (.int .i64 a0_1) := bc_ BK101 1 rfl; have hcz24_2 : w23.cell? ⟨gb101, 2, none⟩ = some (.slice A0_2 l0_2.length c0_2) := bc_ BK101 2 rfl; have hcz24_3 : w23.cell? ⟨gb101, 3, none⟩ = some (.slice A0_3 l0_3.length c0_3) := bc_ BK101 3 rfl; have hcz24_4 : w23.cell? ⟨gb101, 4, none⟩ = some (.slice A0_4 l0_4.length c0_4) := bc_ BK101 4 rfl) | ((with_reducible refine gate_callee (f:=34) rfl ?_); refine gL_ (some 80) rfl rfl Tryd.func34 rfl #[.slice A0_4 l0_4.length c0_4, .slice A0_3 l0_3.length c0_3] rfl ?_; (with_reducible refine (right_Grants.calls kj1 _ _ l0_4 _ _ l0_3 t106 t107 _ ?side1 ?side2 ?side3 ?side4 A18.out).mono ?_); (case side1 => repeat (first | exact (Kd.C_below HR0_4.out HB.out) | (with_reducible refine Kd.C_alloc ?_ _) | (with_reducible refine Kd.C_drewN ?_ _) | (with_reducible refine Kd.C_drew ?_))); (case side2 => exact HC0_4.out); (case side3 => repeat (first | exact (Kd.C_below HR0_3.out HB.out) | (with_reducible refine Kd.C_alloc ?_ _) | (with_reducible refine Kd.C_drewN ?_ _) | (with_reducible refine Kd.C_drew ?_))); (case side4 => exact HC0_3.out); rintro e w25 ⟨rfl, hb⟩; refine ⟨_, rfl, ?_⟩; replace BK101 := bb_ BK101 hb; replace HB := bs_ HB hb; (try clear hb); (try clear hb2); (try clear hk); (try clear hi)))
       go_ret2
       exact ⟨by first | rfl | (simp [errW_none, errW_some] <;> rfl) | (simp [*, errW_none, errW_some] <;> rfl), pbx HB⟩
      ·rw [if_neg c19] at H; have c19b0 : (t107 == 0) = false := beq_eq_false_iff_ne.mpr c19; have c19b1 : (t107 != 0) = true := bne_iff_ne.mpr c19
       simp only [Option.some.injEq, Prod.mk.injEq] at H
       obtain ⟨rfl, rfl⟩ := H
       have hcz26_0 : wc.cell? ⟨gb101, 0, none⟩ = some (.int .i64 a0_0) := bc_ BK101 0 rfl
       have hcz26_1 : wc.cell? ⟨gb101, 1, none⟩ = some (.int .i64 a0_1) := bc_ BK101 1 rfl
       have hcz26_2 : wc.cell? ⟨gb101, 2, none⟩ = some (.slice A0_2 l0_2.length c0_2) := bc_ BK101 2 rfl
       have hcz26_3 : wc.cell? ⟨gb101, 3, none⟩ = some (.slice A0_3 l0_3.length c0_3) := bc_ BK101 3 rfl
       have hcz26_4 : wc.cell? ⟨gb101, 4, none⟩ = some (.slice A0_4 l0_4.length c0_4) := bc_ BK101 4 rfl
       go_wp2_with (first | ((with_reducible refine gate_callee (f:=32) rfl ?_); refine gL_ (some 44) rfl rfl Tryd.func32 rfl #[.slice A0_2 l0_2.length c0_2, .int .i64 a0_0, .int .i64 a0_1] rfl ?_; (with_reducible refine (zone_Wrong.calls kj1 _ _ l0_2 a0_0 a0_1 t102 t103 _ ?side1 ?side2 A14.out).mono ?_); (case side1 => repeat (first | exact (Kd.C_below HR0_2.out HB.out) | (with_reducible refine Kd.C_alloc ?_ _) | (with_reducible refine Kd.C_drewN ?_ _) | (with_reducible refine Kd.C_drew ?_))); (case side2 => exact HC0_2.out); rintro e w27 ⟨rfl, hb⟩; refine ⟨_, rfl, ?_⟩; replace BK101 := bb_ BK101 hb; replace HB := bs_ HB hb; (try clear hb); (try clear hb2); (try clear hk); (try clear hi); have hcz28_0 : w27.cell? ⟨gb101, 0, none⟩ = some (.int .i64 a0_0) := bc_ BK101 0 rfl; have hcz28_1 : w27.cell? ⟨gb101, 1, none⟩ = some (.int .i64 a0_1) := bc_ BK101 1 rfl; have hcz28_2 : w27.cell? ⟨gb101, 2, none⟩ = some (.slice A0_2 l0_2.length c0_2) := bc_ BK101 2 rfl; have hcz28_3 : w27.cell? ⟨gb101, 3, none⟩ = some (.slice A0_3 l0_3.length c0_3) := bc_ BK101 3 rfl; have hcz28_4 : w27.cell? ⟨gb101, 4, none⟩ = some (.slice A0_4 l0_4.length c0_4) := bc_ BK101 4 rfl) | ((with_reducible refine gate_callee (f:=33) rfl ?_); refine gL_ (some 61) rfl rfl Tryd.func33 rfl #[.slice A0_3 l0_3.length c0_3] rfl ?_; (with_reducible refine (right_Users.calls kj1 _ _ l0_3 t104 t105 _ ?side1 ?side2 A16.out).mono ?_); (case side1 => repeat (first | exact (Kd.C_below HR0_3.out HB.out) | (with_reducible refine Kd.C_alloc ?_ _) | (with_reducible refine Kd.C_drewN ?_ _) | (with_reducible refine Kd.C_drew ?_))); (case side2 => exact HC0_3.out); rintro e w29 ⟨rfl, hb⟩; refine ⟨_, rfl, ?_⟩; replace BK101 := bb_ BK101 hb; replace HB := bs_ HB hb; (try clear hb); (try clear hb2); (try clear hk); (try clear hi); have hcz30_0 : w29.cell? ⟨gb101, 0, none⟩ = some (.int .i64 a0_0) := bc_ BK101 0 rfl; have hcz30_1 : w29.cell? ⟨gb101, 1, none⟩ = some (.int .i64 a0_1) := bc_ BK101 1 rfl; have hcz30_2 : w29.cell? ⟨gb101, 2, none⟩ = some (.slice A0_2 l0_2.length c0_2) := bc_ BK101 2 rfl; have hcz30_3 : w29.cell? ⟨gb101, 3, none⟩ = some (.slice A0_3 l0_3.length c0_3) := bc_ BK101 3 rfl; have hcz30_4 : w29.cell? ⟨gb101, 4, none⟩ = some (.slice A0_4 l0_4.length c0_4) := bc_ BK101 4 rfl) | ((with_reducible refine gate_callee (f:=34) rfl ?_); refine gL_ (some 80) rfl rfl Tryd.func34 rfl #[.slice A0_4 l0_4.length c0_4, .slice A0_3 l0_3.length c0_3] rfl ?_; (with_reducible refine (right_Grants.calls kj1 _ _ l0_4 _ _ l0_3 t106 t107 _ ?side1 ?side2 ?side3 ?side4 A18.out).mono ?_); (case side1 => repeat (first | exact (Kd.C_below HR0_4.out HB.out) | (with_reducible refine Kd.C_alloc ?_ _) | (with_reducible refine Kd.C_drewN ?_ _) | (with_reducible refine Kd.C_drew ?_))); (case side2 => exact HC0_4.out); (case side3 => repeat (first | exact (Kd.C_below HR0_3.out HB.out) | (with_reducible refine Kd.C_alloc ?_ _) | (with_reducible refine Kd.C_drewN ?_ _) | (with_reducible refine Kd.C_drew ?_))); (case side4 => exact HC0_3.out); rintro e w31 ⟨rfl, hb⟩; refine ⟨_, rfl, ?_⟩; replace BK101 := bb_ BK101 hb; replace HB := bs_ HB hb; (try clear hb); (try clear hb2); (try clear hk); (try clear hi)))
       go_ret2
       exact ⟨by first | rfl | (simp [errW_none, errW_some] <;> rfl) | (simp [*, errW_none, errW_some] <;> rfl), pbx HB⟩
     ·rw [if_neg c17] at H; have c17b0 : (t105 == 0) = false := beq_eq_false_iff_ne.mpr c17; have c17b1 : (t105 != 0) = true := bne_iff_ne.mpr c17
      simp only [Option.some.injEq, Prod.mk.injEq] at H
      obtain ⟨rfl, rfl⟩ := H
      have hcz32_0 : wc.cell? ⟨gb101, 0, none⟩ = some (.int .i64 a0_0) := bc_ BK101 0 rfl
      have hcz32_1 : wc.cell? ⟨gb101, 1, none⟩ = some (.int .i64 a0_1) := bc_ BK101 1 rfl
      have hcz32_2 : wc.cell? ⟨gb101, 2, none⟩ = some (.slice A0_2 l0_2.length c0_2) := bc_ BK101 2 rfl
      have hcz32_3 : wc.cell? ⟨gb101, 3, none⟩ = some (.slice A0_3 l0_3.length c0_3) := bc_ BK101 3 rfl
      have hcz32_4 : wc.cell? ⟨gb101, 4, none⟩ = some (.slice A0_4 l0_4.length c0_4) := bc_ BK101 4 rfl
      go_wp2_with (first | ((with_reducible refine gate_callee (f:=32) rfl ?_); refine gL_ (some 44) rfl rfl Tryd.func32 rfl #[.slice A0_2 l0_2.length c0_2, .int .i64 a0_0, .int .i64 a0_1] rfl ?_; (with_reducible refine (zone_Wrong.calls kj1 _ _ l0_2 a0_0 a0_1 t102 t103 _ ?side1 ?side2 A14.out).mono ?_); (case side1 => repeat (first | exact (Kd.C_below HR0_2.out HB.out) | (with_reducible refine Kd.C_alloc ?_ _) | (with_reducible refine Kd.C_drewN ?_ _) | (with_reducible refine Kd.C_drew ?_))); (case side2 => exact HC0_2.out); rintro e w33 ⟨rfl, hb⟩; refine ⟨_, rfl, ?_⟩; replace BK101 := bb_ BK101 hb; replace HB := bs_ HB hb; (try clear hb); (try clear hb2); (try clear hk); (try clear hi); have hcz34_0 : w33.cell? ⟨gb101, 0, none⟩ = some (.int .i64 a0_0) := bc_ BK101 0 rfl; have hcz34_1 : w33.cell? ⟨gb101, 1, none⟩ = some (.int .i64 a0_1) := bc_ BK101 1 rfl; have hcz34_2 : w33.cell? ⟨gb101, 2, none⟩ = some (.slice A0_2 l0_2.length c0_2) := bc_ BK101 2 rfl; have hcz34_3 : w33.cell? ⟨gb101, 3, none⟩ = some (.slice A0_3 l0_3.length c0_3) := bc_ BK101 3 rfl; have hcz34_4 : w33.cell? ⟨gb101, 4, none⟩ = some (.slice A0_4 l0_4.length c0_4) := bc_ BK101 4 rfl) | ((with_reducible refine gate_callee (f:=33) rfl ?_); refine gL_ (some 61) rfl rfl Tryd.func33 rfl #[.slice A0_3 l0_3.length c0_3] rfl ?_; (with_reducible refine (right_Users.calls kj1 _ _ l0_3 t104 t105 _ ?side1 ?side2 A16.out).mono ?_); (case side1 => repeat (first | exact (Kd.C_below HR0_3.out HB.out) | (with_reducible refine Kd.C_alloc ?_ _) | (with_reducible refine Kd.C_drewN ?_ _) | (with_reducible refine Kd.C_drew ?_))); (case side2 => exact HC0_3.out); rintro e w35 ⟨rfl, hb⟩; refine ⟨_, rfl, ?_⟩; replace BK101 := bb_ BK101 hb; replace HB := bs_ HB hb; (try clear hb); (try clear hb2); (try clear hk); (try clear hi)))
      go_ret2
      exact ⟨by first | rfl | (simp [errW_none, errW_some] <;> rfl) | (simp [*, errW_none, errW_some] <;> rfl), pbx HB⟩
    ·rw [if_neg c15] at H; have c15b0 : (t103 == 0) = false := beq_eq_false_iff_ne.mpr c15; have c15b1 : (t103 != 0) = true := bne_iff_ne.mpr c15
     simp only [Option.some.injEq, Prod.mk.injEq] at H
     obtain ⟨rfl, rfl⟩ := H
     have hcz36_0 : wc.cell? ⟨gb101, 0, none⟩ = some (.int .i64 a0_0) := bc_ BK101 0 rfl
     have hcz36_1 : wc.cell? ⟨gb101, 1, none⟩ = some (.int .i64 a0_1) := bc_ BK101 1 rfl
     have hcz36_2 : wc.cell? ⟨gb101, 2, none⟩ = some (.slice A0_2 l0_2.length c0_2) := bc_ BK101 2 rfl
     have hcz36_3 : wc.cell? ⟨gb101, 3, none⟩ = some (.slice A0_3 l0_3.length c0_3) := bc_ BK101 3 rfl
     have hcz36_4 : wc.cell? ⟨gb101, 4, none⟩ = some (.slice A0_4 l0_4.length c0_4) := bc_ BK101 4 rfl
     go_wp2_with (first | ((with_reducible refine gate_callee (f:=32) rfl ?_); refine gL_ (some 44) rfl rfl Tryd.func32 rfl #[.slice A0_2 l0_2.length c0_2, .int .i64 a0_0, .int .i64 a0_1] rfl ?_; (with_reducible refine (zone_Wrong.calls kj1 _ _ l0_2 a0_0 a0_1 t102 t103 _ ?side1 ?side2 A14.out).mono ?_); (case side1 => repeat (first | exact (Kd.C_below HR0_2.out HB.out) | (with_reducible refine Kd.C_alloc ?_ _) | (with_reducible refine Kd.C_drewN ?_ _) | (with_reducible refine Kd.C_drew ?_))); (case side2 => exact HC0_2.out); rintro e w37 ⟨rfl, hb⟩; refine ⟨_, rfl, ?_⟩; replace BK101 := bb_ BK101 hb; replace HB := bs_ HB hb; (try clear hb); (try clear hb2); (try clear hk); (try clear hi)))
     go_ret2
     exact ⟨by first | rfl | (simp [errW_none, errW_some] <;> rfl) | (simp [*, errW_none, errW_some] <;> rfl), pbx HB⟩

end Go.Proofs.YtbboanfggaknjaaDoor.X
/- policy.Parse: what it computes, and more rounds. -/
set_option linter.unusedVariables false
set_option linter.unusedSimpArgs false
namespace Go.Proofs.YtbboanfggaknjaaDoor.X
open Go.RowKit Go.Proofs.YtbboanfggaknjaaDoorW.PrintWords Go.Proofs.YtbboanfggaknjaaDoorW.PrintLast Go.Proofs.YtbboanfggaknjaaDoorW.PrintMore
abbrev T7 : Type := Int × Int × Int × Int × List S61 × List S65 × List S67
def fin7 (e n r c : Int) (zs : List S61) (us : List S65) (gs : List S67) : T7 := if e = 0 then (0, 0, r, c, zs, us, gs) else (e, n, 0, 0, [], [], [])
def bad7 (ended : Bool) (kind : Int) (n : Nat) (last : Int) : Prop := ended = false ∨ kind = 4 ∨ ¬ (n = 0 ↔ kind = 0) ∨ (0 < n ∧ kind < last)
instance (ended : Bool) (kind : Int) (n : Nat) (last : Int) : Decidable (bad7 ended kind n last) := by unfold bad7; exact inferInstance
def policy_Parse.l (k : Nat) : Nat → Int → Nat → ByteArray → Int → Int → List S61 → List S65 → List S67 → Option T7
  | 0, _, _, _, _, _, _, _, _ => none
  | m + 1, last, n, rest, r, c, zs, us, gs =>
    if rest.toList ≠ [] ∨ n = 0 then
      if n < 100000 then
        (strings_Cut.f rest ⟨#[10]⟩).bind fun b => (strings_Split.f b.1 ⟨#[32]⟩).bind fun ws => (policy_add.f k r c zs us gs ws).bind fun q =>
        if bad7 b.2.2 q.1 n last then some (1, ((n : Int) + 1), 0, 0, [], [], [])
        else policy_Parse.l k m q.1 (n + 1) b.2.1 q.2.1 q.2.2.1 q.2.2.2.1 q.2.2.2.2.1 q.2.2.2.2.2
      else none
    else (policy_Wrong.f k r c zs us gs).bind fun e => some (fin7 e.2 e.1 r c zs us gs)
def policy_Parse.f (k : Nat) (a0 : ByteArray) : Option T7 :=
  if (a0.size : Int) > 4000 then some (3, 0, 0, 0, [], [], []) else policy_Parse.l k k 4 0 a0 0 0 [] [] []
end Go.Proofs.YtbboanfggaknjaaDoor.X
/- policy.Parse, walked. -/
set_option linter.unusedVariables false
set_option linter.unusedSimpArgs false
namespace Go.Proofs.YtbboanfggaknjaaDoor.X
open Go.RowKit Go.Proofs.YtbboanfggaknjaaDoorW.PrintWords Go.Proofs.YtbboanfggaknjaaDoorW.PrintLast Go.Proofs.YtbboanfggaknjaaDoorW.PrintMore
theorem cells5_ {W : World} {g : Nat} {t : TypeId} {a0 a1 a2 a3 a4 : Value} (h : W.heap[g]? = some (.cells #[a0, a1, a2, a3, a4] t (0, 0))) : W.cell? ⟨g, 0, none⟩ = some a0 ∧ W.cell? ⟨g, 1, none⟩ = some a1 ∧ W.cell? ⟨g, 2, none⟩ = some a2 ∧ W.cell? ⟨g, 3, none⟩ = some a3 ∧ W.cell? ⟨g, 4, none⟩ = some a4 := ⟨(blk_cell h 0).trans rfl, (blk_cell h 1).trans rfl, (blk_cell h 2).trans rfl, (blk_cell h 3).trans rfl, (blk_cell h 4).trans rfl⟩
def Ans7 (w w' : World) (en : Ending) (e n r c : Int) (zs : List S61) (us : List S65) (gs : List S67) : Prop :=
  ∃ vz vu vg, en = .returned (.tuple #[.agg #[.int .i64 r, .int .i64 c, vz, vu, vg], .int .i64 n, .int .i64 e]) ∧ k61.R 61 w' w.heap.size (fun _ => True) vz zs ∧ k65.R 65 w' w.heap.size (fun _ => True) vu us ∧ k67.R 67 w' w.heap.size (fun _ => True) vg gs ∧ Below w.heap.size w w'
theorem put5_ {W : World} {g t : Nat} {a0 a1 a2 a3 a4 : Value} (h : W.heap[g]? = some (.cells #[a0, a1, a2, a3, a4] t (0, 0))) (b0 b1 b2 b3 b4 : Value) : (((((W.setCell ⟨g, 0, none⟩ b0).setCell ⟨g, 1, none⟩ b1).setCell ⟨g, 2, none⟩ b2).setCell ⟨g, 3, none⟩ b3).setCell ⟨g, 4, none⟩ b4).heap[g]? = some (.cells #[b0, b1, b2, b3, b4] t (0, 0)) := by
  have h0 := blk_set h 0 b0
  have h1 := blk_set h0 1 b1
  have h2 := blk_set h1 2 b2
  have h3 := blk_set h2 3 b3
  have h4 := blk_set h3 4 b4
  simpa using h4
theorem below5_ {w W : World} {g : Nat} (h : Below w.heap.size w W) (hg : w.heap.size ≤ g) (b0 b1 b2 b3 b4 : Value) : Below w.heap.size w (((((W.setCell ⟨g, 0, none⟩ b0).setCell ⟨g, 1, none⟩ b1).setCell ⟨g, 2, none⟩ b2).setCell ⟨g, 3, none⟩ b3).setCell ⟨g, 4, none⟩ b4) := below_set (below_set (below_set (below_set (below_set h hg) hg) hg) hg) hg
set_option maxHeartbeats 4000000 in
set_option maxRecDepth 100000 in
theorem parse_long (a0 : ByteArray) (w : World) (h : (a0.size : Int) > 4000) :
    Calls Tryd.prog 9 #[.string a0] w fun en w' => Ans7 w w' en 3 0 0 0 [] [] [] := by
  have hu := Tryd.underlying26
  have hd1 : decide ((a0.size : Int) > 4000) = true := decide_eq_true h
  have hd2 : decide (4000 < a0.size) = true := decide_eq_true (by omega)
  clear h
  go_enter Tryd.func9, Tryd.ntmps9
  go_upto_region 1 with fail
  have HG := Aside0.mk (blk_new w (.cells #[.int .i64 0, .int .i64 0, .slice none 0 0, .slice none 0 0, .slice none 0 0] 26))
  have HB := Aside0.mk (new_below w (.cells #[.int .i64 0, .int .i64 0, .slice none 0 0, .slice none 0 0, .slice none 0 0] 26))
  generalize w.alloc (.cells #[.int .i64 0, .int .i64 0, .slice none 0 0, .slice none 0 0, .slice none 0 0] 26) = w1 at HG HB ⊢
  obtain ⟨z0, z1, z2, z3, z4⟩ := cells5_ HG.out
  have f0 := blk_frozen HG.out 0
  have f1 := blk_frozen HG.out 1
  have f2 := blk_frozen HG.out 2
  have f3 := blk_frozen HG.out 3
  have f4 := blk_frozen HG.out 4
  go_wp2
  refine bodyPost_ret (results_ctt rfl _ _ w.heap.size 26 _ (0, 0) _ rfl (put5_ HG.out _ _ _ _ _) hu rfl (by kernel_rfl)) rfl ?_
  exact ⟨_, _, _, rfl, Kd.R_nil _ _ _ _ _, Kd.R_nil _ _ _ _ _, Kd.R_nil _ _ _ _ _, below5_ HB.out (Nat.le_refl _) _ _ _ _ _⟩
def Rel7 (k : Nat) (w0 : World) (g kq : Nat) (v6 v7 v8 : Value) (w' : World) (R : T7) : Prop :=
  ∃ (last : Int) (n : Nat) (rest : ByteArray) (r c : Int) (vz vu vg : Value) (zs : List S61) (us : List S65) (gs : List S67), v6 = .int .i64 last ∧ v7 = .int .i64 (n : Int) ∧ v8 = .string rest ∧ Aside0 (IsP w0 w' g r c vz vu vg zs us gs) ∧ Aside0 (policy_Parse.l k kq last n rest r c zs us gs = some R) ∧ Aside0 (kq ≤ k)
theorem par_ways (ended : Bool) (kind : Int) (n : Nat) (last : Int) :
    (bad7 ended kind n last ∧ ended = false) ∨ (bad7 ended kind n last ∧ ended = true ∧ kind = 4) ∨
    (bad7 ended kind n last ∧ ended = true ∧ ¬ kind = 4 ∧ (kind == 4) = false ∧ ¬ (((n : Int) + 1 == 1) = (kind == 0))) ∨
    (bad7 ended kind n last ∧ ended = true ∧ ¬ kind = 4 ∧ (kind == 4) = false ∧ ((n : Int) + 1 == 1) = (kind == 0) ∧ 1 < (n : Int) + 1 ∧ kind < last) ∨
    (¬ bad7 ended kind n last ∧ ended = true ∧ ¬ kind = 4 ∧ (kind == 4) = false ∧ ((n : Int) + 1 == 1) = (kind == 0) ∧ 1 < (n : Int) + 1 ∧ ¬ kind < last) ∨
    (¬ bad7 ended kind n last ∧ ended = true ∧ ¬ kind = 4 ∧ (kind == 4) = false ∧ ((n : Int) + 1 == 1) = (kind == 0) ∧ ¬ 1 < (n : Int) + 1) := by
  have e0 : ((n : Int) + 1 == 1) = decide (n = 0) := by rw [Bool.eq_iff_iff]; simp only [beq_iff_eq, decide_eq_true_eq]; omega
  have e1 : (kind == 0) = decide (kind = 0) := rfl
  have e2 : ((n : Int) + 1 == 1) = (kind == 0) ↔ (n = 0 ↔ kind = 0) := by rw [e0, e1, decide_eq_decide]
  have e4 : (kind == 4) = false ↔ ¬ kind = 4 := by simp
  rw [e2, e4]
  unfold bad7
  cases ended with
  | false => exact Or.inl ⟨Or.inl rfl, rfl⟩
  | true =>
    by_cases h4 : kind = 4
    · exact Or.inr (Or.inl ⟨Or.inr (Or.inl h4), rfl, h4⟩)
    · by_cases hm : (n = 0 ↔ kind = 0)
      · by_cases hn : 0 < n
        · by_cases hl : kind < last
          · exact Or.inr (Or.inr (Or.inr (Or.inl ⟨Or.inr (Or.inr (Or.inr ⟨hn, hl⟩)), rfl, h4, h4, hm, by omega, hl⟩)))
          · exact Or.inr (Or.inr (Or.inr (Or.inr (Or.inl ⟨by rintro (h | h | h | h); cases h; exact h4 h; exact h hm; exact hl h.2, rfl, h4, h4, hm, by omega, hl⟩))))
        · exact Or.inr (Or.inr (Or.inr (Or.inr (Or.inr ⟨by rintro (h | h | h | h); cases h; exact h4 h; exact h hm; exact hn h.1, rfl, h4, h4, hm, by omega⟩))))
      · exact Or.inr (Or.inr (Or.inl ⟨Or.inr (Or.inr (Or.inl hm)), rfl, h4, h4, hm⟩))
theorem R_set5 {α : Type} {d : Kd α} {e b : Nat} {w : World} {ok : Nat → Prop} {v : Value} {xs : List α} {g t : Nat} {cs : Array Value} (h : d.R e w b ok v xs) (hP : w.heap[g]? = some (.cells cs t (0, 0))) (ht : ∀ q, q ∈ e :: d.E → q ≠ t) (b0 b1 b2 b3 b4 : Value) : d.R e (((((w.setCell ⟨g, 0, none⟩ b0).setCell ⟨g, 1, none⟩ b1).setCell ⟨g, 2, none⟩ b2).setCell ⟨g, 3, none⟩ b3).setCell ⟨g, 4, none⟩ b4) b ok v xs := by
  have h0 := blk_set hP 0 b0
  have h1 := blk_set h0 1 b1
  have h2 := blk_set h1 2 b2
  have h3 := blk_set h2 3 b3
  exact Kd.R_set (Kd.R_set (Kd.R_set (Kd.R_set (Kd.R_set h hP ht 0 b0) h0 ht 1 b1) h1 ht 2 b2) h2 ht 3 b3) h3 ht 4 b4
theorem beq_dec (a b : Int) : ((a == b) = true ∧ (a != b) = false ∧ a = b) ∨ ((a == b) = false ∧ (a != b) = true ∧ ¬ a = b) := by
  by_cases h : a = b
  · exact Or.inl ⟨beq_iff_eq.mpr h, bne_eq_false_iff_eq.mpr h, h⟩
  · exact Or.inr ⟨beq_eq_false_iff_ne.mpr h, bne_iff_ne.mpr h, h⟩
theorem tab7 {w w1 w2 : World} {g : Nat} {r c : Int} {vz vu vg : Value} {zs : List S61} {us : List S65} {gs : List S67} (hT : Aside0 (Tab w)) (hb : Aside0 (Below w.heap.size w w1)) (hI : Aside0 (IsP w1 w2 g r c vz vu vg zs us gs)) : Tab w2 := (hT.out.below hb.out).below hI.out.hB
set_option maxHeartbeats 4000000 in
set_option maxRecDepth 100000 in
theorem parse_short (k : Nat) (a0 : ByteArray) (e9 n9 r9 c9 : Int) (zs9 : List S61) (us9 : List S65) (gs9 : List S67) (w : World) (hT : Aside0 (Tab w)) (h : ¬ (a0.size : Int) > 4000) (H0 : policy_Parse.l k k 4 0 a0 0 0 [] [] [] = some (e9, n9, r9, c9, zs9, us9, gs9)) :
    Calls Tryd.prog 9 #[.string a0] w fun en w' => Ans7 w w' en e9 n9 r9 c9 zs9 us9 gs9 := by
  have HL := Aside0.mk H0
  clear H0
  have hu := Tryd.underlying26
  have hd1 : decide ((a0.size : Int) > 4000) = false := decide_eq_false h
  have hd2 : decide (4000 < a0.size) = false := decide_eq_false (by omega)
  clear h
  go_enter Tryd.func9, Tryd.ntmps9
  go_upto_region 1 with fail
  have HG := Aside0.mk (blk_new w (.cells #[.int .i64 0, .int .i64 0, .slice none 0 0, .slice none 0 0, .slice none 0 0] 26))
  have HB := Aside0.mk (new_below w (.cells #[.int .i64 0, .int .i64 0, .slice none 0 0, .slice none 0 0, .slice none 0 0] 26))
  generalize w.alloc (.cells #[.int .i64 0, .int .i64 0, .slice none 0 0, .slice none 0 0, .slice none 0 0] 26) = w1 at HG HB ⊢
  obtain ⟨g1, hg1⟩ : ∃ g1, w.heap.size = g1 := ⟨_, rfl⟩
  have HG1 : Aside0 (w.heap.size ≤ g1) := Aside0.mk (by omega)
  rw [hg1] at HG ⊢
  clear hg1
  go_upto_region 4 with fail
  have HI : Aside0 (IsP w1 _ _ 0 0 (.slice none 0 0) (.slice none 0 0) (.slice none 0 0) [] [] []) := Aside0.mk ⟨blk_new w1 (.cells #[.int .i64 0, .int .i64 0, .slice none 0 0, .slice none 0 0, .slice none 0 0] 26), Nat.le_refl _, Kd.R_nil _ _ _ _ _, Kd.R_nil _ _ _ _ _, Kd.R_nil _ _ _ _ _, new_below w1 _⟩
  generalize w1.alloc (.cells #[.int .i64 0, .int .i64 0, .slice none 0 0, .slice none 0 0, .slice none 0 0] 26) = w2 at HI ⊢
  generalize w1.heap.size = g2 at HI ⊢
  go_wp2
  go_loopg [6, 7, 8] k (fun kq v6 v7 v8 w' => Rel7 k w1 g2 kq v6 v7 v8 w' (e9, n9, r9, c9, zs9, us9, gs9))
  case atStart => exact ⟨_, 0, _, _, _, _, _, _, _, _, _, rfl, rfl, rfl, HI, HL, ⟨Nat.le_refl _⟩⟩
  case round =>
    obtain ⟨last, n, rest, r, c, vz, vu, vg, zs, us, gs, rfl, rfl, rfl, HI, HL, HK⟩ := hrel
    cases gk with
    | zero => exact absurd HL.out (by simp [policy_Parse.l])
    | succ k1 =>
      have H := HL.out
      clear HL
      simp only [policy_Parse.l] at H
      by_cases c1 : rest.toList ≠ [] ∨ n = 0
      · rw [if_pos c1] at H
        by_cases c2 : n < 100000
        · rw [if_pos c2] at H
          obtain ⟨⟨hd, tl, ended⟩, A1, H⟩ := Option.bind_eq_some_iff.mp H
          obtain ⟨ws, A2, H⟩ := Option.bind_eq_some_iff.mp H
          obtain ⟨⟨kind, r1, c1', zs1, us1, gs1⟩, A3, H⟩ := Option.bind_eq_some_iff.mp H
          replace H : (if bad7 ended kind n last then some (1, ((n : Int) + 1), 0, 0, [], [], []) else policy_Parse.l k k1 kind (n + 1) tl r1 c1' zs1 us1 gs1) = some (e9, n9, r9, c9, zs9, us9, gs9) := H
          have H4 := Aside0.mk H
          have HA1 := Aside0.mk A1
          have HA2 := Aside0.mk A2
          have HA3 := Aside0.mk A3
          clear H A1 A2 A3
          have hn1 : (n : Int) ≤ 100000 := by omega
          have HT := Aside0.mk (tab7 hT HB HI)
          have HE : Aside0 (rest.toList ≠ [] ∨ (rest.toList = [] ∧ ((n : Int) == 0) = true)) := ⟨by
            by_cases h : rest.toList = []
            · exact Or.inr ⟨h, beq_iff_eq.mpr (by rcases c1 with c1 | c1; exact absurd h c1; omega)⟩
            · exact Or.inl h⟩
          clear c1 c2
          have HP := Aside0.mk (par_ways ended kind n last)
          rcases HE.out with t1 | ⟨t1, t2⟩
          all_goals
            clear HE
            go_upto_block 1 with fail
            go_upto_region 10 with (first
              | (go_at_call 26; (with_reducible refine (strings_Cut.calls rest ⟨#[10]⟩ hd tl ended _ HA1.out).mono ?_); rintro e w5 ⟨rfl, hdr⟩; have HI5 := Aside0.mk (HI.out.below hdr.below); have HT5 := tb_ hdr.below HT; clear hdr)
              | (go_at_call 28; (with_reducible refine (strings_Split.calls hd ⟨#[32]⟩ ws _ HA2.out).mono ?_); rintro e w6 ⟨v6, rfl, hR, hb⟩; obtain ⟨A6, cap6, rfl⟩ := Kd.R_slice hR; have HI6 := Aside0.mk (HI5.out.below hb); have HT6 := tb_ hb HT5; have HR6 := Aside0.mk hR; have HC6 := Aside0.mk (Kd.R_reads' hR).2.1; clear hb hR)
              | (go_at_call 27; (with_reducible refine (policy_add.calls k g2 r c vz vu vg zs us gs A6 cap6 ws _ kind r1 c1' zs1 us1 gs1 w1 _ HT6 HI6 HR6 HC6.out HA3.out).mono ?_); rintro e w7 ⟨rfl, vz1, vu1, vg1, hI7⟩; have HI7 := Aside0.mk hI7; clear hI7))
            clear HI HI5 HI6 HT HT5 HT6 HR6 HC6 HA1 HA2 HA3 t1
            have HG7 := Aside0.mk (blk_below HG.out HI7.out.hB)
            obtain ⟨z0, z1, z2, z3, z4⟩ := cells5_ HG7.out
            have f0 := blk_frozen HG7.out 0
            have f1 := blk_frozen HG7.out 1
            have f2 := blk_frozen HG7.out 2
            have f3 := blk_frozen HG7.out 3
            have f4 := blk_frozen HG7.out 4
            rcases HP.out with ⟨hb, s1⟩ | ⟨hb, s1, s2⟩ | ⟨hb, s1, s2, s3, s4⟩ | ⟨hb, s1, s2, s3, s4, s5, s6⟩ | ⟨hb, s1, s2, s3, s4, s5, s6⟩ | ⟨hb, s1, s2, s3, s4, s5⟩
            all_goals
              have HBAD := Aside0.mk hb
              clear hb HP
              obtain rfl := s1
              try obtain rfl := s2
              go_wp2
              first
                | (have H := H4.out
                   rw [if_pos HBAD.out] at H
                   simp only [Option.some.injEq, Prod.mk.injEq] at H
                   obtain ⟨rfl, rfl, rfl, rfl, rfl, rfl, rfl⟩ := H
                   refine bodyPost_ret (results_ctt rfl _ _ g1 26 _ (0, 0) _ rfl (put5_ HG7.out _ _ _ _ _) hu rfl (by kernel_rfl)) rfl ?_
                   exact ⟨_, _, _, rfl, Kd.R_nil _ _ _ _ _, Kd.R_nil _ _ _ _ _, Kd.R_nil _ _ _ _ _, below5_ (below_step HB.out HI7.out.hB) HG1.out _ _ _ _ _⟩)
                | (have HL := Aside0.mk ((if_neg HBAD.out).symm.trans H4.out)
                   go_roundg k1
                   case measure => have := HK.out; omega
                   case rel => exact ⟨kind, n + 1, tl, r1, c1', vz1, vu1, vg1, zs1, us1, gs1, rfl, by go_num, rfl, HI7, HL, ⟨by have := HK.out; omega⟩⟩)
        · rw [if_neg c2] at H
          cases H
      · rw [if_neg c1] at H
        obtain ⟨⟨at9, er9⟩, A1, H⟩ := Option.bind_eq_some_iff.mp H
        have H4 := Aside0.mk H
        have HA1 := Aside0.mk A1
        have t1 : rest.toList = [] := Classical.byContradiction fun h => c1 (Or.inl h)
        have t2 : ((n : Int) == 0) = false := beq_eq_false_iff_ne.mpr (by intro h; exact c1 (Or.inr (by omega)))
        clear H A1 c1
        obtain ⟨Az, cz, hz⟩ := Kd.R_slice HI.out.hz
        subst hz
        obtain ⟨Au, cu, hz⟩ := Kd.R_slice HI.out.hu
        subst hz
        obtain ⟨Ag, cg, hz⟩ := Kd.R_slice HI.out.hr
        subst hz
        obtain ⟨y0, y1, y2, y3, y4⟩ := cells5_ HI.out.hP
        have HTz := Aside0.mk (Kd.R_reads' HI.out.hz).2
        have HTu := Aside0.mk (Kd.R_reads' HI.out.hu).2
        have HTg := Aside0.mk (Kd.R_reads' HI.out.hr).2
        have tb := beq_dec er9 0
        go_upto_region 14 with (go_at_call 12; (with_reducible refine (policy_Wrong.calls k r c Az cz zs Au cu us Ag cg gs at9 er9 _ HTz.out.2 HTz.out.1 HTu.out.2 HTu.out.1 HTg.out.2 HTg.out.1 HA1.out).mono ?_); rintro e w5 ⟨rfl, hb⟩; have HI5 := Aside0.mk (HI.out.below hb); clear hb)
        clear y0 y1 y2 y3 y4 HI HTz HTu HTg t1 t2
        have HG5 := Aside0.mk (blk_below HG.out HI5.out.hB)
        obtain ⟨z0, z1, z2, z3, z4⟩ := cells5_ HG5.out
        have f0 := blk_frozen HG5.out 0
        have f1 := blk_frozen HG5.out 1
        have f2 := blk_frozen HG5.out 2
        have f3 := blk_frozen HG5.out 3
        have f4 := blk_frozen HG5.out 4
        rcases tb with ⟨b0, b1, b2⟩ | ⟨b0, b1, b2⟩
        · have H := H4.out
          have e : fin7 er9 at9 r c zs us gs = (0, 0, r, c, zs, us, gs) := if_pos b2
          rw [e] at H
          simp only [Option.some.injEq, Prod.mk.injEq] at H
          obtain ⟨rfl, rfl, rfl, rfl, rfl, rfl, rfl⟩ := H
          clear H4 e b2
          obtain ⟨y0, y1, y2, y3, y4⟩ := cells5_ HI5.out.hP
          go_wp2
          refine bodyPost_ret (results_ctt rfl _ _ g1 26 _ (0, 0) _ rfl (put5_ HG5.out _ _ _ _ _) hu rfl (by kernel_rfl)) rfl ?_
          exact ⟨_, _, _, rfl, Kd.R_lower (R_set5 HI5.out.hz HG5.out ne26_61 _ _ _ _ _) (below_size HB.out), Kd.R_lower (R_set5 HI5.out.hu HG5.out ne26_65 _ _ _ _ _) (below_size HB.out), Kd.R_lower (R_set5 HI5.out.hr HG5.out ne26_67 _ _ _ _ _) (below_size HB.out), below5_ (below_step HB.out HI5.out.hB) HG1.out _ _ _ _ _⟩
        · have H := H4.out
          have e : fin7 er9 at9 r c zs us gs = (er9, at9, 0, 0, [], [], []) := if_neg b2
          rw [e] at H
          simp only [Option.some.injEq, Prod.mk.injEq] at H
          obtain ⟨rfl, rfl, rfl, rfl, rfl, rfl, rfl⟩ := H
          clear H4 e
          go_wp2
          refine bodyPost_ret (results_ctt rfl _ _ g1 26 _ (0, 0) _ rfl (put5_ HG5.out _ _ _ _ _) hu rfl (by kernel_rfl)) rfl ?_
          exact ⟨_, _, _, rfl, Kd.R_nil _ _ _ _ _, Kd.R_nil _ _ _ _ _, Kd.R_nil _ _ _ _ _, below5_ (below_step HB.out HI5.out.hB) HG1.out _ _ _ _ _⟩
theorem policy_Parse.calls (k : Nat) (a0 : ByteArray) (e n r c : Int) (zs : List S61) (us : List S65) (gs : List S67) (w : World) (hT : Aside0 (Tab w)) (h : policy_Parse.f k a0 = some (e, n, r, c, zs, us, gs)) :
    Calls Tryd.prog 9 #[.string a0] w fun en w' => Ans7 w w' en e n r c zs us gs := by
  unfold policy_Parse.f at h
  by_cases hs : (a0.size : Int) > 4000
  · rw [if_pos hs] at h
    simp only [Option.some.injEq, Prod.mk.injEq] at h
    obtain ⟨rfl, rfl, rfl, rfl, rfl, rfl, rfl⟩ := h
    exact parse_long a0 w hs
  · rw [if_neg hs] at h
    exact parse_short k a0 e n r c zs us gs w hT hs h
end Go.Proofs.YtbboanfggaknjaaDoor.X
namespace Go.Proofs.YtbboanfggaknjaaDoor.X
open Go.RowKit Go.Proofs.YtbboanfggaknjaaDoorW.PrintWords Go.Proofs.YtbboanfggaknjaaDoorW.PrintLast Go.Proofs.YtbboanfggaknjaaDoorW.PrintMore
attribute [local go_sem] max2_int min2_int max_two min_two max_three min_three max_four min_four
set_option linter.unusedVariables false
set_option linter.unusedSimpArgs false
def IsS26 (w0 W : World) (g : Nat) (f0 : Int) (f1 : Int) (f2 : List (S61)) (f3 : List (S65)) (f4 : List (S67)) : Prop := ∃ A2 c2, ∃ A3 c3, ∃ A4 c4, W.heap[g]? = some (.cells #[.int .i64 f0, .int .i64 f1, .slice A2 f2.length c2, .slice A3 f3.length c3, .slice A4 f4.length c4] 26 (0, 0)) ∧ w0.heap.size ≤ g ∧ Kd.C k61 w0 A2 f2.length f2 ∧ Kd.C k65 w0 A3 f3.length f3 ∧ Kd.C k67 w0 A4 f4.length f4
theorem IsS26.grown {w0 W : World} {g : Nat} {f0 : Int} {f1 : Int} {f2 : List (S61)} {f3 : List (S65)} {f4 : List (S67)} {W1 : World} {row : Option Nat} (h : IsS26 w0 W g f0 f1 f2 f3 f4) (hw : W.grownBy W1 row) (hne : some g ≠ row) : IsS26 w0 W1 g f0 f1 f2 f3 f4 := by
 obtain ⟨A2, c2, A3, c3, A4, c4, hb, hg, hr2, hr3, hr4⟩ := h
 exact ⟨A2, c2, A3, c3, A4, c4, blk_grown hb hw hne, hg, hr2, hr3, hr4⟩
theorem IsS26.kept {w0 W : World} {g : Nat} {f0 : Int} {f1 : Int} {f2 : List (S61)} {f3 : List (S65)} {f4 : List (S67)} {W1 : World} {S : Nat → Prop} (h : IsS26 w0 W g f0 f1 f2 f3 f4) (hk : Kept W W1 S) (hne : ¬ S g) : IsS26 w0 W1 g f0 f1 f2 f3 f4 := by
 obtain ⟨A2, c2, A3, c3, A4, c4, hb, hg, hr2, hr3, hr4⟩ := h
 exact ⟨A2, c2, A3, c3, A4, c4, blk_kept hb hk hne, hg, hr2, hr3, hr4⟩
theorem IsS26.below {w0 W : World} {g : Nat} {f0 : Int} {f1 : Int} {f2 : List (S61)} {f3 : List (S65)} {f4 : List (S67)} {W1 : World} (h : IsS26 w0 W g f0 f1 f2 f3 f4) (hw : Below W.heap.size W W1) : IsS26 w0 W1 g f0 f1 f2 f3 f4 := h.grown (grown_of_below hw none) (by simp)
theorem IsS26.alloc {w0 W : World} {g : Nat} {f0 : Int} {f1 : Int} {f2 : List (S61)} {f3 : List (S65)} {f4 : List (S67)} (h : IsS26 w0 W g f0 f1 f2 f3 f4) (o : Obj) : IsS26 w0 (W.alloc o) g f0 f1 f2 f3 f4 := h.below (below_alloc (Below.refl _ _) o)
theorem IsS26.drewN {w0 W : World} {g : Nat} {f0 : Int} {f1 : Int} {f2 : List (S61)} {f3 : List (S65)} {f4 : List (S67)} (h : IsS26 w0 W g f0 f1 f2 f3 f4) (m : Nat) : IsS26 w0 (W.drewN m) g f0 f1 f2 f3 f4 := h
theorem IsS26.drew {w0 W : World} {g : Nat} {f0 : Int} {f1 : Int} {f2 : List (S61)} {f3 : List (S65)} {f4 : List (S67)} (h : IsS26 w0 W g f0 f1 f2 f3 f4) : IsS26 w0 W.drew g f0 f1 f2 f3 f4 := h
theorem IsS26.at_ {w0 W : World} {g : Nat} {f0 : Int} {f1 : Int} {f2 : List (S61)} {f3 : List (S65)} {f4 : List (S67)} {w' : World} {m : Nat} (hq : W.drewN m = w') (h : IsS26 w0 W g f0 f1 f2 f3 f4) : IsS26 w0 w' g f0 f1 f2 f3 f4 := by subst hq; exact IsS26.drewN h m
theorem IsS26.apart {w0 W : World} {g : Nat} {f0 : Int} {f1 : Int} {f2 : List (S61)} {f3 : List (S65)} {f4 : List (S67)} {α : Type} {d : Kd α} {e : Nat} {base : Nat} {ok : Nat → Prop} {v : Value} {xs : List α} (h : IsS26 w0 W g f0 f1 f2 f3 f4) (ho : d.R e W base ok v xs) (ht : ∀ q, q ∈ e :: d.E → q ≠ 26) : d.R e W base (fun k => ok k ∧ k ≠ g) v xs := by
 obtain ⟨A2, c2, A3, c3, A4, c4, hb, hg, hr2, hr3, hr4⟩ := h
 exact Kd.R_types ho hb ht
def policy_In.f (a0_0 : Int) (a0_1 : Int) (l0_2 : List (S61)) (l0_3 : List (S65)) (l0_4 : List (S67)) (a1_0 : Int) (a1_1 : Int) : Option (Bool) := if a1_0 ≥ 0 then (if a1_0 < a0_0 then (if a1_1 ≥ 0 then (some (decide (a1_1 < a0_1))) else (some false)) else (some false)) else (some false)
set_option maxHeartbeats 8000000 in
set_option maxRecDepth 100000 in
theorem policy_In.calls (a0_0 : Int) (a0_1 : Int) (A0_2 : Option Addr) (c0_2 : Nat) (l0_2 : List (S61)) (A0_3 : Option Addr) (c0_3 : Nat) (l0_3 : List (S65)) (A0_4 : Option Addr) (c0_4 : Nat) (l0_4 : List (S67)) (a1_0 : Int) (a1_1 : Int) (r : Bool) (w : World) (hr0_2 : Kd.C k61 w A0_2 l0_2.length l0_2) (hc0_2 : l0_2.length ≤ c0_2) (hr0_3 : Kd.C k65 w A0_3 l0_3.length l0_3) (hc0_3 : l0_3.length ≤ c0_3) (hr0_4 : Kd.C k67 w A0_4 l0_4.length l0_4) (hc0_4 : l0_4.length ≤ c0_4) (h : policy_In.f a0_0 a0_1 l0_2 l0_3 l0_4 a1_0 a1_1 = some r) :
  Calls Tryd.prog 13 #[.agg #[.int .i64 a0_0, .int .i64 a0_1, .slice A0_2 l0_2.length c0_2, .slice A0_3 l0_3.length c0_3, .slice A0_4 l0_4.length c0_4], .agg #[.int .i64 a1_0, .int .i64 a1_1]] w fun e w' => e = .returned (.bool r) ∧ Below w.heap.size w w' := by
 have hu26 := Tryd.underlying26; have hu38 := Tryd.underlying38; have HR0_2 := Aside0.mk hr0_2; have HC0_2 := Aside0.mk hc0_2; clear hr0_2 hc0_2; have HR0_3 := Aside0.mk hr0_3; have HC0_3 := Aside0.mk hc0_3; clear hr0_3 hc0_3; have HR0_4 := Aside0.mk hr0_4; have HC0_4 := Aside0.mk hc0_4; clear hr0_4 hc0_4; have HB := Aside0.mk (Below.refl w.heap.size w)
 have H : (if a1_0 ≥ 0 then (if a1_0 < a0_0 then (if a1_1 ≥ 0 then (some (decide (a1_1 < a0_1))) else (some false)) else (some false)) else (some false)) = some r := h
 clear h
 by_cases c3 : a1_0 ≥ 0
 ·rw [if_pos c3] at H; have c3b0 : decide (0 ≤ a1_0) = true := decide_eq_true c3; clear c3
  by_cases c4 : a1_0 < a0_0
  ·rw [if_pos c4] at H; have c4b0 : decide (a1_0 < a0_0) = true := decide_eq_true c4; clear c4
   by_cases c5 : a1_1 ≥ 0
   ·rw [if_pos c5] at H; have c5b0 : decide (0 ≤ a1_1) = true := decide_eq_true c5; clear c5; obtain rfl := Option.some.inj H
    go_enter Tryd.func13, Tryd.ntmps13
    go_wp2_with (first | ((with_reducible refine gate_dst (N:=2) rfl ?_); refine be_ (N:=2) (cs := #[.int .i64 a0_0, .int .i64 a0_1, .slice A0_2 l0_2.length c0_2, .slice A0_3 l0_3.length c0_3, .slice A0_4 l0_4.length c0_4]) (t:=26) ?_; intro gb101 hg w6 hbox hb; have BK101 := Aside0.mk (hbox); replace HB := bs_ HB hb; clear hb hbox hg) | ((with_reducible refine gate_dst (N:=3) rfl ?_); refine be_ (N:=3) (cs := #[.int .i64 a1_0, .int .i64 a1_1]) (t:=38) ?_; intro gb102 hg w7 hbox hb; have BK102 := Aside0.mk (hbox); replace BK101 := bb_ BK101 hb; replace HB := bs_ HB hb; clear hb hbox hg; have hcz8_0 : w7.cell? ⟨gb102, 0, none⟩ = some (.int .i64 a1_0) := bc_ BK102 0 rfl; have hcz8_1 : w7.cell? ⟨gb102, 1, none⟩ = some (.int .i64 a1_1) := bc_ BK102 1 rfl; have hcz9_0 : w7.cell? ⟨gb101, 0, none⟩ = some (.int .i64 a0_0) := bc_ BK101 0 rfl; have hcz9_1 : w7.cell? ⟨gb101, 1, none⟩ = some (.int .i64 a0_1) := bc_ BK101 1 rfl; have hcz9_2 : w7.cell? ⟨gb101, 2, none⟩ = some (.slice A0_2 l0_2.length c0_2) := bc_ BK101 2 rfl; have hcz9_3 : w7.cell? ⟨gb101, 3, none⟩ = some (.slice A0_3 l0_3.length c0_3) := bc_ BK101 3 rfl; have hcz9_4 : w7.cell? ⟨gb101, 4, none⟩ = some (.slice A0_4 l0_4.length c0_4) := bc_ BK101 4 rfl))
    go_ret
    exact ⟨by first | rfl | (simp [errW_none, errW_some] <;> rfl) | (simp [*, errW_none, errW_some] <;> rfl), pbx HB⟩
   ·rw [if_neg c5] at H; have c5b0 : decide (0 ≤ a1_1) = false := decide_eq_false c5; clear c5; obtain rfl := Option.some.inj H
    go_enter Tryd.func13, Tryd.ntmps13
    go_wp2_with (first | ((with_reducible refine gate_dst (N:=2) rfl ?_); refine be_ (N:=2) (cs := #[.int .i64 a0_0, .int .i64 a0_1, .slice A0_2 l0_2.length c0_2, .slice A0_3 l0_3.length c0_3, .slice A0_4 l0_4.length c0_4]) (t:=26) ?_; intro gb101 hg w10 hbox hb; have BK101 := Aside0.mk (hbox); replace HB := bs_ HB hb; clear hb hbox hg) | ((with_reducible refine gate_dst (N:=3) rfl ?_); refine be_ (N:=3) (cs := #[.int .i64 a1_0, .int .i64 a1_1]) (t:=38) ?_; intro gb102 hg w11 hbox hb; have BK102 := Aside0.mk (hbox); replace BK101 := bb_ BK101 hb; replace HB := bs_ HB hb; clear hb hbox hg; have hcz12_0 : w11.cell? ⟨gb102, 0, none⟩ = some (.int .i64 a1_0) := bc_ BK102 0 rfl; have hcz12_1 : w11.cell? ⟨gb102, 1, none⟩ = some (.int .i64 a1_1) := bc_ BK102 1 rfl; have hcz13_0 : w11.cell? ⟨gb101, 0, none⟩ = some (.int .i64 a0_0) := bc_ BK101 0 rfl; have hcz13_1 : w11.cell? ⟨gb101, 1, none⟩ = some (.int .i64 a0_1) := bc_ BK101 1 rfl; have hcz13_2 : w11.cell? ⟨gb101, 2, none⟩ = some (.slice A0_2 l0_2.length c0_2) := bc_ BK101 2 rfl; have hcz13_3 : w11.cell? ⟨gb101, 3, none⟩ = some (.slice A0_3 l0_3.length c0_3) := bc_ BK101 3 rfl; have hcz13_4 : w11.cell? ⟨gb101, 4, none⟩ = some (.slice A0_4 l0_4.length c0_4) := bc_ BK101 4 rfl))
    go_ret
    exact ⟨by first | rfl | (simp [errW_none, errW_some] <;> rfl) | (simp [*, errW_none, errW_some] <;> rfl), pbx HB⟩
  ·rw [if_neg c4] at H; have c4b0 : decide (a1_0 < a0_0) = false := decide_eq_false c4; clear c4; obtain rfl := Option.some.inj H
   go_enter Tryd.func13, Tryd.ntmps13
   go_wp2_with (first | ((with_reducible refine gate_dst (N:=2) rfl ?_); refine be_ (N:=2) (cs := #[.int .i64 a0_0, .int .i64 a0_1, .slice A0_2 l0_2.length c0_2, .slice A0_3 l0_3.length c0_3, .slice A0_4 l0_4.length c0_4]) (t:=26) ?_; intro gb101 hg w14 hbox hb; have BK101 := Aside0.mk (hbox); replace HB := bs_ HB hb; clear hb hbox hg) | ((with_reducible refine gate_dst (N:=3) rfl ?_); refine be_ (N:=3) (cs := #[.int .i64 a1_0, .int .i64 a1_1]) (t:=38) ?_; intro gb102 hg w15 hbox hb; have BK102 := Aside0.mk (hbox); replace BK101 := bb_ BK101 hb; replace HB := bs_ HB hb; clear hb hbox hg; have hcz16_0 : w15.cell? ⟨gb102, 0, none⟩ = some (.int .i64 a1_0) := bc_ BK102 0 rfl; have hcz16_1 : w15.cell? ⟨gb102, 1, none⟩ = some (.int .i64 a1_1) := bc_ BK102 1 rfl; have hcz17_0 : w15.cell? ⟨gb101, 0, none⟩ = some (.int .i64 a0_0) := bc_ BK101 0 rfl; have hcz17_1 : w15.cell? ⟨gb101, 1, none⟩ = some (.int .i64 a0_1) := bc_ BK101 1 rfl; have hcz17_2 : w15.cell? ⟨gb101, 2, none⟩ = some (.slice A0_2 l0_2.length c0_2) := bc_ BK101 2 rfl; have hcz17_3 : w15.cell? ⟨gb101, 3, none⟩ = some (.slice A0_3 l0_3.length c0_3) := bc_ BK101 3 rfl; have hcz17_4 : w15.cell? ⟨gb101, 4, none⟩ = some (.slice A0_4 l0_4.length c0_4) := bc_ BK101 4 rfl))
   go_ret
   exact ⟨by first | rfl | (simp [errW_none, errW_some] <;> rfl) | (simp [*, errW_none, errW_some] <;> rfl), pbx HB⟩
 ·rw [if_neg c3] at H; have c3b0 : decide (0 ≤ a1_0) = false := decide_eq_false c3; clear c3; obtain rfl := Option.some.inj H
  go_enter Tryd.func13, Tryd.ntmps13
  go_wp2_with (first | ((with_reducible refine gate_dst (N:=2) rfl ?_); refine be_ (N:=2) (cs := #[.int .i64 a0_0, .int .i64 a0_1, .slice A0_2 l0_2.length c0_2, .slice A0_3 l0_3.length c0_3, .slice A0_4 l0_4.length c0_4]) (t:=26) ?_; intro gb101 hg w18 hbox hb; have BK101 := Aside0.mk (hbox); replace HB := bs_ HB hb; clear hb hbox hg) | ((with_reducible refine gate_dst (N:=3) rfl ?_); refine be_ (N:=3) (cs := #[.int .i64 a1_0, .int .i64 a1_1]) (t:=38) ?_; intro gb102 hg w19 hbox hb; have BK102 := Aside0.mk (hbox); replace BK101 := bb_ BK101 hb; replace HB := bs_ HB hb; clear hb hbox hg; have hcz20_0 : w19.cell? ⟨gb102, 0, none⟩ = some (.int .i64 a1_0) := bc_ BK102 0 rfl; have hcz20_1 : w19.cell? ⟨gb102, 1, none⟩ = some (.int .i64 a1_1) := bc_ BK102 1 rfl))
  go_ret
  exact ⟨by first | rfl | (simp [errW_none, errW_some] <;> rfl) | (simp [*, errW_none, errW_some] <;> rfl), pbx HB⟩

end Go.Proofs.YtbboanfggaknjaaDoor.X
/- The law's own 'alive': a policy of four lines is read, one whose lines stand in a wrong order is not. -/
set_option linter.unusedVariables false
set_option linter.unusedSimpArgs false
namespace Go.Proofs.YtbboanfggaknjaaDoor.X
open Go.RowKit Go.Proofs.YtbboanfggaknjaaDoorW.PrintWords Go.Proofs.YtbboanfggaknjaaDoorW.PrintLast Go.Proofs.YtbboanfggaknjaaDoorW.PrintMore
abbrev al7a : ByteArray := ⟨#[103, 114, 105, 100, 32, 53, 32, 52, 10, 122, 111, 110, 101, 32, 65, 49, 58, 66, 50, 32, 50, 58, 48, 10, 117, 115, 101, 114, 32, 97, 110, 110, 32, 116, 111, 112, 10, 103, 114, 97, 110, 116, 32, 97, 110, 110, 32, 51, 32, 49, 10]⟩
abbrev al7b : ByteArray := ⟨#[103, 114, 105, 100, 32, 53, 32, 52, 10, 117, 115, 101, 114, 32, 97, 110, 110, 32, 49, 10, 122, 111, 110, 101, 32, 65, 49, 32, 49, 10]⟩
theorem al7a_ : (policy_Parse.f 60 al7a).map (fun q => (q.1, q.2.1, q.2.2.1, q.2.2.2.1, q.2.2.2.2.1.length, q.2.2.2.2.2.2.length)) = some (0, 0, 5, 4, 1, 1) := by decide +kernel
theorem al7b_ : (policy_Parse.f 60 al7b).map (fun q => (q.1, q.2.1)) = some (1, 3) := by decide +kernel
def oculuslaw07_alive.f (k : Nat) : Option Bool := some true
set_option maxHeartbeats 4000000 in
set_option maxRecDepth 100000 in
theorem oculuslaw07_alive.calls (k : Nat) (r : Bool) (w : World) (hT : Aside0 (Tab w)) (h : oculuslaw07_alive.f k = some r) :
    Calls Tryd.prog 6 #[] w fun e w' => e = .returned (.bool r) ∧ Below w.heap.size w w' := by
  obtain rfl := Option.some.inj h
  clear h
  have hu := Tryd.underlying26
  obtain ⟨⟨e1, n1, r1, c1, zs, us, gs⟩, A1, A2⟩ := Option.map_eq_some_iff.mp al7a_
  simp only [Prod.mk.injEq] at A2
  obtain ⟨rfl, rfl, rfl, rfl, lz, lg⟩ := A2
  obtain ⟨⟨e2, n2, r2, c2, zs2, us2, gs2⟩, B1, B2⟩ := Option.map_eq_some_iff.mp al7b_
  simp only [Prod.mk.injEq] at B2
  obtain ⟨rfl, rfl⟩ := B2
  have HA := Aside0.mk A1
  have HB1 := Aside0.mk B1
  have LZ := Aside0.mk lz
  have LG := Aside0.mk lg
  clear A1 B1 lz lg
  go_enter Tryd.func6, Tryd.ntmps6
  go_upto_region 2 with (first
    | (go_at_call 9; (with_reducible refine (policy_Parse.calls 60 al7a 0 0 5 4 zs us gs _ hT HA.out).mono ?_); rintro e w5 ⟨vz, vu, vg, rfl, hz, hu, hg, hb⟩; obtain ⟨Az, cz, rfl⟩ := Kd.R_slice hz; obtain ⟨Au, cu, rfl⟩ := Kd.R_slice hu; obtain ⟨Ag, cg, rfl⟩ := Kd.R_slice hg; have HZ := Aside0.mk hz; have HU := Aside0.mk hu; have HG := Aside0.mk hg; have HB := Aside0.mk hb; have HT5 := tb_ hb hT; clear hz hu hg hb))
  have HP := Aside0.mk (blk_new w5 (.cells #[.int .i64 5, .int .i64 4, .slice Az zs.length cz, .slice Au us.length cu, .slice Ag gs.length cg] 26))
  have hb6 := new_below w5 (.cells #[.int .i64 5, .int .i64 4, .slice Az zs.length cz, .slice Au us.length cu, .slice Ag gs.length cg] 26)
  replace HT5 := tb_ hb6 HT5
  replace HZ := Aside0.mk (Kd.R_below HZ.out hb6)
  replace HU := Aside0.mk (Kd.R_below HU.out hb6)
  replace HG := Aside0.mk (Kd.R_below HG.out hb6)
  replace HB := Aside0.mk (below_step HB.out hb6)
  clear hb6
  generalize w5.alloc (.cells #[.int .i64 5, .int .i64 4, .slice Az zs.length cz, .slice Au us.length cu, .slice Ag gs.length cg] 26) = w6 at HP HT5 HZ HU HG HB ⊢
  generalize w5.heap.size = g at HP ⊢
  go_upto_region 3 with (first
    | (go_at_call 9; (with_reducible refine (policy_Parse.calls 60 al7b 1 3 r2 c2 zs2 us2 gs2 _ HT5 HB1.out).mono ?_); rintro e w7 ⟨vz2, vu2, vg2, rfl, hz, hu, hg, hb⟩; obtain ⟨Az2, cz2, rfl⟩ := Kd.R_slice hz; obtain ⟨Au2, cu2, rfl⟩ := Kd.R_slice hu; obtain ⟨Ag2, cg2, rfl⟩ := Kd.R_slice hg; replace HP := Aside0.mk (blk_below HP.out hb); replace HZ := Aside0.mk (Kd.R_below HZ.out hb); replace HU := Aside0.mk (Kd.R_below HU.out hb); replace HG := Aside0.mk (Kd.R_below HG.out hb); replace HB := Aside0.mk (below_step HB.out hb); clear hz hu hg hb))
  have hb6 := new_below w7 (.cells #[.int .i64 r2, .int .i64 c2, .slice Az2 zs2.length cz2, .slice Au2 us2.length cu2, .slice Ag2 gs2.length cg2] 26)
  replace HP := Aside0.mk (blk_below HP.out hb6)
  replace HZ := Aside0.mk (Kd.R_reads' (Kd.R_below HZ.out hb6)).2
  replace HU := Aside0.mk (Kd.R_reads' (Kd.R_below HU.out hb6)).2
  replace HG := Aside0.mk (Kd.R_reads' (Kd.R_below HG.out hb6)).2
  replace HB := Aside0.mk (below_step HB.out hb6)
  clear hb6
  generalize w7.alloc (.cells #[.int .i64 r2, .int .i64 c2, .slice Az2 zs2.length cz2, .slice Au2 us2.length cu2, .slice Ag2 gs2.length cg2] 26) = w8 at HP HZ HU HG HB ⊢
  clear HT5 HA HB1
  obtain ⟨y0, y1, y2, y3, y4⟩ := cells5_ HP.out
  have lz := LZ.out
  have lg := LG.out
  have dz : (((zs.length : Nat) : Int) == 1) = true := by rw [lz]; rfl
  have dg : (((gs.length : Nat) : Int) == 1) = true := by rw [lg]; rfl
  clear lz lg
  go_wp2_with (first
    | (go_at_call 13; (with_reducible refine (policy_In.calls 5 4 Az cz zs Au cu us Ag cg gs 4 3 true _ HZ.out.2 HZ.out.1 HU.out.2 HU.out.1 HG.out.2 HG.out.1 rfl).mono ?_); rintro e w9 ⟨rfl, hb⟩; replace HP := Aside0.mk (blk_below HP.out hb); replace HZ := Aside0.mk (And.intro HZ.out.1 (Kd.C_below HZ.out.2 hb)); replace HU := Aside0.mk (And.intro HU.out.1 (Kd.C_below HU.out.2 hb)); replace HG := Aside0.mk (And.intro HG.out.1 (Kd.C_below HG.out.2 hb)); replace HB := Aside0.mk (below_step HB.out hb); clear hb; clear y0 y1 y2 y3 y4; obtain ⟨y0, y1, y2, y3, y4⟩ := cells5_ HP.out)
    | (go_at_call 13; (with_reducible refine (policy_In.calls 5 4 Az cz zs Au cu us Ag cg gs 4 4 false _ HZ.out.2 HZ.out.1 HU.out.2 HU.out.1 HG.out.2 HG.out.1 rfl).mono ?_); rintro e w10 ⟨rfl, hb⟩; replace HB := Aside0.mk (below_step HB.out hb); clear hb))
  go_ret
  exact ⟨rfl, HB.out⟩
end Go.Proofs.YtbboanfggaknjaaDoor.X
namespace Go.Proofs.YtbboanfggaknjaaDoor.X
open Go.RowKit Go.Proofs.YtbboanfggaknjaaDoorW.PrintWords Go.Proofs.YtbboanfggaknjaaDoorW.PrintLast Go.Proofs.YtbboanfggaknjaaDoorW.PrintMore
attribute [local go_sem] max2_int min2_int max_two min_two max_three min_three max_four min_four
set_option linter.unusedVariables false
set_option linter.unusedSimpArgs false
def oculuslaw07_small.f (a0_0 : Int) (a0_1 : Int) (l0_2 : List (S61)) (l0_3 : List (S65)) (l0_4 : List (S67)) : Option (Bool) := if (l0_2.length : Int) ≤ 50 then (if (l0_3.length : Int) ≤ 30 then (some (decide ((l0_4.length : Int) ≤ 50))) else (some false)) else (some false)
set_option maxHeartbeats 8000000 in
set_option maxRecDepth 100000 in
theorem oculuslaw07_small.calls (a0_0 : Int) (a0_1 : Int) (A0_2 : Option Addr) (c0_2 : Nat) (l0_2 : List (S61)) (A0_3 : Option Addr) (c0_3 : Nat) (l0_3 : List (S65)) (A0_4 : Option Addr) (c0_4 : Nat) (l0_4 : List (S67)) (r : Bool) (w : World) (hr0_2 : Kd.C k61 w A0_2 l0_2.length l0_2) (hc0_2 : l0_2.length ≤ c0_2) (hr0_3 : Kd.C k65 w A0_3 l0_3.length l0_3) (hc0_3 : l0_3.length ≤ c0_3) (hr0_4 : Kd.C k67 w A0_4 l0_4.length l0_4) (hc0_4 : l0_4.length ≤ c0_4) (h : oculuslaw07_small.f a0_0 a0_1 l0_2 l0_3 l0_4 = some r) :
  Calls Tryd.prog 5 #[.agg #[.int .i64 a0_0, .int .i64 a0_1, .slice A0_2 l0_2.length c0_2, .slice A0_3 l0_3.length c0_3, .slice A0_4 l0_4.length c0_4]] w fun e w' => e = .returned (.bool r) ∧ Below w.heap.size w w' := by
 have hu26 := Tryd.underlying26; have HR0_2 := Aside0.mk hr0_2; have HC0_2 := Aside0.mk hc0_2; clear hr0_2 hc0_2; have HR0_3 := Aside0.mk hr0_3; have HC0_3 := Aside0.mk hc0_3; clear hr0_3 hc0_3; have HR0_4 := Aside0.mk hr0_4; have HC0_4 := Aside0.mk hc0_4; clear hr0_4 hc0_4; have HB := Aside0.mk (Below.refl w.heap.size w)
 have H : (if (l0_2.length : Int) ≤ 50 then (if (l0_3.length : Int) ≤ 30 then (some (decide ((l0_4.length : Int) ≤ 50))) else (some false)) else (some false)) = some r := h
 clear h
 by_cases c2 : (l0_2.length : Int) ≤ 50
 ·rw [if_pos c2] at H; have c2b0 : decide ((l0_2.length : Int) ≤ 50) = true := decide_eq_true c2; have c2b1 : decide (l0_2.length ≤ 50) = true := decide_eq_true (by omega); clear c2
  by_cases c3 : (l0_3.length : Int) ≤ 30
  ·rw [if_pos c3] at H; have c3b0 : decide ((l0_3.length : Int) ≤ 30) = true := decide_eq_true c3; have c3b1 : decide (l0_3.length ≤ 30) = true := decide_eq_true (by omega); clear c3; obtain rfl := Option.some.inj H
   go_enter Tryd.func5, Tryd.ntmps5
   go_wp2_with (first | ((with_reducible refine gate_dst (N:=1) rfl ?_); (try (refine gate_guard (by rfl) ?_; dsimp only)); refine be_ (N:=1) (cs := #[.int .i64 a0_0, .int .i64 a0_1, .slice A0_2 l0_2.length c0_2, .slice A0_3 l0_3.length c0_3, .slice A0_4 l0_4.length c0_4]) (t:=26) ?_; intro gb101 hg w4 hbox hb; have BK101 := Aside0.mk (hbox); replace HB := bs_ HB hb; clear hb hbox hg; have hcz5_0 : w4.cell? ⟨gb101, 0, none⟩ = some (.int .i64 a0_0) := bc_ BK101 0 rfl; have hcz5_1 : w4.cell? ⟨gb101, 1, none⟩ = some (.int .i64 a0_1) := bc_ BK101 1 rfl; have hcz5_2 : w4.cell? ⟨gb101, 2, none⟩ = some (.slice A0_2 l0_2.length c0_2) := bc_ BK101 2 rfl; have hcz5_3 : w4.cell? ⟨gb101, 3, none⟩ = some (.slice A0_3 l0_3.length c0_3) := bc_ BK101 3 rfl; have hcz5_4 : w4.cell? ⟨gb101, 4, none⟩ = some (.slice A0_4 l0_4.length c0_4) := bc_ BK101 4 rfl))
   go_ret
   exact ⟨by first | rfl | (simp [errW_none, errW_some] <;> rfl) | (simp [*, errW_none, errW_some] <;> rfl), pbx HB⟩
  ·rw [if_neg c3] at H; have c3b0 : decide ((l0_3.length : Int) ≤ 30) = false := decide_eq_false c3; have c3b1 : decide (l0_3.length ≤ 30) = false := decide_eq_false (by omega); clear c3; obtain rfl := Option.some.inj H
   go_enter Tryd.func5, Tryd.ntmps5
   go_wp2_with (first | ((with_reducible refine gate_dst (N:=1) rfl ?_); (try (refine gate_guard (by rfl) ?_; dsimp only)); refine be_ (N:=1) (cs := #[.int .i64 a0_0, .int .i64 a0_1, .slice A0_2 l0_2.length c0_2, .slice A0_3 l0_3.length c0_3, .slice A0_4 l0_4.length c0_4]) (t:=26) ?_; intro gb101 hg w6 hbox hb; have BK101 := Aside0.mk (hbox); replace HB := bs_ HB hb; clear hb hbox hg; have hcz7_0 : w6.cell? ⟨gb101, 0, none⟩ = some (.int .i64 a0_0) := bc_ BK101 0 rfl; have hcz7_1 : w6.cell? ⟨gb101, 1, none⟩ = some (.int .i64 a0_1) := bc_ BK101 1 rfl; have hcz7_2 : w6.cell? ⟨gb101, 2, none⟩ = some (.slice A0_2 l0_2.length c0_2) := bc_ BK101 2 rfl; have hcz7_3 : w6.cell? ⟨gb101, 3, none⟩ = some (.slice A0_3 l0_3.length c0_3) := bc_ BK101 3 rfl; have hcz7_4 : w6.cell? ⟨gb101, 4, none⟩ = some (.slice A0_4 l0_4.length c0_4) := bc_ BK101 4 rfl))
   go_ret
   exact ⟨by first | rfl | (simp [errW_none, errW_some] <;> rfl) | (simp [*, errW_none, errW_some] <;> rfl), pbx HB⟩
 ·rw [if_neg c2] at H; have c2b0 : decide ((l0_2.length : Int) ≤ 50) = false := decide_eq_false c2; have c2b1 : decide (l0_2.length ≤ 50) = false := decide_eq_false (by omega); clear c2; obtain rfl := Option.some.inj H
  go_enter Tryd.func5, Tryd.ntmps5
  go_wp2_with (first | ((with_reducible refine gate_dst (N:=1) rfl ?_); (try (refine gate_guard (by rfl) ?_; dsimp only)); refine be_ (N:=1) (cs := #[.int .i64 a0_0, .int .i64 a0_1, .slice A0_2 l0_2.length c0_2, .slice A0_3 l0_3.length c0_3, .slice A0_4 l0_4.length c0_4]) (t:=26) ?_; intro gb101 hg w8 hbox hb; have BK101 := Aside0.mk (hbox); replace HB := bs_ HB hb; clear hb hbox hg; have hcz9_0 : w8.cell? ⟨gb101, 0, none⟩ = some (.int .i64 a0_0) := bc_ BK101 0 rfl; have hcz9_1 : w8.cell? ⟨gb101, 1, none⟩ = some (.int .i64 a0_1) := bc_ BK101 1 rfl; have hcz9_2 : w8.cell? ⟨gb101, 2, none⟩ = some (.slice A0_2 l0_2.length c0_2) := bc_ BK101 2 rfl; have hcz9_3 : w8.cell? ⟨gb101, 3, none⟩ = some (.slice A0_3 l0_3.length c0_3) := bc_ BK101 3 rfl; have hcz9_4 : w8.cell? ⟨gb101, 4, none⟩ = some (.slice A0_4 l0_4.length c0_4) := bc_ BK101 4 rfl))
  go_ret
  exact ⟨by first | rfl | (simp [errW_none, errW_some] <;> rfl) | (simp [*, errW_none, errW_some] <;> rfl), pbx HB⟩

def oculusref03_May.f (a0_0 : Int) (a0_1 : Int) : Option (Bool) := if a0_0 ≥ 0 then (if a0_0 ≤ 998 then (if a0_1 ≥ 0 then (some (decide (a0_1 ≤ 701))) else (some false)) else (some false)) else (some false)
set_option maxHeartbeats 8000000 in
set_option maxRecDepth 100000 in
theorem oculusref03_May.calls (a0_0 : Int) (a0_1 : Int) (r : Bool) (w : World) (h : oculusref03_May.f a0_0 a0_1 = some r) :
  Calls Tryd.prog 64 #[.agg #[.int .i64 a0_0, .int .i64 a0_1]] w fun e w' => e = .returned (.bool r) ∧ Below w.heap.size w w' := by
 have hu38 := Tryd.underlying38; have HB := Aside0.mk (Below.refl w.heap.size w)
 have H : (if a0_0 ≥ 0 then (if a0_0 ≤ 998 then (if a0_1 ≥ 0 then (some (decide (a0_1 ≤ 701))) else (some false)) else (some false)) else (some false)) = some r := h
 clear h
 by_cases c2 : a0_0 ≥ 0
 ·rw [if_pos c2] at H; have c2b0 : decide (0 ≤ a0_0) = true := decide_eq_true c2; clear c2
  by_cases c3 : a0_0 ≤ 998
  ·rw [if_pos c3] at H; have c3b0 : decide (a0_0 ≤ 998) = true := decide_eq_true c3; clear c3
   by_cases c4 : a0_1 ≥ 0
   ·rw [if_pos c4] at H; have c4b0 : decide (0 ≤ a0_1) = true := decide_eq_true c4; clear c4; obtain rfl := Option.some.inj H
    go_enter Tryd.func64, Tryd.ntmps64
    go_wp2_with (first | ((with_reducible refine gate_dst (N:=1) rfl ?_); refine be_ (N:=1) (cs := #[.int .i64 a0_0, .int .i64 a0_1]) (t:=38) ?_; intro gb101 hg w5 hbox hb; have BK101 := Aside0.mk (hbox); replace HB := bs_ HB hb; clear hb hbox hg; have hcz6_0 : w5.cell? ⟨gb101, 0, none⟩ = some (.int .i64 a0_0) := bc_ BK101 0 rfl; have hcz6_1 : w5.cell? ⟨gb101, 1, none⟩ = some (.int .i64 a0_1) := bc_ BK101 1 rfl))
    go_ret
    exact ⟨by first | rfl | (simp [errW_none, errW_some] <;> rfl) | (simp [*, errW_none, errW_some] <;> rfl), pbx HB⟩
   ·rw [if_neg c4] at H; have c4b0 : decide (0 ≤ a0_1) = false := decide_eq_false c4; clear c4; obtain rfl := Option.some.inj H
    go_enter Tryd.func64, Tryd.ntmps64
    go_wp2_with (first | ((with_reducible refine gate_dst (N:=1) rfl ?_); refine be_ (N:=1) (cs := #[.int .i64 a0_0, .int .i64 a0_1]) (t:=38) ?_; intro gb101 hg w7 hbox hb; have BK101 := Aside0.mk (hbox); replace HB := bs_ HB hb; clear hb hbox hg; have hcz8_0 : w7.cell? ⟨gb101, 0, none⟩ = some (.int .i64 a0_0) := bc_ BK101 0 rfl; have hcz8_1 : w7.cell? ⟨gb101, 1, none⟩ = some (.int .i64 a0_1) := bc_ BK101 1 rfl))
    go_ret
    exact ⟨by first | rfl | (simp [errW_none, errW_some] <;> rfl) | (simp [*, errW_none, errW_some] <;> rfl), pbx HB⟩
  ·rw [if_neg c3] at H; have c3b0 : decide (a0_0 ≤ 998) = false := decide_eq_false c3; clear c3; obtain rfl := Option.some.inj H
   go_enter Tryd.func64, Tryd.ntmps64
   go_wp2_with (first | ((with_reducible refine gate_dst (N:=1) rfl ?_); refine be_ (N:=1) (cs := #[.int .i64 a0_0, .int .i64 a0_1]) (t:=38) ?_; intro gb101 hg w9 hbox hb; have BK101 := Aside0.mk (hbox); replace HB := bs_ HB hb; clear hb hbox hg; have hcz10_0 : w9.cell? ⟨gb101, 0, none⟩ = some (.int .i64 a0_0) := bc_ BK101 0 rfl; have hcz10_1 : w9.cell? ⟨gb101, 1, none⟩ = some (.int .i64 a0_1) := bc_ BK101 1 rfl))
   go_ret
   exact ⟨by first | rfl | (simp [errW_none, errW_some] <;> rfl) | (simp [*, errW_none, errW_some] <;> rfl), pbx HB⟩
 ·rw [if_neg c2] at H; have c2b0 : decide (0 ≤ a0_0) = false := decide_eq_false c2; clear c2; obtain rfl := Option.some.inj H
  go_enter Tryd.func64, Tryd.ntmps64
  go_wp2_with (first | ((with_reducible refine gate_dst (N:=1) rfl ?_); refine be_ (N:=1) (cs := #[.int .i64 a0_0, .int .i64 a0_1]) (t:=38) ?_; intro gb101 hg w11 hbox hb; have BK101 := Aside0.mk (hbox); replace HB := bs_ HB hb; clear hb hbox hg; have hcz12_0 : w11.cell? ⟨gb101, 0, none⟩ = some (.int .i64 a0_0) := bc_ BK101 0 rfl; have hcz12_1 : w11.cell? ⟨gb101, 1, none⟩ = some (.int .i64 a0_1) := bc_ BK101 1 rfl))
  go_ret
  exact ⟨by first | rfl | (simp [errW_none, errW_some] <;> rfl) | (simp [*, errW_none, errW_some] <;> rfl), pbx HB⟩

def oculusref04_May.f (a0_0 : Int) (a0_1 : Int) (a0_2 : Int) (a0_3 : Int) : Option (Bool) := (oculusref03_May.f a0_0 a0_1).bind fun t102 => (if t102 = true then ((oculusref03_May.f a0_2 a0_3).bind fun t103 => (some t103)) else (some false))
set_option maxHeartbeats 8000000 in
set_option maxRecDepth 100000 in
theorem oculusref04_May.calls (a0_0 : Int) (a0_1 : Int) (a0_2 : Int) (a0_3 : Int) (r : Bool) (w : World) (h : oculusref04_May.f a0_0 a0_1 a0_2 a0_3 = some r) :
  Calls Tryd.prog 43 #[.agg #[.int .i64 a0_0, .int .i64 a0_1, .int .i64 a0_2, .int .i64 a0_3]] w fun e w' => e = .returned (.bool r) ∧ Below w.heap.size w w' := by
 have hu56 := Tryd.underlying56; have hu38 := Tryd.underlying38; have HB := Aside0.mk (Below.refl w.heap.size w)
 have H : ((oculusref03_May.f a0_0 a0_1).bind fun t102 => (if t102 = true then ((oculusref03_May.f a0_2 a0_3).bind fun t103 => (some t103)) else (some false))) = some r := h
 clear h; replace H := Option.bind_eq_some_iff.mp H; obtain ⟨t102, A20, H⟩ := H
 replace H : (if t102 = true then ((oculusref03_May.f a0_2 a0_3).bind fun t103 => (some t103)) else (some false)) = some r := H
 have A2 := Aside0.mk A20; clear A20
 by_cases c3 : t102 = true
 ·subst c3
  have H1 : ((oculusref03_May.f a0_2 a0_3).bind fun t103 => (some t103)) = some r := by rw [if_pos rfl] at H; exact H
  clear H; have H := H1; clear H1; replace H := Option.bind_eq_some_iff.mp H; obtain ⟨t103, A40, H⟩ := H
  replace H : (some t103) = some r := H
  have A4 := Aside0.mk A40; clear A40; obtain rfl := Option.some.inj H
  go_enter Tryd.func43, Tryd.ntmps43
  go_wp2_with (first | ((with_reducible refine gate_dst (N:=1) rfl ?_); refine be_ (N:=1) (cs := #[.int .i64 a0_0, .int .i64 a0_1, .int .i64 a0_2, .int .i64 a0_3]) (t:=56) ?_; intro gb101 hg w5 hbox hb; have BK101 := Aside0.mk (hbox); replace HB := bs_ HB hb; clear hb hbox hg; have hcz6_0 : w5.cell? ⟨gb101, 0, none⟩ = some (.int .i64 a0_0) := bc_ BK101 0 rfl; have hcz6_1 : w5.cell? ⟨gb101, 1, none⟩ = some (.int .i64 a0_1) := bc_ BK101 1 rfl; have hcz6_2 : w5.cell? ⟨gb101, 2, none⟩ = some (.int .i64 a0_2) := bc_ BK101 2 rfl; have hcz6_3 : w5.cell? ⟨gb101, 3, none⟩ = some (.int .i64 a0_3) := bc_ BK101 3 rfl) | ((with_reducible refine gate_callee (f:=64) rfl ?_); refine gL_ (some 5) rfl rfl Tryd.func64 rfl #[.agg #[.int .i64 a0_0, .int .i64 a0_1]] rfl ?_; (with_reducible refine (oculusref03_May.calls a0_0 a0_1 true _ A2.out).mono ?_); rintro e w7 ⟨rfl, hb⟩; refine ⟨_, rfl, ?_⟩; replace BK101 := bb_ BK101 hb; replace HB := bs_ HB hb; (try clear hb); (try clear hb2); (try clear hk); (try clear hi); have hcz8_0 : w7.cell? ⟨gb101, 0, none⟩ = some (.int .i64 a0_0) := bc_ BK101 0 rfl; have hcz8_1 : w7.cell? ⟨gb101, 1, none⟩ = some (.int .i64 a0_1) := bc_ BK101 1 rfl; have hcz8_2 : w7.cell? ⟨gb101, 2, none⟩ = some (.int .i64 a0_2) := bc_ BK101 2 rfl; have hcz8_3 : w7.cell? ⟨gb101, 3, none⟩ = some (.int .i64 a0_3) := bc_ BK101 3 rfl) | (go_at_call 64; (with_reducible refine (oculusref03_May.calls a0_2 a0_3 t103 _ A4.out).mono ?_); rintro e w9 ⟨rfl, hb⟩; replace BK101 := bb_ BK101 hb; replace HB := bs_ HB hb; (try clear hb); (try clear hb2); (try clear hk); (try clear hi)))
  go_ret
  exact ⟨by first | rfl | (simp [errW_none, errW_some] <;> rfl) | (simp [*, errW_none, errW_some] <;> rfl), pbx HB⟩
 ·replace c3 := Bool.eq_false_iff.mpr c3; subst c3
  have H1 : (some false) = some r := by rw [if_neg (show ¬ (false = true) by decide)] at H; exact H
  clear H; have H := H1; clear H1; obtain rfl := Option.some.inj H
  go_enter Tryd.func43, Tryd.ntmps43
  go_wp2_with (first | ((with_reducible refine gate_dst (N:=1) rfl ?_); refine be_ (N:=1) (cs := #[.int .i64 a0_0, .int .i64 a0_1, .int .i64 a0_2, .int .i64 a0_3]) (t:=56) ?_; intro gb101 hg w10 hbox hb; have BK101 := Aside0.mk (hbox); replace HB := bs_ HB hb; clear hb hbox hg; have hcz11_0 : w10.cell? ⟨gb101, 0, none⟩ = some (.int .i64 a0_0) := bc_ BK101 0 rfl; have hcz11_1 : w10.cell? ⟨gb101, 1, none⟩ = some (.int .i64 a0_1) := bc_ BK101 1 rfl; have hcz11_2 : w10.cell? ⟨gb101, 2, none⟩ = some (.int .i64 a0_2) := bc_ BK101 2 rfl; have hcz11_3 : w10.cell? ⟨gb101, 3, none⟩ = some (.int .i64 a0_3) := bc_ BK101 3 rfl) | ((with_reducible refine gate_callee (f:=64) rfl ?_); refine gL_ (some 5) rfl rfl Tryd.func64 rfl #[.agg #[.int .i64 a0_0, .int .i64 a0_1]] rfl ?_; (with_reducible refine (oculusref03_May.calls a0_0 a0_1 false _ A2.out).mono ?_); rintro e w12 ⟨rfl, hb⟩; refine ⟨_, rfl, ?_⟩; replace BK101 := bb_ BK101 hb; replace HB := bs_ HB hb; (try clear hb); (try clear hb2); (try clear hk); (try clear hi)))
  go_ret
  exact ⟨by first | rfl | (simp [errW_none, errW_some] <;> rfl) | (simp [*, errW_none, errW_some] <;> rfl), pbx HB⟩

mutual
def oculusref05_Wrong.l0 : Nat → List (S61) → Int → Int → Int → Option (Int × Int)
 | 0, _, _, _, _ => none
 | k + 1, x0, x1, x2, x7 => if x7 < (x0.length : Int) then (if 0 ≤ x7 then (if x7 > 31 then (some (x7, 10)) else ((oculusref04_May.f ((rd_T61 x0 x7).f0.f0.f0) ((rd_T61 x0 x7).f0.f0.f1) ((rd_T61 x0 x7).f0.f1.f0) ((rd_T61 x0 x7).f0.f1.f1)).bind fun t104 => (if t104 = true then (if ((rd_T61 x0 x7).f0.f0.f0) > ((rd_T61 x0 x7).f0.f1.f0) then (oculusref05_Wrong.j1 k x0 x1 x2 x7 true ((rd_T61 x0 x7).f0.f0.f0) ((rd_T61 x0 x7).f0.f0.f1) ((rd_T61 x0 x7).f0.f1.f0) ((rd_T61 x0 x7).f0.f1.f1) ((rd_T61 x0 x7).f1.f0) ((rd_T61 x0 x7).f1.f1)) else (oculusref05_Wrong.j1 k x0 x1 x2 x7 (decide (((rd_T61 x0 x7).f0.f0.f1) > ((rd_T61 x0 x7).f0.f1.f1))) ((rd_T61 x0 x7).f0.f0.f0) ((rd_T61 x0 x7).f0.f0.f1) ((rd_T61 x0 x7).f0.f1.f0) ((rd_T61 x0 x7).f0.f1.f1) ((rd_T61 x0 x7).f1.f0) ((rd_T61 x0 x7).f1.f1))) else (oculusref05_Wrong.j1 k x0 x1 x2 x7 true ((rd_T61 x0 x7).f0.f0.f0) ((rd_T61 x0 x7).f0.f0.f1) ((rd_T61 x0 x7).f0.f1.f0) ((rd_T61 x0 x7).f0.f1.f1) ((rd_T61 x0 x7).f1.f0) ((rd_T61 x0 x7).f1.f1))))) else (none)) else (some (0, 0))
def oculusref05_Wrong.j1 : Nat → List (S61) → Int → Int → Int → Bool → Int → Int → Int → Int → Int → Int → Option (Int × Int)
 | 0, _, _, _, _, _, _, _, _, _, _, _ => none
 | k + 1, x0, x1, x2, x7, x48, x104000, x104001, x104002, x104003, x104004, x104005 => if x48 = true then (some (x7, 1)) else (if x104002 ≥ x1 then (oculusref05_Wrong.j2 k x0 x1 x2 x7 true x104000 x104001 x104002 x104003 x104004 x104005) else (oculusref05_Wrong.j2 k x0 x1 x2 x7 (decide (x104003 ≥ x2)) x104000 x104001 x104002 x104003 x104004 x104005))
def oculusref05_Wrong.j2 : Nat → List (S61) → Int → Int → Int → Bool → Int → Int → Int → Int → Int → Int → Option (Int × Int)
 | 0, _, _, _, _, _, _, _, _, _, _, _ => none
 | k + 1, x0, x1, x2, x7, x64, x104000, x104001, x104002, x104003, x104004, x104005 => if x64 = true then (some (x7, 2)) else (if x104004 < 0 then (some (x7, 7)) else (if x104004 > 15 then (some (x7, 7)) else (oculusref05_Wrong.l0 k x0 x1 x2 (wrap64 (x7 + 1)))))
end
def oculusref05_Wrong.f (k : Nat) (l0 : List (S61)) (a1 : Int) (a2 : Int) : Option (Int × Int) := oculusref05_Wrong.l0 k l0 a1 a2 0
set_option maxHeartbeats 8000000 in
set_option maxRecDepth 100000 in
theorem oculusref05_Wrong.calls (k : Nat) (A0 : Option Addr) (c0 : Nat) (l0 : List (S61)) (a1 : Int) (a2 : Int) (r1 : Int) (r2 : Int) (w : World) (hr0 : Kd.C k61 w A0 l0.length l0) (hc0 : l0.length ≤ c0) (h : oculusref05_Wrong.f k l0 a1 a2 = some (r1, r2)) :
  Calls Tryd.prog 29 #[.slice A0 l0.length c0, .int .i64 a1, .int .i64 a2] w fun e w' => e = .returned (.agg #[.int .i64 r1, .int .i64 r2]) ∧ Below w.heap.size w w' := by
 have hu34 := Tryd.underlying34; have hu61 := Tryd.underlying61; have hu56 := Tryd.underlying56; have HR0 := Aside0.mk hr0; have HC0 := Aside0.mk hc0; clear hr0 hc0; have HB := Aside0.mk (Below.refl w.heap.size w)
 have H : (oculusref05_Wrong.l0 k l0 a1 a2 0) = some (r1, r2) := h
 clear h
 have H' := Aside0.mk H
 clear H
 go_enter Tryd.func29, Tryd.ntmps29
 go_wp2_with (first | ((with_reducible refine gate_dst (N:=6) rfl ?_); refine be_ (N:=6) (cs := #[.int .i64 0, .int .i64 0]) (t:=34) ?_; intro gb101 hg w4 hbox hb; have BK101 := Aside0.mk (hbox); have GW101 := hs_ HB hg; have GE101 := hs_ HB hg; replace HB := bs_ HB hb; clear hb hbox hg))
 go_loopg [7] k (fun kq v7 w' => ∃ (x7_1 : Int) (x102000_1 : Int) (x102001_1 : Int), v7 = .int .i64 x7_1 ∧ Aside0 (oculusref05_Wrong.l0 kq l0 a1 a2 x7_1 = some (r1, r2)) ∧ Aside0 (kq ≤ k) ∧ Aside0 (w'.heap[gb101]? = some (.cells #[.int .i64 x102000_1, .int .i64 x102001_1] 34 (0, 0))) ∧ Aside0 (Below w.heap.size w w'))
 case atStart => exact ⟨(0), (0), (0), (by first | rfl | (simp; done) | (simp [*]; done)), H', ⟨Nat.le_refl _⟩, ⟨pkx BK101⟩, ⟨pbx HB⟩⟩
 case round =>
  clear H'; (try clear c2); (try clear p2); obtain ⟨x7_1, x102000_1, x102001_1, rfl, HA, HK1, BK101, HB⟩ := hrel
  cases gk with
  | zero => exact absurd HA.out (by simp [oculusref05_Wrong.l0])
  | succ k1 =>
   have H := HA.out; clear HA
   simp only [oculusref05_Wrong.l0] at H
   by_cases c5 : x7_1 < (l0.length : Int)
   ·rw [if_pos c5] at H; have c5b0 : decide (x7_1 < (l0.length : Int)) = true := decide_eq_true c5; clear c5
    by_cases c6 : 0 ≤ x7_1
    ·rw [if_pos c6] at H; have c6b0 : decide (0 ≤ x7_1) = true := decide_eq_true c6; clear c6
     by_cases c7 : x7_1 > 31
     ·rw [if_pos c7] at H; have c7b0 : decide (31 < x7_1) = true := decide_eq_true c7; clear c7
      simp only [Option.some.injEq, Prod.mk.injEq] at H
      obtain ⟨rfl, rfl⟩ := H
      have p102 : 0 ≤ (x7_1 : Int) := of_decide_eq_true (by first | (with_reducible assumption) | assumption)
      have q102 : x7_1 < (l0.length : Int) := of_decide_eq_true (by first | (with_reducible assumption) | assumption)
      obtain ⟨ad102, e102, hx102_0, hx102_1, hx102_2, hx102_3, hx102_4, hx102_5⟩ := at_T61 HR0.out x7_1 p102 q102
      cases e102
      replace hx102_0 := (HB.out.cell (World.block_lt_of_cell? w _ hx102_0)).trans hx102_0; replace hx102_1 := (HB.out.cell (World.block_lt_of_cell? w _ hx102_1)).trans hx102_1; replace hx102_2 := (HB.out.cell (World.block_lt_of_cell? w _ hx102_2)).trans hx102_2; replace hx102_3 := (HB.out.cell (World.block_lt_of_cell? w _ hx102_3)).trans hx102_3; replace hx102_4 := (HB.out.cell (World.block_lt_of_cell? w _ hx102_4)).trans hx102_4; replace hx102_5 := (HB.out.cell (World.block_lt_of_cell? w _ hx102_5)).trans hx102_5; replace p102 := eq_true p102; replace q102 := eq_true q102
      go_wp2_with (first | ((with_reducible refine gate_dst (N:=8) rfl ?_); refine be_ (N:=8) (cs := #[.int .i64 0, .int .i64 0, .int .i64 0, .int .i64 0, .int .i64 0, .int .u64 0]) (t:=61) ?_; intro gb103 hg w8 hbox hb; have BK103 := Aside0.mk (hbox); have GW103 := hs_ HB hg; have GE103 := hs_ HB hg; have NB101_103 := hl_ BK101 hg; have NB103_101 := hr_ BK101 hg; replace BK101 := bb_ BK101 hb; replace HB := bs_ HB hb; clear hb hbox hg; have hnb9 := NB103_101.out; have hnc9 := NB101_103.out; have hcz10_0 : w8.cell? ⟨gb103, 0, none⟩ = some (.int .i64 0) := bc_ BK103 0 rfl; have hcz10_1 : w8.cell? ⟨gb103, 1, none⟩ = some (.int .i64 0) := bc_ BK103 1 rfl; have hcz10_2 : w8.cell? ⟨gb103, 2, none⟩ = some (.int .i64 0) := bc_ BK103 2 rfl; have hcz10_3 : w8.cell? ⟨gb103, 3, none⟩ = some (.int .i64 0) := bc_ BK103 3 rfl; have hcz10_4 : w8.cell? ⟨gb103, 4, none⟩ = some (.int .i64 0) := bc_ BK103 4 rfl; have hcz10_5 : w8.cell? ⟨gb103, 5, none⟩ = some (.int .u64 0) := bc_ BK103 5 rfl; have hfz10_0 := blk_frozen BK103.out 0; have hfz10_1 := blk_frozen BK103.out 1; have hfz10_2 := blk_frozen BK103.out 2; have hfz10_3 := blk_frozen BK103.out 3; have hfz10_4 := blk_frozen BK103.out 4; have hfz10_5 := blk_frozen BK103.out 5; have hcz11_0 : w8.cell? ⟨gb101, 0, none⟩ = some (.int .i64 x102000_1) := bc_ BK101 0 rfl; have hcz11_1 : w8.cell? ⟨gb101, 1, none⟩ = some (.int .i64 x102001_1) := bc_ BK101 1 rfl; have hfz11_0 := blk_frozen BK101.out 0; have hfz11_1 := blk_frozen BK101.out 1))
      refine bodyPost_ret (results_cell_row rfl _ _ gb101 34 #[.int .i64 x7_1, .int .i64 10] (0, 0) _ rfl (by refine pp_ (cs := #[.int .i64 x7_1, .int .i64 x102001_1]) 1 ?_ rfl; refine blk_put (cs := #[.int .i64 x102000_1, .int .i64 x102001_1]) ?_ 0 _ rfl; refine pf_ ?_ NB101_103.out; refine blk_far ?_ NB101_103.out _; refine blk_far ?_ NB101_103.out _; refine blk_far ?_ NB101_103.out _; refine blk_far ?_ NB101_103.out _; refine blk_far ?_ NB101_103.out _; exact pkx BK101) Tryd.underlying34 rfl (by kernel_rfl)) rfl ?_
      exact ⟨by first | rfl | (simp [errW_none, errW_some] <;> rfl) | (simp [*, errW_none, errW_some] <;> rfl), by repeat (first | (with_reducible first | exact HB.out | apply below_alloc | apply pw_below_drewN | apply below_drew1 | refine below_set ?_ GE101.out | refine below_set ?_ GE103.out) | exact HB.out)⟩
     ·rw [if_neg c7] at H; have c7b0 : decide (31 < x7_1) = false := decide_eq_false c7; clear c7; have HC12 := Aside0.mk H; clear H
      have p102 : 0 ≤ (x7_1 : Int) := of_decide_eq_true (by first | (with_reducible assumption) | assumption)
      have q102 : x7_1 < (l0.length : Int) := of_decide_eq_true (by first | (with_reducible assumption) | assumption)
      obtain ⟨ad102, e102, hx102_0, hx102_1, hx102_2, hx102_3, hx102_4, hx102_5⟩ := at_T61 HR0.out x7_1 p102 q102
      cases e102
      replace hx102_0 := (HB.out.cell (World.block_lt_of_cell? w _ hx102_0)).trans hx102_0; replace hx102_1 := (HB.out.cell (World.block_lt_of_cell? w _ hx102_1)).trans hx102_1; replace hx102_2 := (HB.out.cell (World.block_lt_of_cell? w _ hx102_2)).trans hx102_2; replace hx102_3 := (HB.out.cell (World.block_lt_of_cell? w _ hx102_3)).trans hx102_3; replace hx102_4 := (HB.out.cell (World.block_lt_of_cell? w _ hx102_4)).trans hx102_4; replace hx102_5 := (HB.out.cell (World.block_lt_of_cell? w _ hx102_5)).trans hx102_5; replace p102 := eq_true p102; replace q102 := eq_true q102
      go_upto_region 7 with (first | ((with_reducible refine gate_dst (N:=8) rfl ?_); refine be_ (N:=8) (cs := #[.int .i64 0, .int .i64 0, .int .i64 0, .int .i64 0, .int .i64 0, .int .u64 0]) (t:=61) ?_; intro gb103 hg w13 hbox hb; have BK103 := Aside0.mk (hbox); have GW103 := hs_ HB hg; have GE103 := hs_ HB hg; have NB101_103 := hl_ BK101 hg; have NB103_101 := hr_ BK101 hg; replace BK101 := bb_ BK101 hb; replace HB := bs_ HB hb; clear hb hbox hg; have hnb14 := NB103_101.out; have hnc14 := NB101_103.out; have hcz15_0 : w13.cell? ⟨gb103, 0, none⟩ = some (.int .i64 0) := bc_ BK103 0 rfl; have hcz15_1 : w13.cell? ⟨gb103, 1, none⟩ = some (.int .i64 0) := bc_ BK103 1 rfl; have hcz15_2 : w13.cell? ⟨gb103, 2, none⟩ = some (.int .i64 0) := bc_ BK103 2 rfl; have hcz15_3 : w13.cell? ⟨gb103, 3, none⟩ = some (.int .i64 0) := bc_ BK103 3 rfl; have hcz15_4 : w13.cell? ⟨gb103, 4, none⟩ = some (.int .i64 0) := bc_ BK103 4 rfl; have hcz15_5 : w13.cell? ⟨gb103, 5, none⟩ = some (.int .u64 0) := bc_ BK103 5 rfl; have hfz15_0 := blk_frozen BK103.out 0; have hfz15_1 := blk_frozen BK103.out 1; have hfz15_2 := blk_frozen BK103.out 2; have hfz15_3 := blk_frozen BK103.out 3; have hfz15_4 := blk_frozen BK103.out 4; have hfz15_5 := blk_frozen BK103.out 5))
      (try simp only [q_])
      go_cut [48] (fun v48 wc => ∃ (kq : Nat) (x48_11 : Bool), v48 = .bool x48_11 ∧ Aside0 (oculusref05_Wrong.j1 kq l0 a1 a2 x7_1 x48_11 ((rd_T61 l0 x7_1).f0.f0.f0) ((rd_T61 l0 x7_1).f0.f0.f1) ((rd_T61 l0 x7_1).f0.f1.f0) ((rd_T61 l0 x7_1).f0.f1.f1) ((rd_T61 l0 x7_1).f1.f0) ((rd_T61 l0 x7_1).f1.f1) = some (r1, r2)) ∧ Aside0 (kq ≤ k1) ∧ Aside0 (wc.heap[gb101]? = some (.cells #[.int .i64 x102000_1, .int .i64 x102001_1] 34 (0, 0))) ∧ Aside0 (wc.heap[gb103]? = some (.cells #[.int .i64 ((rd_T61 l0 x7_1).f0.f0.f0), .int .i64 ((rd_T61 l0 x7_1).f0.f0.f1), .int .i64 ((rd_T61 l0 x7_1).f0.f1.f0), .int .i64 ((rd_T61 l0 x7_1).f0.f1.f1), .int .i64 ((rd_T61 l0 x7_1).f1.f0), .int .u64 ((rd_T61 l0 x7_1).f1.f1)] 61 (0, 0))) ∧ Aside0 (Below w.heap.size w wc))
      case first =>
       have H := HC12.out; clear HC12; replace H := Option.bind_eq_some_iff.mp H; obtain ⟨t104, A160, H⟩ := H
       replace H : (if t104 = true then (if ((rd_T61 l0 x7_1).f0.f0.f0) > ((rd_T61 l0 x7_1).f0.f1.f0) then (oculusref05_Wrong.j1 k1 l0 a1 a2 x7_1 true ((rd_T61 l0 x7_1).f0.f0.f0) ((rd_T61 l0 x7_1).f0.f0.f1) ((rd_T61 l0 x7_1).f0.f1.f0) ((rd_T61 l0 x7_1).f0.f1.f1) ((rd_T61 l0 x7_1).f1.f0) ((rd_T61 l0 x7_1).f1.f1)) else (oculusref05_Wrong.j1 k1 l0 a1 a2 x7_1 (decide (((rd_T61 l0 x7_1).f0.f0.f1) > ((rd_T61 l0 x7_1).f0.f1.f1))) ((rd_T61 l0 x7_1).f0.f0.f0) ((rd_T61 l0 x7_1).f0.f0.f1) ((rd_T61 l0 x7_1).f0.f1.f0) ((rd_T61 l0 x7_1).f0.f1.f1) ((rd_T61 l0 x7_1).f1.f0) ((rd_T61 l0 x7_1).f1.f1))) else (oculusref05_Wrong.j1 k1 l0 a1 a2 x7_1 true ((rd_T61 l0 x7_1).f0.f0.f0) ((rd_T61 l0 x7_1).f0.f0.f1) ((rd_T61 l0 x7_1).f0.f1.f0) ((rd_T61 l0 x7_1).f0.f1.f1) ((rd_T61 l0 x7_1).f1.f0) ((rd_T61 l0 x7_1).f1.f1))) = some (r1, r2) := H
       have A16 := Aside0.mk A160; clear A160
       by_cases c17 : t104 = true
       ·subst c17
        have H1 : (if ((rd_T61 l0 x7_1).f0.f0.f0) > ((rd_T61 l0 x7_1).f0.f1.f0) then (oculusref05_Wrong.j1 k1 l0 a1 a2 x7_1 true ((rd_T61 l0 x7_1).f0.f0.f0) ((rd_T61 l0 x7_1).f0.f0.f1) ((rd_T61 l0 x7_1).f0.f1.f0) ((rd_T61 l0 x7_1).f0.f1.f1) ((rd_T61 l0 x7_1).f1.f0) ((rd_T61 l0 x7_1).f1.f1)) else (oculusref05_Wrong.j1 k1 l0 a1 a2 x7_1 (decide (((rd_T61 l0 x7_1).f0.f0.f1) > ((rd_T61 l0 x7_1).f0.f1.f1))) ((rd_T61 l0 x7_1).f0.f0.f0) ((rd_T61 l0 x7_1).f0.f0.f1) ((rd_T61 l0 x7_1).f0.f1.f0) ((rd_T61 l0 x7_1).f0.f1.f1) ((rd_T61 l0 x7_1).f1.f0) ((rd_T61 l0 x7_1).f1.f1))) = some (r1, r2) := by rw [if_pos rfl] at H; exact H
        clear H; have H := H1; clear H1
        by_cases c18 : ((rd_T61 l0 x7_1).f0.f0.f0) > ((rd_T61 l0 x7_1).f0.f1.f0)
        ·rw [if_pos c18] at H; have c18b0 : decide (((rd_T61 l0 x7_1).f0.f1.f0) < ((rd_T61 l0 x7_1).f0.f0.f0)) = true := decide_eq_true c18; clear c18; (first | rw [c18b0] | (simp only [i64_w, i32_w]; rw [c18b0]) | skip)
         have H' := Aside0.mk H
         clear H; have hnb19 := NB103_101.out; have hnc19 := NB101_103.out
         have hcz20_0 : w13.cell? ⟨gb103, 0, none⟩ = some (.int .i64 0) := bc_ BK103 0 rfl
         have hcz20_1 : w13.cell? ⟨gb103, 1, none⟩ = some (.int .i64 0) := bc_ BK103 1 rfl
         have hcz20_2 : w13.cell? ⟨gb103, 2, none⟩ = some (.int .i64 0) := bc_ BK103 2 rfl
         have hcz20_3 : w13.cell? ⟨gb103, 3, none⟩ = some (.int .i64 0) := bc_ BK103 3 rfl
         have hcz20_4 : w13.cell? ⟨gb103, 4, none⟩ = some (.int .i64 0) := bc_ BK103 4 rfl
         have hcz20_5 : w13.cell? ⟨gb103, 5, none⟩ = some (.int .u64 0) := bc_ BK103 5 rfl
         have hfz20_0 := blk_frozen BK103.out 0; have hfz20_1 := blk_frozen BK103.out 1; have hfz20_2 := blk_frozen BK103.out 2; have hfz20_3 := blk_frozen BK103.out 3; have hfz20_4 := blk_frozen BK103.out 4; have hfz20_5 := blk_frozen BK103.out 5
         go_wp2_with (first | ((with_reducible refine gate_callee (f:=43) rfl ?_); refine gL_ (some 25) rfl rfl Tryd.func43 rfl #[.agg #[.int .i64 ((rd_T61 l0 x7_1).f0.f0.f0), .int .i64 ((rd_T61 l0 x7_1).f0.f0.f1), .int .i64 ((rd_T61 l0 x7_1).f0.f1.f0), .int .i64 ((rd_T61 l0 x7_1).f0.f1.f1)]] rfl ?_; (with_reducible refine (oculusref04_May.calls ((rd_T61 l0 x7_1).f0.f0.f0) ((rd_T61 l0 x7_1).f0.f0.f1) ((rd_T61 l0 x7_1).f0.f1.f0) ((rd_T61 l0 x7_1).f0.f1.f1) true _ A16.out).mono ?_); rintro e w21 ⟨rfl, hb⟩; refine ⟨_, rfl, ?_⟩; replace BK101 := Aside0.mk (blk_below (g:=gb101) (o := .cells #[.int .i64 x102000_1, .int .i64 x102001_1] 34 (0, 0)) (by refine pf_ ?_ NB101_103.out; refine blk_far ?_ NB101_103.out _; refine blk_far ?_ NB101_103.out _; refine blk_far ?_ NB101_103.out _; refine blk_far ?_ NB101_103.out _; refine blk_far ?_ NB101_103.out _; exact pkx BK101) hb); replace BK103 := Aside0.mk (blk_below (g:=gb103) (o := .cells #[.int .i64 ((rd_T61 l0 x7_1).f0.f0.f0), .int .i64 ((rd_T61 l0 x7_1).f0.f0.f1), .int .i64 ((rd_T61 l0 x7_1).f0.f1.f0), .int .i64 ((rd_T61 l0 x7_1).f0.f1.f1), .int .i64 ((rd_T61 l0 x7_1).f1.f0), .int .u64 ((rd_T61 l0 x7_1).f1.f1)] 61 (0, 0)) (by refine pp_ (cs := #[.int .i64 ((rd_T61 l0 x7_1).f0.f0.f0), .int .i64 ((rd_T61 l0 x7_1).f0.f0.f1), .int .i64 ((rd_T61 l0 x7_1).f0.f1.f0), .int .i64 ((rd_T61 l0 x7_1).f0.f1.f1), .int .i64 ((rd_T61 l0 x7_1).f1.f0), .int .u64 0]) 5 ?_ rfl; refine blk_put (cs := #[.int .i64 ((rd_T61 l0 x7_1).f0.f0.f0), .int .i64 ((rd_T61 l0 x7_1).f0.f0.f1), .int .i64 ((rd_T61 l0 x7_1).f0.f1.f0), .int .i64 ((rd_T61 l0 x7_1).f0.f1.f1), .int .i64 0, .int .u64 0]) ?_ 4 _ rfl; refine blk_put (cs := #[.int .i64 ((rd_T61 l0 x7_1).f0.f0.f0), .int .i64 ((rd_T61 l0 x7_1).f0.f0.f1), .int .i64 ((rd_T61 l0 x7_1).f0.f1.f0), .int .i64 0, .int .i64 0, .int .u64 0]) ?_ 3 _ rfl; refine blk_put (cs := #[.int .i64 ((rd_T61 l0 x7_1).f0.f0.f0), .int .i64 ((rd_T61 l0 x7_1).f0.f0.f1), .int .i64 0, .int .i64 0, .int .i64 0, .int .u64 0]) ?_ 2 _ rfl; refine blk_put (cs := #[.int .i64 ((rd_T61 l0 x7_1).f0.f0.f0), .int .i64 0, .int .i64 0, .int .i64 0, .int .i64 0, .int .u64 0]) ?_ 1 _ rfl; refine blk_put (cs := #[.int .i64 0, .int .i64 0, .int .i64 0, .int .i64 0, .int .i64 0, .int .u64 0]) ?_ 0 _ rfl; exact pkx BK103) hb); replace HB := Aside0.mk (below_step (by repeat (first | (with_reducible first | exact HB.out | apply below_alloc | apply pw_below_drewN | apply below_drew1 | refine below_set ?_ GE101.out | refine below_set ?_ GE103.out) | exact HB.out)) hb); (try clear hb); (try clear hb2); (try clear hk); (try clear hi); have hcz22_0 : w21.cell? ⟨gb103, 0, none⟩ = some (.int .i64 ((rd_T61 l0 x7_1).f0.f0.f0)) := bc_ BK103 0 rfl; have hcz22_1 : w21.cell? ⟨gb103, 1, none⟩ = some (.int .i64 ((rd_T61 l0 x7_1).f0.f0.f1)) := bc_ BK103 1 rfl; have hcz22_2 : w21.cell? ⟨gb103, 2, none⟩ = some (.int .i64 ((rd_T61 l0 x7_1).f0.f1.f0)) := bc_ BK103 2 rfl; have hcz22_3 : w21.cell? ⟨gb103, 3, none⟩ = some (.int .i64 ((rd_T61 l0 x7_1).f0.f1.f1)) := bc_ BK103 3 rfl; have hcz22_4 : w21.cell? ⟨gb103, 4, none⟩ = some (.int .i64 ((rd_T61 l0 x7_1).f1.f0)) := bc_ BK103 4 rfl; have hcz22_5 : w21.cell? ⟨gb103, 5, none⟩ = some (.int .u64 ((rd_T61 l0 x7_1).f1.f1)) := bc_ BK103 5 rfl; have hfz22_0 := blk_frozen BK103.out 0; have hfz22_1 := blk_frozen BK103.out 1; have hfz22_2 := blk_frozen BK103.out 2; have hfz22_3 := blk_frozen BK103.out 3; have hfz22_4 := blk_frozen BK103.out 4; have hfz22_5 := blk_frozen BK103.out 5))
         go_meet
         case rel => exact ⟨_, (true), (by first | rfl | (simp; done) | (simp [*]; done)), H', ⟨by have := HK1.out; first | omega | exact Nat.le_refl _⟩, ⟨pkx BK101⟩, ⟨pkx BK103⟩, ⟨pbx HB⟩⟩
        ·rw [if_neg c18] at H; have c18b0 : decide (((rd_T61 l0 x7_1).f0.f1.f0) < ((rd_T61 l0 x7_1).f0.f0.f0)) = false := decide_eq_false c18; clear c18; (first | rw [c18b0] | (simp only [i64_w, i32_w]; rw [c18b0]) | skip)
         have H' := Aside0.mk H
         clear H; have hnb23 := NB103_101.out; have hnc23 := NB101_103.out
         have hcz24_0 : w13.cell? ⟨gb103, 0, none⟩ = some (.int .i64 0) := bc_ BK103 0 rfl
         have hcz24_1 : w13.cell? ⟨gb103, 1, none⟩ = some (.int .i64 0) := bc_ BK103 1 rfl
         have hcz24_2 : w13.cell? ⟨gb103, 2, none⟩ = some (.int .i64 0) := bc_ BK103 2 rfl
         have hcz24_3 : w13.cell? ⟨gb103, 3, none⟩ = some (.int .i64 0) := bc_ BK103 3 rfl
         have hcz24_4 : w13.cell? ⟨gb103, 4, none⟩ = some (.int .i64 0) := bc_ BK103 4 rfl
         have hcz24_5 : w13.cell? ⟨gb103, 5, none⟩ = some (.int .u64 0) := bc_ BK103 5 rfl
         have hfz24_0 := blk_frozen BK103.out 0; have hfz24_1 := blk_frozen BK103.out 1; have hfz24_2 := blk_frozen BK103.out 2; have hfz24_3 := blk_frozen BK103.out 3; have hfz24_4 := blk_frozen BK103.out 4; have hfz24_5 := blk_frozen BK103.out 5
         go_wp2_with (first | ((with_reducible refine gate_callee (f:=43) rfl ?_); refine gL_ (some 25) rfl rfl Tryd.func43 rfl #[.agg #[.int .i64 ((rd_T61 l0 x7_1).f0.f0.f0), .int .i64 ((rd_T61 l0 x7_1).f0.f0.f1), .int .i64 ((rd_T61 l0 x7_1).f0.f1.f0), .int .i64 ((rd_T61 l0 x7_1).f0.f1.f1)]] rfl ?_; (with_reducible refine (oculusref04_May.calls ((rd_T61 l0 x7_1).f0.f0.f0) ((rd_T61 l0 x7_1).f0.f0.f1) ((rd_T61 l0 x7_1).f0.f1.f0) ((rd_T61 l0 x7_1).f0.f1.f1) true _ A16.out).mono ?_); rintro e w25 ⟨rfl, hb⟩; refine ⟨_, rfl, ?_⟩; replace BK101 := Aside0.mk (blk_below (g:=gb101) (o := .cells #[.int .i64 x102000_1, .int .i64 x102001_1] 34 (0, 0)) (by refine pf_ ?_ NB101_103.out; refine blk_far ?_ NB101_103.out _; refine blk_far ?_ NB101_103.out _; refine blk_far ?_ NB101_103.out _; refine blk_far ?_ NB101_103.out _; refine blk_far ?_ NB101_103.out _; exact pkx BK101) hb); replace BK103 := Aside0.mk (blk_below (g:=gb103) (o := .cells #[.int .i64 ((rd_T61 l0 x7_1).f0.f0.f0), .int .i64 ((rd_T61 l0 x7_1).f0.f0.f1), .int .i64 ((rd_T61 l0 x7_1).f0.f1.f0), .int .i64 ((rd_T61 l0 x7_1).f0.f1.f1), .int .i64 ((rd_T61 l0 x7_1).f1.f0), .int .u64 ((rd_T61 l0 x7_1).f1.f1)] 61 (0, 0)) (by refine pp_ (cs := #[.int .i64 ((rd_T61 l0 x7_1).f0.f0.f0), .int .i64 ((rd_T61 l0 x7_1).f0.f0.f1), .int .i64 ((rd_T61 l0 x7_1).f0.f1.f0), .int .i64 ((rd_T61 l0 x7_1).f0.f1.f1), .int .i64 ((rd_T61 l0 x7_1).f1.f0), .int .u64 0]) 5 ?_ rfl; refine blk_put (cs := #[.int .i64 ((rd_T61 l0 x7_1).f0.f0.f0), .int .i64 ((rd_T61 l0 x7_1).f0.f0.f1), .int .i64 ((rd_T61 l0 x7_1).f0.f1.f0), .int .i64 ((rd_T61 l0 x7_1).f0.f1.f1), .int .i64 0, .int .u64 0]) ?_ 4 _ rfl; refine blk_put (cs := #[.int .i64 ((rd_T61 l0 x7_1).f0.f0.f0), .int .i64 ((rd_T61 l0 x7_1).f0.f0.f1), .int .i64 ((rd_T61 l0 x7_1).f0.f1.f0), .int .i64 0, .int .i64 0, .int .u64 0]) ?_ 3 _ rfl; refine blk_put (cs := #[.int .i64 ((rd_T61 l0 x7_1).f0.f0.f0), .int .i64 ((rd_T61 l0 x7_1).f0.f0.f1), .int .i64 0, .int .i64 0, .int .i64 0, .int .u64 0]) ?_ 2 _ rfl; refine blk_put (cs := #[.int .i64 ((rd_T61 l0 x7_1).f0.f0.f0), .int .i64 0, .int .i64 0, .int .i64 0, .int .i64 0, .int .u64 0]) ?_ 1 _ rfl; refine blk_put (cs := #[.int .i64 0, .int .i64 0, .int .i64 0, .int .i64 0, .int .i64 0, .int .u64 0]) ?_ 0 _ rfl; exact pkx BK103) hb); replace HB := Aside0.mk (below_step (by repeat (first | (with_reducible first | exact HB.out | apply below_alloc | apply pw_below_drewN | apply below_drew1 | refine below_set ?_ GE101.out | refine below_set ?_ GE103.out) | exact HB.out)) hb); (try clear hb); (try clear hb2); (try clear hk); (try clear hi); have hcz26_0 : w25.cell? ⟨gb103, 0, none⟩ = some (.int .i64 ((rd_T61 l0 x7_1).f0.f0.f0)) := bc_ BK103 0 rfl; have hcz26_1 : w25.cell? ⟨gb103, 1, none⟩ = some (.int .i64 ((rd_T61 l0 x7_1).f0.f0.f1)) := bc_ BK103 1 rfl; have hcz26_2 : w25.cell? ⟨gb103, 2, none⟩ = some (.int .i64 ((rd_T61 l0 x7_1).f0.f1.f0)) := bc_ BK103 2 rfl; have hcz26_3 : w25.cell? ⟨gb103, 3, none⟩ = some (.int .i64 ((rd_T61 l0 x7_1).f0.f1.f1)) := bc_ BK103 3 rfl; have hcz26_4 : w25.cell? ⟨gb103, 4, none⟩ = some (.int .i64 ((rd_T61 l0 x7_1).f1.f0)) := bc_ BK103 4 rfl; have hcz26_5 : w25.cell? ⟨gb103, 5, none⟩ = some (.int .u64 ((rd_T61 l0 x7_1).f1.f1)) := bc_ BK103 5 rfl; have hfz26_0 := blk_frozen BK103.out 0; have hfz26_1 := blk_frozen BK103.out 1; have hfz26_2 := blk_frozen BK103.out 2; have hfz26_3 := blk_frozen BK103.out 3; have hfz26_4 := blk_frozen BK103.out 4; have hfz26_5 := blk_frozen BK103.out 5))
         go_meet
         case rel => exact ⟨_, (decide (((rd_T61 l0 x7_1).f0.f0.f1) > ((rd_T61 l0 x7_1).f0.f1.f1))), (by first | rfl | (simp; done) | (simp [*]; done)), H', ⟨by have := HK1.out; first | omega | exact Nat.le_refl _⟩, ⟨pkx BK101⟩, ⟨pkx BK103⟩, ⟨pbx HB⟩⟩
       ·replace c17 := Bool.eq_false_iff.mpr c17; subst c17
        have H1 : (oculusref05_Wrong.j1 k1 l0 a1 a2 x7_1 true ((rd_T61 l0 x7_1).f0.f0.f0) ((rd_T61 l0 x7_1).f0.f0.f1) ((rd_T61 l0 x7_1).f0.f1.f0) ((rd_T61 l0 x7_1).f0.f1.f1) ((rd_T61 l0 x7_1).f1.f0) ((rd_T61 l0 x7_1).f1.f1)) = some (r1, r2) := by rw [if_neg (show ¬ (false = true) by decide)] at H; exact H
        clear H; have H := H1; clear H1
        have H' := Aside0.mk H
        clear H; have hnb27 := NB103_101.out; have hnc27 := NB101_103.out
        have hcz28_0 : w13.cell? ⟨gb103, 0, none⟩ = some (.int .i64 0) := bc_ BK103 0 rfl
        have hcz28_1 : w13.cell? ⟨gb103, 1, none⟩ = some (.int .i64 0) := bc_ BK103 1 rfl
        have hcz28_2 : w13.cell? ⟨gb103, 2, none⟩ = some (.int .i64 0) := bc_ BK103 2 rfl
        have hcz28_3 : w13.cell? ⟨gb103, 3, none⟩ = some (.int .i64 0) := bc_ BK103 3 rfl
        have hcz28_4 : w13.cell? ⟨gb103, 4, none⟩ = some (.int .i64 0) := bc_ BK103 4 rfl
        have hcz28_5 : w13.cell? ⟨gb103, 5, none⟩ = some (.int .u64 0) := bc_ BK103 5 rfl
        have hfz28_0 := blk_frozen BK103.out 0; have hfz28_1 := blk_frozen BK103.out 1; have hfz28_2 := blk_frozen BK103.out 2; have hfz28_3 := blk_frozen BK103.out 3; have hfz28_4 := blk_frozen BK103.out 4; have hfz28_5 := blk_frozen BK103.out 5
        go_wp2_with (first | ((with_reducible refine gate_callee (f:=43) rfl ?_); refine gL_ (some 25) rfl rfl Tryd.func43 rfl #[.agg #[.int .i64 ((rd_T61 l0 x7_1).f0.f0.f0), .int .i64 ((rd_T61 l0 x7_1).f0.f0.f1), .int .i64 ((rd_T61 l0 x7_1).f0.f1.f0), .int .i64 ((rd_T61 l0 x7_1).f0.f1.f1)]] rfl ?_; (with_reducible refine (oculusref04_May.calls ((rd_T61 l0 x7_1).f0.f0.f0) ((rd_T61 l0 x7_1).f0.f0.f1) ((rd_T61 l0 x7_1).f0.f1.f0) ((rd_T61 l0 x7_1).f0.f1.f1) false _ A16.out).mono ?_); rintro e w29 ⟨rfl, hb⟩; refine ⟨_, rfl, ?_⟩; replace BK101 := Aside0.mk (blk_below (g:=gb101) (o := .cells #[.int .i64 x102000_1, .int .i64 x102001_1] 34 (0, 0)) (by refine pf_ ?_ NB101_103.out; refine blk_far ?_ NB101_103.out _; refine blk_far ?_ NB101_103.out _; refine blk_far ?_ NB101_103.out _; refine blk_far ?_ NB101_103.out _; refine blk_far ?_ NB101_103.out _; exact pkx BK101) hb); replace BK103 := Aside0.mk (blk_below (g:=gb103) (o := .cells #[.int .i64 ((rd_T61 l0 x7_1).f0.f0.f0), .int .i64 ((rd_T61 l0 x7_1).f0.f0.f1), .int .i64 ((rd_T61 l0 x7_1).f0.f1.f0), .int .i64 ((rd_T61 l0 x7_1).f0.f1.f1), .int .i64 ((rd_T61 l0 x7_1).f1.f0), .int .u64 ((rd_T61 l0 x7_1).f1.f1)] 61 (0, 0)) (by refine pp_ (cs := #[.int .i64 ((rd_T61 l0 x7_1).f0.f0.f0), .int .i64 ((rd_T61 l0 x7_1).f0.f0.f1), .int .i64 ((rd_T61 l0 x7_1).f0.f1.f0), .int .i64 ((rd_T61 l0 x7_1).f0.f1.f1), .int .i64 ((rd_T61 l0 x7_1).f1.f0), .int .u64 0]) 5 ?_ rfl; refine blk_put (cs := #[.int .i64 ((rd_T61 l0 x7_1).f0.f0.f0), .int .i64 ((rd_T61 l0 x7_1).f0.f0.f1), .int .i64 ((rd_T61 l0 x7_1).f0.f1.f0), .int .i64 ((rd_T61 l0 x7_1).f0.f1.f1), .int .i64 0, .int .u64 0]) ?_ 4 _ rfl; refine blk_put (cs := #[.int .i64 ((rd_T61 l0 x7_1).f0.f0.f0), .int .i64 ((rd_T61 l0 x7_1).f0.f0.f1), .int .i64 ((rd_T61 l0 x7_1).f0.f1.f0), .int .i64 0, .int .i64 0, .int .u64 0]) ?_ 3 _ rfl; refine blk_put (cs := #[.int .i64 ((rd_T61 l0 x7_1).f0.f0.f0), .int .i64 ((rd_T61 l0 x7_1).f0.f0.f1), .int .i64 0, .int .i64 0, .int .i64 0, .int .u64 0]) ?_ 2 _ rfl; refine blk_put (cs := #[.int .i64 ((rd_T61 l0 x7_1).f0.f0.f0), .int .i64 0, .int .i64 0, .int .i64 0, .int .i64 0, .int .u64 0]) ?_ 1 _ rfl; refine blk_put (cs := #[.int .i64 0, .int .i64 0, .int .i64 0, .int .i64 0, .int .i64 0, .int .u64 0]) ?_ 0 _ rfl; exact pkx BK103) hb); replace HB := Aside0.mk (below_step (by repeat (first | (with_reducible first | exact HB.out | apply below_alloc | apply pw_below_drewN | apply below_drew1 | refine below_set ?_ GE101.out | refine below_set ?_ GE103.out) | exact HB.out)) hb); (try clear hb); (try clear hb2); (try clear hk); (try clear hi)))
        go_meet
        case rel => exact ⟨_, (true), (by first | rfl | (simp; done) | (simp [*]; done)), H', ⟨by have := HK1.out; first | omega | exact Nat.le_refl _⟩, ⟨pkx BK101⟩, ⟨pkx BK103⟩, ⟨pbx HB⟩⟩
      case rest =>
       clear HC12; (try clear c1); (try clear p1); (try clear q1); (try clear hx1); (try clear c2); (try clear p2); (try clear c4); (try clear c5); (try clear c5b0); (try clear c6); (try clear c6b0); (try clear c7); (try clear c7b0); (try clear c9); (try clear p10); (try clear q10); (try clear hx10); (try clear c14); (try clear c17); (try clear c18); (try clear c18b0); (try clear c19); (try clear c23); (try clear c27); (try clear c29); (try clear hcz10_0); (try clear hcz10_1); (try clear hcz10_2); (try clear hcz10_3); (try clear hcz10_4); (try clear hcz10_5); (try clear hcz11_0); (try clear hcz11_1); (try clear hcz15_0); (try clear hcz15_1); (try clear hcz15_2); (try clear hcz15_3); (try clear hcz15_4); (try clear hcz15_5); (try clear hcz20_0); (try clear hcz20_1); (try clear hcz20_2); (try clear hcz20_3); (try clear hcz20_4); (try clear hcz20_5); (try clear hcz22_0); (try clear hcz22_1); (try clear hcz22_2); (try clear hcz22_3); (try clear hcz22_4); (try clear hcz22_5); (try clear hcz24_0); (try clear hcz24_1); (try clear hcz24_2); (try clear hcz24_3); (try clear hcz24_4); (try clear hcz24_5); (try clear hcz26_0); (try clear hcz26_1); (try clear hcz26_2); (try clear hcz26_3); (try clear hcz26_4); (try clear hcz26_5); (try clear hcz28_0); (try clear hcz28_1); (try clear hcz28_2); (try clear hcz28_3); (try clear hcz28_4); (try clear hcz28_5); (try clear hfz10_0); (try clear hfz10_1); (try clear hfz10_2); (try clear hfz10_3); (try clear hfz10_4); (try clear hfz10_5); (try clear hfz11_0); (try clear hfz11_1); (try clear hfz15_0); (try clear hfz15_1); (try clear hfz15_2); (try clear hfz15_3); (try clear hfz15_4); (try clear hfz15_5); (try clear hfz20_0); (try clear hfz20_1); (try clear hfz20_2); (try clear hfz20_3); (try clear hfz20_4); (try clear hfz20_5); (try clear hfz22_0)
       (try clear hfz22_1); (try clear hfz22_2); (try clear hfz22_3); (try clear hfz22_4); (try clear hfz22_5); (try clear hfz24_0); (try clear hfz24_1); (try clear hfz24_2); (try clear hfz24_3); (try clear hfz24_4); (try clear hfz24_5); (try clear hfz26_0); (try clear hfz26_1); (try clear hfz26_2); (try clear hfz26_3); (try clear hfz26_4); (try clear hfz26_5); (try clear hfz28_0); (try clear hfz28_1); (try clear hfz28_2); (try clear hfz28_3); (try clear hfz28_4); (try clear hfz28_5); (try clear hx102_0); (try clear hx102_1); (try clear hx102_2); (try clear hx102_3); (try clear hx102_4); (try clear hx102_5); (try clear p102); (try clear p2); (try clear q102); obtain ⟨kq, x48_11, rfl, HA, HJ11, BK101, BK103, HB⟩ := hcut
       cases kq with
       | zero => exact absurd HA.out (by simp [oculusref05_Wrong.j1])
       | succ kj11 =>
        have H := HA.out; clear HA
        simp only [oculusref05_Wrong.j1] at H
        by_cases c30 : x48_11 = true
        ·subst c30
         have H1 : (some (x7_1, 1)) = some (r1, r2) := by rw [if_pos rfl] at H; exact H
         clear H; have H := H1; clear H1
         simp only [Option.some.injEq, Prod.mk.injEq] at H
         obtain ⟨rfl, rfl⟩ := H; have hnb31 := NB101_103.out; have hnc31 := NB103_101.out
         have hcz32_0 : wc.cell? ⟨gb101, 0, none⟩ = some (.int .i64 x102000_1) := bc_ BK101 0 rfl
         have hcz32_1 : wc.cell? ⟨gb101, 1, none⟩ = some (.int .i64 x102001_1) := bc_ BK101 1 rfl
         have hfz32_0 := blk_frozen BK101.out 0; have hfz32_1 := blk_frozen BK101.out 1
         go_wp2
         refine bodyPost_ret (results_cell_row rfl _ _ gb101 34 #[.int .i64 x7_1, .int .i64 1] (0, 0) _ rfl (by refine pp_ (cs := #[.int .i64 x7_1, .int .i64 x102001_1]) 1 ?_ rfl; refine blk_put (cs := #[.int .i64 x102000_1, .int .i64 x102001_1]) ?_ 0 _ rfl; exact pkx BK101) Tryd.underlying34 rfl (by kernel_rfl)) rfl ?_
         exact ⟨by first | rfl | (simp [errW_none, errW_some] <;> rfl) | (simp [*, errW_none, errW_some] <;> rfl), by repeat (first | (with_reducible first | exact HB.out | apply below_alloc | apply pw_below_drewN | apply below_drew1 | refine below_set ?_ GE101.out | refine below_set ?_ GE103.out) | exact HB.out)⟩
        ·replace c30 := Bool.eq_false_iff.mpr c30; subst c30
         have H1 : (if ((rd_T61 l0 x7_1).f0.f1.f0) ≥ a1 then (oculusref05_Wrong.j2 kj11 l0 a1 a2 x7_1 true ((rd_T61 l0 x7_1).f0.f0.f0) ((rd_T61 l0 x7_1).f0.f0.f1) ((rd_T61 l0 x7_1).f0.f1.f0) ((rd_T61 l0 x7_1).f0.f1.f1) ((rd_T61 l0 x7_1).f1.f0) ((rd_T61 l0 x7_1).f1.f1)) else (oculusref05_Wrong.j2 kj11 l0 a1 a2 x7_1 (decide (((rd_T61 l0 x7_1).f0.f1.f1) ≥ a2)) ((rd_T61 l0 x7_1).f0.f0.f0) ((rd_T61 l0 x7_1).f0.f0.f1) ((rd_T61 l0 x7_1).f0.f1.f0) ((rd_T61 l0 x7_1).f0.f1.f1) ((rd_T61 l0 x7_1).f1.f0) ((rd_T61 l0 x7_1).f1.f1))) = some (r1, r2) := by rw [if_neg (show ¬ (false = true) by decide)] at H; exact H
         clear H; have H := H1; clear H1; have HC33 := Aside0.mk H; clear H
         go_upto_region 9 with (fail)
         go_cut [64] (fun v64 wc => ∃ (kq : Nat) (x64_32 : Bool), v64 = .bool x64_32 ∧ Aside0 (oculusref05_Wrong.j2 kq l0 a1 a2 x7_1 x64_32 ((rd_T61 l0 x7_1).f0.f0.f0) ((rd_T61 l0 x7_1).f0.f0.f1) ((rd_T61 l0 x7_1).f0.f1.f0) ((rd_T61 l0 x7_1).f0.f1.f1) ((rd_T61 l0 x7_1).f1.f0) ((rd_T61 l0 x7_1).f1.f1) = some (r1, r2)) ∧ Aside0 (kq ≤ kj11) ∧ Aside0 (wc.heap[gb101]? = some (.cells #[.int .i64 x102000_1, .int .i64 x102001_1] 34 (0, 0))) ∧ Aside0 (wc.heap[gb103]? = some (.cells #[.int .i64 ((rd_T61 l0 x7_1).f0.f0.f0), .int .i64 ((rd_T61 l0 x7_1).f0.f0.f1), .int .i64 ((rd_T61 l0 x7_1).f0.f1.f0), .int .i64 ((rd_T61 l0 x7_1).f0.f1.f1), .int .i64 ((rd_T61 l0 x7_1).f1.f0), .int .u64 ((rd_T61 l0 x7_1).f1.f1)] 61 (0, 0))) ∧ Aside0 (Below w.heap.size w wc))
         case first =>
          have H := HC33.out; clear HC33
          by_cases c34 : ((rd_T61 l0 x7_1).f0.f1.f0) ≥ a1
          ·rw [if_pos c34] at H; have c34b0 : decide (a1 ≤ ((rd_T61 l0 x7_1).f0.f1.f0)) = true := decide_eq_true c34; clear c34; (first | rw [c34b0] | (simp only [i64_w, i32_w]; rw [c34b0]) | skip)
           have H' := Aside0.mk H
           clear H; have hnb35 := NB103_101.out; have hnc35 := NB101_103.out
           have hcz36_0 : wc.cell? ⟨gb103, 0, none⟩ = some (.int .i64 ((rd_T61 l0 x7_1).f0.f0.f0)) := bc_ BK103 0 rfl
           have hcz36_1 : wc.cell? ⟨gb103, 1, none⟩ = some (.int .i64 ((rd_T61 l0 x7_1).f0.f0.f1)) := bc_ BK103 1 rfl
           have hcz36_2 : wc.cell? ⟨gb103, 2, none⟩ = some (.int .i64 ((rd_T61 l0 x7_1).f0.f1.f0)) := bc_ BK103 2 rfl
           have hcz36_3 : wc.cell? ⟨gb103, 3, none⟩ = some (.int .i64 ((rd_T61 l0 x7_1).f0.f1.f1)) := bc_ BK103 3 rfl
           have hcz36_4 : wc.cell? ⟨gb103, 4, none⟩ = some (.int .i64 ((rd_T61 l0 x7_1).f1.f0)) := bc_ BK103 4 rfl
           have hcz36_5 : wc.cell? ⟨gb103, 5, none⟩ = some (.int .u64 ((rd_T61 l0 x7_1).f1.f1)) := bc_ BK103 5 rfl
           have hfz36_0 := blk_frozen BK103.out 0; have hfz36_1 := blk_frozen BK103.out 1; have hfz36_2 := blk_frozen BK103.out 2; have hfz36_3 := blk_frozen BK103.out 3; have hfz36_4 := blk_frozen BK103.out 4; have hfz36_5 := blk_frozen BK103.out 5
           go_wp2
           go_meet
           case rel => exact ⟨_, (true), (by first | rfl | (simp; done) | (simp [*]; done)), H', ⟨by have := HK1.out; have := HJ11.out; first | omega | exact Nat.le_refl _⟩, ⟨pkx BK101⟩, ⟨pkx BK103⟩, ⟨pbx HB⟩⟩
          ·rw [if_neg c34] at H; have c34b0 : decide (a1 ≤ ((rd_T61 l0 x7_1).f0.f1.f0)) = false := decide_eq_false c34; clear c34; (first | rw [c34b0] | (simp only [i64_w, i32_w]; rw [c34b0]) | skip)
           have H' := Aside0.mk H
           clear H; have hnb37 := NB103_101.out; have hnc37 := NB101_103.out
           have hcz38_0 : wc.cell? ⟨gb103, 0, none⟩ = some (.int .i64 ((rd_T61 l0 x7_1).f0.f0.f0)) := bc_ BK103 0 rfl
           have hcz38_1 : wc.cell? ⟨gb103, 1, none⟩ = some (.int .i64 ((rd_T61 l0 x7_1).f0.f0.f1)) := bc_ BK103 1 rfl
           have hcz38_2 : wc.cell? ⟨gb103, 2, none⟩ = some (.int .i64 ((rd_T61 l0 x7_1).f0.f1.f0)) := bc_ BK103 2 rfl
           have hcz38_3 : wc.cell? ⟨gb103, 3, none⟩ = some (.int .i64 ((rd_T61 l0 x7_1).f0.f1.f1)) := bc_ BK103 3 rfl
           have hcz38_4 : wc.cell? ⟨gb103, 4, none⟩ = some (.int .i64 ((rd_T61 l0 x7_1).f1.f0)) := bc_ BK103 4 rfl
           have hcz38_5 : wc.cell? ⟨gb103, 5, none⟩ = some (.int .u64 ((rd_T61 l0 x7_1).f1.f1)) := bc_ BK103 5 rfl
           have hfz38_0 := blk_frozen BK103.out 0; have hfz38_1 := blk_frozen BK103.out 1; have hfz38_2 := blk_frozen BK103.out 2; have hfz38_3 := blk_frozen BK103.out 3; have hfz38_4 := blk_frozen BK103.out 4; have hfz38_5 := blk_frozen BK103.out 5
           go_wp2
           go_meet
           case rel => exact ⟨_, (decide (((rd_T61 l0 x7_1).f0.f1.f1) ≥ a2)), (by first | rfl | (simp; done) | (simp [*]; done)), H', ⟨by have := HK1.out; have := HJ11.out; first | omega | exact Nat.le_refl _⟩, ⟨pkx BK101⟩, ⟨pkx BK103⟩, ⟨pbx HB⟩⟩
         case rest =>
          clear HC33; (try clear c1); (try clear p1); (try clear q1); (try clear hx1); (try clear c2); (try clear p2); (try clear c3); (try clear c4); (try clear c5); (try clear c5b0); (try clear c6); (try clear c6b0); (try clear c7); (try clear c7b0); (try clear c9); (try clear p10); (try clear q10); (try clear hx10); (try clear c14); (try clear c17); (try clear c18); (try clear c18b0); (try clear c19); (try clear c23); (try clear c27); (try clear c29); (try clear c30); (try clear c31); (try clear c34); (try clear c34b0); (try clear c35); (try clear c37); (try clear hcz10_0); (try clear hcz10_1); (try clear hcz10_2); (try clear hcz10_3); (try clear hcz10_4); (try clear hcz10_5); (try clear hcz11_0); (try clear hcz11_1); (try clear hcz15_0); (try clear hcz15_1); (try clear hcz15_2); (try clear hcz15_3); (try clear hcz15_4); (try clear hcz15_5); (try clear hcz20_0); (try clear hcz20_1); (try clear hcz20_2); (try clear hcz20_3); (try clear hcz20_4); (try clear hcz20_5); (try clear hcz22_0); (try clear hcz22_1); (try clear hcz22_2); (try clear hcz22_3); (try clear hcz22_4); (try clear hcz22_5); (try clear hcz24_0); (try clear hcz24_1); (try clear hcz24_2); (try clear hcz24_3); (try clear hcz24_4); (try clear hcz24_5); (try clear hcz26_0); (try clear hcz26_1); (try clear hcz26_2); (try clear hcz26_3); (try clear hcz26_4); (try clear hcz26_5); (try clear hcz28_0); (try clear hcz28_1); (try clear hcz28_2); (try clear hcz28_3); (try clear hcz28_4); (try clear hcz28_5); (try clear hcz32_0); (try clear hcz32_1); (try clear hcz36_0); (try clear hcz36_1); (try clear hcz36_2); (try clear hcz36_3); (try clear hcz36_4); (try clear hcz36_5); (try clear hcz38_0); (try clear hcz38_1); (try clear hcz38_2); (try clear hcz38_3); (try clear hcz38_4); (try clear hcz38_5); (try clear hfz10_0); (try clear hfz10_1)
          (try clear hfz10_2); (try clear hfz10_3); (try clear hfz10_4); (try clear hfz10_5); (try clear hfz11_0); (try clear hfz11_1); (try clear hfz15_0); (try clear hfz15_1); (try clear hfz15_2); (try clear hfz15_3); (try clear hfz15_4); (try clear hfz15_5); (try clear hfz20_0); (try clear hfz20_1); (try clear hfz20_2); (try clear hfz20_3); (try clear hfz20_4); (try clear hfz20_5); (try clear hfz22_0); (try clear hfz22_1); (try clear hfz22_2); (try clear hfz22_3); (try clear hfz22_4); (try clear hfz22_5); (try clear hfz24_0); (try clear hfz24_1); (try clear hfz24_2); (try clear hfz24_3); (try clear hfz24_4); (try clear hfz24_5); (try clear hfz26_0); (try clear hfz26_1); (try clear hfz26_2); (try clear hfz26_3); (try clear hfz26_4); (try clear hfz26_5); (try clear hfz28_0); (try clear hfz28_1); (try clear hfz28_2); (try clear hfz28_3); (try clear hfz28_4); (try clear hfz28_5); (try clear hfz32_0)
          (try clear hfz32_1); (try clear hfz36_0); (try clear hfz36_1); (try clear hfz36_2); (try clear hfz36_3); (try clear hfz36_4); (try clear hfz36_5); (try clear hfz38_0); (try clear hfz38_1); (try clear hfz38_2); (try clear hfz38_3); (try clear hfz38_4); (try clear hfz38_5); (try clear hx102_0); (try clear hx102_1); (try clear hx102_2); (try clear hx102_3); (try clear hx102_4); (try clear hx102_5); (try clear p1); (try clear p10); (try clear p102); (try clear p2); (try clear q1); (try clear q10); (try clear q102); obtain ⟨kq, x64_32, rfl, HA, HJ32, BK101, BK103, HB⟩ := hcut
          cases kq with
          | zero => exact absurd HA.out (by simp [oculusref05_Wrong.j2])
          | succ kj32 =>
           have H := HA.out; clear HA
           simp only [oculusref05_Wrong.j2] at H
           by_cases c39 : x64_32 = true
           ·subst c39
            have H1 : (some (x7_1, 2)) = some (r1, r2) := by rw [if_pos rfl] at H; exact H
            clear H; have H := H1; clear H1
            simp only [Option.some.injEq, Prod.mk.injEq] at H
            obtain ⟨rfl, rfl⟩ := H; have hnb40 := NB101_103.out; have hnc40 := NB103_101.out
            have hcz41_0 : wc.cell? ⟨gb101, 0, none⟩ = some (.int .i64 x102000_1) := bc_ BK101 0 rfl
            have hcz41_1 : wc.cell? ⟨gb101, 1, none⟩ = some (.int .i64 x102001_1) := bc_ BK101 1 rfl
            have hfz41_0 := blk_frozen BK101.out 0; have hfz41_1 := blk_frozen BK101.out 1
            go_wp2
            refine bodyPost_ret (results_cell_row rfl _ _ gb101 34 #[.int .i64 x7_1, .int .i64 2] (0, 0) _ rfl (by refine pp_ (cs := #[.int .i64 x7_1, .int .i64 x102001_1]) 1 ?_ rfl; refine blk_put (cs := #[.int .i64 x102000_1, .int .i64 x102001_1]) ?_ 0 _ rfl; exact pkx BK101) Tryd.underlying34 rfl (by kernel_rfl)) rfl ?_
            exact ⟨by first | rfl | (simp [errW_none, errW_some] <;> rfl) | (simp [*, errW_none, errW_some] <;> rfl), by repeat (first | (with_reducible first | exact HB.out | apply below_alloc | apply pw_below_drewN | apply below_drew1 | refine below_set ?_ GE101.out | refine below_set ?_ GE103.out) | exact HB.out)⟩
           ·replace c39 := Bool.eq_false_iff.mpr c39; subst c39
            have H1 : (if ((rd_T61 l0 x7_1).f1.f0) < 0 then (some (x7_1, 7)) else (if ((rd_T61 l0 x7_1).f1.f0) > 15 then (some (x7_1, 7)) else (oculusref05_Wrong.l0 kj32 l0 a1 a2 (wrap64 (x7_1 + 1))))) = some (r1, r2) := by rw [if_neg (show ¬ (false = true) by decide)] at H; exact H
            clear H; have H := H1; clear H1
            by_cases c42 : ((rd_T61 l0 x7_1).f1.f0) < 0
            ·rw [if_pos c42] at H; have c42b0 : decide (((rd_T61 l0 x7_1).f1.f0) < 0) = true := decide_eq_true c42; clear c42
             simp only [Option.some.injEq, Prod.mk.injEq] at H
             obtain ⟨rfl, rfl⟩ := H; have hnb43 := NB103_101.out; have hnc43 := NB101_103.out
             have hcz44_0 : wc.cell? ⟨gb103, 0, none⟩ = some (.int .i64 ((rd_T61 l0 x7_1).f0.f0.f0)) := bc_ BK103 0 rfl
             have hcz44_1 : wc.cell? ⟨gb103, 1, none⟩ = some (.int .i64 ((rd_T61 l0 x7_1).f0.f0.f1)) := bc_ BK103 1 rfl
             have hcz44_2 : wc.cell? ⟨gb103, 2, none⟩ = some (.int .i64 ((rd_T61 l0 x7_1).f0.f1.f0)) := bc_ BK103 2 rfl
             have hcz44_3 : wc.cell? ⟨gb103, 3, none⟩ = some (.int .i64 ((rd_T61 l0 x7_1).f0.f1.f1)) := bc_ BK103 3 rfl
             have hcz44_4 : wc.cell? ⟨gb103, 4, none⟩ = some (.int .i64 ((rd_T61 l0 x7_1).f1.f0)) := bc_ BK103 4 rfl
             have hcz44_5 : wc.cell? ⟨gb103, 5, none⟩ = some (.int .u64 ((rd_T61 l0 x7_1).f1.f1)) := bc_ BK103 5 rfl
             have hfz44_0 := blk_frozen BK103.out 0; have hfz44_1 := blk_frozen BK103.out 1; have hfz44_2 := blk_frozen BK103.out 2; have hfz44_3 := blk_frozen BK103.out 3; have hfz44_4 := blk_frozen BK103.out 4; have hfz44_5 := blk_frozen BK103.out 5
             have hcz45_0 : wc.cell? ⟨gb101, 0, none⟩ = some (.int .i64 x102000_1) := bc_ BK101 0 rfl
             have hcz45_1 : wc.cell? ⟨gb101, 1, none⟩ = some (.int .i64 x102001_1) := bc_ BK101 1 rfl
             have hfz45_0 := blk_frozen BK101.out 0; have hfz45_1 := blk_frozen BK101.out 1
             go_wp2
             refine bodyPost_ret (results_cell_row rfl _ _ gb101 34 #[.int .i64 x7_1, .int .i64 7] (0, 0) _ rfl (by refine pp_ (cs := #[.int .i64 x7_1, .int .i64 x102001_1]) 1 ?_ rfl; refine blk_put (cs := #[.int .i64 x102000_1, .int .i64 x102001_1]) ?_ 0 _ rfl; exact pkx BK101) Tryd.underlying34 rfl (by kernel_rfl)) rfl ?_
             exact ⟨by first | rfl | (simp [errW_none, errW_some] <;> rfl) | (simp [*, errW_none, errW_some] <;> rfl), by repeat (first | (with_reducible first | exact HB.out | apply below_alloc | apply pw_below_drewN | apply below_drew1 | refine below_set ?_ GE101.out | refine below_set ?_ GE103.out) | exact HB.out)⟩
            ·rw [if_neg c42] at H; have c42b0 : decide (((rd_T61 l0 x7_1).f1.f0) < 0) = false := decide_eq_false c42; clear c42
             by_cases c46 : ((rd_T61 l0 x7_1).f1.f0) > 15
             ·rw [if_pos c46] at H; have c46b0 : decide (15 < ((rd_T61 l0 x7_1).f1.f0)) = true := decide_eq_true c46; clear c46
              simp only [Option.some.injEq, Prod.mk.injEq] at H
              obtain ⟨rfl, rfl⟩ := H; have hnb47 := NB103_101.out; have hnc47 := NB101_103.out
              have hcz48_0 : wc.cell? ⟨gb103, 0, none⟩ = some (.int .i64 ((rd_T61 l0 x7_1).f0.f0.f0)) := bc_ BK103 0 rfl
              have hcz48_1 : wc.cell? ⟨gb103, 1, none⟩ = some (.int .i64 ((rd_T61 l0 x7_1).f0.f0.f1)) := bc_ BK103 1 rfl
              have hcz48_2 : wc.cell? ⟨gb103, 2, none⟩ = some (.int .i64 ((rd_T61 l0 x7_1).f0.f1.f0)) := bc_ BK103 2 rfl
              have hcz48_3 : wc.cell? ⟨gb103, 3, none⟩ = some (.int .i64 ((rd_T61 l0 x7_1).f0.f1.f1)) := bc_ BK103 3 rfl
              have hcz48_4 : wc.cell? ⟨gb103, 4, none⟩ = some (.int .i64 ((rd_T61 l0 x7_1).f1.f0)) := bc_ BK103 4 rfl
              have hcz48_5 : wc.cell? ⟨gb103, 5, none⟩ = some (.int .u64 ((rd_T61 l0 x7_1).f1.f1)) := bc_ BK103 5 rfl
              have hfz48_0 := blk_frozen BK103.out 0; have hfz48_1 := blk_frozen BK103.out 1; have hfz48_2 := blk_frozen BK103.out 2; have hfz48_3 := blk_frozen BK103.out 3; have hfz48_4 := blk_frozen BK103.out 4; have hfz48_5 := blk_frozen BK103.out 5
              have hcz49_0 : wc.cell? ⟨gb101, 0, none⟩ = some (.int .i64 x102000_1) := bc_ BK101 0 rfl
              have hcz49_1 : wc.cell? ⟨gb101, 1, none⟩ = some (.int .i64 x102001_1) := bc_ BK101 1 rfl
              have hfz49_0 := blk_frozen BK101.out 0; have hfz49_1 := blk_frozen BK101.out 1
              go_wp2
              refine bodyPost_ret (results_cell_row rfl _ _ gb101 34 #[.int .i64 x7_1, .int .i64 7] (0, 0) _ rfl (by refine pp_ (cs := #[.int .i64 x7_1, .int .i64 x102001_1]) 1 ?_ rfl; refine blk_put (cs := #[.int .i64 x102000_1, .int .i64 x102001_1]) ?_ 0 _ rfl; exact pkx BK101) Tryd.underlying34 rfl (by kernel_rfl)) rfl ?_
              exact ⟨by first | rfl | (simp [errW_none, errW_some] <;> rfl) | (simp [*, errW_none, errW_some] <;> rfl), by repeat (first | (with_reducible first | exact HB.out | apply below_alloc | apply pw_below_drewN | apply below_drew1 | refine below_set ?_ GE101.out | refine below_set ?_ GE103.out) | exact HB.out)⟩
             ·rw [if_neg c46] at H; have c46b0 : decide (15 < ((rd_T61 l0 x7_1).f1.f0)) = false := decide_eq_false c46; clear c46
              have H' := Aside0.mk H
              clear H; have hnb50 := NB103_101.out; have hnc50 := NB101_103.out
              have hcz51_0 : wc.cell? ⟨gb103, 0, none⟩ = some (.int .i64 ((rd_T61 l0 x7_1).f0.f0.f0)) := bc_ BK103 0 rfl
              have hcz51_1 : wc.cell? ⟨gb103, 1, none⟩ = some (.int .i64 ((rd_T61 l0 x7_1).f0.f0.f1)) := bc_ BK103 1 rfl
              have hcz51_2 : wc.cell? ⟨gb103, 2, none⟩ = some (.int .i64 ((rd_T61 l0 x7_1).f0.f1.f0)) := bc_ BK103 2 rfl
              have hcz51_3 : wc.cell? ⟨gb103, 3, none⟩ = some (.int .i64 ((rd_T61 l0 x7_1).f0.f1.f1)) := bc_ BK103 3 rfl
              have hcz51_4 : wc.cell? ⟨gb103, 4, none⟩ = some (.int .i64 ((rd_T61 l0 x7_1).f1.f0)) := bc_ BK103 4 rfl
              have hcz51_5 : wc.cell? ⟨gb103, 5, none⟩ = some (.int .u64 ((rd_T61 l0 x7_1).f1.f1)) := bc_ BK103 5 rfl
              have hfz51_0 := blk_frozen BK103.out 0; have hfz51_1 := blk_frozen BK103.out 1; have hfz51_2 := blk_frozen BK103.out 2; have hfz51_3 := blk_frozen BK103.out 3; have hfz51_4 := blk_frozen BK103.out 4; have hfz51_5 := blk_frozen BK103.out 5
              go_wp2
              go_roundg kj32
              case measure => have := HK1.out; have := HJ11.out; have := HJ32.out; omega
              case rel => exact ⟨(wrap64 (x7_1 + 1)), (x102000_1), (x102001_1), (by first | rfl | (simp; done) | (simp [*]; done)), H', ⟨by have := HK1.out; have := HJ11.out; have := HJ32.out; omega⟩, ⟨pkx BK101⟩, ⟨pbx HB⟩⟩
    ·rw [if_neg c6] at H
     exact absurd H (by simp)
   ·rw [if_neg c5] at H; have c5b0 : decide (x7_1 < (l0.length : Int)) = false := decide_eq_false c5; clear c5
    simp only [Option.some.injEq, Prod.mk.injEq] at H
    obtain ⟨rfl, rfl⟩ := H
    have hcz52_0 : wr.cell? ⟨gb101, 0, none⟩ = some (.int .i64 x102000_1) := bc_ BK101 0 rfl
    have hcz52_1 : wr.cell? ⟨gb101, 1, none⟩ = some (.int .i64 x102001_1) := bc_ BK101 1 rfl
    have hfz52_0 := blk_frozen BK101.out 0; have hfz52_1 := blk_frozen BK101.out 1
    go_wp2
    refine bodyPost_ret (results_cell_row rfl _ _ gb101 34 #[.int .i64 0, .int .i64 0] (0, 0) _ rfl (by refine pp_ (cs := #[.int .i64 0, .int .i64 x102001_1]) 1 ?_ rfl; refine blk_put (cs := #[.int .i64 x102000_1, .int .i64 x102001_1]) ?_ 0 _ rfl; exact pkx BK101) Tryd.underlying34 rfl (by kernel_rfl)) rfl ?_
    exact ⟨by first | rfl | (simp [errW_none, errW_some] <;> rfl) | (simp [*, errW_none, errW_some] <;> rfl), by repeat (first | (with_reducible first | exact HB.out | apply below_alloc | apply pw_below_drewN | apply below_drew1 | refine below_set ?_ GE101.out) | exact HB.out)⟩

def oculusref06_may.f (a0_0 : Int) (a0_1 : Int) : Option (Bool) := if a0_0 ≥ 0 then (some (decide (a0_0 ≤ 15))) else (some false)
set_option maxHeartbeats 8000000 in
set_option maxRecDepth 100000 in
theorem oculusref06_may.calls (a0_0 : Int) (a0_1 : Int) (r : Bool) (w : World) (h : oculusref06_may.f a0_0 a0_1 = some r) :
  Calls Tryd.prog 52 #[.agg #[.int .i64 a0_0, .int .u64 a0_1]] w fun e w' => e = .returned (.bool r) ∧ Below w.heap.size w w' := by
 have hu59 := Tryd.underlying59; have HB := Aside0.mk (Below.refl w.heap.size w)
 have H : (if a0_0 ≥ 0 then (some (decide (a0_0 ≤ 15))) else (some false)) = some r := h
 clear h
 by_cases c2 : a0_0 ≥ 0
 ·rw [if_pos c2] at H; have c2b0 : decide (0 ≤ a0_0) = true := decide_eq_true c2; clear c2; obtain rfl := Option.some.inj H
  go_enter Tryd.func52, Tryd.ntmps52
  go_wp2_with (first | ((with_reducible refine gate_dst (N:=1) rfl ?_); refine be_ (N:=1) (cs := #[.int .i64 a0_0, .int .u64 a0_1]) (t:=59) ?_; intro gb101 hg w3 hbox hb; have BK101 := Aside0.mk (hbox); replace HB := bs_ HB hb; clear hb hbox hg; have hcz4_0 : w3.cell? ⟨gb101, 0, none⟩ = some (.int .i64 a0_0) := bc_ BK101 0 rfl; have hcz4_1 : w3.cell? ⟨gb101, 1, none⟩ = some (.int .u64 a0_1) := bc_ BK101 1 rfl))
  go_ret
  exact ⟨by first | rfl | (simp [errW_none, errW_some] <;> rfl) | (simp [*, errW_none, errW_some] <;> rfl), pbx HB⟩
 ·rw [if_neg c2] at H; have c2b0 : decide (0 ≤ a0_0) = false := decide_eq_false c2; clear c2; obtain rfl := Option.some.inj H
  go_enter Tryd.func52, Tryd.ntmps52
  go_wp2_with (first | ((with_reducible refine gate_dst (N:=1) rfl ?_); refine be_ (N:=1) (cs := #[.int .i64 a0_0, .int .u64 a0_1]) (t:=59) ?_; intro gb101 hg w5 hbox hb; have BK101 := Aside0.mk (hbox); replace HB := bs_ HB hb; clear hb hbox hg; have hcz6_0 : w5.cell? ⟨gb101, 0, none⟩ = some (.int .i64 a0_0) := bc_ BK101 0 rfl; have hcz6_1 : w5.cell? ⟨gb101, 1, none⟩ = some (.int .u64 a0_1) := bc_ BK101 1 rfl))
  go_ret
  exact ⟨by first | rfl | (simp [errW_none, errW_some] <;> rfl) | (simp [*, errW_none, errW_some] <;> rfl), pbx HB⟩

def oculusref06_Find.l0 : Nat → List (S65) → ByteArray → Int → Option (Int)
 | 0, _, _, _ => none
 | k + 1, x0, x1, x5 => if x5 < (x0.length : Int) then (if 0 ≤ x5 then (if ((rd_T65 x0 x5).f0).toList = x1.toList then (some x5) else (oculusref06_Find.l0 k x0 x1 (wrap64 (x5 + 1)))) else (none)) else (some (-1))
def oculusref06_Find.f (k : Nat) (l0 : List (S65)) (a1 : ByteArray) : Option (Int) := oculusref06_Find.l0 k l0 a1 0
set_option maxHeartbeats 8000000 in
set_option maxRecDepth 100000 in
theorem oculusref06_Find.calls (k : Nat) (A0 : Option Addr) (c0 : Nat) (l0 : List (S65)) (a1 : ByteArray) (r : Int) (w : World) (hr0 : Kd.C k65 w A0 l0.length l0) (hc0 : l0.length ≤ c0) (h : oculusref06_Find.f k l0 a1 = some r) :
  Calls Tryd.prog 53 #[.slice A0 l0.length c0, .string a1] w fun e w' => e = .returned (.int .i64 r) ∧ Drawn0 w w' := by
 have HR0 := Aside0.mk hr0; have HC0 := Aside0.mk hc0; clear hr0 hc0
 have H : (oculusref06_Find.l0 k l0 a1 0) = some r := h
 clear h
 have H' := Aside0.mk H
 clear H
 go_enter Tryd.func53, Tryd.ntmps53
 go_wp2
 go_loopg [5] k (fun kq v5 w' => ∃ (x5_1 : Int), v5 = .int .i64 x5_1 ∧ Aside0 (oculusref06_Find.l0 kq l0 a1 x5_1 = some r) ∧ Aside0 (kq ≤ k) ∧ Drawn0 w w')
 case atStart => exact ⟨(0), (by first | rfl | (simp; done) | (simp [*]; done)), H', ⟨Nat.le_refl _⟩, by repeat (first | exact Drawn0.refl _ | apply Drawn0.step)⟩
 case round =>
  clear H'; (try clear p2); obtain ⟨x5_1, rfl, HA, HK1, ⟨m1, rfl⟩⟩ := hrel
  cases gk with
  | zero => exact absurd HA.out (by simp [oculusref06_Find.l0])
  | succ k1 =>
   have H := HA.out; clear HA
   simp only [oculusref06_Find.l0] at H
   by_cases c3 : x5_1 < (l0.length : Int)
   ·rw [if_pos c3] at H; have c3b0 : decide (x5_1 < (l0.length : Int)) = true := decide_eq_true c3; clear c3
    by_cases c4 : 0 ≤ x5_1
    ·rw [if_pos c4] at H; have c4b0 : decide (0 ≤ x5_1) = true := decide_eq_true c4; clear c4
     by_cases c5 : ((rd_T65 l0 x5_1).f0).toList = a1.toList
     ·rw [if_pos c5] at H; have c5b0 : (((rd_T65 l0 x5_1).f0).toList == a1.toList) = true := beq_iff_eq.mpr c5; have c5b1 : (((rd_T65 l0 x5_1).f0).toList != a1.toList) = false := bne_eq_false_iff_eq.mpr c5; clear c5; obtain rfl := Option.some.inj H
      have p101 : 0 ≤ (x5_1 : Int) := of_decide_eq_true (by first | (with_reducible assumption) | assumption)
      have q101 : x5_1 < (l0.length : Int) := of_decide_eq_true (by first | (with_reducible assumption) | assumption)
      obtain ⟨ad101, e101, hx101_0, hx101_1, hx101_2⟩ := at_T65 HR0.out x5_1 p101 q101
      cases e101
      replace p101 := eq_true p101; replace q101 := eq_true q101
      go_wp2
      go_ret
      exact ⟨by first | rfl | (simp; done) | (simp [*]; done), by repeat (first | exact Drawn0.refl _ | apply Drawn0.step)⟩
     ·rw [if_neg c5] at H; have c5b0 : (((rd_T65 l0 x5_1).f0).toList == a1.toList) = false := beq_eq_false_iff_ne.mpr c5; have c5b1 : (((rd_T65 l0 x5_1).f0).toList != a1.toList) = true := bne_iff_ne.mpr c5
      have H' := Aside0.mk H
      clear H
      have p101 : 0 ≤ (x5_1 : Int) := of_decide_eq_true (by first | (with_reducible assumption) | assumption)
      have q101 : x5_1 < (l0.length : Int) := of_decide_eq_true (by first | (with_reducible assumption) | assumption)
      obtain ⟨ad101, e101, hx101_0, hx101_1, hx101_2⟩ := at_T65 HR0.out x5_1 p101 q101
      cases e101
      replace p101 := eq_true p101; replace q101 := eq_true q101
      go_wp2
      go_roundg k1
      case measure => have := HK1.out; omega
      case rel => exact ⟨(wrap64 (x5_1 + 1)), (by first | rfl | (simp; done) | (simp [*]; done)), H', ⟨by have := HK1.out; omega⟩, by repeat (first | exact Drawn0.refl _ | apply Drawn0.step)⟩
    ·rw [if_neg c4] at H
     exact absurd H (by simp)
   ·rw [if_neg c3] at H; have c3b0 : decide (x5_1 < (l0.length : Int)) = false := decide_eq_false c3; clear c3; obtain rfl := Option.some.inj H
    go_wp2
    go_ret
    exact ⟨by first | rfl | (simp; done) | (simp [*]; done), by repeat (first | exact Drawn0.refl _ | apply Drawn0.step)⟩

def oculusref06_letter.f (a0 : Int) : Option (Bool) := if a0 ≥ 97 then (some (decide (a0 ≤ 122))) else (some false)
set_option maxHeartbeats 8000000 in
set_option maxRecDepth 100000 in
theorem oculusref06_letter.calls (a0 : Int) (r : Bool) (w : World) (h : oculusref06_letter.f a0 = some r) :
  Calls Tryd.prog 74 #[.int .u8 a0] w fun e w' => e = .returned (.bool r) ∧ Drawn0 w w' := by
 have H : (if a0 ≥ 97 then (some (decide (a0 ≤ 122))) else (some false)) = some r := h
 clear h
 by_cases c2 : a0 ≥ 97
 ·rw [if_pos c2] at H; have c2b0 : decide (97 ≤ a0) = true := decide_eq_true c2; clear c2; obtain rfl := Option.some.inj H
  go_enter Tryd.func74, Tryd.ntmps74
  go_wp2
  go_ret
  exact ⟨by first | rfl | (simp; done) | (simp [*]; done), by repeat (first | exact Drawn0.refl _ | apply Drawn0.step)⟩
 ·rw [if_neg c2] at H; have c2b0 : decide (97 ≤ a0) = false := decide_eq_false c2; clear c2; obtain rfl := Option.some.inj H
  go_enter Tryd.func74, Tryd.ntmps74
  go_wp2
  go_ret
  exact ⟨by first | rfl | (simp; done) | (simp [*]; done), by repeat (first | exact Drawn0.refl _ | apply Drawn0.step)⟩

mutual
def oculusref06_Name.j0 : Nat → ByteArray → Bool → Option (Bool)
 | 0, _, _ => none
 | k + 1, x0, x17 => if x17 = true then (some false) else (oculusref06_Name.l0 k x0 0)
def oculusref06_Name.l0 : Nat → ByteArray → Int → Option (Bool)
 | 0, _, _ => none
 | k + 1, x0, x3 => if x3 < (x0.size : Int) then (if 0 ≤ x3 then ((oculusref06_letter.f (bt x0 x3)).bind fun t102 => (if t102 = true then (oculusref06_Name.l0 k x0 (wrap64 (x3 + 1))) else (if (bt x0 x3) ≥ 48 then (if ((bt x0 x3) ≤ 57) then (oculusref06_Name.l0 k x0 (wrap64 (x3 + 1))) else (some false)) else (some false)))) else (none)) else (some true)
end
def oculusref06_Name.f (k : Nat) (a0 : ByteArray) : Option (Bool) := if (a0.size : Int) < 1 then (oculusref06_Name.j0 k a0 true) else (if (a0.size : Int) > 16 then (oculusref06_Name.j0 k a0 true) else (if 0 < (a0.size : Int) then ((oculusref06_letter.f (bt a0 0)).bind fun t101 => (oculusref06_Name.j0 k a0 (!t101))) else (none)))
set_option maxHeartbeats 8000000 in
set_option maxRecDepth 100000 in
theorem oculusref06_Name.calls (k : Nat) (a0 : ByteArray) (r : Bool) (w : World) (h : oculusref06_Name.f k a0 = some r) :
  Calls Tryd.prog 54 #[.string a0] w fun e w' => e = .returned (.bool r) ∧ Drawn0 w w' := by
 have H : (if (a0.size : Int) < 1 then (oculusref06_Name.j0 k a0 true) else (if (a0.size : Int) > 16 then (oculusref06_Name.j0 k a0 true) else (if 0 < (a0.size : Int) then ((oculusref06_letter.f (bt a0 0)).bind fun t101 => (oculusref06_Name.j0 k a0 (!t101))) else (none)))) = some r := h
 clear h; have HC2 := Aside0.mk H; clear H
 go_enter Tryd.func54, Tryd.ntmps54
 go_upto_region 1 with (fail)
 go_cut [17] (fun v17 wc => ∃ (kq : Nat) (x17_1 : Bool), v17 = .bool x17_1 ∧ Aside0 (oculusref06_Name.j0 kq a0 x17_1 = some r) ∧ Aside0 (kq ≤ k) ∧ Drawn0 w wc)
 case first =>
  have H := HC2.out; clear HC2
  by_cases c3 : (a0.size : Int) < 1
  ·rw [if_pos c3] at H; have c3b0 : decide ((a0.size : Int) < 1) = true := decide_eq_true c3; have c3b1 : decide (a0.size < 1) = true := decide_eq_true (by omega); clear c3; (first | rw [c3b0] | (simp only [i64_w, i32_w]; rw [c3b0]) | skip)
   have H' := Aside0.mk H
   clear H
   go_wp2
   go_meet
   case rel => exact ⟨_, (true), (by first | rfl | (simp; done) | (simp [*]; done)), H', ⟨by first | omega | exact Nat.le_refl _⟩, by repeat (first | exact Drawn0.refl _ | apply Drawn0.step)⟩
  ·rw [if_neg c3] at H; have c3b0 : decide ((a0.size : Int) < 1) = false := decide_eq_false c3; have c3b1 : decide (a0.size < 1) = false := decide_eq_false (by omega); clear c3; (first | rw [c3b0] | (simp only [i64_w, i32_w]; rw [c3b0]) | skip)
   by_cases c4 : (a0.size : Int) > 16
   ·rw [if_pos c4] at H; have c4b0 : decide (16 < (a0.size : Int)) = true := decide_eq_true c4; have c4b1 : decide (16 < a0.size) = true := decide_eq_true (by omega); clear c4
    have H' := Aside0.mk H
    clear H
    go_wp2
    go_meet
    case rel => exact ⟨_, (true), (by first | rfl | (simp; done) | (simp [*]; done)), H', ⟨by first | omega | exact Nat.le_refl _⟩, by repeat (first | exact Drawn0.refl _ | apply Drawn0.step)⟩
   ·rw [if_neg c4] at H; have c4b0 : decide (16 < (a0.size : Int)) = false := decide_eq_false c4; have c4b1 : decide (16 < a0.size) = false := decide_eq_false (by omega); clear c4
    by_cases c5 : 0 < (a0.size : Int)
    ·rw [if_pos c5] at H; have c5b0 : decide (0 < (a0.size : Int)) = true := decide_eq_true c5; have c5b1 : decide (0 < a0.size) = true := decide_eq_true (by omega); clear c5; replace H := Option.bind_eq_some_iff.mp H; obtain ⟨t101, A70, H⟩ := H
     replace H : (oculusref06_Name.j0 k a0 (!t101)) = some r := H
     have A7 := Aside0.mk A70; clear A70
     have H' := Aside0.mk H
     clear H
     have p6 : 0 ≤ (0 : Int) := (by omega)
     have q6 : 0 < a0.size := (by have : (0 : Int) < (a0.size : Int) := of_decide_eq_true (by first | (with_reducible assumption) | assumption); omega)
     have hx6 : ∀ h : 0 < a0.size, ((a0[0]'h).toNat : Int) = bt a0 0 := bt_at a0 0
     clear p6; have qi6 : (0 < (a0.size : Int)) = True := eq_true (of_decide_eq_true (by first | (with_reducible assumption) | assumption)); replace q6 := eq_true q6
     go_wp2_with (first | (go_at_call 74; (with_reducible refine (oculusref06_letter.calls (bt a0 0) t101 _ A7.out).mono ?_); rintro e w' ⟨rfl, ⟨nd, rfl⟩⟩))
     go_meet
     case rel => exact ⟨_, (!t101), (by first | rfl | (simp; done) | (simp [*]; done) | (cases t101 <;> simp; done)), H', ⟨by first | omega | exact Nat.le_refl _⟩, by repeat (first | exact Drawn0.refl _ | apply Drawn0.step)⟩
    ·rw [if_neg c5] at H
     exact absurd H (by simp)
 case rest =>
  clear HC2; (try clear p2); (try clear c3); (try clear c3b0); (try clear c3b1); (try clear c4); (try clear c4b0); (try clear c4b1); (try clear c5); (try clear c5b0); (try clear c5b1); (try clear p6); (try clear q6); (try clear hx6); (try clear qi6); (try clear p6); (try clear q6); obtain ⟨kq, x17_1, rfl, HA, HJ1, ⟨mc1, rfl⟩⟩ := hcut
  cases kq with
  | zero => exact absurd HA.out (by simp [oculusref06_Name.j0])
  | succ kj1 =>
   have H := HA.out; clear HA
   simp only [oculusref06_Name.j0] at H
   by_cases c8 : x17_1 = true
   ·subst c8
    have H1 : (some false) = some r := by rw [if_pos rfl] at H; exact H
    clear H; have H := H1; clear H1; obtain rfl := Option.some.inj H
    go_wp2
    go_ret
    exact ⟨by first | rfl | (simp; done) | (simp [*]; done), by repeat (first | exact Drawn0.refl _ | apply Drawn0.step)⟩
   ·replace c8 := Bool.eq_false_iff.mpr c8; subst c8
    have H1 : (oculusref06_Name.l0 kj1 a0 0) = some r := by rw [if_neg (show ¬ (false = true) by decide)] at H; exact H
    clear H; have H := H1; clear H1
    have H' := Aside0.mk H
    clear H
    go_wp2
    go_loopg [3] kj1 (fun kq v3 w' => ∃ (x3_2 : Int), v3 = .int .i64 x3_2 ∧ Aside0 (oculusref06_Name.l0 kq a0 x3_2 = some r) ∧ Aside0 (kq ≤ kj1) ∧ Drawn0 w w')
    case atStart => exact ⟨(0), (by first | rfl | (simp; done) | (simp [*]; done)), H', ⟨Nat.le_refl _⟩, by repeat (first | exact Drawn0.refl _ | apply Drawn0.step)⟩
    case round =>
     clear H'; (try clear c1); (try clear p2); (try clear c3); (try clear c3b0); (try clear c3b1); (try clear c4); (try clear c4b0); (try clear c4b1); (try clear c5); (try clear c5b0); (try clear c5b1); (try clear p6); (try clear q6); (try clear hx6); (try clear qi6); (try clear c8); (try clear p2); (try clear p6); (try clear q6); obtain ⟨x3_2, rfl, HA, HK2, ⟨m2, rfl⟩⟩ := hrel
     cases gk with
     | zero => exact absurd HA.out (by simp [oculusref06_Name.l0])
     | succ k2 =>
      have H := HA.out; clear HA
      simp only [oculusref06_Name.l0] at H
      by_cases c9 : x3_2 < (a0.size : Int)
      ·rw [if_pos c9] at H; have c9b0 : decide (x3_2 < (a0.size : Int)) = true := decide_eq_true c9; clear c9
       by_cases c10 : 0 ≤ x3_2
       ·rw [if_pos c10] at H; have c10b0 : decide (0 ≤ x3_2) = true := decide_eq_true c10; clear c10; replace H := Option.bind_eq_some_iff.mp H; obtain ⟨t102, A120, H⟩ := H
        replace H : (if t102 = true then (oculusref06_Name.l0 k2 a0 (wrap64 (x3_2 + 1))) else (if (bt a0 x3_2) ≥ 48 then (if ((bt a0 x3_2) ≤ 57) then (oculusref06_Name.l0 k2 a0 (wrap64 (x3_2 + 1))) else (some false)) else (some false))) = some r := H
        have A12 := Aside0.mk A120; clear A120
        by_cases c13 : t102 = true
        ·subst c13
         have H1 : (oculusref06_Name.l0 k2 a0 (wrap64 (x3_2 + 1))) = some r := by rw [if_pos rfl] at H; exact H
         clear H; have H := H1; clear H1
         have H' := Aside0.mk H
         clear H
         have p11 : 0 ≤ (x3_2 : Int) := of_decide_eq_true (by first | (with_reducible assumption) | assumption)
         have q11 : x3_2 < (a0.size : Int) := of_decide_eq_true (by first | (with_reducible assumption) | assumption)
         have hx11 := bt_at a0 x3_2; replace p11 := eq_true p11; replace q11 := eq_true q11
         go_wp2_with (first | ((with_reducible refine gate_callee (f:=74) rfl ?_); refine gL_ (some 27) rfl rfl Tryd.func74 rfl #[.int .u8 (bt a0 x3_2)] rfl ?_; (with_reducible refine (oculusref06_letter.calls (bt a0 x3_2) true _ A12.out).mono ?_); rintro e w' ⟨rfl, ⟨nd, rfl⟩⟩; refine ⟨_, rfl, ?_⟩))
         go_roundg k2
         case measure => have := HJ1.out; have := HK2.out; omega
         case rel => exact ⟨(wrap64 (x3_2 + 1)), (by first | rfl | (simp; done) | (simp [*]; done)), H', ⟨by have := HJ1.out; have := HK2.out; omega⟩, by repeat (first | exact Drawn0.refl _ | apply Drawn0.step)⟩
        ·replace c13 := Bool.eq_false_iff.mpr c13; subst c13
         have H1 : (if (bt a0 x3_2) ≥ 48 then (if ((bt a0 x3_2) ≤ 57) then (oculusref06_Name.l0 k2 a0 (wrap64 (x3_2 + 1))) else (some false)) else (some false)) = some r := by rw [if_neg (show ¬ (false = true) by decide)] at H; exact H
         clear H; have H := H1; clear H1
         by_cases c15 : (bt a0 x3_2) ≥ 48
         ·rw [if_pos c15] at H; have c15b0 : decide (48 ≤ (bt a0 x3_2)) = true := decide_eq_true c15; clear c15
          by_cases c17 : ((bt a0 x3_2) ≤ 57)
          ·rw [if_pos c17] at H; have c17b0 : decide ((bt a0 x3_2) ≤ 57) = true := decide_eq_true c17; clear c17
           have H' := Aside0.mk H
           clear H
           have p11 : 0 ≤ (x3_2 : Int) := of_decide_eq_true (by first | (with_reducible assumption) | assumption)
           have q11 : x3_2 < (a0.size : Int) := of_decide_eq_true (by first | (with_reducible assumption) | assumption)
           have hx11 := bt_at a0 x3_2; replace p11 := eq_true p11; replace q11 := eq_true q11
           go_wp2_with (first | ((with_reducible refine gate_callee (f:=74) rfl ?_); refine gL_ (some 27) rfl rfl Tryd.func74 rfl #[.int .u8 (bt a0 x3_2)] rfl ?_; (with_reducible refine (oculusref06_letter.calls (bt a0 x3_2) false _ A12.out).mono ?_); rintro e w' ⟨rfl, ⟨nd, rfl⟩⟩; refine ⟨_, rfl, ?_⟩; have p14 : 0 ≤ (x3_2 : Int) := of_decide_eq_true (by first | (with_reducible assumption) | assumption); have q14 : x3_2 < (a0.size : Int) := of_decide_eq_true (by first | (with_reducible assumption) | assumption); have hx14 := bt_at a0 x3_2; replace p14 := eq_true p14; replace q14 := eq_true q14; have p16 : 0 ≤ (x3_2 : Int) := of_decide_eq_true (by first | (with_reducible assumption) | assumption); have q16 : x3_2 < (a0.size : Int) := of_decide_eq_true (by first | (with_reducible assumption) | assumption); have hx16 := bt_at a0 x3_2; replace p16 := eq_true p16; replace q16 := eq_true q16))
           go_roundg k2
           case measure => have := HJ1.out; have := HK2.out; omega
           case rel => exact ⟨(wrap64 (x3_2 + 1)), (by first | rfl | (simp; done) | (simp [*]; done)), H', ⟨by have := HJ1.out; have := HK2.out; omega⟩, by repeat (first | exact Drawn0.refl _ | apply Drawn0.step)⟩
          ·rw [if_neg c17] at H; have c17b0 : decide ((bt a0 x3_2) ≤ 57) = false := decide_eq_false c17; clear c17; obtain rfl := Option.some.inj H
           have p11 : 0 ≤ (x3_2 : Int) := of_decide_eq_true (by first | (with_reducible assumption) | assumption)
           have q11 : x3_2 < (a0.size : Int) := of_decide_eq_true (by first | (with_reducible assumption) | assumption)
           have hx11 := bt_at a0 x3_2; replace p11 := eq_true p11; replace q11 := eq_true q11
           go_wp2_with (first | ((with_reducible refine gate_callee (f:=74) rfl ?_); refine gL_ (some 27) rfl rfl Tryd.func74 rfl #[.int .u8 (bt a0 x3_2)] rfl ?_; (with_reducible refine (oculusref06_letter.calls (bt a0 x3_2) false _ A12.out).mono ?_); rintro e w' ⟨rfl, ⟨nd, rfl⟩⟩; refine ⟨_, rfl, ?_⟩; have p14 : 0 ≤ (x3_2 : Int) := of_decide_eq_true (by first | (with_reducible assumption) | assumption); have q14 : x3_2 < (a0.size : Int) := of_decide_eq_true (by first | (with_reducible assumption) | assumption); have hx14 := bt_at a0 x3_2; replace p14 := eq_true p14; replace q14 := eq_true q14; have p16 : 0 ≤ (x3_2 : Int) := of_decide_eq_true (by first | (with_reducible assumption) | assumption); have q16 : x3_2 < (a0.size : Int) := of_decide_eq_true (by first | (with_reducible assumption) | assumption); have hx16 := bt_at a0 x3_2; replace p16 := eq_true p16; replace q16 := eq_true q16))
           go_ret
           exact ⟨by first | rfl | (simp; done) | (simp [*]; done), by repeat (first | exact Drawn0.refl _ | apply Drawn0.step)⟩
         ·rw [if_neg c15] at H; have c15b0 : decide (48 ≤ (bt a0 x3_2)) = false := decide_eq_false c15; clear c15; obtain rfl := Option.some.inj H
          have p11 : 0 ≤ (x3_2 : Int) := of_decide_eq_true (by first | (with_reducible assumption) | assumption)
          have q11 : x3_2 < (a0.size : Int) := of_decide_eq_true (by first | (with_reducible assumption) | assumption)
          have hx11 := bt_at a0 x3_2; replace p11 := eq_true p11; replace q11 := eq_true q11
          go_wp2_with (first | ((with_reducible refine gate_callee (f:=74) rfl ?_); refine gL_ (some 27) rfl rfl Tryd.func74 rfl #[.int .u8 (bt a0 x3_2)] rfl ?_; (with_reducible refine (oculusref06_letter.calls (bt a0 x3_2) false _ A12.out).mono ?_); rintro e w' ⟨rfl, ⟨nd, rfl⟩⟩; refine ⟨_, rfl, ?_⟩; have p14 : 0 ≤ (x3_2 : Int) := of_decide_eq_true (by first | (with_reducible assumption) | assumption); have q14 : x3_2 < (a0.size : Int) := of_decide_eq_true (by first | (with_reducible assumption) | assumption); have hx14 := bt_at a0 x3_2; replace p14 := eq_true p14; replace q14 := eq_true q14))
          go_ret
          exact ⟨by first | rfl | (simp; done) | (simp [*]; done), by repeat (first | exact Drawn0.refl _ | apply Drawn0.step)⟩
       ·rw [if_neg c10] at H
        exact absurd H (by simp)
      ·rw [if_neg c9] at H; have c9b0 : decide (x3_2 < (a0.size : Int)) = false := decide_eq_false c9; clear c9; obtain rfl := Option.some.inj H
       go_wp2
       go_ret
       exact ⟨by first | rfl | (simp; done) | (simp [*]; done), by repeat (first | exact Drawn0.refl _ | apply Drawn0.step)⟩

mutual
def oculusref06_Users.l0 : Nat → List (S65) → Int → Option (Int × Int)
 | 0, _, _ => none
 | k + 1, x0, x3 => if x3 < (x0.length : Int) then (if 0 ≤ x3 then ((oculusref06_may.f ((rd_T65 x0 x3).f1.f0) ((rd_T65 x0 x3).f1.f1)).bind fun t103 => (if t103 = true then (oculusref06_Users.j1 k x0 x3 0) else (oculusref06_Users.j1 k x0 x3 7))) else (none)) else (some (0, 0))
def oculusref06_Users.j1 : Nat → List (S65) → Int → Int → Option (Int × Int)
 | 0, _, _, _ => none
 | k + 1, x0, x3, x4 => if 0 ≤ x3 then (if x3 < (x0.length : Int) then ((oculusref06_Find.f k x0 ((rd_T65 x0 x3).f0)).bind fun t105 => (if t105 = x3 then (oculusref06_Users.j2 k x0 x3 x4) else (oculusref06_Users.j2 k x0 x3 8))) else (none)) else (none)
def oculusref06_Users.j2 : Nat → List (S65) → Int → Int → Option (Int × Int)
 | 0, _, _, _ => none
 | k + 1, x0, x3, x4 => if 0 ≤ x3 then (if x3 < (x0.length : Int) then ((oculusref06_Name.f k ((rd_T65 x0 x3).f0)).bind fun t107 => (if t107 = true then (oculusref06_Users.j3 k x0 x3 x4) else (oculusref06_Users.j3 k x0 x3 1))) else (none)) else (none)
def oculusref06_Users.j3 : Nat → List (S65) → Int → Int → Option (Int × Int)
 | 0, _, _, _ => none
 | k + 1, x0, x3, x4 => if x3 > 15 then (some (x3, 10)) else (if x4 = 0 then (oculusref06_Users.l0 k x0 (wrap64 (x3 + 1))) else (some (x3, x4)))
end
def oculusref06_Users.f (k : Nat) (l0 : List (S65)) : Option (Int × Int) := oculusref06_Users.l0 k l0 0
set_option maxHeartbeats 8000000 in
set_option maxRecDepth 100000 in
theorem oculusref06_Users.calls (k : Nat) (A0 : Option Addr) (c0 : Nat) (l0 : List (S65)) (r1 : Int) (r2 : Int) (w : World) (hr0 : Kd.C k65 w A0 l0.length l0) (hc0 : l0.length ≤ c0) (h : oculusref06_Users.f k l0 = some (r1, r2)) :
  Calls Tryd.prog 30 #[.slice A0 l0.length c0] w fun e w' => e = .returned (.agg #[.int .i64 r1, .int .i64 r2]) ∧ Below w.heap.size w w' := by
 have hu34 := Tryd.underlying34; have hu59 := Tryd.underlying59; have HR0 := Aside0.mk hr0; have HC0 := Aside0.mk hc0; clear hr0 hc0; have HB := Aside0.mk (Below.refl w.heap.size w)
 have H : (oculusref06_Users.l0 k l0 0) = some (r1, r2) := h
 clear h
 have H' := Aside0.mk H
 clear H
 go_enter Tryd.func30, Tryd.ntmps30
 go_wp2_with (first | ((with_reducible refine gate_dst (N:=2) rfl ?_); refine be_ (N:=2) (cs := #[.int .i64 0, .int .i64 0]) (t:=34) ?_; intro gb101 hg w2 hbox hb; have BK101 := Aside0.mk (hbox); have GW101 := hs_ HB hg; have GE101 := hs_ HB hg; replace HB := bs_ HB hb; clear hb hbox hg))
 go_loopg [3] k (fun kq v3 w' => ∃ (x3_1 : Int) (x102000_1 : Int) (x102001_1 : Int), v3 = .int .i64 x3_1 ∧ Aside0 (oculusref06_Users.l0 kq l0 x3_1 = some (r1, r2)) ∧ Aside0 (kq ≤ k) ∧ Aside0 (w'.heap[gb101]? = some (.cells #[.int .i64 x102000_1, .int .i64 x102001_1] 34 (0, 0))) ∧ Aside0 (Below w.heap.size w w'))
 case atStart => exact ⟨(0), (0), (0), (by first | rfl | (simp; done) | (simp [*]; done)), H', ⟨Nat.le_refl _⟩, ⟨pkx BK101⟩, ⟨pbx HB⟩⟩
 case round =>
  clear H'; (try clear p2); obtain ⟨x3_1, x102000_1, x102001_1, rfl, HA, HK1, BK101, HB⟩ := hrel
  cases gk with
  | zero => exact absurd HA.out (by simp [oculusref06_Users.l0])
  | succ k1 =>
   have H := HA.out; clear HA
   simp only [oculusref06_Users.l0] at H
   by_cases c3 : x3_1 < (l0.length : Int)
   ·rw [if_pos c3] at H; have c3b0 : decide (x3_1 < (l0.length : Int)) = true := decide_eq_true c3; clear c3
    by_cases c4 : 0 ≤ x3_1
    ·rw [if_pos c4] at H; have c4b0 : decide (0 ≤ x3_1) = true := decide_eq_true c4; clear c4; replace H := Option.bind_eq_some_iff.mp H; obtain ⟨t103, A50, H⟩ := H
     replace H : (if t103 = true then (oculusref06_Users.j1 k1 l0 x3_1 0) else (oculusref06_Users.j1 k1 l0 x3_1 7)) = some (r1, r2) := H
     have A5 := Aside0.mk A50; clear A50; have HC6 := Aside0.mk H; clear H
     have p102 : 0 ≤ (x3_1 : Int) := of_decide_eq_true (by first | (with_reducible assumption) | assumption)
     have q102 : x3_1 < (l0.length : Int) := of_decide_eq_true (by first | (with_reducible assumption) | assumption)
     obtain ⟨ad102, e102, hx102_0, hx102_1, hx102_2⟩ := at_T65 HR0.out x3_1 p102 q102
     cases e102
     replace hx102_0 := (HB.out.cell (World.block_lt_of_cell? w _ hx102_0)).trans hx102_0; replace hx102_1 := (HB.out.cell (World.block_lt_of_cell? w _ hx102_1)).trans hx102_1; replace hx102_2 := (HB.out.cell (World.block_lt_of_cell? w _ hx102_2)).trans hx102_2; replace p102 := eq_true p102; replace q102 := eq_true q102
     go_upto_if 17 with (first | ((with_reducible refine gate_callee (f:=52) rfl ?_); refine gL_ (some 16) rfl rfl Tryd.func52 rfl #[.agg #[.int .i64 ((rd_T65 l0 x3_1).f1.f0), .int .u64 ((rd_T65 l0 x3_1).f1.f1)]] rfl ?_; (with_reducible refine (oculusref06_may.calls ((rd_T65 l0 x3_1).f1.f0) ((rd_T65 l0 x3_1).f1.f1) t103 _ A5.out).mono ?_); rintro e w7 ⟨rfl, hb⟩; refine ⟨_, rfl, ?_⟩; replace BK101 := bb_ BK101 hb; replace HB := bs_ HB hb; (try clear hb); (try clear hb2); (try clear hk); (try clear hi)))
     (try simp only [q_])
     go_cut [4] (fun v4 wc => ∃ (kq : Nat) (x4_5 : Int), v4 = .int .i64 x4_5 ∧ Aside0 (oculusref06_Users.j1 kq l0 x3_1 x4_5 = some (r1, r2)) ∧ Aside0 (kq ≤ k1) ∧ Aside0 (wc.heap[gb101]? = some (.cells #[.int .i64 x102000_1, .int .i64 x102001_1] 34 (0, 0))) ∧ Aside0 (Below w.heap.size w wc))
     case first =>
      have H := HC6.out; clear HC6
      by_cases c8 : t103 = true
      ·subst c8
       have H1 : (oculusref06_Users.j1 k1 l0 x3_1 0) = some (r1, r2) := by rw [if_pos rfl] at H; exact H
       clear H; have H := H1; clear H1
       have H' := Aside0.mk H
       clear H
       go_wp2
       go_meet
       case rel => exact ⟨_, (0), (by first | rfl | (simp; done) | (simp [*]; done)), H', ⟨by have := HK1.out; first | omega | exact Nat.le_refl _⟩, ⟨pkx BK101⟩, ⟨pbx HB⟩⟩
      ·replace c8 := Bool.eq_false_iff.mpr c8; subst c8
       have H1 : (oculusref06_Users.j1 k1 l0 x3_1 7) = some (r1, r2) := by rw [if_neg (show ¬ (false = true) by decide)] at H; exact H
       clear H; have H := H1; clear H1
       have H' := Aside0.mk H
       clear H
       go_wp2
       go_meet
       case rel => exact ⟨_, (7), (by first | rfl | (simp; done) | (simp [*]; done)), H', ⟨by have := HK1.out; first | omega | exact Nat.le_refl _⟩, ⟨pkx BK101⟩, ⟨pbx HB⟩⟩
     case rest =>
      clear HC6; (try clear p1); (try clear q1); (try clear hx1); (try clear p2); (try clear c3); (try clear c3b0); (try clear c4); (try clear c4b0); (try clear c5); (try clear c8); (try clear hx102_0); (try clear hx102_1); (try clear hx102_2); (try clear p102); (try clear p2); (try clear q102); obtain ⟨kq, x4_5, rfl, HA, HJ5, BK101, HB⟩ := hcut
      cases kq with
      | zero => exact absurd HA.out (by simp [oculusref06_Users.j1])
      | succ kj5 =>
       have H := HA.out; clear HA
       simp only [oculusref06_Users.j1] at H
       by_cases c9 : 0 ≤ x3_1
       ·rw [if_pos c9] at H; have c9b0 : decide (0 ≤ x3_1) = true := decide_eq_true c9; clear c9
        by_cases c10 : x3_1 < (l0.length : Int)
        ·rw [if_pos c10] at H; have c10b0 : decide (x3_1 < (l0.length : Int)) = true := decide_eq_true c10; clear c10; replace H := Option.bind_eq_some_iff.mp H; obtain ⟨t105, A110, H⟩ := H
         replace H : (if t105 = x3_1 then (oculusref06_Users.j2 kj5 l0 x3_1 x4_5) else (oculusref06_Users.j2 kj5 l0 x3_1 8)) = some (r1, r2) := H
         have A11 := Aside0.mk A110; clear A110; have HC12 := Aside0.mk H; clear H
         have p104 : 0 ≤ (x3_1 : Int) := of_decide_eq_true (by first | (with_reducible assumption) | assumption)
         have q104 : x3_1 < (l0.length : Int) := of_decide_eq_true (by first | (with_reducible assumption) | assumption)
         obtain ⟨ad104, e104, hx104_0, hx104_1, hx104_2⟩ := at_T65 HR0.out x3_1 p104 q104; obtain rfl : ad102 = ad104 := (by injection e104); replace hx104_0 := (HB.out.cell (World.block_lt_of_cell? w _ hx104_0)).trans hx104_0; replace hx104_1 := (HB.out.cell (World.block_lt_of_cell? w _ hx104_1)).trans hx104_1; replace hx104_2 := (HB.out.cell (World.block_lt_of_cell? w _ hx104_2)).trans hx104_2; replace p104 := eq_true p104; replace q104 := eq_true q104
         go_upto_if 26 with (first | ((with_reducible refine gate_callee (f:=53) rfl ?_); refine gL_ (some 24) rfl rfl Tryd.func53 rfl #[.slice (some ad102) l0.length c0, .string ((rd_T65 l0 x3_1).f0)] rfl ?_; (with_reducible refine (oculusref06_Find.calls kj5 _ _ l0 ((rd_T65 l0 x3_1).f0) t105 _ ?side1 ?side2 A11.out).mono ?_); (case side1 => repeat (first | exact (Kd.C_below HR0.out HB.out) | (with_reducible refine Kd.C_alloc ?_ _) | (with_reducible refine Kd.C_drewN ?_ _) | (with_reducible refine Kd.C_drew ?_))); (case side2 => exact HC0.out); rintro e w' ⟨rfl, ⟨nd, rfl⟩⟩; refine ⟨_, rfl, ?_⟩))
         (try simp only [q_])
         go_cut [4] (fun v4 wc => ∃ (kq : Nat) (x4_11 : Int), v4 = .int .i64 x4_11 ∧ Aside0 (oculusref06_Users.j2 kq l0 x3_1 x4_11 = some (r1, r2)) ∧ Aside0 (kq ≤ kj5) ∧ Aside0 (wc.heap[gb101]? = some (.cells #[.int .i64 x102000_1, .int .i64 x102001_1] 34 (0, 0))) ∧ Aside0 (Below w.heap.size w wc))
         case first =>
          have H := HC12.out; clear HC12
          by_cases c13 : t105 = x3_1
          ·rw [if_pos c13] at H; have c13b0 : (t105 == x3_1) = true := beq_iff_eq.mpr c13; have c13b1 : (t105 != x3_1) = false := bne_eq_false_iff_eq.mpr c13; clear c13; (first | rw [c13b0] | (simp only [i64_w, i32_w]; rw [c13b0]) | skip)
           have H' := Aside0.mk H
           clear H
           go_wp2
           go_meet
           case rel => exact ⟨_, (x4_5), (by first | rfl | (simp; done) | (simp [*]; done)), H', ⟨by have := HK1.out; have := HJ5.out; first | omega | exact Nat.le_refl _⟩, ⟨pkx BK101⟩, ⟨pbx HB⟩⟩
          ·rw [if_neg c13] at H; have c13b0 : (t105 == x3_1) = false := beq_eq_false_iff_ne.mpr c13; have c13b1 : (t105 != x3_1) = true := bne_iff_ne.mpr c13; (first | rw [c13b0] | (simp only [i64_w, i32_w]; rw [c13b0]) | skip)
           have H' := Aside0.mk H
           clear H
           go_wp2
           go_meet
           case rel => exact ⟨_, (8), (by first | rfl | (simp; done) | (simp [*]; done)), H', ⟨by have := HK1.out; have := HJ5.out; first | omega | exact Nat.le_refl _⟩, ⟨pkx BK101⟩, ⟨pbx HB⟩⟩
         case rest =>
          clear HC12; (try clear c1); (try clear p1); (try clear q1); (try clear hx1); (try clear p2); (try clear c3); (try clear c3b0); (try clear c4); (try clear c4b0); (try clear c5); (try clear c8); (try clear c9); (try clear c9b0); (try clear c10); (try clear c10b0); (try clear p10); (try clear q10); (try clear hx10); (try clear c13); (try clear c13b0); (try clear c13b1); (try clear hx102_0); (try clear hx102_1); (try clear hx102_2); (try clear hx104_0); (try clear hx104_1); (try clear hx104_2); (try clear p1); (try clear p102); (try clear p104); (try clear p2); (try clear q1); (try clear q102); (try clear q104); obtain ⟨kq, x4_11, rfl, HA, HJ11, BK101, HB⟩ := hcut
          cases kq with
          | zero => exact absurd HA.out (by simp [oculusref06_Users.j2])
          | succ kj11 =>
           have H := HA.out; clear HA
           simp only [oculusref06_Users.j2] at H
           by_cases c14 : 0 ≤ x3_1
           ·rw [if_pos c14] at H; have c14b0 : decide (0 ≤ x3_1) = true := decide_eq_true c14; clear c14
            by_cases c15 : x3_1 < (l0.length : Int)
            ·rw [if_pos c15] at H; have c15b0 : decide (x3_1 < (l0.length : Int)) = true := decide_eq_true c15; clear c15; replace H := Option.bind_eq_some_iff.mp H; obtain ⟨t107, A160, H⟩ := H
             replace H : (if t107 = true then (oculusref06_Users.j3 kj11 l0 x3_1 x4_11) else (oculusref06_Users.j3 kj11 l0 x3_1 1)) = some (r1, r2) := H
             have A16 := Aside0.mk A160; clear A160; have HC17 := Aside0.mk H; clear H
             have p106 : 0 ≤ (x3_1 : Int) := of_decide_eq_true (by first | (with_reducible assumption) | assumption)
             have q106 : x3_1 < (l0.length : Int) := of_decide_eq_true (by first | (with_reducible assumption) | assumption)
             obtain ⟨ad106, e106, hx106_0, hx106_1, hx106_2⟩ := at_T65 HR0.out x3_1 p106 q106; obtain rfl : ad102 = ad106 := (by injection e106); replace hx106_0 := (HB.out.cell (World.block_lt_of_cell? w _ hx106_0)).trans hx106_0; replace hx106_1 := (HB.out.cell (World.block_lt_of_cell? w _ hx106_1)).trans hx106_1; replace hx106_2 := (HB.out.cell (World.block_lt_of_cell? w _ hx106_2)).trans hx106_2; replace p106 := eq_true p106; replace q106 := eq_true q106
             go_upto_if 33 with (first | ((with_reducible refine gate_callee (f:=54) rfl ?_); refine gL_ (some 32) rfl rfl Tryd.func54 rfl #[.string ((rd_T65 l0 x3_1).f0)] rfl ?_; (with_reducible refine (oculusref06_Name.calls kj11 ((rd_T65 l0 x3_1).f0) t107 _ A16.out).mono ?_); rintro e w' ⟨rfl, ⟨nd, rfl⟩⟩; refine ⟨_, rfl, ?_⟩))
             (try simp only [q_])
             go_cut [4] (fun v4 wc => ∃ (kq : Nat) (x4_16 : Int), v4 = .int .i64 x4_16 ∧ Aside0 (oculusref06_Users.j3 kq l0 x3_1 x4_16 = some (r1, r2)) ∧ Aside0 (kq ≤ kj11) ∧ Aside0 (wc.heap[gb101]? = some (.cells #[.int .i64 x102000_1, .int .i64 x102001_1] 34 (0, 0))) ∧ Aside0 (Below w.heap.size w wc))
             case first =>
              have H := HC17.out; clear HC17
              by_cases c18 : t107 = true
              ·subst c18
               have H1 : (oculusref06_Users.j3 kj11 l0 x3_1 x4_11) = some (r1, r2) := by rw [if_pos rfl] at H; exact H
               clear H; have H := H1; clear H1
               have H' := Aside0.mk H
               clear H
               go_wp2
               go_meet
               case rel => exact ⟨_, (x4_11), (by first | rfl | (simp; done) | (simp [*]; done)), H', ⟨by have := HK1.out; have := HJ5.out; have := HJ11.out; first | omega | exact Nat.le_refl _⟩, ⟨pkx BK101⟩, ⟨pbx HB⟩⟩
              ·replace c18 := Bool.eq_false_iff.mpr c18; subst c18
               have H1 : (oculusref06_Users.j3 kj11 l0 x3_1 1) = some (r1, r2) := by rw [if_neg (show ¬ (false = true) by decide)] at H; exact H
               clear H; have H := H1; clear H1
               have H' := Aside0.mk H
               clear H
               go_wp2
               go_meet
               case rel => exact ⟨_, (1), (by first | rfl | (simp; done) | (simp [*]; done)), H', ⟨by have := HK1.out; have := HJ5.out; have := HJ11.out; first | omega | exact Nat.le_refl _⟩, ⟨pkx BK101⟩, ⟨pbx HB⟩⟩
             case rest =>
              clear HC17; (try clear c1); (try clear p1); (try clear q1); (try clear hx1); (try clear p2); (try clear c3); (try clear c3b0); (try clear c4); (try clear c4b0); (try clear c5); (try clear c8); (try clear c9); (try clear c9b0); (try clear c10); (try clear c10b0); (try clear p10); (try clear q10); (try clear hx10); (try clear c13); (try clear c13b0); (try clear c13b1); (try clear c14); (try clear c14b0); (try clear c15); (try clear c15b0); (try clear c18); (try clear hx102_0); (try clear hx102_1); (try clear hx102_2); (try clear hx104_0); (try clear hx104_1); (try clear hx104_2); (try clear hx106_0); (try clear hx106_1); (try clear hx106_2); (try clear p1); (try clear p10); (try clear p102); (try clear p104); (try clear p106); (try clear p2); (try clear q1); (try clear q10); (try clear q102); (try clear q104); (try clear q106); obtain ⟨kq, x4_16, rfl, HA, HJ16, BK101, HB⟩ := hcut
              cases kq with
              | zero => exact absurd HA.out (by simp [oculusref06_Users.j3])
              | succ kj16 =>
               have H := HA.out; clear HA
               simp only [oculusref06_Users.j3] at H
               by_cases c19 : x3_1 > 15
               ·rw [if_pos c19] at H; have c19b0 : decide (15 < x3_1) = true := decide_eq_true c19; clear c19
                simp only [Option.some.injEq, Prod.mk.injEq] at H
                obtain ⟨rfl, rfl⟩ := H
                have hcz20_0 : wc.cell? ⟨gb101, 0, none⟩ = some (.int .i64 x102000_1) := bc_ BK101 0 rfl
                have hcz20_1 : wc.cell? ⟨gb101, 1, none⟩ = some (.int .i64 x102001_1) := bc_ BK101 1 rfl
                have hfz20_0 := blk_frozen BK101.out 0; have hfz20_1 := blk_frozen BK101.out 1
                go_wp2
                refine bodyPost_ret (results_cell_row rfl _ _ gb101 34 #[.int .i64 x3_1, .int .i64 10] (0, 0) _ rfl (by refine pp_ (cs := #[.int .i64 x3_1, .int .i64 x102001_1]) 1 ?_ rfl; refine blk_put (cs := #[.int .i64 x102000_1, .int .i64 x102001_1]) ?_ 0 _ rfl; exact pkx BK101) Tryd.underlying34 rfl (by kernel_rfl)) rfl ?_
                exact ⟨by first | rfl | (simp [errW_none, errW_some] <;> rfl) | (simp [*, errW_none, errW_some] <;> rfl), by repeat (first | (with_reducible first | exact HB.out | apply below_alloc | apply pw_below_drewN | apply below_drew1 | refine below_set ?_ GE101.out) | exact HB.out)⟩
               ·rw [if_neg c19] at H; have c19b0 : decide (15 < x3_1) = false := decide_eq_false c19; clear c19
                by_cases c21 : x4_16 = 0
                ·rw [if_pos c21] at H; have c21b0 : (x4_16 == 0) = true := beq_iff_eq.mpr c21; have c21b1 : (x4_16 != 0) = false := bne_eq_false_iff_eq.mpr c21; clear c21
                 have H' := Aside0.mk H
                 clear H
                 go_wp2
                 go_roundg kj16
                 case measure => have := HK1.out; have := HJ5.out; have := HJ11.out; have := HJ16.out; omega
                 case rel => exact ⟨(wrap64 (x3_1 + 1)), (x102000_1), (x102001_1), (by first | rfl | (simp; done) | (simp [*]; done)), H', ⟨by have := HK1.out; have := HJ5.out; have := HJ11.out; have := HJ16.out; omega⟩, ⟨pkx BK101⟩, ⟨pbx HB⟩⟩
                ·rw [if_neg c21] at H; have c21b0 : (x4_16 == 0) = false := beq_eq_false_iff_ne.mpr c21; have c21b1 : (x4_16 != 0) = true := bne_iff_ne.mpr c21
                 simp only [Option.some.injEq, Prod.mk.injEq] at H
                 obtain ⟨rfl, rfl⟩ := H
                 have hcz22_0 : wc.cell? ⟨gb101, 0, none⟩ = some (.int .i64 x102000_1) := bc_ BK101 0 rfl
                 have hcz22_1 : wc.cell? ⟨gb101, 1, none⟩ = some (.int .i64 x102001_1) := bc_ BK101 1 rfl
                 have hfz22_0 := blk_frozen BK101.out 0; have hfz22_1 := blk_frozen BK101.out 1
                 go_wp2
                 refine bodyPost_ret (results_cell_row rfl _ _ gb101 34 #[.int .i64 x3_1, .int .i64 x4_16] (0, 0) _ rfl (by refine pp_ (cs := #[.int .i64 x3_1, .int .i64 x102001_1]) 1 ?_ rfl; refine blk_put (cs := #[.int .i64 x102000_1, .int .i64 x102001_1]) ?_ 0 _ rfl; exact pkx BK101) Tryd.underlying34 rfl (by kernel_rfl)) rfl ?_
                 exact ⟨by first | rfl | (simp [errW_none, errW_some] <;> rfl) | (simp [*, errW_none, errW_some] <;> rfl), by repeat (first | (with_reducible first | exact HB.out | apply below_alloc | apply pw_below_drewN | apply below_drew1 | refine below_set ?_ GE101.out) | exact HB.out)⟩
            ·rw [if_neg c15] at H
             exact absurd H (by simp)
           ·rw [if_neg c14] at H
            exact absurd H (by simp)
        ·rw [if_neg c10] at H
         exact absurd H (by simp)
       ·rw [if_neg c9] at H
        exact absurd H (by simp)
    ·rw [if_neg c4] at H
     exact absurd H (by simp)
   ·rw [if_neg c3] at H; have c3b0 : decide (x3_1 < (l0.length : Int)) = false := decide_eq_false c3; clear c3
    simp only [Option.some.injEq, Prod.mk.injEq] at H
    obtain ⟨rfl, rfl⟩ := H
    have hcz23_0 : wr.cell? ⟨gb101, 0, none⟩ = some (.int .i64 x102000_1) := bc_ BK101 0 rfl
    have hcz23_1 : wr.cell? ⟨gb101, 1, none⟩ = some (.int .i64 x102001_1) := bc_ BK101 1 rfl
    have hfz23_0 := blk_frozen BK101.out 0; have hfz23_1 := blk_frozen BK101.out 1
    go_wp2
    refine bodyPost_ret (results_cell_row rfl _ _ gb101 34 #[.int .i64 0, .int .i64 0] (0, 0) _ rfl (by refine pp_ (cs := #[.int .i64 0, .int .i64 x102001_1]) 1 ?_ rfl; refine blk_put (cs := #[.int .i64 x102000_1, .int .i64 x102001_1]) ?_ 0 _ rfl; exact pkx BK101) Tryd.underlying34 rfl (by kernel_rfl)) rfl ?_
    exact ⟨by first | rfl | (simp [errW_none, errW_some] <;> rfl) | (simp [*, errW_none, errW_some] <;> rfl), by repeat (first | (with_reducible first | exact HB.out | apply below_alloc | apply pw_below_drewN | apply below_drew1 | refine below_set ?_ GE101.out) | exact HB.out)⟩

end Go.Proofs.YtbboanfggaknjaaDoor.X
