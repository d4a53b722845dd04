/- Contracts of the functions that the law PolicyTells reaches, and what they answer (a session's own texts, joined; part 2). -/
import Derived.Deep.RegionHeld3
import Derived.StillTailTactics
import Derived.Test.YtbboanfggaknjaaDoorBPolicyTells1
namespace Go.Proofs.YtbboanfggaknjaaDoor.X
open Go.RowKit Go.Proofs.YtbboanfggaknjaaDoorW.PrintWords Go.Proofs.YtbboanfggaknjaaDoorW.PrintLast Go.Proofs.YtbboanfggaknjaaDoorW.PrintMore
attribute [local go_sem] max2_int min2_int max_two min_two max_three min_three max_four min_four
set_option linter.unusedVariables false
set_option linter.unusedSimpArgs false
attribute [local go_sem high] eqA59
mutual
def label_Parse.l0 : Nat → ByteArray → ByteArray → Bool → Int → Int → Int → Option (Int × Int × Bool)
 | 0, _, _, _, _, _, _ => none
 | k + 1, x4, x5, x6, x21, x108000, x108001 => if x21 < 16 then ((strconv_Itoa.f x21).bind fun t108 => (if t108.toList = x4.toList then (label_Parse.l0 k x4 x5 x6 (wrap64 (x21 + 1)) x21 x108001) else (label_Parse.l0 k x4 x5 x6 (wrap64 (x21 + 1)) x108000 x108001))) else ((cats_Parse.f k x5).bind fun bt109 => (if bt109.2 = true then (if x108000 < 0 then (label_Parse.j1 k true x108000 bt109.1) else (if (x6 != (bt109.1 != 0)) = true then (label_Parse.j1 k true x108000 bt109.1) else ((label_Top.f).bind fun bt111 => (label_Parse.j1 k (x108000 == bt111.1 && (bt109.1 == bt111.2)) x108000 bt109.1)))) else (label_Parse.j1 k true x108000 bt109.1)))
def label_Parse.j1 : Nat → Bool → Int → Int → Option (Int × Int × Bool)
 | 0, _, _, _ => none
 | k + 1, x55, x108000, x108001 => if x55 = true then (some (0, 0, false)) else (some (x108000, x108001, true))
end
def label_Parse.f (k : Nat) (a0 : ByteArray) : Option (Int × Int × Bool) := if a0.toList = ([116, 111, 112] : List UInt8) then ((label_Top.f).bind fun bt102 => (some (bt102.1, bt102.2, true))) else ((strings_Cut.f a0 (⟨#[58]⟩ : ByteArray)).bind fun bt104 => (label_Parse.l0 k bt104.1 bt104.2.1 bt104.2.2 0 (-1) 0))
theorem label_Parse.mono_l : ∀ k, (∀ y0 y1 y2 y3 y4 y5, LeO (label_Parse.l0 k y0 y1 y2 y3 y4 y5) (label_Parse.l0 (k + 1) y0 y1 y2 y3 y4 y5)) ∧ (∀ y0 y1 y2, LeO (label_Parse.j1 k y0 y1 y2) (label_Parse.j1 (k + 1) y0 y1 y2))
 | 0 => ⟨fun _ _ _ _ _ _ r h => by simp [label_Parse.l0] at h, fun _ _ _ r h => by simp [label_Parse.j1] at h⟩
 | k + 1 => by
  obtain ⟨ih0, ih1⟩ := label_Parse.mono_l k
  refine ⟨?_, ?_⟩
  ·intro y0 y1 y2 y3 y4 y5
   unfold label_Parse.l0
   repeat' first
   | (with_reducible exact ih0 _ _ _ _ _ _)
   | (with_reducible exact ih1 _ _ _)
   | (with_reducible exact cats_Parse.mono _ _)
   | (with_reducible exact LeO.refl _)
   | (with_reducible exact LeO.none _)
   | (with_reducible refine LeO.ite ?_ ?_)
   | (with_reducible refine LeO.bind ?_ (fun _ => ?_))
  ·intro y0 y1 y2
   unfold label_Parse.j1
   repeat' first
   | (with_reducible exact ih0 _ _ _ _ _ _)
   | (with_reducible exact ih1 _ _ _)
   | (with_reducible exact cats_Parse.mono _ _)
   | (with_reducible exact LeO.refl _)
   | (with_reducible exact LeO.none _)
   | (with_reducible refine LeO.ite ?_ ?_)
   | (with_reducible refine LeO.bind ?_ (fun _ => ?_))
theorem label_Parse.mono : ∀ a0 k, LeO (label_Parse.f k a0) (label_Parse.f (k + 1) a0) := by
 intro a0 k; obtain ⟨ih0, ih1⟩ := label_Parse.mono_l k
 unfold label_Parse.f
 repeat' first
   | (with_reducible exact ih0 _ _ _ _ _ _)
   | (with_reducible exact ih1 _ _ _)
   | (with_reducible exact cats_Parse.mono _ _)
   | (with_reducible exact LeO.refl _)
   | (with_reducible exact LeO.none _)
   | (with_reducible refine LeO.ite ?_ ?_)
   | (with_reducible refine LeO.bind ?_ (fun _ => ?_))
def label_Parse.T13 : Bool × List (List Nat × List Nat) := (true, [([], []), ([0], [0]), ([1], [1]), ([2], [2]), ([3, 2], [2, 3]), ([4, 2], [2, 4]), ([2, 5], [2, 5]), ([6, 2], [6]), ([7], [7]), ([7], [7]), ([9, 7], [7, 9]), ([8, 10, 7], [7, 8, 10]), ([7, 11], [7, 11]), ([12, 7], [12]), ([13], [13]), ([13, 13], [13]), ([14, 15, 13], [13, 14, 15]), ([13, 16], [13, 16])])
def label_Parse.B13 : List Nat := [0, 1, 3, 7, 15, 31, 63, 127, 255, 255, 767, 2047, 4095, 8191, 16383, 16383, 65535, 131071]
theorem label_Parse.tab13 : rtab .any (opsOf Tryd.f50 13) = label_Parse.T13 := by kernel_rfl
theorem label_Parse.bits13 : waitsOk label_Parse.T13.2 label_Parse.B13 = true := by kernel_rfl
set_option maxHeartbeats 8000000 in
set_option maxRecDepth 100000 in
theorem label_Parse.calls (k : Nat) (a0 : ByteArray) (r1 : Int) (r2 : Int) (r3 : Bool) (w : World) (hT : Aside0 (Tab w)) (h : label_Parse.f k a0 = some (r1, r2, r3)) :
  Calls Tryd.prog 50 #[.string a0] w fun e w' => e = .returned (.tuple #[.agg #[.int .i64 r1, .int .u64 r2], .bool r3]) ∧ Below w.heap.size w w' := by
 have hu59 := Tryd.underlying59; have HB := Aside0.mk (Below.refl w.heap.size w)
 have H : (if a0.toList = ([116, 111, 112] : List UInt8) then ((label_Top.f).bind fun bt102 => (some (bt102.1, bt102.2, true))) else ((strings_Cut.f a0 (⟨#[58]⟩ : ByteArray)).bind fun bt104 => (label_Parse.l0 k bt104.1 bt104.2.1 bt104.2.2 0 (-1) 0))) = some (r1, r2, r3) := h
 clear h
 by_cases c2 : a0.toList = ([116, 111, 112] : List UInt8)
 ·rw [if_pos c2] at H; have c2b0 : (a0.toList == ([116, 111, 112] : List UInt8)) = true := beq_iff_eq.mpr c2; have c2b1 : (a0.toList != ([116, 111, 112] : List UInt8)) = false := bne_eq_false_iff_eq.mpr c2; clear c2; replace H := Option.bind_eq_some_iff.mp H; obtain ⟨⟨t102, t103⟩, A30, H⟩ := H
  replace H : (some (t102, t103, true)) = some (r1, r2, r3) := H
  have A3 := Aside0.mk A30; clear A30
  simp only [Option.some.injEq, Prod.mk.injEq] at H
  obtain ⟨rfl, rfl, rfl⟩ := H
  go_enter Tryd.func50, Tryd.ntmps50
  go_wp2_with (first | ((with_reducible refine gate_dst (N:=2) rfl ?_); refine be_ (N:=2) (cs := #[.int .i64 0, .int .u64 0]) (t:=59) ?_; intro gb101 hg w4 hbox hb; have BK101 := Aside0.mk (hbox); have GW101 := hs_ HB hg; have GE101 := hs_ HB hg; replace HB := bs_ HB hb; clear hb hbox hg) | ((with_reducible refine gate_callee (f:=41) rfl ?_); refine gL_ (some 13) rfl rfl Tryd.func41 rfl #[] rfl ?_; (with_reducible refine (label_Top.calls  t102 t103 _ A3.out).mono ?_); rintro e w5 ⟨rfl, hb⟩; refine ⟨_, rfl, ?_⟩; replace BK101 := bb_ BK101 hb; replace HB := bs_ HB hb; (try clear hb); (try clear hb2); (try clear hk); (try clear hi); have hcz6_0 : w5.cell? ⟨gb101, 0, none⟩ = some (.int .i64 0) := bc_ BK101 0 rfl; have hcz6_1 : w5.cell? ⟨gb101, 1, none⟩ = some (.int .u64 0) := bc_ BK101 1 rfl; have hfz6_0 := blk_frozen BK101.out 0; have hfz6_1 := blk_frozen BK101.out 1))
  refine bodyPost_ret (results_ct rfl _ _ gb101 59 #[.int .i64 t102, .int .u64 t103] (0, 0) _ rfl (by refine pp_ (cs := #[.int .i64 t102, .int .u64 0]) 1 ?_ rfl; refine blk_put (cs := #[.int .i64 0, .int .u64 0]) ?_ 0 _ rfl; exact pkx BK101) Tryd.underlying59 rfl (by kernel_rfl)) rfl ?_
  exact ⟨by first | rfl | (simp [errW_none, errW_some] <;> rfl) | (simp [*, errW_none, errW_some] <;> rfl), by repeat (first | (with_reducible first | exact HB.out | apply below_alloc | apply pw_below_drewN | apply below_drew1 | refine below_set ?_ GE101.out) | exact HB.out)⟩
 ·rw [if_neg c2] at H; have c2b0 : (a0.toList == ([116, 111, 112] : List UInt8)) = false := beq_eq_false_iff_ne.mpr c2; have c2b1 : (a0.toList != ([116, 111, 112] : List UInt8)) = true := bne_iff_ne.mpr c2; replace H := Option.bind_eq_some_iff.mp H; obtain ⟨⟨t104, t105, t106⟩, A70, H⟩ := H
  replace H : (label_Parse.l0 k t104 t105 t106 0 (-1) 0) = some (r1, r2, r3) := H
  have A7 := Aside0.mk A70; clear A70
  have H' := Aside0.mk H
  clear H
  go_enter Tryd.func50, Tryd.ntmps50
  go_wp2_with (first | ((with_reducible refine gate_dst (N:=2) rfl ?_); refine be_ (N:=2) (cs := #[.int .i64 0, .int .u64 0]) (t:=59) ?_; intro gb101 hg w8 hbox hb; have BK101 := Aside0.mk (hbox); have GW101 := hs_ HB hg; have GE101 := hs_ HB hg; replace HB := bs_ HB hb; clear hb hbox hg) | ((with_reducible refine gate_callee (f:=26) rfl ?_); refine gL_ (some 16) rfl rfl Tryd.func26 rfl #[.string a0, .string (⟨#[58]⟩ : ByteArray)] rfl ?_; (with_reducible refine (strings_Cut.calls a0 (⟨#[58]⟩ : ByteArray) t104 t105 t106 _ A7.out).mono ?_); rintro e w' ⟨rfl, ⟨nd, rfl⟩⟩; refine ⟨_, rfl, ?_⟩; (try (rw [drewN_self w8]; generalize hq_ : World.drewN w8 _ = w8; have n0_ : Aside0 (w8.heap[gb101]? = some (.cells #[.int .i64 0, .int .u64 0] 59 (0, 0))) := ⟨by rw [← hq_]; exact (pkx BK101)⟩; have n1_ : Aside0 (Below w.heap.size w w8) := ⟨by rw [← hq_]; exact (pbx HB)⟩; clear BK101 HB hq_; have BK101 := n0_; have HB := n1_; clear n0_ n1_))) | ((with_reducible refine gate_dst (N:=7) rfl ?_); refine be_ (N:=7) (cs := #[.int .i64 0, .int .u64 0]) (t:=59) ?_; intro gb107 hg w9 hbox hb; have BK107 := Aside0.mk (hbox); have GW107 := hs_ HB hg; have GE107 := hs_ HB hg; have NB101_107 := hl_ BK101 hg; have NB107_101 := hr_ BK101 hg; replace BK101 := bb_ BK101 hb; replace HB := bs_ HB hb; clear hb hbox hg; have hnb10 := NB107_101.out; have hnc10 := NB101_107.out; have hcz11_0 : w9.cell? ⟨gb107, 0, none⟩ = some (.int .i64 0) := bc_ BK107 0 rfl; have hcz11_1 : w9.cell? ⟨gb107, 1, none⟩ = some (.int .u64 0) := bc_ BK107 1 rfl; have hfz11_0 := blk_frozen BK107.out 0; have hfz11_1 := blk_frozen BK107.out 1))
  go_loopg [21] k (fun kq v21 w' => ∃ (x21_1 : Int) (x108000_1 : Int), v21 = .int .i64 x21_1 ∧ Aside0 (label_Parse.l0 kq t104 t105 t106 x21_1 x108000_1 0 = some (r1, r2, r3)) ∧ Aside0 (kq ≤ k) ∧ Aside0 (w'.heap[gb101]? = some (.cells #[.int .i64 0, .int .u64 0] 59 (0, 0))) ∧ Aside0 (w'.heap[gb107]? = some (.cells #[.int .i64 x108000_1, .int .u64 0] 59 (0, 0))) ∧ Aside0 (Below w.heap.size w w'))
  case atStart => exact ⟨(0), ((-1)), (by first | rfl | (simp; done) | (simp [*]; done)), H', ⟨Nat.le_refl _⟩, ⟨by refine pf_ ?_ NB101_107.out; refine blk_far ?_ NB101_107.out _; exact pkx BK101⟩, ⟨by refine pp_ (cs := #[.int .i64 (-1), .int .u64 0]) 1 ?_ rfl; refine blk_put (cs := #[.int .i64 0, .int .u64 0]) ?_ 0 _ rfl; exact pkx BK107⟩, ⟨by repeat (first | (with_reducible first | exact HB.out | apply below_alloc | apply pw_below_drewN | apply below_drew1 | refine below_set ?_ GE101.out | refine below_set ?_ GE107.out) | exact HB.out)⟩⟩
  case round =>
   clear H'; (try clear c1); (try clear c2); (try clear c2b0); (try clear c2b1); (try clear p2); (try clear c4); (try clear c5); (try clear c10); (try clear hcz11_0); (try clear hcz11_1); (try clear hcz6_0); (try clear hcz6_1); (try clear hfz11_0); (try clear hfz11_1); (try clear hfz6_0); (try clear hfz6_1); obtain ⟨x21_1, x108000_1, rfl, HA, HK1, BK101, BK107, HB⟩ := hrel
   cases gk with
   | zero => exact absurd HA.out (by simp [label_Parse.l0])
   | succ k1 =>
    have H := HA.out; clear HA
    simp only [label_Parse.l0] at H
    by_cases c12 : x21_1 < 16
    ·rw [if_pos c12] at H; have c12b0 : decide (x21_1 < 16) = true := decide_eq_true c12; clear c12; replace H := Option.bind_eq_some_iff.mp H; obtain ⟨t108, A130, H⟩ := H
     replace H : (if t108.toList = t104.toList then (label_Parse.l0 k1 t104 t105 t106 (wrap64 (x21_1 + 1)) x21_1 0) else (label_Parse.l0 k1 t104 t105 t106 (wrap64 (x21_1 + 1)) x108000_1 0)) = some (r1, r2, r3) := H
     have A13 := Aside0.mk A130; clear A130
     by_cases c14 : t108.toList = t104.toList
     ·rw [if_pos c14] at H; have c14b0 : (t108.toList == t104.toList) = true := beq_iff_eq.mpr c14; have c14b1 : (t108.toList != t104.toList) = false := bne_eq_false_iff_eq.mpr c14; clear c14
      have H' := Aside0.mk H
      clear H
      go_wp2_with (first | ((with_reducible refine gate_callee (f:=19) rfl ?_); refine gL_ (some 25) rfl rfl Tryd.func19 rfl #[.int .i64 x21_1] rfl ?_; (with_reducible refine (strconv_Itoa.calls x21_1 t108 _ (by refine tb_ ?_ hT; repeat' (first | exact pbx HB | exact Below.refl _ _ | assumption | refine below_set ?_ (Aside0.out ?_))) A13.out).mono ?_); rintro e w15 ⟨rfl, hb⟩; refine ⟨_, rfl, ?_⟩; replace BK101 := bb_ BK101 hb; replace BK107 := bb_ BK107 hb; replace HB := bs_ HB hb; (try clear hb); (try clear hb2); (try clear hk); (try clear hi); have hnb16 := NB107_101.out; have hnc16 := NB101_107.out; have hcz17_0 : w15.cell? ⟨gb107, 0, none⟩ = some (.int .i64 x108000_1) := bc_ BK107 0 rfl; have hcz17_1 : w15.cell? ⟨gb107, 1, none⟩ = some (.int .u64 0) := bc_ BK107 1 rfl; have hfz17_0 := blk_frozen BK107.out 0; have hfz17_1 := blk_frozen BK107.out 1))
      go_roundg k1
      case measure => have := HK1.out; omega
      case rel => exact ⟨(wrap64 (x21_1 + 1)), (x21_1), (by first | rfl | (simp; done) | (simp [*]; done)), H', ⟨by have := HK1.out; omega⟩, ⟨by refine pf_ ?_ NB101_107.out; exact pkx BK101⟩, ⟨by refine pp_ (cs := #[.int .i64 x108000_1, .int .u64 0]) 0 ?_ rfl; exact pkx BK107⟩, ⟨by repeat (first | (with_reducible first | exact HB.out | apply below_alloc | apply pw_below_drewN | apply below_drew1 | refine below_set ?_ GE101.out | refine below_set ?_ GE107.out) | exact HB.out)⟩⟩
     ·rw [if_neg c14] at H; have c14b0 : (t108.toList == t104.toList) = false := beq_eq_false_iff_ne.mpr c14; have c14b1 : (t108.toList != t104.toList) = true := bne_iff_ne.mpr c14
      have H' := Aside0.mk H
      clear H
      go_wp2_with (first | ((with_reducible refine gate_callee (f:=19) rfl ?_); refine gL_ (some 25) rfl rfl Tryd.func19 rfl #[.int .i64 x21_1] rfl ?_; (with_reducible refine (strconv_Itoa.calls x21_1 t108 _ (by refine tb_ ?_ hT; repeat' (first | exact pbx HB | exact Below.refl _ _ | assumption | refine below_set ?_ (Aside0.out ?_))) A13.out).mono ?_); rintro e w18 ⟨rfl, hb⟩; refine ⟨_, rfl, ?_⟩; replace BK101 := bb_ BK101 hb; replace BK107 := bb_ BK107 hb; replace HB := bs_ HB hb; (try clear hb); (try clear hb2); (try clear hk); (try clear hi)))
      go_roundg k1
      case measure => have := HK1.out; omega
      case rel => exact ⟨(wrap64 (x21_1 + 1)), (x108000_1), (by first | rfl | (simp; done) | (simp [*]; done)), H', ⟨by have := HK1.out; omega⟩, ⟨pkx BK101⟩, ⟨pkx BK107⟩, ⟨pbx HB⟩⟩
    ·rw [if_neg c12] at H; have c12b0 : decide (x21_1 < 16) = false := decide_eq_false c12; clear c12; replace H := Option.bind_eq_some_iff.mp H; obtain ⟨⟨t109, t110⟩, A190, H⟩ := H
     replace H : (if t110 = true then (if x108000_1 < 0 then (label_Parse.j1 k1 true x108000_1 t109) else (if (t106 != (t109 != 0)) = true then (label_Parse.j1 k1 true x108000_1 t109) else ((label_Top.f).bind fun bt111 => (label_Parse.j1 k1 (x108000_1 == bt111.1 && (t109 == bt111.2)) x108000_1 t109)))) else (label_Parse.j1 k1 true x108000_1 t109)) = some (r1, r2, r3) := H
     have A19 := Aside0.mk A190; clear A190; have HC20 := Aside0.mk H; clear H
     go_upto_region 13 with (first | ((with_reducible refine gate_callee (f:=70) rfl ?_); refine gL_ (some 33) rfl rfl Tryd.func70 rfl #[.string t105] rfl ?_; (with_reducible refine (cats_Parse.calls k1 t105 t109 t110 _ A19.out).mono ?_); rintro e w21 ⟨rfl, hb⟩; refine ⟨_, rfl, ?_⟩; replace BK101 := bb_ BK101 hb; replace BK107 := bb_ BK107 hb; replace HB := bs_ HB hb; (try clear hb); (try clear hb2); (try clear hk); (try clear hi); have hnb22 := NB107_101.out; have hnc22 := NB101_107.out; have hcz23_0 : w21.cell? ⟨gb107, 0, none⟩ = some (.int .i64 x108000_1) := bc_ BK107 0 rfl; have hcz23_1 : w21.cell? ⟨gb107, 1, none⟩ = some (.int .u64 0) := bc_ BK107 1 rfl; have hfz23_0 := blk_frozen BK107.out 0; have hfz23_1 := blk_frozen BK107.out 1))
     (try simp only [q_])
     go_cut [55] (fun v55 wc => ∃ (kq : Nat) (x55_19 : Bool), v55 = .bool x55_19 ∧ Aside0 (label_Parse.j1 kq x55_19 x108000_1 t109 = some (r1, r2, r3)) ∧ Aside0 (kq ≤ k1) ∧ Aside0 (wc.heap[gb101]? = some (.cells #[.int .i64 0, .int .u64 0] 59 (0, 0))) ∧ Aside0 (wc.heap[gb107]? = some (.cells #[.int .i64 x108000_1, .int .u64 t109] 59 (0, 0))) ∧ Aside0 (Below w.heap.size w wc))
     case first =>
      have H := HC20.out; clear HC20
      by_cases c24 : t110 = true
      ·subst c24
       have H1 : (if x108000_1 < 0 then (label_Parse.j1 k1 true x108000_1 t109) else (if (t106 != (t109 != 0)) = true then (label_Parse.j1 k1 true x108000_1 t109) else ((label_Top.f).bind fun bt111 => (label_Parse.j1 k1 (x108000_1 == bt111.1 && (t109 == bt111.2)) x108000_1 t109)))) = some (r1, r2, r3) := by rw [if_pos rfl] at H; exact H
       clear H; have H := H1; clear H1
       by_cases c25 : x108000_1 < 0
       ·rw [if_pos c25] at H; have c25b0 : decide (x108000_1 < 0) = true := decide_eq_true c25; clear c25; (first | rw [c25b0] | (simp only [i64_w, i32_w]; rw [c25b0]) | skip)
        have H' := Aside0.mk H
        clear H
        try go_wp2
        have n0_ : Aside0 ((w21.setCell ⟨gb107, 1, none⟩ (.int .u64 t109)).heap[gb101]? = some (.cells #[.int .i64 0, .int .u64 0] 59 (0, 0))) := ⟨by refine pf_ ?_ NB101_107.out; exact pkx BK101⟩; have n1_ : Aside0 ((w21.setCell ⟨gb107, 1, none⟩ (.int .u64 t109)).heap[gb107]? = some (.cells #[.int .i64 x108000_1, .int .u64 t109] 59 (0, 0))) := ⟨by refine pp_ (cs := #[.int .i64 x108000_1, .int .u64 0]) 1 ?_ rfl; exact pkx BK107⟩; have n2_ : Aside0 (Below w.heap.size w (w21.setCell ⟨gb107, 1, none⟩ (.int .u64 t109))) := ⟨by repeat (first | (with_reducible first | exact HB.out | apply below_alloc | apply pw_below_drewN | apply below_drew1 | refine below_set ?_ GE101.out | refine below_set ?_ GE107.out) | exact HB.out)⟩
        (try clear BK101); (try clear BK107); (try clear HB)
        generalize (w21.setCell ⟨gb107, 1, none⟩ (.int .u64 t109)) = w26 at n0_ n1_ n2_ ⊢; have BK101 := n0_; have BK107 := n1_; have HB := n2_; clear n0_ n1_ n2_; (try (rw [drewN_self w26]; generalize hq_ : World.drewN w26 _ = w26; have n0_ : Aside0 (w26.heap[gb101]? = some (.cells #[.int .i64 0, .int .u64 0] 59 (0, 0))) := ⟨by rw [← hq_]; exact (pkx BK101)⟩; have n1_ : Aside0 (w26.heap[gb107]? = some (.cells #[.int .i64 x108000_1, .int .u64 t109] 59 (0, 0))) := ⟨by rw [← hq_]; exact (pkx BK107)⟩; have n2_ : Aside0 (Below w.heap.size w w26) := ⟨by rw [← hq_]; exact (pbx HB)⟩; clear BK101 BK107 HB hq_; have BK101 := n0_; have BK107 := n1_; have HB := n2_; clear n0_ n1_ n2_))
        replace BK101 := Aside0.mk (blk_drew BK101.out); replace BK107 := Aside0.mk (blk_drew BK107.out); replace HB := Aside0.mk (below_drew1 HB.out)
        refine start_ (n:=18) (S := fun w' => w'.cell? ⟨gb107, 0, none⟩ = some (.int .i64 x108000_1) ∧ w'.cell? ⟨gb107, 1, none⟩ = some (.int .u64 t109)) (ds := []) #[F,F,F,F,F,F,F,F,F,F,F,F,F,F,F,F,F,F] (by kernel_rfl) rfl rfl ⟨bc_ BK107 0 rfl, bc_ BK107 1 rfl⟩ (fun hHeld => ?_); refine with_tabW label_Parse.tab13 label_Parse.bits13 (fun HT_ HW_ => ?_)
        generalize w26.drew = w27 at BK101 BK107 HB hHeld ⊢; refine pure_ (i:=0) (N:=some 38) (v:=?_) (a':=?_) ⟨m_ 18 1⟩ rfl rfl (any_of HT_.out (by kernel_rfl)) (fun _ _ _ h=>h) (Or.inl ⟨rfl, ?_⟩) ?_ ?_; rotate_left
        ·intro w'; go_simp; with_reducible rfl
        rotate_left
        ·simp only [q_, i64_w, i32_w]; rfl
        refine pure_ (i:=1) (N:=some 39) (v:=?_) (a':=?_) ⟨m_ 18 3⟩ rfl rfl (any_of HT_.out (by kernel_rfl)) (fun _ _ _ h=>h) (Or.inl ⟨rfl, ?_⟩) ?_ ?_; rotate_left
        ·intro w'; go_simp; with_reducible rfl
        rotate_left
        ·simp only [q_, i64_w, i32_w]; rfl
        refine pure_ (i:=2) (N:=some 40) (v:=?_) (a':=?_) ⟨m_ 18 7⟩ rfl rfl (any_of HT_.out (by kernel_rfl)) (fun _ _ _ h=>h) (Or.inl ⟨rfl, ?_⟩) ?_ ?_; rotate_left
        ·intro w'; go_simp; with_reducible rfl
        rotate_left
        ·simp only [q_, i64_w, i32_w]; rfl
        refine pure_ (i:=3) (N:=some 41) (v:=?_) (a':=?_) ⟨m_ 18 15⟩ rfl rfl (any_of HT_.out (by kernel_rfl)) (fun _ _ _ h=>h) (Or.inl ⟨rfl, ?_⟩) ?_ ?_; rotate_left
        ·intro w'; go_simp; with_reducible rfl
        rotate_left
        ·simp only [q_, i64_w, i32_w]; rfl
        refine take_ (i:=4) (N:=some 42) (v:=?_) (a':=?_) ⟨m_ 18 31⟩ rfl rfl (take_ofW HT_.out HW_.out (by kernel_rfl)) (fun _ _ _ h=>h) (Or.inl ⟨rfl, ?_⟩) hHeld ?_ ?_; rotate_left
        ·rintro w' ⟨s0, s1⟩; go_simp; with_reducible rfl
        rotate_left
        ·simp only [q_, i64_w, i32_w]; rfl
        refine pure_ (i:=5) (N:=some 43) (v:=?_) (a':=?_) ⟨m_ 18 63⟩ rfl rfl (any_of HT_.out (by kernel_rfl)) (fun _ _ _ h=>h) (Or.inl ⟨rfl, ?_⟩) ?_ ?_; rotate_left
        ·intro w'; go_simp; with_reducible rfl
        rotate_left
        ·simp only [q_, i64_w, i32_w]; rfl
        refine pure_ (i:=6) (N:=some 44) (v:=?_) (a':=?_) ⟨m_ 18 127⟩ rfl rfl (any_of HT_.out (by kernel_rfl)) (fun _ _ _ h=>h) (Or.inl ⟨rfl, ?_⟩) ?_ ?_; rotate_left
        ·intro w'; go_simp; with_reducible rfl
        rotate_left
        ·simp only [q_, i64_w, i32_w]; rfl
        refine pure_ (i:=7) (N:=some 45) (v:=?_) (a':=?_) ⟨m_ 18 255⟩ rfl rfl (any_of HT_.out (by kernel_rfl)) (fun _ _ _ h=>h) (Or.inl ⟨rfl, ?_⟩) ?_ ?_; rotate_left
        ·intro w'; go_simp; with_reducible rfl
        rotate_left
        ·simp only [q_, i64_w, i32_w]; rfl
        refine pure_ (i:=8) (N:=some 46) (v:=undef) (a':=?_) ⟨m_ 18 511⟩ rfl rfl (any_of HT_.out (by kernel_rfl)) (fun _ _ _ h=>h) (Or.inr ⟨by rfl, rfl⟩) ?_ ?_; rotate_left
        ·simp only [q_, i64_w, i32_w]; rfl
        refine pure_ (i:=9) (N:=some 47) (v:=undef) (a':=?_) ⟨m_ 18 1023⟩ rfl rfl (any_of HT_.out (by kernel_rfl)) (fun _ _ _ h=>h) (Or.inr ⟨by rfl, rfl⟩) ?_ ?_; rotate_left
        ·simp only [q_, i64_w, i32_w]; rfl
        refine pure_ (i:=10) (N:=some 48) (v:=undef) (a':=?_) ⟨m_ 18 2047⟩ rfl rfl (any_of HT_.out (by kernel_rfl)) (fun _ _ _ h=>h) (Or.inr ⟨by rfl, rfl⟩) ?_ ?_; rotate_left
        ·simp only [q_, i64_w, i32_w]; rfl
        refine pure_ (i:=11) (N:=some 49) (v:=undef) (a':=?_) ⟨m_ 18 4095⟩ rfl rfl (any_of HT_.out (by kernel_rfl)) (fun _ _ _ h=>h) (Or.inr ⟨by rfl, rfl⟩) ?_ ?_; rotate_left
        ·simp only [q_, i64_w, i32_w]; rfl
        refine pure_ (i:=12) (N:=some 50) (v:=?_) (a':=?_) ⟨m_ 18 8191⟩ rfl rfl (any_of HT_.out (by kernel_rfl)) (fun _ _ _ h=>h) (Or.inl ⟨rfl, ?_⟩) ?_ ?_; rotate_left
        ·intro w'; go_simp; with_reducible rfl
        rotate_left
        ·simp only [q_, i64_w, i32_w]; rfl
        refine pure_ (i:=13) (N:=some 51) (v:=?_) (a':=?_) ⟨m_ 18 16383⟩ rfl rfl (any_of HT_.out (by kernel_rfl)) (fun _ _ _ h=>h) (Or.inl ⟨rfl, ?_⟩) ?_ ?_; rotate_left
        ·intro w'; go_simp; with_reducible rfl
        rotate_left
        ·simp only [q_, i64_w, i32_w]; rfl
        refine pure_ (i:=14) (N:=some 52) (v:=undef) (a':=?_) ⟨m_ 18 32767⟩ rfl rfl (any_of HT_.out (by kernel_rfl)) (fun _ _ _ h=>h) (Or.inr ⟨by rfl, rfl⟩) ?_ ?_; rotate_left
        ·simp only [q_, i64_w, i32_w]; rfl
        refine pure_ (i:=15) (N:=some 53) (v:=undef) (a':=?_) ⟨m_ 18 65535⟩ rfl rfl (any_of HT_.out (by kernel_rfl)) (fun _ _ _ h=>h) (Or.inr ⟨by rfl, rfl⟩) ?_ ?_; rotate_left
        ·simp only [q_, i64_w, i32_w]; rfl
        refine pure_ (i:=16) (N:=some 54) (v:=undef) (a':=?_) ⟨m_ 18 131071⟩ rfl rfl (any_of HT_.out (by kernel_rfl)) (fun _ _ _ h=>h) (Or.inr ⟨by rfl, rfl⟩) ?_ ?_; rotate_left
        ·simp only [q_, i64_w, i32_w]; rfl
        refine pure_ (i:=17) (N:=some 55) (v:=?_) (a':=?_) ⟨m_ 18 262143⟩ rfl rfl (any_of HT_.out (by kernel_rfl)) (fun _ _ _ h=>h) (Or.inl ⟨rfl, ?_⟩) ?_ ?_; rotate_left
        ·intro w'; go_simp; with_reducible rfl
        rotate_left
        ·simp only [q_, i64_w, i32_w]; rfl
        refine done_ (done_of HT_.out (by kernel_rfl)) ?_
        try go_wp2
        go_meet
        case rel => exact ⟨_, (true), (by first | rfl | (simp; done) | (simp [*]; done)), H', ⟨by have := HK1.out; first | omega | exact Nat.le_refl _⟩, ⟨pkx BK101⟩, ⟨pkx BK107⟩, ⟨pbx HB⟩⟩
       ·rw [if_neg c25] at H; have c25b0 : decide (x108000_1 < 0) = false := decide_eq_false c25; clear c25; (first | rw [c25b0] | (simp only [i64_w, i32_w]; rw [c25b0]) | skip)
        by_cases c28 : (t106 != (t109 != 0)) = true
        ·rw [if_pos c28] at H
         have c28b0 : (t106 != (t109 != 0)) = true := c28
         (try (have c28b1 : decide (t106 = (t109 != 0)) = false := by simpa using c28)); (try (have c28b2 : (t106 == (t109 != 0)) = false := by simpa using c28)); (try (have c28b3 : ¬ (t106 = (t109 != 0)) := by simpa using c28)); clear c28
         have H' := Aside0.mk H
         clear H
         try go_wp2
         have n0_ : Aside0 ((w21.setCell ⟨gb107, 1, none⟩ (.int .u64 t109)).heap[gb101]? = some (.cells #[.int .i64 0, .int .u64 0] 59 (0, 0))) := ⟨by refine pf_ ?_ NB101_107.out; exact pkx BK101⟩; have n1_ : Aside0 ((w21.setCell ⟨gb107, 1, none⟩ (.int .u64 t109)).heap[gb107]? = some (.cells #[.int .i64 x108000_1, .int .u64 t109] 59 (0, 0))) := ⟨by refine pp_ (cs := #[.int .i64 x108000_1, .int .u64 0]) 1 ?_ rfl; exact pkx BK107⟩; have n2_ : Aside0 (Below w.heap.size w (w21.setCell ⟨gb107, 1, none⟩ (.int .u64 t109))) := ⟨by repeat (first | (with_reducible first | exact HB.out | apply below_alloc | apply pw_below_drewN | apply below_drew1 | refine below_set ?_ GE101.out | refine below_set ?_ GE107.out) | exact HB.out)⟩
         (try clear BK101); (try clear BK107); (try clear HB)
         generalize (w21.setCell ⟨gb107, 1, none⟩ (.int .u64 t109)) = w29 at n0_ n1_ n2_ ⊢; have BK101 := n0_; have BK107 := n1_; have HB := n2_; clear n0_ n1_ n2_; (try (rw [drewN_self w29]; generalize hq_ : World.drewN w29 _ = w29; have n0_ : Aside0 (w29.heap[gb101]? = some (.cells #[.int .i64 0, .int .u64 0] 59 (0, 0))) := ⟨by rw [← hq_]; exact (pkx BK101)⟩; have n1_ : Aside0 (w29.heap[gb107]? = some (.cells #[.int .i64 x108000_1, .int .u64 t109] 59 (0, 0))) := ⟨by rw [← hq_]; exact (pkx BK107)⟩; have n2_ : Aside0 (Below w.heap.size w w29) := ⟨by rw [← hq_]; exact (pbx HB)⟩; clear BK101 BK107 HB hq_; have BK101 := n0_; have BK107 := n1_; have HB := n2_; clear n0_ n1_ n2_))
         replace BK101 := Aside0.mk (blk_drew BK101.out); replace BK107 := Aside0.mk (blk_drew BK107.out); replace HB := Aside0.mk (below_drew1 HB.out)
         refine start_ (n:=18) (S := fun w' => w'.cell? ⟨gb107, 0, none⟩ = some (.int .i64 x108000_1) ∧ w'.cell? ⟨gb107, 1, none⟩ = some (.int .u64 t109)) (ds := []) #[F,F,F,F,F,F,F,F,F,F,F,F,F,F,F,F,F,F] (by kernel_rfl) rfl rfl ⟨bc_ BK107 0 rfl, bc_ BK107 1 rfl⟩ (fun hHeld => ?_); refine with_tabW label_Parse.tab13 label_Parse.bits13 (fun HT_ HW_ => ?_)
         generalize w29.drew = w30 at BK101 BK107 HB hHeld ⊢; refine pure_ (i:=0) (N:=some 38) (v:=?_) (a':=?_) ⟨m_ 18 1⟩ rfl rfl (any_of HT_.out (by kernel_rfl)) (fun _ _ _ h=>h) (Or.inl ⟨rfl, ?_⟩) ?_ ?_; rotate_left
         ·intro w'; go_simp; with_reducible rfl
         rotate_left
         ·simp only [q_, i64_w, i32_w]; rfl
         refine pure_ (i:=1) (N:=some 39) (v:=?_) (a':=?_) ⟨m_ 18 3⟩ rfl rfl (any_of HT_.out (by kernel_rfl)) (fun _ _ _ h=>h) (Or.inl ⟨rfl, ?_⟩) ?_ ?_; rotate_left
         ·intro w'; go_simp; with_reducible rfl
         rotate_left
         ·simp only [q_, i64_w, i32_w]; rfl
         refine pure_ (i:=2) (N:=some 40) (v:=?_) (a':=?_) ⟨m_ 18 7⟩ rfl rfl (any_of HT_.out (by kernel_rfl)) (fun _ _ _ h=>h) (Or.inl ⟨rfl, ?_⟩) ?_ ?_; rotate_left
         ·intro w'; go_simp; with_reducible rfl
         rotate_left
         ·simp only [q_, i64_w, i32_w]; rfl
         refine pure_ (i:=3) (N:=some 41) (v:=?_) (a':=?_) ⟨m_ 18 15⟩ rfl rfl (any_of HT_.out (by kernel_rfl)) (fun _ _ _ h=>h) (Or.inl ⟨rfl, ?_⟩) ?_ ?_; rotate_left
         ·intro w'; go_simp; with_reducible rfl
         rotate_left
         ·simp only [q_, i64_w, i32_w]; rfl
         refine take_ (i:=4) (N:=some 42) (v:=?_) (a':=?_) ⟨m_ 18 31⟩ rfl rfl (take_ofW HT_.out HW_.out (by kernel_rfl)) (fun _ _ _ h=>h) (Or.inl ⟨rfl, ?_⟩) hHeld ?_ ?_; rotate_left
         ·rintro w' ⟨s0, s1⟩; go_simp; with_reducible rfl
         rotate_left
         ·simp only [q_, i64_w, i32_w]; rfl
         refine pure_ (i:=5) (N:=some 43) (v:=?_) (a':=?_) ⟨m_ 18 63⟩ rfl rfl (any_of HT_.out (by kernel_rfl)) (fun _ _ _ h=>h) (Or.inl ⟨rfl, ?_⟩) ?_ ?_; rotate_left
         ·intro w'; go_simp; with_reducible rfl
         rotate_left
         ·simp only [q_, i64_w, i32_w]; rfl
         refine pure_ (i:=6) (N:=some 44) (v:=?_) (a':=?_) ⟨m_ 18 127⟩ rfl rfl (any_of HT_.out (by kernel_rfl)) (fun _ _ _ h=>h) (Or.inl ⟨rfl, ?_⟩) ?_ ?_; rotate_left
         ·intro w'; go_simp; with_reducible rfl
         rotate_left
         ·simp only [q_, i64_w, i32_w]; rfl
         refine pure_ (i:=7) (N:=some 45) (v:=?_) (a':=?_) ⟨m_ 18 255⟩ rfl rfl (any_of HT_.out (by kernel_rfl)) (fun _ _ _ h=>h) (Or.inl ⟨rfl, ?_⟩) ?_ ?_; rotate_left
         ·intro w'; go_simp; with_reducible rfl
         rotate_left
         ·simp only [q_, i64_w, i32_w]; rfl
         refine pure_ (i:=8) (N:=some 46) (v:=?_) (a':=?_) ⟨m_ 18 511⟩ rfl rfl (any_of HT_.out (by kernel_rfl)) (fun _ _ _ h=>h) (Or.inl ⟨rfl, ?_⟩) ?_ ?_; rotate_left
         ·intro w'; go_simp; with_reducible rfl
         rotate_left
         ·simp only [q_, i64_w, i32_w]; rfl
         refine pure_ (i:=9) (N:=some 47) (v:=?_) (a':=?_) ⟨m_ 18 1023⟩ rfl rfl (any_of HT_.out (by kernel_rfl)) (fun _ _ _ h=>h) (Or.inl ⟨rfl, ?_⟩) ?_ ?_; rotate_left
         ·intro w'; go_simp; with_reducible rfl
         rotate_left
         ·simp only [q_, i64_w, i32_w]; rfl
         refine pure_ (i:=10) (N:=some 48) (v:=?_) (a':=?_) ⟨m_ 18 2047⟩ rfl rfl (any_of HT_.out (by kernel_rfl)) (fun _ _ _ h=>h) (Or.inl ⟨rfl, ?_⟩) ?_ ?_; rotate_left
         ·intro w'; go_simp; with_reducible rfl
         rotate_left
         ·simp only [q_, i64_w, i32_w]; rfl
         refine pure_ (i:=11) (N:=some 49) (v:=?_) (a':=?_) ⟨m_ 18 4095⟩ rfl rfl (any_of HT_.out (by kernel_rfl)) (fun _ _ _ h=>h) (Or.inl ⟨rfl, ?_⟩) ?_ ?_; rotate_left
         ·intro w'; go_simp; with_reducible rfl
         rotate_left
         ·simp only [q_, i64_w, i32_w]; rfl
         refine pure_ (i:=12) (N:=some 50) (v:=?_) (a':=?_) ⟨m_ 18 8191⟩ rfl rfl (any_of HT_.out (by kernel_rfl)) (fun _ _ _ h=>h) (Or.inl ⟨rfl, ?_⟩) ?_ ?_; rotate_left
         ·intro w'; go_simp; with_reducible rfl
         rotate_left
         ·simp only [q_, i64_w, i32_w]; rfl
         refine pure_ (i:=13) (N:=some 51) (v:=?_) (a':=?_) ⟨m_ 18 16383⟩ rfl rfl (any_of HT_.out (by kernel_rfl)) (fun _ _ _ h=>h) (Or.inl ⟨rfl, ?_⟩) ?_ ?_; rotate_left
         ·intro w'; go_simp; with_reducible rfl
         rotate_left
         ·simp only [q_, i64_w, i32_w]; rfl
         refine pure_ (i:=14) (N:=some 52) (v:=undef) (a':=?_) ⟨m_ 18 32767⟩ rfl rfl (any_of HT_.out (by kernel_rfl)) (fun _ _ _ h=>h) (Or.inr ⟨by rfl, rfl⟩) ?_ ?_; rotate_left
         ·simp only [q_, i64_w, i32_w]; rfl
         refine pure_ (i:=15) (N:=some 53) (v:=undef) (a':=?_) ⟨m_ 18 65535⟩ rfl rfl (any_of HT_.out (by kernel_rfl)) (fun _ _ _ h=>h) (Or.inr ⟨by rfl, rfl⟩) ?_ ?_; rotate_left
         ·simp only [q_, i64_w, i32_w]; rfl
         refine pure_ (i:=16) (N:=some 54) (v:=undef) (a':=?_) ⟨m_ 18 131071⟩ rfl rfl (any_of HT_.out (by kernel_rfl)) (fun _ _ _ h=>h) (Or.inr ⟨by rfl, rfl⟩) ?_ ?_; rotate_left
         ·simp only [q_, i64_w, i32_w]; rfl
         refine pure_ (i:=17) (N:=some 55) (v:=?_) (a':=?_) ⟨m_ 18 262143⟩ rfl rfl (any_of HT_.out (by kernel_rfl)) (fun _ _ _ h=>h) (Or.inl ⟨rfl, ?_⟩) ?_ ?_; rotate_left
         ·intro w'; go_simp; with_reducible rfl
         rotate_left
         ·simp only [q_, i64_w, i32_w]; rfl
         refine done_ (done_of HT_.out (by kernel_rfl)) ?_
         try go_wp2
         go_meet
         case rel => exact ⟨_, (true), (by first | rfl | (simp; done) | (simp [*]; done)), H', ⟨by have := HK1.out; first | omega | exact Nat.le_refl _⟩, ⟨pkx BK101⟩, ⟨pkx BK107⟩, ⟨pbx HB⟩⟩
        ·rw [if_neg c28] at H
         have c28b0 : (t106 != (t109 != 0)) = false := by simpa using c28
         (try (have c28b1 : decide (t106 = (t109 != 0)) = true := by simpa using c28)); (try (have c28b2 : (t106 == (t109 != 0)) = true := by simpa using c28))
         clear c28; replace H := Option.bind_eq_some_iff.mp H; obtain ⟨⟨t111, t112⟩, A310, H⟩ := H
         replace H : (label_Parse.j1 k1 (x108000_1 == t111 && (t109 == t112)) x108000_1 t109) = some (r1, r2, r3) := H
         have A31 := Aside0.mk A310; clear A310
         have H' := Aside0.mk H
         clear H
         try go_wp2
         have n0_ : Aside0 ((w21.setCell ⟨gb107, 1, none⟩ (.int .u64 t109)).heap[gb101]? = some (.cells #[.int .i64 0, .int .u64 0] 59 (0, 0))) := ⟨by refine pf_ ?_ NB101_107.out; exact pkx BK101⟩; have n1_ : Aside0 ((w21.setCell ⟨gb107, 1, none⟩ (.int .u64 t109)).heap[gb107]? = some (.cells #[.int .i64 x108000_1, .int .u64 t109] 59 (0, 0))) := ⟨by refine pp_ (cs := #[.int .i64 x108000_1, .int .u64 0]) 1 ?_ rfl; exact pkx BK107⟩; have n2_ : Aside0 (Below w.heap.size w (w21.setCell ⟨gb107, 1, none⟩ (.int .u64 t109))) := ⟨by repeat (first | (with_reducible first | exact HB.out | apply below_alloc | apply pw_below_drewN | apply below_drew1 | refine below_set ?_ GE101.out | refine below_set ?_ GE107.out) | exact HB.out)⟩
         (try clear BK101); (try clear BK107); (try clear HB)
         generalize (w21.setCell ⟨gb107, 1, none⟩ (.int .u64 t109)) = w32 at n0_ n1_ n2_ ⊢; have BK101 := n0_; have BK107 := n1_; have HB := n2_; clear n0_ n1_ n2_; (try (rw [drewN_self w32]; generalize hq_ : World.drewN w32 _ = w32; have n0_ : Aside0 (w32.heap[gb101]? = some (.cells #[.int .i64 0, .int .u64 0] 59 (0, 0))) := ⟨by rw [← hq_]; exact (pkx BK101)⟩; have n1_ : Aside0 (w32.heap[gb107]? = some (.cells #[.int .i64 x108000_1, .int .u64 t109] 59 (0, 0))) := ⟨by rw [← hq_]; exact (pkx BK107)⟩; have n2_ : Aside0 (Below w.heap.size w w32) := ⟨by rw [← hq_]; exact (pbx HB)⟩; clear BK101 BK107 HB hq_; have BK101 := n0_; have BK107 := n1_; have HB := n2_; clear n0_ n1_ n2_))
         replace BK101 := Aside0.mk (blk_drew BK101.out); replace BK107 := Aside0.mk (blk_drew BK107.out); replace HB := Aside0.mk (below_drew1 HB.out)
         refine start_ (n:=18) (S := fun w' => w'.cell? ⟨gb107, 0, none⟩ = some (.int .i64 x108000_1) ∧ w'.cell? ⟨gb107, 1, none⟩ = some (.int .u64 t109)) (ds := []) #[F,F,F,F,F,F,F,F,F,F,F,F,F,F,F,F,F,F] (by kernel_rfl) rfl rfl ⟨bc_ BK107 0 rfl, bc_ BK107 1 rfl⟩ (fun hHeld => ?_); refine with_tabW label_Parse.tab13 label_Parse.bits13 (fun HT_ HW_ => ?_)
         generalize w32.drew = w33 at BK101 BK107 HB hHeld ⊢; refine pure_ (i:=0) (N:=some 38) (v:=?_) (a':=?_) ⟨m_ 18 1⟩ rfl rfl (any_of HT_.out (by kernel_rfl)) (fun _ _ _ h=>h) (Or.inl ⟨rfl, ?_⟩) ?_ ?_; rotate_left
         ·intro w'; go_simp; with_reducible rfl
         rotate_left
         ·simp only [q_, i64_w, i32_w]; rfl
         refine pure_ (i:=1) (N:=some 39) (v:=?_) (a':=?_) ⟨m_ 18 3⟩ rfl rfl (any_of HT_.out (by kernel_rfl)) (fun _ _ _ h=>h) (Or.inl ⟨rfl, ?_⟩) ?_ ?_; rotate_left
         ·intro w'; go_simp; with_reducible rfl
         rotate_left
         ·simp only [q_, i64_w, i32_w]; rfl
         refine pure_ (i:=2) (N:=some 40) (v:=?_) (a':=?_) ⟨m_ 18 7⟩ rfl rfl (any_of HT_.out (by kernel_rfl)) (fun _ _ _ h=>h) (Or.inl ⟨rfl, ?_⟩) ?_ ?_; rotate_left
         ·intro w'; go_simp; with_reducible rfl
         rotate_left
         ·simp only [q_, i64_w, i32_w]; rfl
         refine pure_ (i:=3) (N:=some 41) (v:=?_) (a':=?_) ⟨m_ 18 15⟩ rfl rfl (any_of HT_.out (by kernel_rfl)) (fun _ _ _ h=>h) (Or.inl ⟨rfl, ?_⟩) ?_ ?_; rotate_left
         ·intro w'; go_simp; with_reducible rfl
         rotate_left
         ·simp only [q_, i64_w, i32_w]; rfl
         refine take_ (i:=4) (N:=some 42) (v:=?_) (a':=?_) ⟨m_ 18 31⟩ rfl rfl (take_ofW HT_.out HW_.out (by kernel_rfl)) (fun _ _ _ h=>h) (Or.inl ⟨rfl, ?_⟩) hHeld ?_ ?_; rotate_left
         ·rintro w' ⟨s0, s1⟩; go_simp; with_reducible rfl
         rotate_left
         ·simp only [q_, i64_w, i32_w]; rfl
         refine pure_ (i:=5) (N:=some 43) (v:=?_) (a':=?_) ⟨m_ 18 63⟩ rfl rfl (any_of HT_.out (by kernel_rfl)) (fun _ _ _ h=>h) (Or.inl ⟨rfl, ?_⟩) ?_ ?_; rotate_left
         ·intro w'; go_simp; with_reducible rfl
         rotate_left
         ·simp only [q_, i64_w, i32_w]; rfl
         refine pure_ (i:=6) (N:=some 44) (v:=?_) (a':=?_) ⟨m_ 18 127⟩ rfl rfl (any_of HT_.out (by kernel_rfl)) (fun _ _ _ h=>h) (Or.inl ⟨rfl, ?_⟩) ?_ ?_; rotate_left
         ·intro w'; go_simp; with_reducible rfl
         rotate_left
         ·simp only [q_, i64_w, i32_w]; rfl
         refine pure_ (i:=7) (N:=some 45) (v:=?_) (a':=?_) ⟨m_ 18 255⟩ rfl rfl (any_of HT_.out (by kernel_rfl)) (fun _ _ _ h=>h) (Or.inl ⟨rfl, ?_⟩) ?_ ?_; rotate_left
         ·intro w'; go_simp; with_reducible rfl
         rotate_left
         ·simp only [q_, i64_w, i32_w]; rfl
         refine pure_ (i:=8) (N:=some 46) (v:=?_) (a':=?_) ⟨m_ 18 511⟩ rfl rfl (any_of HT_.out (by kernel_rfl)) (fun _ _ _ h=>h) (Or.inl ⟨rfl, ?_⟩) ?_ ?_; rotate_left
         ·intro w'; go_simp; with_reducible rfl
         rotate_left
         ·simp only [q_, i64_w, i32_w]; rfl
         refine pure_ (i:=9) (N:=some 47) (v:=?_) (a':=?_) ⟨m_ 18 1023⟩ rfl rfl (any_of HT_.out (by kernel_rfl)) (fun _ _ _ h=>h) (Or.inl ⟨rfl, ?_⟩) ?_ ?_; rotate_left
         ·intro w'; go_simp; with_reducible rfl
         rotate_left
         ·simp only [q_, i64_w, i32_w]; rfl
         refine pure_ (i:=10) (N:=some 48) (v:=?_) (a':=?_) ⟨m_ 18 2047⟩ rfl rfl (any_of HT_.out (by kernel_rfl)) (fun _ _ _ h=>h) (Or.inl ⟨rfl, ?_⟩) ?_ ?_; rotate_left
         ·intro w'; go_simp; with_reducible rfl
         rotate_left
         ·simp only [q_, i64_w, i32_w]; rfl
         refine pure_ (i:=11) (N:=some 49) (v:=?_) (a':=?_) ⟨m_ 18 4095⟩ rfl rfl (any_of HT_.out (by kernel_rfl)) (fun _ _ _ h=>h) (Or.inl ⟨rfl, ?_⟩) ?_ ?_; rotate_left
         ·intro w'; go_simp; with_reducible rfl
         rotate_left
         ·simp only [q_, i64_w, i32_w]; rfl
         refine pure_ (i:=12) (N:=some 50) (v:=?_) (a':=?_) ⟨m_ 18 8191⟩ rfl rfl (any_of HT_.out (by kernel_rfl)) (fun _ _ _ h=>h) (Or.inl ⟨rfl, ?_⟩) ?_ ?_; rotate_left
         ·intro w'; go_simp; with_reducible rfl
         rotate_left
         ·simp only [q_, i64_w, i32_w]; rfl
         refine pure_ (i:=13) (N:=some 51) (v:=?_) (a':=?_) ⟨m_ 18 16383⟩ rfl rfl (any_of HT_.out (by kernel_rfl)) (fun _ _ _ h=>h) (Or.inl ⟨rfl, ?_⟩) ?_ ?_; rotate_left
         ·intro w'; go_simp; with_reducible rfl
         rotate_left
         ·simp only [q_, i64_w, i32_w]; rfl
         refine take_ (i:=14) (N:=some 52) (v:=?_) (a':=?_) ⟨m_ 18 32767⟩ rfl rfl (take_ofW HT_.out HW_.out (by kernel_rfl)) (fun _ _ _ h=>h) (Or.inl ⟨rfl, ?_⟩) hHeld ?_ ?_; rotate_left
         ·rintro w' ⟨s0, s1⟩; go_simp; with_reducible rfl
         rotate_left
         ·simp only [q_, i64_w, i32_w]; rfl
         refine one_ (i:=15) (N:=some 53) ⟨m_ 18 65535⟩ rfl rfl (one_of HT_.out (by kernel_rfl)) (by decide) (fun K hK => ?_); refine goes_ Tryd.func41 (by kernel_rfl) rfl #[] (by rfl) rfl rfl (by (try simp only [List.map_toArray, List.map_cons, List.map_nil]); first | done | rfl | (simp only [List.length_drop, List.length_take]; rfl)) ?_; with_reducible refine (label_Top.calls  t111 t112 _ A31.out).mono ?_; rintro e w34 ⟨rfl, hb⟩; refine ⟨_, rfl, ?_⟩
         replace BK101 := bb_ BK101 hb; replace BK107 := bb_ BK107 hb; replace HB := bs_ HB hb; (try clear hb); (try clear hb2); (try clear hk); (try clear hi); refine hK.out _ _ ⟨bc_ BK107 0 rfl, bc_ BK107 1 rfl⟩ (fun hHeld => ?_); clear hK K; refine norm_ (a':=?_) ?_ ?_; rotate_left
         ·show Act.put _ (some 53) _ = _; simp only [q_, i64_w, i32_w]; rfl
         refine pure_ (i:=16) (N:=some 54) (v:=?_) (a':=?_) ⟨m_ 18 131071⟩ rfl rfl (any_of HT_.out (by kernel_rfl)) (fun _ _ _ h=>h) (Or.inl ⟨rfl, ?_⟩) ?_ ?_; rotate_left
         ·intro w'; go_simp; with_reducible rfl
         rotate_left
         ·simp only [q_, i64_w, i32_w]; rfl
         refine pure_ (i:=17) (N:=some 55) (v:=?_) (a':=?_) ⟨m_ 18 262143⟩ rfl rfl (any_of HT_.out (by kernel_rfl)) (fun _ _ _ h=>h) (Or.inl ⟨rfl, ?_⟩) ?_ ?_; rotate_left
         ·intro w'; go_simp; with_reducible rfl
         rotate_left
         ·simp only [q_, i64_w, i32_w]; rfl
         refine done_ (done_of HT_.out (by kernel_rfl)) ?_
         try go_wp2
         go_meet
         case rel => exact ⟨_, ((x108000_1 == t111 && (t109 == t112))), (by first | rfl | (simp; done) | (simp [*]; done) | (cases t111 <;> simp; done) | (cases t109 <;> simp; done) | (cases t112 <;> simp; done)), H', ⟨by have := HK1.out; first | omega | exact Nat.le_refl _⟩, ⟨pkx BK101⟩, ⟨pkx BK107⟩, ⟨pbx HB⟩⟩
      ·replace c24 := Bool.eq_false_iff.mpr c24; subst c24
       have H1 : (label_Parse.j1 k1 true x108000_1 t109) = some (r1, r2, r3) := by rw [if_neg (show ¬ (false = true) by decide)] at H; exact H
       clear H; have H := H1; clear H1
       have H' := Aside0.mk H
       clear H
       try go_wp2
       have n0_ : Aside0 ((w21.setCell ⟨gb107, 1, none⟩ (.int .u64 t109)).heap[gb101]? = some (.cells #[.int .i64 0, .int .u64 0] 59 (0, 0))) := ⟨by refine pf_ ?_ NB101_107.out; exact pkx BK101⟩; have n1_ : Aside0 ((w21.setCell ⟨gb107, 1, none⟩ (.int .u64 t109)).heap[gb107]? = some (.cells #[.int .i64 x108000_1, .int .u64 t109] 59 (0, 0))) := ⟨by refine pp_ (cs := #[.int .i64 x108000_1, .int .u64 0]) 1 ?_ rfl; exact pkx BK107⟩; have n2_ : Aside0 (Below w.heap.size w (w21.setCell ⟨gb107, 1, none⟩ (.int .u64 t109))) := ⟨by repeat (first | (with_reducible first | exact HB.out | apply below_alloc | apply pw_below_drewN | apply below_drew1 | refine below_set ?_ GE101.out | refine below_set ?_ GE107.out) | exact HB.out)⟩
       (try clear BK101); (try clear BK107); (try clear HB)
       generalize (w21.setCell ⟨gb107, 1, none⟩ (.int .u64 t109)) = w35 at n0_ n1_ n2_ ⊢; have BK101 := n0_; have BK107 := n1_; have HB := n2_; clear n0_ n1_ n2_; (try (rw [drewN_self w35]; generalize hq_ : World.drewN w35 _ = w35; have n0_ : Aside0 (w35.heap[gb101]? = some (.cells #[.int .i64 0, .int .u64 0] 59 (0, 0))) := ⟨by rw [← hq_]; exact (pkx BK101)⟩; have n1_ : Aside0 (w35.heap[gb107]? = some (.cells #[.int .i64 x108000_1, .int .u64 t109] 59 (0, 0))) := ⟨by rw [← hq_]; exact (pkx BK107)⟩; have n2_ : Aside0 (Below w.heap.size w w35) := ⟨by rw [← hq_]; exact (pbx HB)⟩; clear BK101 BK107 HB hq_; have BK101 := n0_; have BK107 := n1_; have HB := n2_; clear n0_ n1_ n2_))
       replace BK101 := Aside0.mk (blk_drew BK101.out); replace BK107 := Aside0.mk (blk_drew BK107.out); replace HB := Aside0.mk (below_drew1 HB.out)
       refine start_ (n:=18) (S := fun w' => True) (ds := []) #[F,F,F,F,F,F,F,F,F,F,F,F,F,F,F,F,F,F] (by kernel_rfl) rfl rfl trivial (fun hHeld => ?_); refine with_tabW label_Parse.tab13 label_Parse.bits13 (fun HT_ HW_ => ?_)
       generalize w35.drew = w36 at BK101 BK107 HB hHeld ⊢; refine pure_ (i:=0) (N:=some 38) (v:=?_) (a':=?_) ⟨m_ 18 1⟩ rfl rfl (any_of HT_.out (by kernel_rfl)) (fun _ _ _ h=>h) (Or.inl ⟨rfl, ?_⟩) ?_ ?_; rotate_left
       ·intro w'; go_simp; with_reducible rfl
       rotate_left
       ·simp only [q_, i64_w, i32_w]; rfl
       refine pure_ (i:=1) (N:=some 39) (v:=?_) (a':=?_) ⟨m_ 18 3⟩ rfl rfl (any_of HT_.out (by kernel_rfl)) (fun _ _ _ h=>h) (Or.inl ⟨rfl, ?_⟩) ?_ ?_; rotate_left
       ·intro w'; go_simp; with_reducible rfl
       rotate_left
       ·simp only [q_, i64_w, i32_w]; rfl
       refine pure_ (i:=2) (N:=some 40) (v:=?_) (a':=?_) ⟨m_ 18 7⟩ rfl rfl (any_of HT_.out (by kernel_rfl)) (fun _ _ _ h=>h) (Or.inl ⟨rfl, ?_⟩) ?_ ?_; rotate_left
       ·intro w'; go_simp; with_reducible rfl
       rotate_left
       ·simp only [q_, i64_w, i32_w]; rfl
       refine pure_ (i:=3) (N:=some 41) (v:=undef) (a':=?_) ⟨m_ 18 15⟩ rfl rfl (any_of HT_.out (by kernel_rfl)) (fun _ _ _ h=>h) (Or.inr ⟨by rfl, rfl⟩) ?_ ?_; rotate_left
       ·simp only [q_, i64_w, i32_w]; rfl
       refine pure_ (i:=4) (N:=some 42) (v:=undef) (a':=?_) ⟨m_ 18 31⟩ rfl rfl (any_of HT_.out (by kernel_rfl)) (fun _ _ _ h=>h) (Or.inr ⟨by rfl, rfl⟩) ?_ ?_; rotate_left
       ·simp only [q_, i64_w, i32_w]; rfl
       refine pure_ (i:=5) (N:=some 43) (v:=undef) (a':=?_) ⟨m_ 18 63⟩ rfl rfl (any_of HT_.out (by kernel_rfl)) (fun _ _ _ h=>h) (Or.inr ⟨by rfl, rfl⟩) ?_ ?_; rotate_left
       ·simp only [q_, i64_w, i32_w]; rfl
       refine pure_ (i:=6) (N:=some 44) (v:=?_) (a':=?_) ⟨m_ 18 127⟩ rfl rfl (any_of HT_.out (by kernel_rfl)) (fun _ _ _ h=>h) (Or.inl ⟨rfl, ?_⟩) ?_ ?_; rotate_left
       ·intro w'; go_simp; with_reducible rfl
       rotate_left
       ·simp only [q_, i64_w, i32_w]; rfl
       refine pure_ (i:=7) (N:=some 45) (v:=?_) (a':=?_) ⟨m_ 18 255⟩ rfl rfl (any_of HT_.out (by kernel_rfl)) (fun _ _ _ h=>h) (Or.inl ⟨rfl, ?_⟩) ?_ ?_; rotate_left
       ·intro w'; go_simp; with_reducible rfl
       rotate_left
       ·simp only [q_, i64_w, i32_w]; rfl
       refine pure_ (i:=8) (N:=some 46) (v:=undef) (a':=?_) ⟨m_ 18 511⟩ rfl rfl (any_of HT_.out (by kernel_rfl)) (fun _ _ _ h=>h) (Or.inr ⟨by rfl, rfl⟩) ?_ ?_; rotate_left
       ·simp only [q_, i64_w, i32_w]; rfl
       refine pure_ (i:=9) (N:=some 47) (v:=undef) (a':=?_) ⟨m_ 18 1023⟩ rfl rfl (any_of HT_.out (by kernel_rfl)) (fun _ _ _ h=>h) (Or.inr ⟨by rfl, rfl⟩) ?_ ?_; rotate_left
       ·simp only [q_, i64_w, i32_w]; rfl
       refine pure_ (i:=10) (N:=some 48) (v:=undef) (a':=?_) ⟨m_ 18 2047⟩ rfl rfl (any_of HT_.out (by kernel_rfl)) (fun _ _ _ h=>h) (Or.inr ⟨by rfl, rfl⟩) ?_ ?_; rotate_left
       ·simp only [q_, i64_w, i32_w]; rfl
       refine pure_ (i:=11) (N:=some 49) (v:=undef) (a':=?_) ⟨m_ 18 4095⟩ rfl rfl (any_of HT_.out (by kernel_rfl)) (fun _ _ _ h=>h) (Or.inr ⟨by rfl, rfl⟩) ?_ ?_; rotate_left
       ·simp only [q_, i64_w, i32_w]; rfl
       refine pure_ (i:=12) (N:=some 50) (v:=?_) (a':=?_) ⟨m_ 18 8191⟩ rfl rfl (any_of HT_.out (by kernel_rfl)) (fun _ _ _ h=>h) (Or.inl ⟨rfl, ?_⟩) ?_ ?_; rotate_left
       ·intro w'; go_simp; with_reducible rfl
       rotate_left
       ·simp only [q_, i64_w, i32_w]; rfl
       refine pure_ (i:=13) (N:=some 51) (v:=?_) (a':=?_) ⟨m_ 18 16383⟩ rfl rfl (any_of HT_.out (by kernel_rfl)) (fun _ _ _ h=>h) (Or.inl ⟨rfl, ?_⟩) ?_ ?_; rotate_left
       ·intro w'; go_simp; with_reducible rfl
       rotate_left
       ·simp only [q_, i64_w, i32_w]; rfl
       refine pure_ (i:=14) (N:=some 52) (v:=undef) (a':=?_) ⟨m_ 18 32767⟩ rfl rfl (any_of HT_.out (by kernel_rfl)) (fun _ _ _ h=>h) (Or.inr ⟨by rfl, rfl⟩) ?_ ?_; rotate_left
       ·simp only [q_, i64_w, i32_w]; rfl
       refine pure_ (i:=15) (N:=some 53) (v:=undef) (a':=?_) ⟨m_ 18 65535⟩ rfl rfl (any_of HT_.out (by kernel_rfl)) (fun _ _ _ h=>h) (Or.inr ⟨by rfl, rfl⟩) ?_ ?_; rotate_left
       ·simp only [q_, i64_w, i32_w]; rfl
       refine pure_ (i:=16) (N:=some 54) (v:=undef) (a':=?_) ⟨m_ 18 131071⟩ rfl rfl (any_of HT_.out (by kernel_rfl)) (fun _ _ _ h=>h) (Or.inr ⟨by rfl, rfl⟩) ?_ ?_; rotate_left
       ·simp only [q_, i64_w, i32_w]; rfl
       refine pure_ (i:=17) (N:=some 55) (v:=?_) (a':=?_) ⟨m_ 18 262143⟩ rfl rfl (any_of HT_.out (by kernel_rfl)) (fun _ _ _ h=>h) (Or.inl ⟨rfl, ?_⟩) ?_ ?_; rotate_left
       ·intro w'; go_simp; with_reducible rfl
       rotate_left
       ·simp only [q_, i64_w, i32_w]; rfl
       refine done_ (done_of HT_.out (by kernel_rfl)) ?_
       try go_wp2
       go_meet
       case rel => exact ⟨_, (true), (by first | rfl | (simp; done) | (simp [*]; done)), H', ⟨by have := HK1.out; first | omega | exact Nat.le_refl _⟩, ⟨pkx BK101⟩, ⟨pkx BK107⟩, ⟨pbx HB⟩⟩
     case rest =>
      clear HC20; (try clear c2); (try clear p2); (try clear c4); (try clear c24); (try clear c25); (try clear c25b0); (try clear c28); (try clear c28b0); (try clear c28b1); (try clear c28b2); obtain ⟨kq, x55_19, rfl, HA, HJ19, BK101, BK107, HB⟩ := hcut
      cases kq with
      | zero => exact absurd HA.out (by simp [label_Parse.j1])
      | succ kj19 =>
       have H := HA.out; clear HA
       simp only [label_Parse.j1] at H
       by_cases c37 : x55_19 = true
       ·subst c37
        have H1 : (some (0, 0, false)) = some (r1, r2, r3) := by rw [if_pos rfl] at H; exact H
        clear H; have H := H1; clear H1
        simp only [Option.some.injEq, Prod.mk.injEq] at H
        obtain ⟨rfl, rfl, rfl⟩ := H; have hnb38 := NB101_107.out; have hnc38 := NB107_101.out
        have hcz39_0 : wc.cell? ⟨gb101, 0, none⟩ = some (.int .i64 0) := bc_ BK101 0 rfl
        have hcz39_1 : wc.cell? ⟨gb101, 1, none⟩ = some (.int .u64 0) := bc_ BK101 1 rfl
        have hfz39_0 := blk_frozen BK101.out 0; have hfz39_1 := blk_frozen BK101.out 1
        go_wp2
        refine bodyPost_ret (results_ct rfl _ _ gb101 59 #[.int .i64 0, .int .u64 0] (0, 0) _ rfl (by refine pp_ (cs := #[.int .i64 0, .int .u64 0]) 1 ?_ rfl; refine blk_put (cs := #[.int .i64 0, .int .u64 0]) ?_ 0 _ rfl; exact pkx BK101) Tryd.underlying59 rfl (by kernel_rfl)) rfl ?_
        exact ⟨by first | rfl | (simp [errW_none, errW_some] <;> rfl) | (simp [*, errW_none, errW_some] <;> rfl), by repeat (first | (with_reducible first | exact HB.out | apply below_alloc | apply pw_below_drewN | apply below_drew1 | refine below_set ?_ GE101.out | refine below_set ?_ GE107.out) | exact HB.out)⟩
       ·replace c37 := Bool.eq_false_iff.mpr c37; subst c37
        have H1 : (some (x108000_1, t109, true)) = some (r1, r2, r3) := by rw [if_neg (show ¬ (false = true) by decide)] at H; exact H
        clear H; have H := H1; clear H1
        simp only [Option.some.injEq, Prod.mk.injEq] at H
        obtain ⟨rfl, rfl, rfl⟩ := H; have hnb40 := NB107_101.out; have hnc40 := NB101_107.out
        have hcz41_0 : wc.cell? ⟨gb107, 0, none⟩ = some (.int .i64 x108000_1) := bc_ BK107 0 rfl
        have hcz41_1 : wc.cell? ⟨gb107, 1, none⟩ = some (.int .u64 t109) := bc_ BK107 1 rfl
        have hfz41_0 := blk_frozen BK107.out 0; have hfz41_1 := blk_frozen BK107.out 1
        have hcz42_0 : wc.cell? ⟨gb101, 0, none⟩ = some (.int .i64 0) := bc_ BK101 0 rfl
        have hcz42_1 : wc.cell? ⟨gb101, 1, none⟩ = some (.int .u64 0) := bc_ BK101 1 rfl
        have hfz42_0 := blk_frozen BK101.out 0; have hfz42_1 := blk_frozen BK101.out 1
        go_wp2
        refine bodyPost_ret (results_ct rfl _ _ gb101 59 #[.int .i64 x108000_1, .int .u64 t109] (0, 0) _ rfl (by refine pp_ (cs := #[.int .i64 x108000_1, .int .u64 0]) 1 ?_ rfl; refine blk_put (cs := #[.int .i64 0, .int .u64 0]) ?_ 0 _ rfl; exact pkx BK101) Tryd.underlying59 rfl (by kernel_rfl)) rfl ?_
        exact ⟨by first | rfl | (simp [errW_none, errW_some] <;> rfl) | (simp [*, errW_none, errW_some] <;> rfl), by repeat (first | (with_reducible first | exact HB.out | apply below_alloc | apply pw_below_drewN | apply below_drew1 | refine below_set ?_ GE101.out | refine below_set ?_ GE107.out) | exact HB.out)⟩

end Go.Proofs.YtbboanfggaknjaaDoor.X
/- The contract of policy.add: a line's words are put to a policy in memory. -/
set_option linter.unusedVariables false
set_option linter.unusedSimpArgs false
namespace Go.Proofs.YtbboanfggaknjaaDoor.X
open Go.RowKit Go.Proofs.YtbboanfggaknjaaDoorW.PrintWords Go.Proofs.YtbboanfggaknjaaDoorW.PrintLast Go.Proofs.YtbboanfggaknjaaDoorW.PrintMore
theorem R_apart {α β : Type} {d : Kd α} {d2 : Kd β} {e e2 b b2 : Nat} {w : World} {ok ok2 : Nat → Prop} {v v2 : Value} {xs : List α} {ys : List β} (h : d.R e w b ok v xs) (h2 : d2.R e2 w b2 ok2 v2 ys) (ht : ∀ q, q ∈ e2 :: d2.E → q ≠ e) :
    d2.R e2 w b2 (fun k => ok2 k ∧ some k ≠ v.ownBlock) v2 ys := by
  obtain ⟨h0, inner, ho, hr⟩ := h
  cases hv : v.ownBlock with
  | none => exact Kd.R_mono h2 (fun k hk => ⟨hk, by simp⟩)
  | some g =>
    obtain ⟨cells, hc⟩ := own_typed ho g hv
    exact Kd.R_mono (Kd.R_types h2 hc ht) (fun k hk => ⟨hk.1, fun e => hk.2 (Option.some.inj e)⟩)
structure IsP (w0 w : World) (g : Nat) (r c : Int) (vz vu vg : Value) (zs : List S61) (us : List S65) (gs : List S67) : Prop where
  hP : w.heap[g]? = some (.cells #[.int .i64 r, .int .i64 c, vz, vu, vg] 26 (0, 0))
  hg : w0.heap.size ≤ g
  hz : k61.R 61 w w0.heap.size (fun _ => True) vz zs
  hu : k65.R 65 w w0.heap.size (fun _ => True) vu us
  hr : k67.R 67 w w0.heap.size (fun _ => True) vg gs
  hB : Below w0.heap.size w0 w
theorem IsP.below {w0 w w1 : World} {g : Nat} {r c : Int} {vz vu vg : Value} {zs : List S61} {us : List S65} {gs : List S67} (h : IsP w0 w g r c vz vu vg zs us gs) (hb : Below w.heap.size w w1) : IsP w0 w1 g r c vz vu vg zs us gs :=
  ⟨blk_below h.hP hb, h.hg, Kd.R_below h.hz hb, Kd.R_below h.hu hb, Kd.R_below h.hr hb, below_step h.hB hb⟩
theorem ne26_61 : ∀ q, q ∈ 61 :: k61.E → q ≠ 26 := by decide
theorem ne26_65 : ∀ q, q ∈ 65 :: k65.E → q ≠ 26 := by decide
theorem ne26_67 : ∀ q, q ∈ 67 :: k67.E → q ≠ 26 := by decide
theorem R_setP {α : Type} {d : Kd α} {e b : Nat} {w : World} {g : Nat} {cs : Array Value} {v : Value} {xs : List α} (h : d.R e w b (fun _ => True) v xs) (hP : w.heap[g]? = some (.cells cs 26 (0, 0))) (ht : ∀ q, q ∈ e :: d.E → q ≠ 26) (i : Nat) (u : Value) : d.R e (w.setCell ⟨g, i, none⟩ u) b (fun _ => True) v xs :=
  Kd.R_mono (Kd.R_far (p := ⟨g, i, none⟩) (Kd.R_types h hP ht) (fun k hk => hk.2) u) (fun _ _ => trivial)
theorem IsP.grid {w0 w : World} {g : Nat} {r c : Int} {vz vu vg : Value} {zs : List S61} {us : List S65} {gs : List S67} (h : IsP w0 w g r c vz vu vg zs us gs) (r1 c1 : Int) :
    IsP w0 ((w.setCell ⟨g, 0, none⟩ (.int .i64 r1)).setCell ⟨g, 1, none⟩ (.int .i64 c1)) g r1 c1 vz vu vg zs us gs := by
  have p0 : (w.setCell ⟨g, 0, none⟩ (.int .i64 r1)).heap[g]? = some (.cells #[.int .i64 r1, .int .i64 c, vz, vu, vg] 26 (0, 0)) := by simpa using blk_set h.hP 0 (.int .i64 r1)
  refine ⟨by simpa using blk_set p0 1 (.int .i64 c1), h.hg, ?_, ?_, ?_, below_set (below_set h.hB h.hg) h.hg⟩
  · exact R_setP (R_setP h.hz h.hP ne26_61 0 _) p0 ne26_61 1 _
  · exact R_setP (R_setP h.hu h.hP ne26_65 0 _) p0 ne26_65 1 _
  · exact R_setP (R_setP h.hr h.hP ne26_67 0 _) p0 ne26_67 1 _
theorem P_grown {w w1 : World} {g : Nat} {cs : Array Value} {α : Type} {d : Kd α} {e b : Nat} {v : Value} {xs : List α} (hP : w.heap[g]? = some (.cells cs 26 (0, 0))) (h : d.R e w b (fun _ => True) v xs) (ht : e ≠ 26) (hg : w.grownBy w1 v.ownBlock) : w1.heap[g]? = some (.cells cs 26 (0, 0)) := by
  obtain ⟨h0, inner, ho, hr⟩ := h
  rw [← hP]
  refine hg.block g (blk_lt hP) (fun e9 => ?_)
  obtain ⟨cells, hc⟩ := own_typed ho g e9.symm
  rw [hP] at hc
  injection hc with hc
  injection hc with _ hc
  exact ht hc.symm
theorem IsP.zone {w0 w w1 : World} {g : Nat} {r c : Int} {vz vu vg v1 : Value} {zs zs1 : List S61} {us : List S65} {gs : List S67} (h : IsP w0 w g r c vz vu vg zs us gs) (hz : k61.R 61 w1 w0.heap.size (fun _ => True) v1 zs1) (hB : Below w0.heap.size w0 w1) (hg : w.grownBy w1 vz.ownBlock) :
    IsP w0 (w1.setCell ⟨g, 2, none⟩ v1) g r c v1 vu vg zs1 us gs := by
  have p1 := P_grown h.hP h.hz (by decide) hg
  refine ⟨by simpa using blk_set p1 2 v1, h.hg, R_setP hz p1 ne26_61 2 _, R_setP (Kd.R_mono (Kd.R_grown (R_apart h.hz h.hu (by decide)) hg (fun k hk => hk.2)) (fun _ _ => trivial)) p1 ne26_65 2 _, R_setP (Kd.R_mono (Kd.R_grown (R_apart h.hz h.hr (by decide)) hg (fun k hk => hk.2)) (fun _ _ => trivial)) p1 ne26_67 2 _, below_set hB h.hg⟩
theorem IsP.user {w0 w w1 : World} {g : Nat} {r c : Int} {vz vu vg v1 : Value} {zs : List S61} {us us1 : List S65} {gs : List S67} (h : IsP w0 w g r c vz vu vg zs us gs) (hz : k65.R 65 w1 w0.heap.size (fun _ => True) v1 us1) (hB : Below w0.heap.size w0 w1) (hg : w.grownBy w1 vu.ownBlock) :
    IsP w0 (w1.setCell ⟨g, 3, none⟩ v1) g r c vz v1 vg zs us1 gs := by
  have p1 := P_grown h.hP h.hu (by decide) hg
  refine ⟨by simpa using blk_set p1 3 v1, h.hg, R_setP (Kd.R_mono (Kd.R_grown (R_apart h.hu h.hz (by decide)) hg (fun k hk => hk.2)) (fun _ _ => trivial)) p1 ne26_61 3 _, R_setP hz p1 ne26_65 3 _, R_setP (Kd.R_mono (Kd.R_grown (R_apart h.hu h.hr (by decide)) hg (fun k hk => hk.2)) (fun _ _ => trivial)) p1 ne26_67 3 _, below_set hB h.hg⟩
theorem IsP.grant {w0 w w1 : World} {g : Nat} {r c : Int} {vz vu vg v1 : Value} {zs : List S61} {us : List S65} {gs gs1 : List S67} (h : IsP w0 w g r c vz vu vg zs us gs) (hz : k67.R 67 w1 w0.heap.size (fun _ => True) v1 gs1) (hB : Below w0.heap.size w0 w1) (hg : w.grownBy w1 vg.ownBlock) :
    IsP w0 (w1.setCell ⟨g, 4, none⟩ v1) g r c vz vu v1 zs us gs1 := by
  have p1 := P_grown h.hP h.hr (by decide) hg
  refine ⟨by simpa using blk_set p1 4 v1, h.hg, R_setP (Kd.R_mono (Kd.R_grown (R_apart h.hr h.hz (by decide)) hg (fun k hk => hk.2)) (fun _ _ => trivial)) p1 ne26_61 4 _, R_setP (Kd.R_mono (Kd.R_grown (R_apart h.hr h.hu (by decide)) hg (fun k hk => hk.2)) (fun _ _ => trivial)) p1 ne26_65 4 _, R_setP hz p1 ne26_67 4 _, below_set hB h.hg⟩
end Go.Proofs.YtbboanfggaknjaaDoor.X
/- policy.add, walked. -/
set_option linter.unusedVariables false
set_option linter.unusedSimpArgs false
namespace Go.Proofs.YtbboanfggaknjaaDoor.X
open Go.RowKit Go.Proofs.YtbboanfggaknjaaDoorW.PrintWords Go.Proofs.YtbboanfggaknjaaDoorW.PrintLast Go.Proofs.YtbboanfggaknjaaDoorW.PrintMore
abbrev T6 : Type := Int × Int × Int × List S61 × List S65 × List S67
def wrd (ws : List ByteArray) (i : Int) : ByteArray := rdOf ByteArray.empty ws i
def policy_add.f (k : Nat) (r c : Int) (zs : List S61) (us : List S65) (gs : List S67) (ws : List ByteArray) : Option T6 :=
  if ws.length = 3 ∧ (wrd ws 0).toList = [103, 114, 105, 100] then
    (addr_Number.f k (wrd ws 1)).bind fun a => (addr_Number.f k (wrd ws 2)).bind fun b =>
    if a.2 = true ∧ b.2 = true then some (0, wrap64 (a.1 + 1), wrap64 (b.1 + 1), zs, us, gs) else some (4, r, c, zs, us, gs)
  else if ws.length = 3 ∧ (wrd ws 0).toList = [122, 111, 110, 101] then
    (span_Parse.f k (wrd ws 1)).bind fun a => (label_Parse.f k (wrd ws 2)).bind fun b =>
    if a.2.2.2.2 = true ∧ b.2.2 = true then (if zs.length ≤ 100000 then some (1, r, c, zs ++ [⟨⟨⟨a.1, a.2.1⟩, ⟨a.2.2.1, a.2.2.2.1⟩⟩, ⟨b.1, b.2.1⟩⟩], us, gs) else none) else some (4, r, c, zs, us, gs)
  else if ws.length = 3 ∧ (wrd ws 0).toList = [117, 115, 101, 114] then
    (label_Parse.f k (wrd ws 2)).bind fun b =>
    if b.2.2 = true then (if us.length ≤ 100000 then some (2, r, c, zs, us ++ [⟨wrd ws 1, ⟨b.1, b.2.1⟩⟩], gs) else none) else some (4, r, c, zs, us, gs)
  else if ws.length = 4 ∧ (wrd ws 0).toList = [103, 114, 97, 110, 116] then
    (label_Parse.f k (wrd ws 2)).bind fun a => (label_Parse.f k (wrd ws 3)).bind fun b =>
    if a.2.2 = true ∧ b.2.2 = true then (if gs.length ≤ 100000 then some (3, r, c, zs, us, gs ++ [⟨wrd ws 1, ⟨a.1, a.2.1⟩, ⟨b.1, b.2.1⟩⟩]) else none) else some (4, r, c, zs, us, gs)
  else some (4, r, c, zs, us, gs)
theorem policy_add.mono : ∀ r c zs us gs ws k, LeO (policy_add.f k r c zs us gs ws) (policy_add.f (k + 1) r c zs us gs ws) := by
  intro r c zs us gs ws k
  unfold policy_add.f
  repeat' first
    | (with_reducible exact addr_Number.mono _ _)
    | (with_reducible exact span_Parse.mono _ _)
    | (with_reducible exact label_Parse.mono _ _)
    | (with_reducible exact LeO.refl _)
    | (with_reducible refine LeO.ite ?_ ?_)
    | (with_reducible refine LeO.bind ?_ (fun _ => ?_))
theorem words_at {w : World} {A : Option Addr} {ws : List ByteArray} (h : Kd.C Kd.string w A ws.length ws) (hn : 0 < ws.length) : ∃ ad, A = some ad ∧ ∀ i : Nat, i < ws.length → w.cell? (ad.add i) = some (.string (wrd ws (i : Int))) := by
  obtain ⟨ad, rfl, _⟩ := Kd.at_string h 0 (by omega) (by omega)
  refine ⟨ad, rfl, fun i hi => ?_⟩
  obtain ⟨ad2, e, hc⟩ := Kd.at_string h (i : Int) (by omega) (by omega)
  cases e
  exact hc
theorem cell_below {w w1 : World} {p : Addr} {v : Value} (h : w.cell? p = some v) (hb : Below w.heap.size w w1) : w1.cell? p = some v := (hb.cell (World.block_lt_of_cell? _ _ h)).trans h
set_option maxHeartbeats 4000000 in
set_option maxRecDepth 100000 in
theorem add_grid (k : Nat) (g : Nat) (r c : Int) (vz vu vg : Value) (zs : List S61) (us : List S65) (gs : List S67) (A : Option Addr) (cap : Nat) (ws : List ByteArray) (w0 w : World) (hI : Aside0 (IsP w0 w g r c vz vu vg zs us gs)) (hW : Aside0 (Kd.C Kd.string w A ws.length ws)) (hc : ws.length ≤ cap)
    (h3 : ws.length = 3) (hg : (wrd ws 0).toList = [103, 114, 105, 100]) (n1 n2 : Int) (b1 b2 : Bool) (A1 : addr_Number.f k (wrd ws 1) = some (n1, b1)) (A2 : addr_Number.f k (wrd ws 2) = some (n2, b2)) (kind r1 c1 : Int) (zs1 : List S61) (us1 : List S65) (gs1 : List S67)
    (H : (if b1 = true ∧ b2 = true then some (0, wrap64 (n1 + 1), wrap64 (n2 + 1), zs, us, gs) else some (4, r, c, zs, us, gs)) = some ((kind, r1, c1, zs1, us1, gs1) : T6)) :
    Calls Tryd.prog 27 #[.pointer (some ⟨g, 0, none⟩), .slice A ws.length cap] w fun e w' => e = .returned (.int .i64 kind) ∧ ∃ vz1 vu1 vg1, IsP w0 w' g r1 c1 vz1 vu1 vg1 zs1 us1 gs1 := by
  have HH := Aside0.mk H
  clear H
  have hu26 := Tryd.underlying26
  have HA1 := Aside0.mk A1
  have HA2 := Aside0.mk A2
  clear A1 A2
  obtain ⟨ad, rfl, hat⟩ := words_at hW.out (by omega)
  have e00 := hat 0 (by omega)
  have e0 : w.cell? ad = some (.string (wrd ws 0)) := e00
  have e1 : w.cell? ⟨ad.block, ad.off + 1, none⟩ = some (.string (wrd ws 1)) := hat 1 (by omega)
  have e2 : w.cell? ⟨ad.block, ad.off + 2, none⟩ = some (.string (wrd ws 2)) := hat 2 (by omega)
  rw [h3]
  have d3 : (((3 : Nat) : Int) == 3) = true := rfl
  have dg : ((wrd ws 0).toList == [103, 114, 105, 100]) = true := beq_iff_eq.mpr hg
  have HAT := Aside0.mk hat
  clear hg h3 hW hat
  go_enter Tryd.func27, Tryd.ntmps27
  go_upto_region 2 with fail
  clear e0 e00 dg d3 HAT
  go_upto_region 3 with (go_at_call 48; refine (addr_Number.calls k (wrd ws 1) n1 b1 _ HA1.out).mono ?_; rintro e w5 ⟨rfl, hd⟩; have hb := hd.below; clear hd; replace e2 := cell_below e2 hb; have HI5 := Aside0.mk (hI.out.below hb); clear hb)
  clear e1 hI
  go_upto_region 4 with (go_at_call 48; refine (addr_Number.calls k (wrd ws 2) n2 b2 _ HA2.out).mono ?_; rintro e w6 ⟨rfl, hd⟩; have hb := hd.below; clear hd; have HI6 := Aside0.mk (HI5.out.below hb); clear hb)
  clear e2 HI5
  have H := HH.out
  clear HH
  cases b1 with
  | false =>
    rw [if_neg (by simp)] at H
    simp only [Option.some.injEq, Prod.mk.injEq] at H
    obtain ⟨rfl, rfl, rfl, rfl, rfl, rfl⟩ := H
    go_wp2
    go_ret
    exact ⟨rfl, _, _, _, HI6.out⟩
  | true =>
    cases b2 with
    | false =>
      rw [if_neg (by simp)] at H
      simp only [Option.some.injEq, Prod.mk.injEq] at H
      obtain ⟨rfl, rfl, rfl, rfl, rfl, rfl⟩ := H
      go_wp2
      go_ret
      exact ⟨rfl, _, _, _, HI6.out⟩
    | true =>
      rw [if_pos (by simp)] at H
      simp only [Option.some.injEq, Prod.mk.injEq] at H
      obtain ⟨rfl, rfl, rfl, rfl, rfl, rfl⟩ := H
      have z0 : w6.cell? ⟨g, 0, none⟩ = some (.int .i64 r) := (blk_cell HI6.out.hP 0).trans rfl
      have z1 : w6.cell? ⟨g, 1, none⟩ = some (.int .i64 c) := (blk_cell HI6.out.hP 1).trans rfl
      have f0 := blk_frozen HI6.out.hP 0
      have f1 := blk_frozen HI6.out.hP 1
      go_wp2
      go_ret
      exact ⟨rfl, _, _, _, HI6.out.grid (wrap64 (n1 + 1)) (wrap64 (n2 + 1))⟩
theorem P_grownT {w w1 : World} {g t : Nat} {cs : Array Value} {α : Type} {d : Kd α} {e b : Nat} {v : Value} {xs : List α} (hP : w.heap[g]? = some (.cells cs t (0, 0))) (h : d.R e w b (fun _ => True) v xs) (ht : e ≠ t) (hg : w.grownBy w1 v.ownBlock) : w1.heap[g]? = some (.cells cs t (0, 0)) := by
  obtain ⟨h0, inner, ho, hr⟩ := h
  rw [← hP]
  refine hg.block g (blk_lt hP) (fun e9 => ?_)
  obtain ⟨cells, hc⟩ := own_typed ho g e9.symm
  rw [hP] at hc
  injection hc with hc
  injection hc with _ hc
  exact ht hc.symm
theorem info61 : (Tryd.prog.info? 61).map (fun i => (i.zero, i.size, i.bytes)) = some (some (.agg #[.int .i64 0, .int .i64 0, .int .i64 0, .int .i64 0, .int .i64 0, .int .u64 0]), 6, 48) := by kernel_rfl
theorem info67 : (Tryd.prog.info? 67).map (fun i => (i.zero, i.size, i.bytes)) = some (some (.agg #[.string ⟨#[]⟩, .int .i64 0, .int .u64 0, .int .i64 0, .int .u64 0]), 5, 48) := by kernel_rfl
theorem cells4 {W : World} {g : Nat} {t : TypeId} {a0 a1 a2 a3 : Value} (h : W.heap[g]? = some (.cells #[a0, a1, a2, a3] t (0, 0))) : W.cell? ⟨g, 0, none⟩ = some a0 ∧ W.cell? ⟨g, 1, none⟩ = some a1 ∧ W.cell? ⟨g, 2, none⟩ = some a2 ∧ W.cell? ⟨g, 3, none⟩ = some a3 := ⟨(blk_cell h 0).trans rfl, (blk_cell h 1).trans rfl, (blk_cell h 2).trans rfl, (blk_cell h 3).trans rfl⟩
theorem cells2 {W : World} {g : Nat} {t : TypeId} {a0 a1 : Value} (h : W.heap[g]? = some (.cells #[a0, a1] t (0, 0))) : W.cell? ⟨g, 0, none⟩ = some a0 ∧ W.cell? ⟨g, 1, none⟩ = some a1 := ⟨(blk_cell h 0).trans rfl, (blk_cell h 1).trans rfl⟩
theorem new_below (w : World) (o : Obj) : Below w.heap.size w (w.alloc o) := below_alloc (Below.refl _ _) o
set_option maxHeartbeats 4000000 in
set_option maxRecDepth 100000 in
theorem add_zone (k : Nat) (g : Nat) (r c : Int) (vz vu vg : Value) (zs : List S61) (us : List S65) (gs : List S67) (A : Option Addr) (cap : Nat) (ws : List ByteArray) (w0 w : World) (hT : Aside0 (Tab w)) (hI : Aside0 (IsP w0 w g r c vz vu vg zs us gs)) (hW : Aside0 (Kd.C Kd.string w A ws.length ws)) (hc : ws.length ≤ cap)
    (h3 : ws.length = 3) (hg : (wrd ws 0).toList = [122, 111, 110, 101]) (s1 s2 s3 s4 l1 l2 : Int) (b1 b2 : Bool) (A1 : span_Parse.f k (wrd ws 1) = some (s1, s2, s3, s4, b1)) (A2 : label_Parse.f k (wrd ws 2) = some (l1, l2, b2)) (kind r1 c1 : Int) (zs1 : List S61) (us1 : List S65) (gs1 : List S67)
    (H : (if b1 = true ∧ b2 = true then (if zs.length ≤ 100000 then some (1, r, c, zs ++ [⟨⟨⟨s1, s2⟩, ⟨s3, s4⟩⟩, ⟨l1, l2⟩⟩], us, gs) else none) else some (4, r, c, zs, us, gs)) = some ((kind, r1, c1, zs1, us1, gs1) : T6)) :
    Calls Tryd.prog 27 #[.pointer (some ⟨g, 0, none⟩), .slice A ws.length cap] w fun e w' => e = .returned (.int .i64 kind) ∧ ∃ vz1 vu1 vg1, IsP w0 w' g r1 c1 vz1 vu1 vg1 zs1 us1 gs1 := by
  have HH := Aside0.mk H
  clear H
  have hu26 := Tryd.underlying26
  have hu56 := Tryd.underlying56
  have hu59 := Tryd.underlying59
  have hu61 := Tryd.underlying61
  have HA1 := Aside0.mk A1
  have HA2 := Aside0.mk A2
  clear A1 A2
  obtain ⟨ad, rfl, hat⟩ := words_at hW.out (by omega)
  have e00 := hat 0 (by omega)
  have e0 : w.cell? ad = some (.string (wrd ws 0)) := e00
  have e1 : w.cell? ⟨ad.block, ad.off + 1, none⟩ = some (.string (wrd ws 1)) := hat 1 (by omega)
  have e2 : w.cell? ⟨ad.block, ad.off + 2, none⟩ = some (.string (wrd ws 2)) := hat 2 (by omega)
  rw [h3]
  have d3 : (((3 : Nat) : Int) == 3) = true := rfl
  have dg : ((wrd ws 0).toList == [103, 114, 105, 100]) = false := by rw [hg]; rfl
  have dz : ((wrd ws 0).toList == [122, 111, 110, 101]) = true := beq_iff_eq.mpr hg
  clear hg h3 hW hat
  go_enter Tryd.func27, Tryd.ntmps27
  go_upto_region 8 with fail
  clear e0 e00 dg d3 dz
  go_upto_region 9 with (go_at_call 49; refine (span_Parse.calls k (wrd ws 1) s1 s2 s3 s4 b1 _ HA1.out).mono ?_; rintro e w5 ⟨rfl, hb⟩; replace e2 := cell_below e2 hb; have HT5 := tb_ hb hT; have HI5 := Aside0.mk (hI.out.below hb); clear hb)
  have hb := new_below w5 (.cells #[.int .i64 s1, .int .i64 s2, .int .i64 s3, .int .i64 s4] 56)
  have HS := blk_new w5 (.cells #[.int .i64 s1, .int .i64 s2, .int .i64 s3, .int .i64 s4] 56)
  replace e2 := cell_below e2 hb
  replace HT5 := tb_ hb HT5
  replace HI5 := Aside0.mk (HI5.out.below hb)
  clear e1 hI hT hb
  generalize w5.alloc (.cells #[.int .i64 s1, .int .i64 s2, .int .i64 s3, .int .i64 s4] 56) = w6 at e2 HT5 HI5 HS ⊢
  generalize w5.heap.size = g5 at HS ⊢
  have HS := Aside0.mk HS
  go_upto_region 10 with (go_at_call 50; refine (label_Parse.calls k (wrd ws 2) l1 l2 b2 _ HT5 HA2.out).mono ?_; rintro e w7 ⟨rfl, hb⟩; have HS7 := Aside0.mk (blk_below HS.out hb); have HI7 := Aside0.mk (HI5.out.below hb); clear hb)
  have hb := new_below w7 (.cells #[.int .i64 l1, .int .u64 l2] 59)
  have HL := Aside0.mk (blk_new w7 (.cells #[.int .i64 l1, .int .u64 l2] 59))
  replace HS7 := Aside0.mk (blk_below HS7.out hb)
  replace HI7 := Aside0.mk (HI7.out.below hb)
  clear e2 HT5 HI5 HS hb
  generalize w7.alloc (.cells #[.int .i64 l1, .int .u64 l2] 59) = w8 at HL HS7 HI7 ⊢
  generalize w7.heap.size = g7 at HL ⊢
  have H := HH.out
  clear HH
  cases b1 with
  | false =>
    rw [if_neg (by simp)] at H
    simp only [Option.some.injEq, Prod.mk.injEq] at H
    obtain ⟨rfl, rfl, rfl, rfl, rfl, rfl⟩ := H
    go_wp2
    go_ret
    exact ⟨rfl, _, _, _, HI7.out⟩
  | true =>
    cases b2 with
    | false =>
      rw [if_neg (by simp)] at H
      simp only [Option.some.injEq, Prod.mk.injEq] at H
      obtain ⟨rfl, rfl, rfl, rfl, rfl, rfl⟩ := H
      go_wp2
      go_ret
      exact ⟨rfl, _, _, _, HI7.out⟩
    | true =>
      rw [if_pos (by simp)] at H
      by_cases hl : zs.length ≤ 100000
      case neg => rw [if_neg hl] at H; cases H
      rw [if_pos hl] at H
      simp only [Option.some.injEq, Prod.mk.injEq] at H
      obtain ⟨rfl, rfl, rfl, rfl, rfl, rfl⟩ := H
      have HLEN := Aside0.mk hl
      clear hl
      have z2 : w8.cell? ⟨g, 2, none⟩ = some vz := (blk_cell HI7.out.hP 2).trans rfl
      obtain ⟨a0_, a1_, a2_, a3_⟩ := cells4 HS7.out
      obtain ⟨b0_, b1_⟩ := cells2 HL.out
      go_upto_region 11 with fail
      have HZ8 := Aside0.mk (blk_drew HS7.out)
      have HL8 := Aside0.mk (blk_drew HL.out)
      have HI8 : Aside0 (IsP w0 w8.drew g r c vz vu vg zs us gs) := Aside0.mk (HI7.out.below (pw_below_drewN (Below.refl _ w8) 1))
      clear z2 a0_ a1_ a2_ a3_ b0_ b1_
      refine start_ (n := 13) (S := fun w' => w'.cell? ⟨g, 2, none⟩ = some vz ∧ (w'.cell? ⟨g5, 0, none⟩ = some (.int .i64 s1) ∧ w'.cell? ⟨g5, 1, none⟩ = some (.int .i64 s2) ∧ w'.cell? ⟨g5, 2, none⟩ = some (.int .i64 s3) ∧ w'.cell? ⟨g5, 3, none⟩ = some (.int .i64 s4)) ∧ w'.cell? ⟨g7, 0, none⟩ = some (.int .i64 l1) ∧ w'.cell? ⟨g7, 1, none⟩ = some (.int .u64 l2)) (ds := [12]) #[false, false, false, false, false, false, false, false, false, false, false, false, false] (by kernel_rfl) rfl rfl ⟨(blk_cell HI8.out.hP 2).trans rfl, cells4 HZ8.out, cells2 HL8.out⟩ (fun hHeld => ?_)
      clear HS7 HL HI7
      generalize w8.drew = w9 at HZ8 HL8 HI8 hHeld ⊢
      refine pure_ (i := 0) (N := some 85) (v := ?_) (a' := ?_) #[true, false, false, false, false, false, false, false, false, false, false, false, false] rfl rfl (by kernel_rfl) (fun _ _ _ h => h) (Or.inl ⟨by rfl, ?_⟩) ?_ ?_
      rotate_left
      · intro w'; go_simp; with_reducible rfl
      rotate_left
      · simp only [Act.put, List.setIfInBounds_toArray, List.set_cons_zero, List.set_cons_succ, i64_w, i32_w]; rfl
      refine pure_ (i := 1) (N := some 86) (v := ?_) (a' := ?_) #[true, true, false, false, false, false, false, false, false, false, false, false, false] rfl rfl (by kernel_rfl) (fun _ _ _ h => h) (Or.inl ⟨by rfl, ?_⟩) ?_ ?_
      rotate_left
      · intro w'; go_simp; with_reducible rfl
      rotate_left
      · simp only [Act.put, List.setIfInBounds_toArray, List.set_cons_zero, List.set_cons_succ, i64_w, i32_w]; rfl
      refine pure_ (i := 2) (N := some 87) (v := ?_) (a' := ?_) #[true, true, true, false, false, false, false, false, false, false, false, false, false] rfl rfl (by kernel_rfl) (fun _ _ _ h => h) (Or.inl ⟨by rfl, ?_⟩) ?_ ?_
      rotate_left
      · intro w'; go_simp; with_reducible rfl
      rotate_left
      · simp only [Act.put, List.setIfInBounds_toArray, List.set_cons_zero, List.set_cons_succ, i64_w, i32_w]; rfl
      refine pure_ (i := 3) (N := some 88) (v := ?_) (a' := ?_) #[true, true, true, true, false, false, false, false, false, false, false, false, false] rfl rfl (by kernel_rfl) (fun _ _ _ h => h) (Or.inl ⟨by rfl, ?_⟩) ?_ ?_
      rotate_left
      · intro w'; go_simp; with_reducible rfl
      rotate_left
      · simp only [Act.put, List.setIfInBounds_toArray, List.set_cons_zero, List.set_cons_succ, i64_w, i32_w]; rfl
      refine take_ (i := 4) (N := some 89) (v := ?_) (a' := ?_) #[true, true, true, true, true, false, false, false, false, false, false, false, false] rfl rfl (by kernel_rfl) (fun _ _ _ h => h) (Or.inl ⟨by rfl, ?_⟩) hHeld ?_ ?_
      rotate_left
      · rintro w' ⟨s0_, ⟨s1_, s2_, s3_, s4_⟩, s5_, s6_⟩; go_simp; with_reducible rfl
      rotate_left
      · simp only [Act.put, List.setIfInBounds_toArray, List.set_cons_zero, List.set_cons_succ, i64_w, i32_w]; rfl
      refine take_ (i := 5) (N := some 90) (v := ?_) (a' := ?_) #[true, true, true, true, true, true, false, false, false, false, false, false, false] rfl rfl (by kernel_rfl) (fun _ _ _ h => h) (Or.inl ⟨by rfl, ?_⟩) hHeld ?_ ?_
      rotate_left
      · rintro w' ⟨s0_, ⟨s1_, s2_, s3_, s4_⟩, s5_, s6_⟩; go_simp; with_reducible rfl
      rotate_left
      · simp only [Act.put, List.setIfInBounds_toArray, List.set_cons_zero, List.set_cons_succ, i64_w, i32_w]; rfl
      refine take_ (i := 6) (N := some 91) (v := ?_) (a' := ?_) #[true, true, true, true, true, true, true, false, false, false, false, false, false] rfl rfl (by kernel_rfl) (fun _ _ _ h => h) (Or.inl ⟨by rfl, ?_⟩) hHeld ?_ ?_
      rotate_left
      · rintro w' ⟨s0_, ⟨s1_, s2_, s3_, s4_⟩, s5_, s6_⟩; go_simp; with_reducible rfl
      rotate_left
      · simp only [Act.put, List.setIfInBounds_toArray, List.set_cons_zero, List.set_cons_succ, i64_w, i32_w]; rfl
      refine pure_ (i := 7) (N := some 92) (v := ?_) (a' := ?_) #[true, true, true, true, true, true, true, true, false, false, false, false, false] rfl rfl (by kernel_rfl) (fun _ _ _ h => h) (Or.inl ⟨by rfl, ?_⟩) ?_ ?_
      rotate_left
      · intro w'; go_simp; with_reducible rfl
      rotate_left
      · simp only [Act.put, List.setIfInBounds_toArray, List.set_cons_zero, List.set_cons_succ, i64_w, i32_w]; rfl
      refine one_ (i := 8) (N := some 93) #[true, true, true, true, true, true, true, true, true, false, false, false, false] rfl rfl (by kernel_rfl) (by decide) (fun K hK => ?_)
      refine value_ (w1 := w9.alloc (.cells #[.int .i64 s1, .int .i64 s2, .int .i64 s3, .int .i64 s4, .int .i64 l1, .int .u64 l2] 61)) (v := .slice (some ⟨w9.heap.size, 0, none⟩) 1 1) (by rfl) rfl (by go_simp) ?_
      have hnb := new_below w9 (.cells #[.int .i64 s1, .int .i64 s2, .int .i64 s3, .int .i64 s4, .int .i64 l1, .int .u64 l2] 61)
      refine hK.out _ _ ⟨cell_below hHeld.1 hnb, ⟨cell_below hHeld.2.1.1 hnb, cell_below hHeld.2.1.2.1 hnb, cell_below hHeld.2.1.2.2.1 hnb, cell_below hHeld.2.1.2.2.2 hnb⟩, cell_below hHeld.2.2.1 hnb, cell_below hHeld.2.2.2 hnb⟩ (fun hHeld => ?_)
      clear hK K hnb
      refine norm_ (a' := ?_) ?_ ?_
      rotate_left
      · show Act.put _ (some 93) _ = _
        simp only [Act.put, List.setIfInBounds_toArray, List.set_cons_zero, List.set_cons_succ, i64_w, i32_w]
        rfl
      refine one_ (i := 9) (N := some 94) #[true, true, true, true, true, true, true, true, true, true, false, false, false] rfl rfl (by kernel_rfl) (by decide) (fun K hK => ?_)
      refine Kd.R_append_step k61 (w0 := w0) w0.heap.size (by rfl) (.tmp 89) (.tmp 93) 22 61 (.agg #[.int .i64 0, .int .i64 0, .int .i64 0, .int .i64 0, .int .i64 0, .int .u64 0]) 48 rfl Tryd.underlying22 info61 rfl (by decide) (by omega) vz zs ⟨⟨⟨s1, s2⟩, ⟨s3, s4⟩⟩, ⟨l1, l2⟩⟩ [.int .i64 s1, .int .i64 s2, .int .i64 s3, .int .i64 s4, .int .i64 l1, .int .u64 l2] (fun _ => True) (fun _ => False) rfl rfl (k61_mkM _ _ _ _) (fun _ hk => hk.elim) (fun _ _ => trivial) HI8.out.hz HI8.out.hB (below_size HI8.out.hB) (by have := HLEN.out; omega) ?_
      intro v1 w10 ho hb hg hat
      obtain ⟨Av, cv, rfl⟩ := Kd.R_slice ho
      have p1 := P_grown HI8.out.hP HI8.out.hz (by decide) hg
      have HZ10 := P_grownT HZ8.out HI8.out.hz (by decide) hg
      have HL10 := P_grownT HL8.out HI8.out.hz (by decide) hg
      have HI10 := Aside0.mk (HI8.out.zone ho hb hg)
      have z2 : w10.cell? ⟨g, 2, none⟩ = some vz := (blk_cell p1 2).trans rfl
      have f2 := blk_frozen p1 2
      refine hK.out _ _ ⟨z2, cells4 HZ10, cells2 HL10⟩ (fun hHeld => ?_)
      clear hK K ho hb hg hat p1 HZ10 HL10
      refine norm_ (a' := ?_) ?_ ?_
      rotate_left
      · show Act.put _ (some 94) _ = _
        simp only [Act.put, List.setIfInBounds_toArray, List.set_cons_zero, List.set_cons_succ, i64_w, i32_w]
        rfl
      refine pure_ (i := 10) (N := some 95) (v := ?_) (a' := ?_) #[true, true, true, true, true, true, true, true, true, true, true, false, false] rfl rfl (by kernel_rfl) (fun _ _ _ h => h) (Or.inl ⟨by rfl, ?_⟩) ?_ ?_
      rotate_left
      · intro w'; go_simp; with_reducible rfl
      rotate_left
      · simp only [Act.put, List.setIfInBounds_toArray, List.set_cons_zero, List.set_cons_succ, i64_w, i32_w]; rfl
      refine pure_ (i := 11) (N := some 96) (v := ?_) (a' := ?_) #[true, true, true, true, true, true, true, true, true, true, true, true, false] rfl rfl (by kernel_rfl) (fun _ _ _ h => h) (Or.inl ⟨by rfl, ?_⟩) ?_ ?_
      rotate_left
      · intro w'; go_simp; with_reducible rfl
      rotate_left
      · simp only [Act.put, List.setIfInBounds_toArray, List.set_cons_zero, List.set_cons_succ, i64_w, i32_w]; rfl
      refine last_ (i := 12) (N := none) #[true, true, true, true, true, true, true, true, true, true, true, true, true] rfl rfl (by kernel_rfl) (by decide) (fun K hK => ?_)
      refine skip_ (w1 := ?_) (by rfl) rfl ?_ ?_
      rotate_left
      · go_simp; rfl
      refine hK.out _ _ ?_
      clear hK K
      refine done_ (by kernel_rfl) ?_
      go_wp2
      go_ret
      have hh := HI10.out
      rw [List.length_append] at hh
      exact ⟨rfl, _, _, _, hh⟩
end Go.Proofs.YtbboanfggaknjaaDoor.X
/- policy.add, walked: the lines of users and grants. -/
set_option linter.unusedVariables false
set_option linter.unusedSimpArgs false
namespace Go.Proofs.YtbboanfggaknjaaDoor.X
open Go.RowKit Go.Proofs.YtbboanfggaknjaaDoorW.PrintWords Go.Proofs.YtbboanfggaknjaaDoorW.PrintLast Go.Proofs.YtbboanfggaknjaaDoorW.PrintMore
theorem words_of {w : World} {b : Nat} {ok : Nat → Prop} {A : Option Addr} {cap : Nat} {ws : List ByteArray} (h : Kd.R Kd.string 9 w b ok (.slice A ws.length cap) ws) : Kd.C Kd.string w A ws.length ws := (Kd.R_reads' h).2.2
theorem word_cell {w : World} {b : Nat} {ok : Nat → Prop} {ad : Addr} {cap n : Nat} {ws : List ByteArray} (hn : n = ws.length) (h : Kd.R Kd.string 9 w b ok (.slice (some ad) n cap) ws) (i : Nat) (hi : i < ws.length) : w.cell? (ad.add i) = some (.string (wrd ws (i : Int))) := by
  subst hn
  obtain ⟨ad2, e, hc⟩ := words_at (words_of h) (by omega)
  cases e
  exact hc i hi
set_option maxHeartbeats 4000000 in
set_option maxRecDepth 100000 in
theorem add_user (k : Nat) (g : Nat) (r c : Int) (vz vu vg : Value) (zs : List S61) (us : List S65) (gs : List S67) (A : Option Addr) (cap : Nat) (ws : List ByteArray) (bw : Nat) (w0 w : World) (hT : Aside0 (Tab w)) (hI : Aside0 (IsP w0 w g r c vz vu vg zs us gs)) (hW : Aside0 (Kd.R Kd.string 9 w bw (fun _ => True) (.slice A ws.length cap) ws)) (hc : ws.length ≤ cap)
    (h3 : ws.length = 3) (hg : (wrd ws 0).toList = [117, 115, 101, 114]) (l0 m0 : Int) (b0 : Bool) (A0 : label_Parse.f k (wrd ws 2) = some (l0, m0, b0)) (kind r1 c1 : Int) (zs1 : List S61) (us1 : List S65) (gs1 : List S67)
    (H : (if b0 = true then (if us.length ≤ 100000 then some (2, r, c, zs, us ++ [⟨wrd ws 1, ⟨l0, m0⟩⟩], gs) else none) else some (4, r, c, zs, us, gs)) = some ((kind, r1, c1, zs1, us1, gs1) : T6)) :
    Calls Tryd.prog 27 #[.pointer (some ⟨g, 0, none⟩), .slice A ws.length cap] w fun e w' => e = .returned (.int .i64 kind) ∧ ∃ vz1 vu1 vg1, IsP w0 w' g r1 c1 vz1 vu1 vg1 zs1 us1 gs1 := by
  have HH := Aside0.mk H
  clear H
  have hu26 := Tryd.underlying26
  have hu59 := Tryd.underlying59
  have hu65 := Tryd.underlying65
  have HA0 := Aside0.mk A0
  clear A0
  obtain ⟨ad, rfl, hat⟩ := words_at (words_of hW.out) (by omega)
  have e00 := hat 0 (by omega)
  have e0 : w.cell? ad = some (.string (wrd ws 0)) := e00
  have H3 := Aside0.mk h3
  rw [h3] at hW ⊢
  have e2 : w.cell? ⟨ad.block, ad.off + 2, none⟩ = some (.string (wrd ws 2)) := hat 2 (by omega)
  have d3 : (((3 : Nat) : Int) == 3) = true := rfl
  have dt0 : ((wrd ws 0).toList == [103, 114, 105, 100]) = false := by rw [hg]; rfl
  have dt1 : ((wrd ws 0).toList == [122, 111, 110, 101]) = false := by rw [hg]; rfl
  have dt2 : ((wrd ws 0).toList == [117, 115, 101, 114]) = true := beq_iff_eq.mpr hg
  clear hg h3 hat
  go_enter Tryd.func27, Tryd.ntmps27
  go_upto_region 14 with fail
  clear e0 e00
  try clear d3
  try clear d4
  try clear dt0 dt1 dt2
  try clear dt3
  go_upto_region 15 with (go_at_call 50; refine (label_Parse.calls k (wrd ws 2) l0 m0 b0 _ hT HA0.out).mono ?_; rintro e wa0 ⟨rfl, hb⟩; have HT_ := tb_ hb hT; have HI_ := Aside0.mk (hI.out.below hb); have HW_ := Aside0.mk (Kd.R_below hW.out hb); clear hb)
  have hb := new_below wa0 (.cells #[.int .i64 l0, .int .u64 m0] 59)
  have HL0 := Aside0.mk (blk_new wa0 (.cells #[.int .i64 l0, .int .u64 m0] 59))
  replace HT_ := tb_ hb HT_
  replace HI_ := Aside0.mk (HI_.out.below hb)
  replace HW_ := Aside0.mk (Kd.R_below HW_.out hb)
  clear e2 hI hT hW hb
  generalize wa0.alloc (.cells #[.int .i64 l0, .int .u64 m0] 59) = wb0 at HL0 HT_ HI_ HW_ ⊢
  generalize wa0.heap.size = gl0 at HL0 ⊢
  have HT0 := HT_
  have HI0 := HI_
  have HW0 := HW_
  clear HT_ HI_ HW_
  have H := HH.out
  clear HH
  cases b0 with
  | false =>
    rw [if_neg (by simp)] at H
    simp only [Option.some.injEq, Prod.mk.injEq] at H
    obtain ⟨rfl, rfl, rfl, rfl, rfl, rfl⟩ := H
    go_wp2
    go_ret
    exact ⟨rfl, _, _, _, HI0.out⟩
  | true =>
    rw [if_pos (by simp)] at H
    by_cases hl : us.length ≤ 100000
    case neg => rw [if_neg hl] at H; cases H
    rw [if_pos hl] at H
    simp only [Option.some.injEq, Prod.mk.injEq] at H
    obtain ⟨rfl, rfl, rfl, rfl, rfl, rfl⟩ := H
    have HLEN := Aside0.mk hl
    clear hl
    go_upto_region 16 with fail
    have HM0 := Aside0.mk (blk_drew HL0.out)
    have HI8 : Aside0 (IsP w0 wb0.drew g r c vz vu vg zs us gs) := Aside0.mk (HI0.out.below (pw_below_drewN (Below.refl _ wb0) 1))
    have HW8 : Aside0 (Kd.R Kd.string 9 wb0.drew bw (fun _ => True) (.slice (some ad) 3 cap) ws) := Aside0.mk (Kd.R_below HW0.out (pw_below_drewN (Below.refl _ wb0) 1))
    refine start_ (n := 15) (S := fun w' => w'.cell? ⟨g, 3, none⟩ = some vu ∧ w'.cell? ⟨ad.block, ad.off + 1, none⟩ = some (.string (wrd ws 1)) ∧ w'.cell? ⟨gl0, 0, none⟩ = some (.int .i64 l0) ∧ w'.cell? ⟨gl0, 1, none⟩ = some (.int .u64 m0)) (ds := [14]) #[false, false, false, false, false, false, false, false, false, false, false, false, false, false, false] (by kernel_rfl) rfl rfl ⟨(blk_cell HI8.out.hP 3).trans rfl, word_cell H3.out.symm HW8.out 1 (by have := H3.out; omega), (cells2 HM0.out).1, (cells2 HM0.out).2⟩ (fun hHeld => ?_)
    clear HL0 HI0 HW0
    generalize wb0.drew = w9 at HM0 HI8 HW8 hHeld ⊢
    refine pure_ (i := 0) (N := some 115) (v := ?_) (a' := ?_) #[true, false, false, false, false, false, false, false, false, false, false, false, false, false, false] rfl rfl (by kernel_rfl) (fun _ _ _ h => h) (Or.inl ⟨by rfl, ?_⟩) ?_ ?_
    rotate_left
    · intro w'; go_simp; with_reducible rfl
    rotate_left
    · simp only [Act.put, List.setIfInBounds_toArray, List.set_cons_zero, List.set_cons_succ, i64_w, i32_w]; rfl
    refine pure_ (i := 1) (N := some 116) (v := ?_) (a' := ?_) #[true, true, false, false, false, false, false, false, false, false, false, false, false, false, false] rfl rfl (by kernel_rfl) (fun _ _ _ h => h) (Or.inl ⟨by rfl, ?_⟩) ?_ ?_
    rotate_left
    · intro w'; go_simp; with_reducible rfl
    rotate_left
    · simp only [Act.put, List.setIfInBounds_toArray, List.set_cons_zero, List.set_cons_succ, i64_w, i32_w]; rfl
    refine pure_ (i := 2) (N := some 117) (v := ?_) (a' := ?_) #[true, true, true, false, false, false, false, false, false, false, false, false, false, false, false] rfl rfl (by kernel_rfl) (fun _ _ _ h => h) (Or.inl ⟨by rfl, ?_⟩) ?_ ?_
    rotate_left
    · intro w'; go_simp; with_reducible rfl
    rotate_left
    · simp only [Act.put, List.setIfInBounds_toArray, List.set_cons_zero, List.set_cons_succ, i64_w, i32_w]; rfl
    refine pure_ (i := 3) (N := some 118) (v := ?_) (a' := ?_) #[true, true, true, true, false, false, false, false, false, false, false, false, false, false, false] rfl rfl (by kernel_rfl) (fun _ _ _ h => h) (Or.inl ⟨by rfl, ?_⟩) ?_ ?_
    rotate_left
    · intro w'; go_simp; with_reducible rfl
    rotate_left
    · simp only [Act.put, List.setIfInBounds_toArray, List.set_cons_zero, List.set_cons_succ, i64_w, i32_w]; rfl
    refine pure_ (i := 5) (N := some 120) (v := ?_) (a' := ?_) #[true, true, true, true, false, true, false, false, false, false, false, false, false, false, false] rfl rfl (by kernel_rfl) (fun _ _ _ h => h) (Or.inl ⟨by rfl, ?_⟩) ?_ ?_
    rotate_left
    · intro w'; go_simp; with_reducible rfl
    rotate_left
    · simp only [Act.put, List.setIfInBounds_toArray, List.set_cons_zero, List.set_cons_succ, i64_w, i32_w]; rfl
    refine pure_ (i := 6) (N := some 121) (v := ?_) (a' := ?_) #[true, true, true, true, false, true, true, false, false, false, false, false, false, false, false] rfl rfl (by kernel_rfl) (fun _ _ _ h => h) (Or.inl ⟨by rfl, ?_⟩) ?_ ?_
    rotate_left
    · intro w'; go_simp; with_reducible rfl
    rotate_left
    · simp only [Act.put, List.setIfInBounds_toArray, List.set_cons_zero, List.set_cons_succ, i64_w, i32_w]; rfl
    refine take_ (i := 4) (N := some 119) (v := ?_) (a' := ?_) #[true, true, true, true, true, true, true, false, false, false, false, false, false, false, false] rfl rfl (by kernel_rfl) (fun _ _ _ h => h) (Or.inl ⟨by rfl, ?_⟩) hHeld ?_ ?_
    rotate_left
    · rintro w' ⟨s0_, s1_, p0_, q0_⟩; go_simp; with_reducible rfl
    rotate_left
    · simp only [Act.put, List.setIfInBounds_toArray, List.set_cons_zero, List.set_cons_succ, i64_w, i32_w]; rfl
    refine take_ (i := 7) (N := some 122) (v := ?_) (a' := ?_) #[true, true, true, true, true, true, true, true, false, false, false, false, false, false, false] rfl rfl (by kernel_rfl) (fun _ _ _ h => h) (Or.inl ⟨by rfl, ?_⟩) hHeld ?_ ?_
    rotate_left
    · rintro w' ⟨s0_, s1_, p0_, q0_⟩; go_simp; with_reducible rfl
    rotate_left
    · simp only [Act.put, List.setIfInBounds_toArray, List.set_cons_zero, List.set_cons_succ, i64_w, i32_w]; rfl
    refine take_ (i := 8) (N := some 123) (v := ?_) (a' := ?_) #[true, true, true, true, true, true, true, true, true, false, false, false, false, false, false] rfl rfl (by kernel_rfl) (fun _ _ _ h => h) (Or.inl ⟨by rfl, ?_⟩) hHeld ?_ ?_
    rotate_left
    · rintro w' ⟨s0_, s1_, p0_, q0_⟩; go_simp; with_reducible rfl
    rotate_left
    · simp only [Act.put, List.setIfInBounds_toArray, List.set_cons_zero, List.set_cons_succ, i64_w, i32_w]; rfl
    refine pure_ (i := 9) (N := some 124) (v := ?_) (a' := ?_) #[true, true, true, true, true, true, true, true, true, true, false, false, false, false, false] rfl rfl (by kernel_rfl) (fun _ _ _ h => h) (Or.inl ⟨by rfl, ?_⟩) ?_ ?_
    rotate_left
    · intro w'; go_simp; with_reducible rfl
    rotate_left
    · simp only [Act.put, List.setIfInBounds_toArray, List.set_cons_zero, List.set_cons_succ, i64_w, i32_w]; rfl
    refine one_ (i := 10) (N := some 125) #[true, true, true, true, true, true, true, true, true, true, true, false, false, false, false] rfl rfl (by kernel_rfl) (by decide) (fun K hK => ?_)
    refine value_ (w1 := w9.alloc (.cells #[.string (wrd ws 1), .int .i64 l0, .int .u64 m0] 65)) (v := .slice (some ⟨w9.heap.size, 0, none⟩) 1 1) (by rfl) rfl (by go_simp) ?_
    have hnb := new_below w9 (.cells #[.string (wrd ws 1), .int .i64 l0, .int .u64 m0] 65)
    obtain ⟨s0_, s1_, p0_, q0_⟩ := hHeld
    refine hK.out _ _ ⟨cell_below s0_ hnb, cell_below s1_ hnb, cell_below p0_ hnb, cell_below q0_ hnb⟩ (fun hHeld => ?_)
    clear hK K hnb
    refine norm_ (a' := ?_) ?_ ?_
    rotate_left
    · show Act.put _ (some 125) _ = _
      simp only [Act.put, List.setIfInBounds_toArray, List.set_cons_zero, List.set_cons_succ, i64_w, i32_w]
      rfl
    refine one_ (i := 11) (N := some 126) #[true, true, true, true, true, true, true, true, true, true, true, true, false, false, false] rfl rfl (by kernel_rfl) (by decide) (fun K hK => ?_)
    refine Kd.R_append_step k65 (w0 := w0) w0.heap.size (by rfl) (.tmp 119) (.tmp 125) 23 65 (.agg #[.string ⟨#[]⟩, .int .i64 0, .int .u64 0]) 32 rfl Tryd.underlying23 info65 rfl (by decide) (by omega) vu us ⟨wrd ws 1, ⟨l0, m0⟩⟩ [.string (wrd ws 1), .int .i64 l0, .int .u64 m0] (fun _ => True) (fun _ => False) rfl rfl (k65_mkM _ _ _ _) (fun _ hk => hk.elim) (fun _ _ => trivial) HI8.out.hu HI8.out.hB (below_size HI8.out.hB) (by have := HLEN.out; omega) ?_
    intro v1 w10 ho hb hg hat
    obtain ⟨Av, cv, rfl⟩ := Kd.R_slice ho
    have p1 := P_grown HI8.out.hP HI8.out.hu (by decide) hg
    have HW10 := Kd.R_grown (R_apart HI8.out.hu HW8.out (by decide)) hg (fun k hk => hk.2)
    have HI10 := Aside0.mk (HI8.out.user ho hb hg)
    have z2 : w10.cell? ⟨g, 3, none⟩ = some vu := (blk_cell p1 3).trans rfl
    have f2 := blk_frozen p1 3
    have HN0 := P_grownT HM0.out HI8.out.hu (by decide) hg
    refine hK.out _ _ ⟨z2, word_cell H3.out.symm HW10 1 (by have := H3.out; omega), (cells2 HN0).1, (cells2 HN0).2⟩ (fun hHeld => ?_)
    clear hK K ho hb hg hat p1 HW10
    refine norm_ (a' := ?_) ?_ ?_
    rotate_left
    · show Act.put _ (some 126) _ = _
      simp only [Act.put, List.setIfInBounds_toArray, List.set_cons_zero, List.set_cons_succ, i64_w, i32_w]
      rfl
    refine pure_ (i := 12) (N := some 127) (v := ?_) (a' := ?_) #[true, true, true, true, true, true, true, true, true, true, true, true, true, false, false] rfl rfl (by kernel_rfl) (fun _ _ _ h => h) (Or.inl ⟨by rfl, ?_⟩) ?_ ?_
    rotate_left
    · intro w'; go_simp; with_reducible rfl
    rotate_left
    · simp only [Act.put, List.setIfInBounds_toArray, List.set_cons_zero, List.set_cons_succ, i64_w, i32_w]; rfl
    refine pure_ (i := 13) (N := some 128) (v := ?_) (a' := ?_) #[true, true, true, true, true, true, true, true, true, true, true, true, true, true, false] rfl rfl (by kernel_rfl) (fun _ _ _ h => h) (Or.inl ⟨by rfl, ?_⟩) ?_ ?_
    rotate_left
    · intro w'; go_simp; with_reducible rfl
    rotate_left
    · simp only [Act.put, List.setIfInBounds_toArray, List.set_cons_zero, List.set_cons_succ, i64_w, i32_w]; rfl
    refine last_ (i := 14) (N := none) #[true, true, true, true, true, true, true, true, true, true, true, true, true, true, true] rfl rfl (by kernel_rfl) (by decide) (fun K hK => ?_)
    refine skip_ (w1 := ?_) (by rfl) rfl ?_ ?_
    rotate_left
    · go_simp; rfl
    refine hK.out _ _ ?_
    clear hK K
    refine done_ (by kernel_rfl) ?_
    go_wp2
    go_ret
    have hh := HI10.out
    rw [List.length_append] at hh
    exact ⟨rfl, _, _, _, hh⟩
set_option maxHeartbeats 4000000 in
set_option maxRecDepth 100000 in
theorem add_grant (k : Nat) (g : Nat) (r c : Int) (vz vu vg : Value) (zs : List S61) (us : List S65) (gs : List S67) (A : Option Addr) (cap : Nat) (ws : List ByteArray) (bw : Nat) (w0 w : World) (hT : Aside0 (Tab w)) (hI : Aside0 (IsP w0 w g r c vz vu vg zs us gs)) (hW : Aside0 (Kd.R Kd.string 9 w bw (fun _ => True) (.slice A ws.length cap) ws)) (hc : ws.length ≤ cap)
    (h3 : ws.length = 4) (hg : (wrd ws 0).toList = [103, 114, 97, 110, 116]) (l0 m0 l1 m1 : Int) (b0 b1 : Bool) (A0 : label_Parse.f k (wrd ws 2) = some (l0, m0, b0)) (A1 : label_Parse.f k (wrd ws 3) = some (l1, m1, b1)) (kind r1 c1 : Int) (zs1 : List S61) (us1 : List S65) (gs1 : List S67)
    (H : (if b0 = true ∧ b1 = true then (if gs.length ≤ 100000 then some (3, r, c, zs, us, gs ++ [⟨wrd ws 1, ⟨l0, m0⟩, ⟨l1, m1⟩⟩]) else none) else some (4, r, c, zs, us, gs)) = some ((kind, r1, c1, zs1, us1, gs1) : T6)) :
    Calls Tryd.prog 27 #[.pointer (some ⟨g, 0, none⟩), .slice A ws.length cap] w fun e w' => e = .returned (.int .i64 kind) ∧ ∃ vz1 vu1 vg1, IsP w0 w' g r1 c1 vz1 vu1 vg1 zs1 us1 gs1 := by
  have HH := Aside0.mk H
  clear H
  have hu26 := Tryd.underlying26
  have hu59 := Tryd.underlying59
  have hu67 := Tryd.underlying67
  have HA0 := Aside0.mk A0
  clear A0
  have HA1 := Aside0.mk A1
  clear A1
  obtain ⟨ad, rfl, hat⟩ := words_at (words_of hW.out) (by omega)
  have e00 := hat 0 (by omega)
  have e0 : w.cell? ad = some (.string (wrd ws 0)) := e00
  have H3 := Aside0.mk h3
  rw [h3] at hW ⊢
  have e2 : w.cell? ⟨ad.block, ad.off + 2, none⟩ = some (.string (wrd ws 2)) := hat 2 (by omega)
  have e3 : w.cell? ⟨ad.block, ad.off + 3, none⟩ = some (.string (wrd ws 3)) := hat 3 (by omega)
  have d3 : (((4 : Nat) : Int) == 3) = false := rfl
  have d4 : (((4 : Nat) : Int) == 4) = true := rfl
  have dt3 : ((wrd ws 0).toList == [103, 114, 97, 110, 116]) = true := beq_iff_eq.mpr hg
  clear hg h3 hat
  go_enter Tryd.func27, Tryd.ntmps27
  go_upto_region 19 with fail
  clear e0 e00
  try clear d3
  try clear d4
  try clear dt0 dt1 dt2
  try clear dt3
  go_upto_region 20 with (go_at_call 50; refine (label_Parse.calls k (wrd ws 2) l0 m0 b0 _ hT HA0.out).mono ?_; rintro e wa0 ⟨rfl, hb⟩; replace e3 := cell_below e3 hb; have HT_ := tb_ hb hT; have HI_ := Aside0.mk (hI.out.below hb); have HW_ := Aside0.mk (Kd.R_below hW.out hb); clear hb)
  have hb := new_below wa0 (.cells #[.int .i64 l0, .int .u64 m0] 59)
  have HL0 := Aside0.mk (blk_new wa0 (.cells #[.int .i64 l0, .int .u64 m0] 59))
  replace e3 := cell_below e3 hb
  replace HT_ := tb_ hb HT_
  replace HI_ := Aside0.mk (HI_.out.below hb)
  replace HW_ := Aside0.mk (Kd.R_below HW_.out hb)
  clear e2 hI hT hW hb
  generalize wa0.alloc (.cells #[.int .i64 l0, .int .u64 m0] 59) = wb0 at HL0 e3 HT_ HI_ HW_ ⊢
  generalize wa0.heap.size = gl0 at HL0 ⊢
  have HT0 := HT_
  have HI0 := HI_
  have HW0 := HW_
  clear HT_ HI_ HW_
  go_upto_region 21 with (go_at_call 50; refine (label_Parse.calls k (wrd ws 3) l1 m1 b1 _ HT0 HA1.out).mono ?_; rintro e wa1 ⟨rfl, hb⟩; have HL0_ := Aside0.mk (blk_below HL0.out hb); have HT_ := tb_ hb HT0; have HI_ := Aside0.mk (HI0.out.below hb); have HW_ := Aside0.mk (Kd.R_below HW0.out hb); clear hb)
  have hb := new_below wa1 (.cells #[.int .i64 l1, .int .u64 m1] 59)
  have HL1 := Aside0.mk (blk_new wa1 (.cells #[.int .i64 l1, .int .u64 m1] 59))
  clear HL0
  have HL0 := Aside0.mk (blk_below HL0_.out hb)
  clear HL0_
  replace HT_ := tb_ hb HT_
  replace HI_ := Aside0.mk (HI_.out.below hb)
  replace HW_ := Aside0.mk (Kd.R_below HW_.out hb)
  clear e3 HI0 HT0 HW0 hb
  generalize wa1.alloc (.cells #[.int .i64 l1, .int .u64 m1] 59) = wb1 at HL0 HL1 HT_ HI_ HW_ ⊢
  generalize wa1.heap.size = gl1 at HL1 ⊢
  have HT1 := HT_
  have HI1 := HI_
  have HW1 := HW_
  clear HT_ HI_ HW_
  have H := HH.out
  clear HH
  cases b0 with
  | false =>
    rw [if_neg (by simp)] at H
    simp only [Option.some.injEq, Prod.mk.injEq] at H
    obtain ⟨rfl, rfl, rfl, rfl, rfl, rfl⟩ := H
    go_wp2
    go_ret
    exact ⟨rfl, _, _, _, HI1.out⟩
  | true =>
    cases b1 with
    | false =>
      rw [if_neg (by simp)] at H
      simp only [Option.some.injEq, Prod.mk.injEq] at H
      obtain ⟨rfl, rfl, rfl, rfl, rfl, rfl⟩ := H
      go_wp2
      go_ret
      exact ⟨rfl, _, _, _, HI1.out⟩
    | true =>
      rw [if_pos (by simp)] at H
      by_cases hl : gs.length ≤ 100000
      case neg => rw [if_neg hl] at H; cases H
      rw [if_pos hl] at H
      simp only [Option.some.injEq, Prod.mk.injEq] at H
      obtain ⟨rfl, rfl, rfl, rfl, rfl, rfl⟩ := H
      have HLEN := Aside0.mk hl
      clear hl
      go_upto_region 22 with fail
      have HM0 := Aside0.mk (blk_drew HL0.out)
      have HM1 := Aside0.mk (blk_drew HL1.out)
      have HI8 : Aside0 (IsP w0 wb1.drew g r c vz vu vg zs us gs) := Aside0.mk (HI1.out.below (pw_below_drewN (Below.refl _ wb1) 1))
      have HW8 : Aside0 (Kd.R Kd.string 9 wb1.drew bw (fun _ => True) (.slice (some ad) 4 cap) ws) := Aside0.mk (Kd.R_below HW1.out (pw_below_drewN (Below.refl _ wb1) 1))
      refine start_ (n := 16) (S := fun w' => w'.cell? ⟨g, 4, none⟩ = some vg ∧ w'.cell? ⟨ad.block, ad.off + 1, none⟩ = some (.string (wrd ws 1)) ∧ w'.cell? ⟨gl0, 0, none⟩ = some (.int .i64 l0) ∧ w'.cell? ⟨gl0, 1, none⟩ = some (.int .u64 m0) ∧ w'.cell? ⟨gl1, 0, none⟩ = some (.int .i64 l1) ∧ w'.cell? ⟨gl1, 1, none⟩ = some (.int .u64 m1)) (ds := [15]) #[false, false, false, false, false, false, false, false, false, false, false, false, false, false, false, false] (by kernel_rfl) rfl rfl ⟨(blk_cell HI8.out.hP 4).trans rfl, word_cell H3.out.symm HW8.out 1 (by have := H3.out; omega), (cells2 HM0.out).1, (cells2 HM0.out).2, (cells2 HM1.out).1, (cells2 HM1.out).2⟩ (fun hHeld => ?_)
      clear HL0 HL1 HI1 HW1
      generalize wb1.drew = w9 at HM0 HM1 HI8 HW8 hHeld ⊢
      refine pure_ (i := 0) (N := some 157) (v := ?_) (a' := ?_) #[true, false, false, false, false, false, false, false, false, false, false, false, false, false, false, false] rfl rfl (by kernel_rfl) (fun _ _ _ h => h) (Or.inl ⟨by rfl, ?_⟩) ?_ ?_
      rotate_left
      · intro w'; go_simp; with_reducible rfl
      rotate_left
      · simp only [Act.put, List.setIfInBounds_toArray, List.set_cons_zero, List.set_cons_succ, i64_w, i32_w]; rfl
      refine pure_ (i := 1) (N := some 158) (v := ?_) (a' := ?_) #[true, true, false, false, false, false, false, false, false, false, false, false, false, false, false, false] rfl rfl (by kernel_rfl) (fun _ _ _ h => h) (Or.inl ⟨by rfl, ?_⟩) ?_ ?_
      rotate_left
      · intro w'; go_simp; with_reducible rfl
      rotate_left
      · simp only [Act.put, List.setIfInBounds_toArray, List.set_cons_zero, List.set_cons_succ, i64_w, i32_w]; rfl
      refine pure_ (i := 2) (N := some 159) (v := ?_) (a' := ?_) #[true, true, true, false, false, false, false, false, false, false, false, false, false, false, false, false] rfl rfl (by kernel_rfl) (fun _ _ _ h => h) (Or.inl ⟨by rfl, ?_⟩) ?_ ?_
      rotate_left
      · intro w'; go_simp; with_reducible rfl
      rotate_left
      · simp only [Act.put, List.setIfInBounds_toArray, List.set_cons_zero, List.set_cons_succ, i64_w, i32_w]; rfl
      refine pure_ (i := 3) (N := some 160) (v := ?_) (a' := ?_) #[true, true, true, true, false, false, false, false, false, false, false, false, false, false, false, false] rfl rfl (by kernel_rfl) (fun _ _ _ h => h) (Or.inl ⟨by rfl, ?_⟩) ?_ ?_
      rotate_left
      · intro w'; go_simp; with_reducible rfl
      rotate_left
      · simp only [Act.put, List.setIfInBounds_toArray, List.set_cons_zero, List.set_cons_succ, i64_w, i32_w]; rfl
      refine pure_ (i := 5) (N := some 162) (v := ?_) (a' := ?_) #[true, true, true, true, false, true, false, false, false, false, false, false, false, false, false, false] rfl rfl (by kernel_rfl) (fun _ _ _ h => h) (Or.inl ⟨by rfl, ?_⟩) ?_ ?_
      rotate_left
      · intro w'; go_simp; with_reducible rfl
      rotate_left
      · simp only [Act.put, List.setIfInBounds_toArray, List.set_cons_zero, List.set_cons_succ, i64_w, i32_w]; rfl
      refine pure_ (i := 6) (N := some 163) (v := ?_) (a' := ?_) #[true, true, true, true, false, true, true, false, false, false, false, false, false, false, false, false] rfl rfl (by kernel_rfl) (fun _ _ _ h => h) (Or.inl ⟨by rfl, ?_⟩) ?_ ?_
      rotate_left
      · intro w'; go_simp; with_reducible rfl
      rotate_left
      · simp only [Act.put, List.setIfInBounds_toArray, List.set_cons_zero, List.set_cons_succ, i64_w, i32_w]; rfl
      refine take_ (i := 4) (N := some 161) (v := ?_) (a' := ?_) #[true, true, true, true, true, true, true, false, false, false, false, false, false, false, false, false] rfl rfl (by kernel_rfl) (fun _ _ _ h => h) (Or.inl ⟨by rfl, ?_⟩) hHeld ?_ ?_
      rotate_left
      · rintro w' ⟨s0_, s1_, p0_, q0_, p1_, q1_⟩; go_simp; with_reducible rfl
      rotate_left
      · simp only [Act.put, List.setIfInBounds_toArray, List.set_cons_zero, List.set_cons_succ, i64_w, i32_w]; rfl
      refine take_ (i := 7) (N := some 164) (v := ?_) (a' := ?_) #[true, true, true, true, true, true, true, true, false, false, false, false, false, false, false, false] rfl rfl (by kernel_rfl) (fun _ _ _ h => h) (Or.inl ⟨by rfl, ?_⟩) hHeld ?_ ?_
      rotate_left
      · rintro w' ⟨s0_, s1_, p0_, q0_, p1_, q1_⟩; go_simp; with_reducible rfl
      rotate_left
      · simp only [Act.put, List.setIfInBounds_toArray, List.set_cons_zero, List.set_cons_succ, i64_w, i32_w]; rfl
      refine take_ (i := 8) (N := some 165) (v := ?_) (a' := ?_) #[true, true, true, true, true, true, true, true, true, false, false, false, false, false, false, false] rfl rfl (by kernel_rfl) (fun _ _ _ h => h) (Or.inl ⟨by rfl, ?_⟩) hHeld ?_ ?_
      rotate_left
      · rintro w' ⟨s0_, s1_, p0_, q0_, p1_, q1_⟩; go_simp; with_reducible rfl
      rotate_left
      · simp only [Act.put, List.setIfInBounds_toArray, List.set_cons_zero, List.set_cons_succ, i64_w, i32_w]; rfl
      refine take_ (i := 9) (N := some 166) (v := ?_) (a' := ?_) #[true, true, true, true, true, true, true, true, true, true, false, false, false, false, false, false] rfl rfl (by kernel_rfl) (fun _ _ _ h => h) (Or.inl ⟨by rfl, ?_⟩) hHeld ?_ ?_
      rotate_left
      · rintro w' ⟨s0_, s1_, p0_, q0_, p1_, q1_⟩; go_simp; with_reducible rfl
      rotate_left
      · simp only [Act.put, List.setIfInBounds_toArray, List.set_cons_zero, List.set_cons_succ, i64_w, i32_w]; rfl
      refine pure_ (i := 10) (N := some 167) (v := ?_) (a' := ?_) #[true, true, true, true, true, true, true, true, true, true, true, false, false, false, false, false] rfl rfl (by kernel_rfl) (fun _ _ _ h => h) (Or.inl ⟨by rfl, ?_⟩) ?_ ?_
      rotate_left
      · intro w'; go_simp; with_reducible rfl
      rotate_left
      · simp only [Act.put, List.setIfInBounds_toArray, List.set_cons_zero, List.set_cons_succ, i64_w, i32_w]; rfl
      refine one_ (i := 11) (N := some 168) #[true, true, true, true, true, true, true, true, true, true, true, true, false, false, false, false] rfl rfl (by kernel_rfl) (by decide) (fun K hK => ?_)
      refine value_ (w1 := w9.alloc (.cells #[.string (wrd ws 1), .int .i64 l0, .int .u64 m0, .int .i64 l1, .int .u64 m1] 67)) (v := .slice (some ⟨w9.heap.size, 0, none⟩) 1 1) (by rfl) rfl (by go_simp) ?_
      have hnb := new_below w9 (.cells #[.string (wrd ws 1), .int .i64 l0, .int .u64 m0, .int .i64 l1, .int .u64 m1] 67)
      obtain ⟨s0_, s1_, p0_, q0_, p1_, q1_⟩ := hHeld
      refine hK.out _ _ ⟨cell_below s0_ hnb, cell_below s1_ hnb, cell_below p0_ hnb, cell_below q0_ hnb, cell_below p1_ hnb, cell_below q1_ hnb⟩ (fun hHeld => ?_)
      clear hK K hnb
      refine norm_ (a' := ?_) ?_ ?_
      rotate_left
      · show Act.put _ (some 168) _ = _
        simp only [Act.put, List.setIfInBounds_toArray, List.set_cons_zero, List.set_cons_succ, i64_w, i32_w]
        rfl
      refine one_ (i := 12) (N := some 169) #[true, true, true, true, true, true, true, true, true, true, true, true, true, false, false, false] rfl rfl (by kernel_rfl) (by decide) (fun K hK => ?_)
      refine Kd.R_append_step k67 (w0 := w0) w0.heap.size (by rfl) (.tmp 161) (.tmp 168) 24 67 (.agg #[.string ⟨#[]⟩, .int .i64 0, .int .u64 0, .int .i64 0, .int .u64 0]) 48 rfl Tryd.underlying24 info67 rfl (by decide) (by omega) vg gs ⟨wrd ws 1, ⟨l0, m0⟩, ⟨l1, m1⟩⟩ [.string (wrd ws 1), .int .i64 l0, .int .u64 m0, .int .i64 l1, .int .u64 m1] (fun _ => True) (fun _ => False) rfl rfl (k67_mkM _ _ _ _) (fun _ hk => hk.elim) (fun _ _ => trivial) HI8.out.hr HI8.out.hB (below_size HI8.out.hB) (by have := HLEN.out; omega) ?_
      intro v1 w10 ho hb hg hat
      obtain ⟨Av, cv, rfl⟩ := Kd.R_slice ho
      have p1 := P_grown HI8.out.hP HI8.out.hr (by decide) hg
      have HW10 := Kd.R_grown (R_apart HI8.out.hr HW8.out (by decide)) hg (fun k hk => hk.2)
      have HI10 := Aside0.mk (HI8.out.grant ho hb hg)
      have z2 : w10.cell? ⟨g, 4, none⟩ = some vg := (blk_cell p1 4).trans rfl
      have f2 := blk_frozen p1 4
      have HN0 := P_grownT HM0.out HI8.out.hr (by decide) hg
      have HN1 := P_grownT HM1.out HI8.out.hr (by decide) hg
      refine hK.out _ _ ⟨z2, word_cell H3.out.symm HW10 1 (by have := H3.out; omega), (cells2 HN0).1, (cells2 HN0).2, (cells2 HN1).1, (cells2 HN1).2⟩ (fun hHeld => ?_)
      clear hK K ho hb hg hat p1 HW10
      refine norm_ (a' := ?_) ?_ ?_
      rotate_left
      · show Act.put _ (some 169) _ = _
        simp only [Act.put, List.setIfInBounds_toArray, List.set_cons_zero, List.set_cons_succ, i64_w, i32_w]
        rfl
      refine pure_ (i := 13) (N := some 170) (v := ?_) (a' := ?_) #[true, true, true, true, true, true, true, true, true, true, true, true, true, true, false, false] rfl rfl (by kernel_rfl) (fun _ _ _ h => h) (Or.inl ⟨by rfl, ?_⟩) ?_ ?_
      rotate_left
      · intro w'; go_simp; with_reducible rfl
      rotate_left
      · simp only [Act.put, List.setIfInBounds_toArray, List.set_cons_zero, List.set_cons_succ, i64_w, i32_w]; rfl
      refine pure_ (i := 14) (N := some 171) (v := ?_) (a' := ?_) #[true, true, true, true, true, true, true, true, true, true, true, true, true, true, true, false] rfl rfl (by kernel_rfl) (fun _ _ _ h => h) (Or.inl ⟨by rfl, ?_⟩) ?_ ?_
      rotate_left
      · intro w'; go_simp; with_reducible rfl
      rotate_left
      · simp only [Act.put, List.setIfInBounds_toArray, List.set_cons_zero, List.set_cons_succ, i64_w, i32_w]; rfl
      refine last_ (i := 15) (N := none) #[true, true, true, true, true, true, true, true, true, true, true, true, true, true, true, true] rfl rfl (by kernel_rfl) (by decide) (fun K hK => ?_)
      refine skip_ (w1 := ?_) (by rfl) rfl ?_ ?_
      rotate_left
      · go_simp; rfl
      refine hK.out _ _ ?_
      clear hK K
      refine done_ (by kernel_rfl) ?_
      go_wp2
      go_ret
      have hh := HI10.out
      rw [List.length_append] at hh
      exact ⟨rfl, _, _, _, hh⟩
end Go.Proofs.YtbboanfggaknjaaDoor.X
/- The contract of policy.add. -/
set_option linter.unusedVariables false
set_option linter.unusedSimpArgs false
namespace Go.Proofs.YtbboanfggaknjaaDoor.X
open Go.RowKit Go.Proofs.YtbboanfggaknjaaDoorW.PrintWords Go.Proofs.YtbboanfggaknjaaDoorW.PrintLast Go.Proofs.YtbboanfggaknjaaDoorW.PrintMore
set_option maxHeartbeats 4000000 in
set_option maxRecDepth 100000 in
theorem add_none (g : Nat) (r c : Int) (vz vu vg : Value) (zs : List S61) (us : List S65) (gs : List S67) (A : Option Addr) (cap : Nat) (ws : List ByteArray) (w0 w : World) (hI : Aside0 (IsP w0 w g r c vz vu vg zs us gs)) (hW : Aside0 (Kd.C Kd.string w A ws.length ws))
    (h1 : ¬ (ws.length = 3 ∧ (wrd ws 0).toList = [103, 114, 105, 100])) (h2 : ¬ (ws.length = 3 ∧ (wrd ws 0).toList = [122, 111, 110, 101])) (h3 : ¬ (ws.length = 3 ∧ (wrd ws 0).toList = [117, 115, 101, 114])) (h4 : ¬ (ws.length = 4 ∧ (wrd ws 0).toList = [103, 114, 97, 110, 116])) :
    Calls Tryd.prog 27 #[.pointer (some ⟨g, 0, none⟩), .slice A ws.length cap] w fun e w' => e = .returned (.int .i64 4) ∧ ∃ vz1 vu1 vg1, IsP w0 w' g r c vz1 vu1 vg1 zs us gs := by
  have hu26 := Tryd.underlying26
  by_cases n3 : ws.length = 3
  · obtain ⟨ad, rfl, hat⟩ := words_at hW.out (by omega)
    have e0 : w.cell? ad = some (.string (wrd ws 0)) := hat 0 (by omega)
    have dt0 : ((wrd ws 0).toList == [103, 114, 105, 100]) = false := beq_eq_false_iff_ne.mpr fun e => h1 ⟨n3, e⟩
    have dt1 : ((wrd ws 0).toList == [122, 111, 110, 101]) = false := beq_eq_false_iff_ne.mpr fun e => h2 ⟨n3, e⟩
    have dt2 : ((wrd ws 0).toList == [117, 115, 101, 114]) = false := beq_eq_false_iff_ne.mpr fun e => h3 ⟨n3, e⟩
    rw [n3]
    have d3 : (((3 : Nat) : Int) == 3) = true := rfl
    have d4 : (((3 : Nat) : Int) == 4) = false := rfl
    clear h1 h2 h3 h4 n3 hat hW
    go_enter Tryd.func27, Tryd.ntmps27
    go_wp2
    go_ret
    exact ⟨rfl, _, _, _, hI.out⟩
  · by_cases n4 : ws.length = 4
    · obtain ⟨ad, rfl, hat⟩ := words_at hW.out (by omega)
      have e0 : w.cell? ad = some (.string (wrd ws 0)) := hat 0 (by omega)
      have dt3 : ((wrd ws 0).toList == [103, 114, 97, 110, 116]) = false := beq_eq_false_iff_ne.mpr fun e => h4 ⟨n4, e⟩
      rw [n4]
      have d3 : (((4 : Nat) : Int) == 3) = false := rfl
      have d4 : (((4 : Nat) : Int) == 4) = true := rfl
      clear h1 h2 h3 h4 n3 n4 hat hW
      go_enter Tryd.func27, Tryd.ntmps27
      go_wp2
      go_ret
      exact ⟨rfl, _, _, _, hI.out⟩
    · have d3 : ((ws.length : Int) == 3) = false := beq_eq_false_iff_ne.mpr (by omega)
      have d4 : ((ws.length : Int) == 4) = false := beq_eq_false_iff_ne.mpr (by omega)
      clear h1 h2 h3 h4 n3 n4 hW
      go_enter Tryd.func27, Tryd.ntmps27
      go_wp2
      go_ret
      exact ⟨rfl, _, _, _, hI.out⟩
theorem policy_add.calls (k : Nat) (g : Nat) (r c : Int) (vz vu vg : Value) (zs : List S61) (us : List S65) (gs : List S67) (A : Option Addr) (cap : Nat) (ws : List ByteArray) (bw : Nat) (kind r1 c1 : Int) (zs1 : List S61) (us1 : List S65) (gs1 : List S67) (w0 w : World) (hT : Aside0 (Tab w)) (hI : Aside0 (IsP w0 w g r c vz vu vg zs us gs)) (hW : Aside0 (Kd.R Kd.string 9 w bw (fun _ => True) (.slice A ws.length cap) ws)) (hc : ws.length ≤ cap)
    (h : policy_add.f k r c zs us gs ws = some (kind, r1, c1, zs1, us1, gs1)) :
    Calls Tryd.prog 27 #[.pointer (some ⟨g, 0, none⟩), .slice A ws.length cap] w fun e w' => e = .returned (.int .i64 kind) ∧ ∃ vz1 vu1 vg1, IsP w0 w' g r1 c1 vz1 vu1 vg1 zs1 us1 gs1 := by
  have hC := Aside0.mk (words_of hW.out)
  unfold policy_add.f at h
  by_cases h1 : ws.length = 3 ∧ (wrd ws 0).toList = [103, 114, 105, 100]
  · rw [if_pos h1] at h
    obtain ⟨⟨n1, b1⟩, A1, h⟩ := Option.bind_eq_some_iff.mp h
    obtain ⟨⟨n2, b2⟩, A2, h⟩ := Option.bind_eq_some_iff.mp h
    exact add_grid k g r c vz vu vg zs us gs A cap ws w0 w hI hC hc h1.1 h1.2 n1 n2 b1 b2 A1 A2 kind r1 c1 zs1 us1 gs1 h
  rw [if_neg h1] at h
  by_cases h2 : ws.length = 3 ∧ (wrd ws 0).toList = [122, 111, 110, 101]
  · rw [if_pos h2] at h
    obtain ⟨⟨s1, s2, s3, s4, b1⟩, A1, h⟩ := Option.bind_eq_some_iff.mp h
    obtain ⟨⟨l1, l2, b2⟩, A2, h⟩ := Option.bind_eq_some_iff.mp h
    exact add_zone k g r c vz vu vg zs us gs A cap ws w0 w hT hI hC hc h2.1 h2.2 s1 s2 s3 s4 l1 l2 b1 b2 A1 A2 kind r1 c1 zs1 us1 gs1 h
  rw [if_neg h2] at h
  by_cases h3 : ws.length = 3 ∧ (wrd ws 0).toList = [117, 115, 101, 114]
  · rw [if_pos h3] at h
    obtain ⟨⟨l0, m0, b0⟩, A0, h⟩ := Option.bind_eq_some_iff.mp h
    exact add_user k g r c vz vu vg zs us gs A cap ws bw w0 w hT hI hW hc h3.1 h3.2 l0 m0 b0 A0 kind r1 c1 zs1 us1 gs1 h
  rw [if_neg h3] at h
  by_cases h4 : ws.length = 4 ∧ (wrd ws 0).toList = [103, 114, 97, 110, 116]
  · rw [if_pos h4] at h
    obtain ⟨⟨l0, m0, b0⟩, A0, h⟩ := Option.bind_eq_some_iff.mp h
    obtain ⟨⟨l1, m1, b1⟩, A1, h⟩ := Option.bind_eq_some_iff.mp h
    exact add_grant k g r c vz vu vg zs us gs A cap ws bw w0 w hT hI hW hc h4.1 h4.2 l0 m0 l1 m1 b0 b1 A0 A1 kind r1 c1 zs1 us1 gs1 h
  rw [if_neg h4] at h
  simp only [Option.some.injEq, Prod.mk.injEq] at h
  obtain ⟨rfl, rfl, rfl, rfl, rfl, rfl⟩ := h
  exact add_none g r c vz vu vg zs us gs A cap ws w0 w hI hC h1 h2 h3 h4
end Go.Proofs.YtbboanfggaknjaaDoor.X
namespace Go.Proofs.YtbboanfggaknjaaDoor.X
open Go.RowKit Go.Proofs.YtbboanfggaknjaaDoorW.PrintWords Go.Proofs.YtbboanfggaknjaaDoorW.PrintLast Go.Proofs.YtbboanfggaknjaaDoorW.PrintMore
attribute [local go_sem] max2_int min2_int max_two min_two max_three min_three max_four min_four
set_option linter.unusedVariables false
set_option linter.unusedSimpArgs false
theorem eqA56 (d : Nat) (w : World) (x0 y0 : Int) (x1 y1 : Int) (x2 y2 : Int) (x3 y3 : Int) :
  (Op.equalIn (d + 3) 56 (.agg #[.int .i64 x0, .int .i64 x1, .int .i64 x2, .int .i64 x3]) (.agg #[.int .i64 y0, .int .i64 y1, .int .i64 y2, .int .i64 y3])).run Tryd.prog w = .ok ((x0 == y0 && (x1 == y1)) && ((x2 == y2 && (x3 == y3)))) w := by
 refine eqA_of Tryd.underlying56 (by kernel_rfl) ?_
 refine eqf_cons (by rfl) (by go_simp) (by go_simp) (eqA38 (d + 0) w _ _ _ _) ?_
 exact eqf_last (by rfl) (by go_simp) (by go_simp) (eqA38 (d + 0) w _ _ _ _)
def addr_May.f (a0_0 : Int) (a0_1 : Int) : Option (Bool) := if a0_0 ≥ 0 then (if a0_0 < 999 then (if a0_1 ≥ 0 then (some (decide (a0_1 < 702))) else (some false)) else (some false)) else (some false)
set_option maxHeartbeats 8000000 in
set_option maxRecDepth 100000 in
theorem addr_May.calls (a0_0 : Int) (a0_1 : Int) (r : Bool) (w : World) (h : addr_May.f a0_0 a0_1 = some r) :
  Calls Tryd.prog 61 #[.agg #[.int .i64 a0_0, .int .i64 a0_1]] w fun e w' => e = .returned (.bool r) ∧ Below w.heap.size w w' := by
 have hu38 := Tryd.underlying38; have HB := Aside0.mk (Below.refl w.heap.size w)
 have H : (if a0_0 ≥ 0 then (if a0_0 < 999 then (if a0_1 ≥ 0 then (some (decide (a0_1 < 702))) else (some false)) else (some false)) else (some false)) = some r := h
 clear h
 by_cases c2 : a0_0 ≥ 0
 ·rw [if_pos c2] at H; have c2b0 : decide (0 ≤ a0_0) = true := decide_eq_true c2; clear c2
  by_cases c3 : a0_0 < 999
  ·rw [if_pos c3] at H; have c3b0 : decide (a0_0 < 999) = true := decide_eq_true c3; clear c3
   by_cases c4 : a0_1 ≥ 0
   ·rw [if_pos c4] at H; have c4b0 : decide (0 ≤ a0_1) = true := decide_eq_true c4; clear c4; obtain rfl := Option.some.inj H
    go_enter Tryd.func61, Tryd.ntmps61
    go_wp2_with (first | ((with_reducible refine gate_dst (N:=1) rfl ?_); refine be_ (N:=1) (cs := #[.int .i64 a0_0, .int .i64 a0_1]) (t:=38) ?_; intro gb101 hg w5 hbox hb; have BK101 := Aside0.mk (hbox); replace HB := bs_ HB hb; clear hb hbox hg; have hcz6_0 : w5.cell? ⟨gb101, 0, none⟩ = some (.int .i64 a0_0) := bc_ BK101 0 rfl; have hcz6_1 : w5.cell? ⟨gb101, 1, none⟩ = some (.int .i64 a0_1) := bc_ BK101 1 rfl))
    go_ret
    exact ⟨by first | rfl | (simp [errW_none, errW_some] <;> rfl) | (simp [*, errW_none, errW_some] <;> rfl), pbx HB⟩
   ·rw [if_neg c4] at H; have c4b0 : decide (0 ≤ a0_1) = false := decide_eq_false c4; clear c4; obtain rfl := Option.some.inj H
    go_enter Tryd.func61, Tryd.ntmps61
    go_wp2_with (first | ((with_reducible refine gate_dst (N:=1) rfl ?_); refine be_ (N:=1) (cs := #[.int .i64 a0_0, .int .i64 a0_1]) (t:=38) ?_; intro gb101 hg w7 hbox hb; have BK101 := Aside0.mk (hbox); replace HB := bs_ HB hb; clear hb hbox hg; have hcz8_0 : w7.cell? ⟨gb101, 0, none⟩ = some (.int .i64 a0_0) := bc_ BK101 0 rfl; have hcz8_1 : w7.cell? ⟨gb101, 1, none⟩ = some (.int .i64 a0_1) := bc_ BK101 1 rfl))
    go_ret
    exact ⟨by first | rfl | (simp [errW_none, errW_some] <;> rfl) | (simp [*, errW_none, errW_some] <;> rfl), pbx HB⟩
  ·rw [if_neg c3] at H; have c3b0 : decide (a0_0 < 999) = false := decide_eq_false c3; clear c3; obtain rfl := Option.some.inj H
   go_enter Tryd.func61, Tryd.ntmps61
   go_wp2_with (first | ((with_reducible refine gate_dst (N:=1) rfl ?_); refine be_ (N:=1) (cs := #[.int .i64 a0_0, .int .i64 a0_1]) (t:=38) ?_; intro gb101 hg w9 hbox hb; have BK101 := Aside0.mk (hbox); replace HB := bs_ HB hb; clear hb hbox hg; have hcz10_0 : w9.cell? ⟨gb101, 0, none⟩ = some (.int .i64 a0_0) := bc_ BK101 0 rfl; have hcz10_1 : w9.cell? ⟨gb101, 1, none⟩ = some (.int .i64 a0_1) := bc_ BK101 1 rfl))
   go_ret
   exact ⟨by first | rfl | (simp [errW_none, errW_some] <;> rfl) | (simp [*, errW_none, errW_some] <;> rfl), pbx HB⟩
 ·rw [if_neg c2] at H; have c2b0 : decide (0 ≤ a0_0) = false := decide_eq_false c2; clear c2; obtain rfl := Option.some.inj H
  go_enter Tryd.func61, Tryd.ntmps61
  go_wp2_with (first | ((with_reducible refine gate_dst (N:=1) rfl ?_); refine be_ (N:=1) (cs := #[.int .i64 a0_0, .int .i64 a0_1]) (t:=38) ?_; intro gb101 hg w11 hbox hb; have BK101 := Aside0.mk (hbox); replace HB := bs_ HB hb; clear hb hbox hg; have hcz12_0 : w11.cell? ⟨gb101, 0, none⟩ = some (.int .i64 a0_0) := bc_ BK101 0 rfl; have hcz12_1 : w11.cell? ⟨gb101, 1, none⟩ = some (.int .i64 a0_1) := bc_ BK101 1 rfl))
  go_ret
  exact ⟨by first | rfl | (simp [errW_none, errW_some] <;> rfl) | (simp [*, errW_none, errW_some] <;> rfl), pbx HB⟩

def span_May.f (a0_0 : Int) (a0_1 : Int) (a0_2 : Int) (a0_3 : Int) : Option (Bool) := (addr_May.f a0_0 a0_1).bind fun t102 => (if t102 = true then ((addr_May.f a0_2 a0_3).bind fun t103 => (some t103)) else (some false))
set_option maxHeartbeats 8000000 in
set_option maxRecDepth 100000 in
theorem span_May.calls (a0_0 : Int) (a0_1 : Int) (a0_2 : Int) (a0_3 : Int) (r : Bool) (w : World) (h : span_May.f a0_0 a0_1 a0_2 a0_3 = some r) :
  Calls Tryd.prog 38 #[.agg #[.int .i64 a0_0, .int .i64 a0_1, .int .i64 a0_2, .int .i64 a0_3]] w fun e w' => e = .returned (.bool r) ∧ Below w.heap.size w w' := by
 have hu56 := Tryd.underlying56; have hu38 := Tryd.underlying38; have HB := Aside0.mk (Below.refl w.heap.size w)
 have H : ((addr_May.f a0_0 a0_1).bind fun t102 => (if t102 = true then ((addr_May.f a0_2 a0_3).bind fun t103 => (some t103)) else (some false))) = some r := h
 clear h; replace H := Option.bind_eq_some_iff.mp H; obtain ⟨t102, A20, H⟩ := H
 replace H : (if t102 = true then ((addr_May.f a0_2 a0_3).bind fun t103 => (some t103)) else (some false)) = some r := H
 have A2 := Aside0.mk A20; clear A20
 by_cases c3 : t102 = true
 ·subst c3
  have H1 : ((addr_May.f a0_2 a0_3).bind fun t103 => (some t103)) = some r := by rw [if_pos rfl] at H; exact H
  clear H; have H := H1; clear H1; replace H := Option.bind_eq_some_iff.mp H; obtain ⟨t103, A40, H⟩ := H
  replace H : (some t103) = some r := H
  have A4 := Aside0.mk A40; clear A40; obtain rfl := Option.some.inj H
  go_enter Tryd.func38, Tryd.ntmps38
  go_wp2_with (first | ((with_reducible refine gate_dst (N:=1) rfl ?_); refine be_ (N:=1) (cs := #[.int .i64 a0_0, .int .i64 a0_1, .int .i64 a0_2, .int .i64 a0_3]) (t:=56) ?_; intro gb101 hg w5 hbox hb; have BK101 := Aside0.mk (hbox); replace HB := bs_ HB hb; clear hb hbox hg; have hcz6_0 : w5.cell? ⟨gb101, 0, none⟩ = some (.int .i64 a0_0) := bc_ BK101 0 rfl; have hcz6_1 : w5.cell? ⟨gb101, 1, none⟩ = some (.int .i64 a0_1) := bc_ BK101 1 rfl; have hcz6_2 : w5.cell? ⟨gb101, 2, none⟩ = some (.int .i64 a0_2) := bc_ BK101 2 rfl; have hcz6_3 : w5.cell? ⟨gb101, 3, none⟩ = some (.int .i64 a0_3) := bc_ BK101 3 rfl) | ((with_reducible refine gate_callee (f:=61) rfl ?_); refine gL_ (some 5) rfl rfl Tryd.func61 rfl #[.agg #[.int .i64 a0_0, .int .i64 a0_1]] rfl ?_; (with_reducible refine (addr_May.calls a0_0 a0_1 true _ A2.out).mono ?_); rintro e w7 ⟨rfl, hb⟩; refine ⟨_, rfl, ?_⟩; replace BK101 := bb_ BK101 hb; replace HB := bs_ HB hb; (try clear hb); (try clear hb2); (try clear hk); (try clear hi); have hcz8_0 : w7.cell? ⟨gb101, 0, none⟩ = some (.int .i64 a0_0) := bc_ BK101 0 rfl; have hcz8_1 : w7.cell? ⟨gb101, 1, none⟩ = some (.int .i64 a0_1) := bc_ BK101 1 rfl; have hcz8_2 : w7.cell? ⟨gb101, 2, none⟩ = some (.int .i64 a0_2) := bc_ BK101 2 rfl; have hcz8_3 : w7.cell? ⟨gb101, 3, none⟩ = some (.int .i64 a0_3) := bc_ BK101 3 rfl) | (go_at_call 61; (with_reducible refine (addr_May.calls a0_2 a0_3 t103 _ A4.out).mono ?_); rintro e w9 ⟨rfl, hb⟩; replace BK101 := bb_ BK101 hb; replace HB := bs_ HB hb; (try clear hb); (try clear hb2); (try clear hk); (try clear hi)))
  go_ret
  exact ⟨by first | rfl | (simp [errW_none, errW_some] <;> rfl) | (simp [*, errW_none, errW_some] <;> rfl), pbx HB⟩
 ·replace c3 := Bool.eq_false_iff.mpr c3; subst c3
  have H1 : (some false) = some r := by rw [if_neg (show ¬ (false = true) by decide)] at H; exact H
  clear H; have H := H1; clear H1; obtain rfl := Option.some.inj H
  go_enter Tryd.func38, Tryd.ntmps38
  go_wp2_with (first | ((with_reducible refine gate_dst (N:=1) rfl ?_); refine be_ (N:=1) (cs := #[.int .i64 a0_0, .int .i64 a0_1, .int .i64 a0_2, .int .i64 a0_3]) (t:=56) ?_; intro gb101 hg w10 hbox hb; have BK101 := Aside0.mk (hbox); replace HB := bs_ HB hb; clear hb hbox hg; have hcz11_0 : w10.cell? ⟨gb101, 0, none⟩ = some (.int .i64 a0_0) := bc_ BK101 0 rfl; have hcz11_1 : w10.cell? ⟨gb101, 1, none⟩ = some (.int .i64 a0_1) := bc_ BK101 1 rfl; have hcz11_2 : w10.cell? ⟨gb101, 2, none⟩ = some (.int .i64 a0_2) := bc_ BK101 2 rfl; have hcz11_3 : w10.cell? ⟨gb101, 3, none⟩ = some (.int .i64 a0_3) := bc_ BK101 3 rfl) | ((with_reducible refine gate_callee (f:=61) rfl ?_); refine gL_ (some 5) rfl rfl Tryd.func61 rfl #[.agg #[.int .i64 a0_0, .int .i64 a0_1]] rfl ?_; (with_reducible refine (addr_May.calls a0_0 a0_1 false _ A2.out).mono ?_); rintro e w12 ⟨rfl, hb⟩; refine ⟨_, rfl, ?_⟩; replace BK101 := bb_ BK101 hb; replace HB := bs_ HB hb; (try clear hb); (try clear hb2); (try clear hk); (try clear hi)))
  go_ret
  exact ⟨by first | rfl | (simp [errW_none, errW_some] <;> rfl) | (simp [*, errW_none, errW_some] <;> rfl), pbx HB⟩

def label_May.f (a0_0 : Int) (a0_1 : Int) : Option (Bool) := if a0_0 ≥ 0 then (some (decide (a0_0 ≤ 15))) else (some false)
set_option maxHeartbeats 8000000 in
set_option maxRecDepth 100000 in
theorem label_May.calls (a0_0 : Int) (a0_1 : Int) (r : Bool) (w : World) (h : label_May.f a0_0 a0_1 = some r) :
  Calls Tryd.prog 40 #[.agg #[.int .i64 a0_0, .int .u64 a0_1]] w fun e w' => e = .returned (.bool r) ∧ Below w.heap.size w w' := by
 have hu59 := Tryd.underlying59; have HB := Aside0.mk (Below.refl w.heap.size w)
 have H : (if a0_0 ≥ 0 then (some (decide (a0_0 ≤ 15))) else (some false)) = some r := h
 clear h
 by_cases c2 : a0_0 ≥ 0
 ·rw [if_pos c2] at H; have c2b0 : decide (0 ≤ a0_0) = true := decide_eq_true c2; clear c2; obtain rfl := Option.some.inj H
  go_enter Tryd.func40, Tryd.ntmps40
  go_wp2_with (first | ((with_reducible refine gate_dst (N:=1) rfl ?_); refine be_ (N:=1) (cs := #[.int .i64 a0_0, .int .u64 a0_1]) (t:=59) ?_; intro gb101 hg w3 hbox hb; have BK101 := Aside0.mk (hbox); replace HB := bs_ HB hb; clear hb hbox hg; have hcz4_0 : w3.cell? ⟨gb101, 0, none⟩ = some (.int .i64 a0_0) := bc_ BK101 0 rfl; have hcz4_1 : w3.cell? ⟨gb101, 1, none⟩ = some (.int .u64 a0_1) := bc_ BK101 1 rfl))
  go_ret
  exact ⟨by first | rfl | (simp [errW_none, errW_some] <;> rfl) | (simp [*, errW_none, errW_some] <;> rfl), pbx HB⟩
 ·rw [if_neg c2] at H; have c2b0 : decide (0 ≤ a0_0) = false := decide_eq_false c2; clear c2; obtain rfl := Option.some.inj H
  go_enter Tryd.func40, Tryd.ntmps40
  go_wp2_with (first | ((with_reducible refine gate_dst (N:=1) rfl ?_); refine be_ (N:=1) (cs := #[.int .i64 a0_0, .int .u64 a0_1]) (t:=59) ?_; intro gb101 hg w5 hbox hb; have BK101 := Aside0.mk (hbox); replace HB := bs_ HB hb; clear hb hbox hg; have hcz6_0 : w5.cell? ⟨gb101, 0, none⟩ = some (.int .i64 a0_0) := bc_ BK101 0 rfl; have hcz6_1 : w5.cell? ⟨gb101, 1, none⟩ = some (.int .u64 a0_1) := bc_ BK101 1 rfl))
  go_ret
  exact ⟨by first | rfl | (simp [errW_none, errW_some] <;> rfl) | (simp [*, errW_none, errW_some] <;> rfl), pbx HB⟩

def span_Straight.f (a0_0 : Int) (a0_1 : Int) (a0_2 : Int) (a0_3 : Int) : Option (Int × Int × Int × Int) := (span_May.f a0_0 a0_1 a0_2 a0_3).bind fun t103 => (if t103 = true then (some (mn a0_0 a0_2, mn a0_1 a0_3, mx a0_0 a0_2, mx a0_1 a0_3)) else (some (0, 0, 0, 0)))
set_option maxHeartbeats 8000000 in
set_option maxRecDepth 100000 in
theorem span_Straight.calls (a0_0 : Int) (a0_1 : Int) (a0_2 : Int) (a0_3 : Int) (r1 : Int) (r2 : Int) (r3 : Int) (r4 : Int) (w : World) (h : span_Straight.f a0_0 a0_1 a0_2 a0_3 = some (r1, r2, r3, r4)) :
  Calls Tryd.prog 55 #[.agg #[.int .i64 a0_0, .int .i64 a0_1, .int .i64 a0_2, .int .i64 a0_3]] w fun e w' => e = .returned (.agg #[.int .i64 r1, .int .i64 r2, .int .i64 r3, .int .i64 r4]) ∧ Below w.heap.size w w' := by
 have hu56 := Tryd.underlying56; have hu38 := Tryd.underlying38; have HB := Aside0.mk (Below.refl w.heap.size w)
 have H : ((span_May.f a0_0 a0_1 a0_2 a0_3).bind fun t103 => (if t103 = true then (some (mn a0_0 a0_2, mn a0_1 a0_3, mx a0_0 a0_2, mx a0_1 a0_3)) else (some (0, 0, 0, 0)))) = some (r1, r2, r3, r4) := h
 clear h; replace H := Option.bind_eq_some_iff.mp H; obtain ⟨t103, A20, H⟩ := H
 replace H : (if t103 = true then (some (mn a0_0 a0_2, mn a0_1 a0_3, mx a0_0 a0_2, mx a0_1 a0_3)) else (some (0, 0, 0, 0))) = some (r1, r2, r3, r4) := H
 have A2 := Aside0.mk A20; clear A20
 by_cases c3 : t103 = true
 ·subst c3
  have H1 : (some (mn a0_0 a0_2, mn a0_1 a0_3, mx a0_0 a0_2, mx a0_1 a0_3)) = some (r1, r2, r3, r4) := by rw [if_pos rfl] at H; exact H
  clear H; have H := H1; clear H1; obtain ⟨ji4, hji4⟩ : ∃ j_ : Int, (mn a0_0 a0_2) = j_ := ⟨_, rfl⟩
  replace H : (some (ji4, mn a0_1 a0_3, mx a0_0 a0_2, mx a0_1 a0_3)) = some (r1, r2, r3, r4) := by first | (rw [hji4] at H; exact H) | (simp only [hji4] at H ⊢; exact H)
  (try rw [hji4] at A2)
  have hji4_ : (if a0_2 < a0_0 then a0_2 else a0_0) = ji4 := hji4
  obtain ⟨ji5, hji5⟩ : ∃ j_ : Int, (mn a0_1 a0_3) = j_ := ⟨_, rfl⟩
  replace H : (some (ji4, ji5, mx a0_0 a0_2, mx a0_1 a0_3)) = some (r1, r2, r3, r4) := by first | (rw [hji5] at H; exact H) | (simp only [hji5] at H ⊢; exact H)
  (try rw [hji5] at A2)
  have hji5_ : (if a0_3 < a0_1 then a0_3 else a0_1) = ji5 := hji5
  obtain ⟨ji6, hji6⟩ : ∃ j_ : Int, (mx a0_0 a0_2) = j_ := ⟨_, rfl⟩
  replace H : (some (ji4, ji5, ji6, mx a0_1 a0_3)) = some (r1, r2, r3, r4) := by first | (rw [hji6] at H; exact H) | (simp only [hji6] at H ⊢; exact H)
  (try rw [hji6] at A2)
  have hji6_ : (if a0_0 < a0_2 then a0_2 else a0_0) = ji6 := hji6
  obtain ⟨ji7, hji7⟩ : ∃ j_ : Int, (mx a0_1 a0_3) = j_ := ⟨_, rfl⟩
  replace H : (some (ji4, ji5, ji6, ji7)) = some (r1, r2, r3, r4) := by first | (rw [hji7] at H; exact H) | (simp only [hji7] at H ⊢; exact H)
  (try rw [hji7] at A2)
  have hji7_ : (if a0_1 < a0_3 then a0_3 else a0_1) = ji7 := hji7
  simp only [Option.some.injEq, Prod.mk.injEq] at H
  obtain ⟨rfl, rfl, rfl, rfl⟩ := H
  go_enter Tryd.func55, Tryd.ntmps55
  go_wp2_with (first | ((with_reducible refine gate_dst (N:=1) rfl ?_); refine be_ (N:=1) (cs := #[.int .i64 a0_0, .int .i64 a0_1, .int .i64 a0_2, .int .i64 a0_3]) (t:=56) ?_; intro gb101 hg w8 hbox hb; have BK101 := Aside0.mk (hbox); have GW101 := hs_ HB hg; have GE101 := hs_ HB hg; replace HB := bs_ HB hb; clear hb hbox hg) | ((with_reducible refine gate_dst (N:=2) rfl ?_); refine be_ (N:=2) (cs := #[.int .i64 0, .int .i64 0, .int .i64 0, .int .i64 0]) (t:=56) ?_; intro gb102 hg w9 hbox hb; have BK102 := Aside0.mk (hbox); have GW102 := hs_ HB hg; have GE102 := hs_ HB hg; have NB101_102 := hl_ BK101 hg; have NB102_101 := hr_ BK101 hg; replace BK101 := bb_ BK101 hb; replace HB := bs_ HB hb; clear hb hbox hg; have hnb10 := NB101_102.out; have hnc10 := NB102_101.out; have hcz11_0 : w9.cell? ⟨gb101, 0, none⟩ = some (.int .i64 a0_0) := bc_ BK101 0 rfl; have hcz11_1 : w9.cell? ⟨gb101, 1, none⟩ = some (.int .i64 a0_1) := bc_ BK101 1 rfl; have hcz11_2 : w9.cell? ⟨gb101, 2, none⟩ = some (.int .i64 a0_2) := bc_ BK101 2 rfl; have hcz11_3 : w9.cell? ⟨gb101, 3, none⟩ = some (.int .i64 a0_3) := bc_ BK101 3 rfl; have hfz11_0 := blk_frozen BK101.out 0; have hfz11_1 := blk_frozen BK101.out 1; have hfz11_2 := blk_frozen BK101.out 2; have hfz11_3 := blk_frozen BK101.out 3) | ((with_reducible refine gate_callee (f:=38) rfl ?_); refine gL_ (some 4) rfl rfl Tryd.func38 rfl #[.agg #[.int .i64 a0_0, .int .i64 a0_1, .int .i64 a0_2, .int .i64 a0_3]] rfl ?_; (with_reducible refine (span_May.calls a0_0 a0_1 a0_2 a0_3 true _ A2.out).mono ?_); rintro e w12 ⟨rfl, hb⟩; refine ⟨_, rfl, ?_⟩; replace BK101 := bb_ BK101 hb; replace BK102 := bb_ BK102 hb; replace HB := bs_ HB hb; (try clear hb); (try clear hb2); (try clear hk); (try clear hi); have hcz13_0 : w12.cell? ⟨gb101, 0, none⟩ = some (.int .i64 a0_0) := bc_ BK101 0 rfl; have hcz13_1 : w12.cell? ⟨gb101, 1, none⟩ = some (.int .i64 a0_1) := bc_ BK101 1 rfl; have hcz13_2 : w12.cell? ⟨gb101, 2, none⟩ = some (.int .i64 a0_2) := bc_ BK101 2 rfl; have hcz13_3 : w12.cell? ⟨gb101, 3, none⟩ = some (.int .i64 a0_3) := bc_ BK101 3 rfl; have hfz13_0 := blk_frozen BK101.out 0; have hfz13_1 := blk_frozen BK101.out 1; have hfz13_2 := blk_frozen BK101.out 2; have hfz13_3 := blk_frozen BK101.out 3; have hcz14_0 : w12.cell? ⟨gb102, 0, none⟩ = some (.int .i64 0) := bc_ BK102 0 rfl; have hcz14_1 : w12.cell? ⟨gb102, 1, none⟩ = some (.int .i64 0) := bc_ BK102 1 rfl; have hcz14_2 : w12.cell? ⟨gb102, 2, none⟩ = some (.int .i64 0) := bc_ BK102 2 rfl; have hcz14_3 : w12.cell? ⟨gb102, 3, none⟩ = some (.int .i64 0) := bc_ BK102 3 rfl; have hfz14_0 := blk_frozen BK102.out 0; have hfz14_1 := blk_frozen BK102.out 1; have hfz14_2 := blk_frozen BK102.out 2; have hfz14_3 := blk_frozen BK102.out 3))
  refine bodyPost_ret (results_cell_row rfl _ _ gb102 56 #[.int .i64 ji4, .int .i64 ji5, .int .i64 ji6, .int .i64 ji7] (0, 0) _ rfl (by refine pp_ (cs := #[.int .i64 ji4, .int .i64 ji5, .int .i64 ji6, .int .i64 0]) 3 ?_ rfl; refine blk_put (cs := #[.int .i64 ji4, .int .i64 ji5, .int .i64 0, .int .i64 0]) ?_ 2 _ rfl; refine blk_put (cs := #[.int .i64 ji4, .int .i64 0, .int .i64 0, .int .i64 0]) ?_ 1 _ rfl; refine blk_put (cs := #[.int .i64 0, .int .i64 0, .int .i64 0, .int .i64 0]) ?_ 0 _ rfl; exact pkx BK102) Tryd.underlying56 rfl (by kernel_rfl)) rfl ?_
  exact ⟨by first | rfl | (simp [errW_none, errW_some] <;> rfl) | (simp only [← hji4, ← hji5, ← hji6, ← hji7]; first | rfl | (simp [errW_none, errW_some] <;> rfl)) | (simp [*, errW_none, errW_some] <;> rfl), by repeat (first | (with_reducible first | exact HB.out | apply below_alloc | apply pw_below_drewN | apply below_drew1 | refine below_set ?_ GE101.out | refine below_set ?_ GE102.out) | exact HB.out)⟩
 ·replace c3 := Bool.eq_false_iff.mpr c3; subst c3
  have H1 : (some (0, 0, 0, 0)) = some (r1, r2, r3, r4) := by rw [if_neg (show ¬ (false = true) by decide)] at H; exact H
  clear H; have H := H1; clear H1
  simp only [Option.some.injEq, Prod.mk.injEq] at H
  obtain ⟨rfl, rfl, rfl, rfl⟩ := H
  go_enter Tryd.func55, Tryd.ntmps55
  go_wp2_with (first | ((with_reducible refine gate_dst (N:=1) rfl ?_); refine be_ (N:=1) (cs := #[.int .i64 a0_0, .int .i64 a0_1, .int .i64 a0_2, .int .i64 a0_3]) (t:=56) ?_; intro gb101 hg w15 hbox hb; have BK101 := Aside0.mk (hbox); have GW101 := hs_ HB hg; have GE101 := hs_ HB hg; replace HB := bs_ HB hb; clear hb hbox hg) | ((with_reducible refine gate_dst (N:=2) rfl ?_); refine be_ (N:=2) (cs := #[.int .i64 0, .int .i64 0, .int .i64 0, .int .i64 0]) (t:=56) ?_; intro gb102 hg w16 hbox hb; have BK102 := Aside0.mk (hbox); have GW102 := hs_ HB hg; have GE102 := hs_ HB hg; have NB101_102 := hl_ BK101 hg; have NB102_101 := hr_ BK101 hg; replace BK101 := bb_ BK101 hb; replace HB := bs_ HB hb; clear hb hbox hg; have hnb17 := NB101_102.out; have hnc17 := NB102_101.out; have hcz18_0 : w16.cell? ⟨gb101, 0, none⟩ = some (.int .i64 a0_0) := bc_ BK101 0 rfl; have hcz18_1 : w16.cell? ⟨gb101, 1, none⟩ = some (.int .i64 a0_1) := bc_ BK101 1 rfl; have hcz18_2 : w16.cell? ⟨gb101, 2, none⟩ = some (.int .i64 a0_2) := bc_ BK101 2 rfl; have hcz18_3 : w16.cell? ⟨gb101, 3, none⟩ = some (.int .i64 a0_3) := bc_ BK101 3 rfl; have hfz18_0 := blk_frozen BK101.out 0; have hfz18_1 := blk_frozen BK101.out 1; have hfz18_2 := blk_frozen BK101.out 2; have hfz18_3 := blk_frozen BK101.out 3) | ((with_reducible refine gate_callee (f:=38) rfl ?_); refine gL_ (some 4) rfl rfl Tryd.func38 rfl #[.agg #[.int .i64 a0_0, .int .i64 a0_1, .int .i64 a0_2, .int .i64 a0_3]] rfl ?_; (with_reducible refine (span_May.calls a0_0 a0_1 a0_2 a0_3 false _ A2.out).mono ?_); rintro e w19 ⟨rfl, hb⟩; refine ⟨_, rfl, ?_⟩; replace BK101 := bb_ BK101 hb; replace BK102 := bb_ BK102 hb; replace HB := bs_ HB hb; (try clear hb); (try clear hb2); (try clear hk); (try clear hi); have hcz20_0 : w19.cell? ⟨gb102, 0, none⟩ = some (.int .i64 0) := bc_ BK102 0 rfl; have hcz20_1 : w19.cell? ⟨gb102, 1, none⟩ = some (.int .i64 0) := bc_ BK102 1 rfl; have hcz20_2 : w19.cell? ⟨gb102, 2, none⟩ = some (.int .i64 0) := bc_ BK102 2 rfl; have hcz20_3 : w19.cell? ⟨gb102, 3, none⟩ = some (.int .i64 0) := bc_ BK102 3 rfl; have hfz20_0 := blk_frozen BK102.out 0; have hfz20_1 := blk_frozen BK102.out 1; have hfz20_2 := blk_frozen BK102.out 2; have hfz20_3 := blk_frozen BK102.out 3))
  refine bodyPost_ret (results_cell_row rfl _ _ gb102 56 #[.int .i64 0, .int .i64 0, .int .i64 0, .int .i64 0] (0, 0) _ rfl (by refine pp_ (cs := #[.int .i64 0, .int .i64 0, .int .i64 0, .int .i64 0]) 3 ?_ rfl; refine blk_put (cs := #[.int .i64 0, .int .i64 0, .int .i64 0, .int .i64 0]) ?_ 2 _ rfl; refine blk_put (cs := #[.int .i64 0, .int .i64 0, .int .i64 0, .int .i64 0]) ?_ 1 _ rfl; refine blk_put (cs := #[.int .i64 0, .int .i64 0, .int .i64 0, .int .i64 0]) ?_ 0 _ rfl; exact pkx BK102) Tryd.underlying56 rfl (by kernel_rfl)) rfl ?_
  exact ⟨by first | rfl | (simp [errW_none, errW_some] <;> rfl) | (simp [*, errW_none, errW_some] <;> rfl), by repeat (first | (with_reducible first | exact HB.out | apply below_alloc | apply pw_below_drewN | apply below_drew1 | refine below_set ?_ GE101.out | refine below_set ?_ GE102.out) | exact HB.out)⟩

end Go.Proofs.YtbboanfggaknjaaDoor.X
namespace Go.Proofs.YtbboanfggaknjaaDoor.X
open Go.RowKit Go.Proofs.YtbboanfggaknjaaDoorW.PrintWords Go.Proofs.YtbboanfggaknjaaDoorW.PrintLast Go.Proofs.YtbboanfggaknjaaDoorW.PrintMore
attribute [local go_sem] max2_int min2_int max_two min_two max_three min_three max_four min_four
set_option linter.unusedVariables false
set_option linter.unusedSimpArgs false
attribute [local go_sem high] eqA56
mutual
def zone_Wrong.l0 : Nat → Int → Int → List (S61) → Int → Int → Option (Int × Int)
 | 0, _, _, _, _, _ => none
 | k + 1, x1, x2, x10, x11, x12 => if x12 < x11 then (if 0 ≤ x12 then (if x12 < (x10.length : Int) then (if x12 ≥ 32 then (some (x12, 10)) else ((span_May.f ((rd_T61 x10 x12).f0.f0.f0) ((rd_T61 x10 x12).f0.f0.f1) ((rd_T61 x10 x12).f0.f1.f0) ((rd_T61 x10 x12).f0.f1.f1)).bind fun t103 => (if t103 = true then ((span_Straight.f ((rd_T61 x10 x12).f0.f0.f0) ((rd_T61 x10 x12).f0.f0.f1) ((rd_T61 x10 x12).f0.f1.f0) ((rd_T61 x10 x12).f0.f1.f1)).bind fun bt104 => (zone_Wrong.j1 k x1 x2 x12 x10 x11 x12 ((!(bt104.1 == ((rd_T61 x10 x12).f0.f0.f0)) || (!(bt104.2.1 == ((rd_T61 x10 x12).f0.f0.f1)))) || ((!(bt104.2.2.1 == ((rd_T61 x10 x12).f0.f1.f0)) || (!(bt104.2.2.2 == ((rd_T61 x10 x12).f0.f1.f1)))))) ((rd_T61 x10 x12).f0.f0.f0) ((rd_T61 x10 x12).f0.f0.f1) ((rd_T61 x10 x12).f0.f1.f0) ((rd_T61 x10 x12).f0.f1.f1) ((rd_T61 x10 x12).f1.f0) ((rd_T61 x10 x12).f1.f1))) else (zone_Wrong.j1 k x1 x2 x12 x10 x11 x12 true ((rd_T61 x10 x12).f0.f0.f0) ((rd_T61 x10 x12).f0.f0.f1) ((rd_T61 x10 x12).f0.f1.f0) ((rd_T61 x10 x12).f0.f1.f1) ((rd_T61 x10 x12).f1.f0) ((rd_T61 x10 x12).f1.f1))))) else (none)) else (none)) else (some (0, 0))
def zone_Wrong.j1 : Nat → Int → Int → Int → List (S61) → Int → Int → Bool → Int → Int → Int → Int → Int → Int → Option (Int × Int)
 | 0, _, _, _, _, _, _, _, _, _, _, _, _, _ => none
 | k + 1, x1, x2, x8, x10, x11, x12, x21, x103000, x103001, x103002, x103003, x103004, x103005 => if x21 = true then (some (x8, 1)) else (if x103002 ≥ x1 then (zone_Wrong.j2 k x1 x2 x8 x10 x11 x12 true x103000 x103001 x103002 x103003 x103004 x103005) else (zone_Wrong.j2 k x1 x2 x8 x10 x11 x12 (decide (x103003 ≥ x2)) x103000 x103001 x103002 x103003 x103004 x103005))
def zone_Wrong.j2 : Nat → Int → Int → Int → List (S61) → Int → Int → Bool → Int → Int → Int → Int → Int → Int → Option (Int × Int)
 | 0, _, _, _, _, _, _, _, _, _, _, _, _, _ => none
 | k + 1, x1, x2, x8, x10, x11, x12, x35, x103000, x103001, x103002, x103003, x103004, x103005 => if x35 = true then (some (x8, 2)) else ((label_May.f x103004 x103005).bind fun t108 => (if t108 = true then (zone_Wrong.l0 k x1 x2 x10 x11 (wrap64 (x12 + 1))) else (some (x8, 7))))
end
def zone_Wrong.f (k : Nat) (l0 : List (S61)) (a1 : Int) (a2 : Int) : Option (Int × Int) := zone_Wrong.l0 k a1 a2 l0 (l0.length : Int) 0
theorem zone_Wrong.mono_l : ∀ k, (∀ y0 y1 y2 y3 y4, LeO (zone_Wrong.l0 k y0 y1 y2 y3 y4) (zone_Wrong.l0 (k + 1) y0 y1 y2 y3 y4)) ∧ (∀ y0 y1 y2 y3 y4 y5 y6 y7 y8 y9 y10 y11 y12, LeO (zone_Wrong.j1 k y0 y1 y2 y3 y4 y5 y6 y7 y8 y9 y10 y11 y12) (zone_Wrong.j1 (k + 1) y0 y1 y2 y3 y4 y5 y6 y7 y8 y9 y10 y11 y12)) ∧ (∀ y0 y1 y2 y3 y4 y5 y6 y7 y8 y9 y10 y11 y12, LeO (zone_Wrong.j2 k y0 y1 y2 y3 y4 y5 y6 y7 y8 y9 y10 y11 y12) (zone_Wrong.j2 (k + 1) y0 y1 y2 y3 y4 y5 y6 y7 y8 y9 y10 y11 y12))
 | 0 => ⟨fun _ _ _ _ _ r h => by simp [zone_Wrong.l0] at h, fun _ _ _ _ _ _ _ _ _ _ _ _ _ r h => by simp [zone_Wrong.j1] at h, fun _ _ _ _ _ _ _ _ _ _ _ _ _ r h => by simp [zone_Wrong.j2] at h⟩
 | k + 1 => by
  obtain ⟨ih0, ih1, ih2⟩ := zone_Wrong.mono_l k
  refine ⟨?_, ?_, ?_⟩
  ·intro y0 y1 y2 y3 y4
   unfold zone_Wrong.l0
   repeat' first
   | (with_reducible exact ih0 _ _ _ _ _)
   | (with_reducible exact ih1 _ _ _ _ _ _ _ _ _ _ _ _ _)
   | (with_reducible exact ih2 _ _ _ _ _ _ _ _ _ _ _ _ _)
   | (with_reducible exact LeO.refl _)
   | (with_reducible exact LeO.none _)
   | (with_reducible refine LeO.ite ?_ ?_)
   | (with_reducible refine LeO.bind ?_ (fun _ => ?_))
  ·intro y0 y1 y2 y3 y4 y5 y6 y7 y8 y9 y10 y11 y12
   unfold zone_Wrong.j1
   repeat' first
   | (with_reducible exact ih0 _ _ _ _ _)
   | (with_reducible exact ih1 _ _ _ _ _ _ _ _ _ _ _ _ _)
   | (with_reducible exact ih2 _ _ _ _ _ _ _ _ _ _ _ _ _)
   | (with_reducible exact LeO.refl _)
   | (with_reducible exact LeO.none _)
   | (with_reducible refine LeO.ite ?_ ?_)
   | (with_reducible refine LeO.bind ?_ (fun _ => ?_))
  ·intro y0 y1 y2 y3 y4 y5 y6 y7 y8 y9 y10 y11 y12
   unfold zone_Wrong.j2
   repeat' first
   | (with_reducible exact ih0 _ _ _ _ _)
   | (with_reducible exact ih1 _ _ _ _ _ _ _ _ _ _ _ _ _)
   | (with_reducible exact ih2 _ _ _ _ _ _ _ _ _ _ _ _ _)
   | (with_reducible exact LeO.refl _)
   | (with_reducible exact LeO.none _)
   | (with_reducible refine LeO.ite ?_ ?_)
   | (with_reducible refine LeO.bind ?_ (fun _ => ?_))
theorem zone_Wrong.mono : ∀ a0 a1 a2 k, LeO (zone_Wrong.f k a0 a1 a2) (zone_Wrong.f (k + 1) a0 a1 a2) := by
 intro a0 a1 a2 k; obtain ⟨ih0, ih1, ih2⟩ := zone_Wrong.mono_l k
 unfold zone_Wrong.f
 repeat' first
   | (with_reducible exact ih0 _ _ _ _ _)
   | (with_reducible exact ih1 _ _ _ _ _ _ _ _ _ _ _ _ _)
   | (with_reducible exact ih2 _ _ _ _ _ _ _ _ _ _ _ _ _)
   | (with_reducible exact LeO.refl _)
   | (with_reducible exact LeO.none _)
   | (with_reducible refine LeO.ite ?_ ?_)
   | (with_reducible refine LeO.bind ?_ (fun _ => ?_))
def zone_Wrong.T6 : Bool × List (List Nat × List Nat) := (true, [([], []), ([0], [0]), ([1], [1]), ([2], [2]), ([3, 2], [3]), ([4], [4]), ([5, 4], [4, 5]), ([6, 4, 4], [4, 6]), ([4], [4]), ([8, 4], [4, 8]), ([7, 9, 4], [4, 7, 9]), ([4, 10], [4, 10]), ([11, 7], [11])])
def zone_Wrong.B6 : List Nat := [0, 1, 3, 7, 15, 31, 63, 127, 31, 287, 1023, 2047, 4095]
theorem zone_Wrong.tab6 : rtab .any (opsOf Tryd.f32 6) = zone_Wrong.T6 := by kernel_rfl
theorem zone_Wrong.bits6 : waitsOk zone_Wrong.T6.2 zone_Wrong.B6 = true := by kernel_rfl
set_option maxHeartbeats 8000000 in
set_option maxRecDepth 100000 in
theorem zone_Wrong.calls (k : Nat) (A0 : Option Addr) (c0 : Nat) (l0 : List (S61)) (a1 : Int) (a2 : Int) (r1 : Int) (r2 : Int) (w : World) (hr0 : Kd.C k61 w A0 l0.length l0) (hc0 : l0.length ≤ c0) (h : zone_Wrong.f k l0 a1 a2 = some (r1, r2)) :
  Calls Tryd.prog 32 #[.slice A0 l0.length c0, .int .i64 a1, .int .i64 a2] w fun e w' => e = .returned (.tuple #[.int .i64 r1, .int .i64 r2]) ∧ Below w.heap.size w w' := by
 have hu61 := Tryd.underlying61; have hu56 := Tryd.underlying56; have hu59 := Tryd.underlying59; have HR0 := Aside0.mk hr0; have HC0 := Aside0.mk hc0; clear hr0 hc0; have HB := Aside0.mk (Below.refl w.heap.size w)
 have H : (zone_Wrong.l0 k a1 a2 l0 (l0.length : Int) 0) = some (r1, r2) := h
 clear h
 have H' := Aside0.mk H
 clear H
 go_enter Tryd.func32, Tryd.ntmps32
 go_wp2
 go_loopg [12] k (fun kq v12 w' => ∃ (x12_1 : Int), v12 = .int .i64 x12_1 ∧ Aside0 (zone_Wrong.l0 kq a1 a2 l0 (l0.length : Int) x12_1 = some (r1, r2)) ∧ Aside0 (kq ≤ k) ∧ Aside0 (Below w.heap.size w w'))
 case atStart => exact ⟨(0), (by first | rfl | (simp; done) | (simp [*]; done)), H', ⟨Nat.le_refl _⟩, ⟨pbx HB⟩⟩
 case round =>
  clear H'; (try clear p2); (try clear c3); obtain ⟨x12_1, rfl, HA, HK1, HB⟩ := hrel
  cases gk with
  | zero => exact absurd HA.out (by simp [zone_Wrong.l0])
  | succ k1 =>
   have H := HA.out; clear HA
   simp only [zone_Wrong.l0] at H
   by_cases c4 : x12_1 < (l0.length : Int)
   ·rw [if_pos c4] at H; have c4b0 : decide (x12_1 < (l0.length : Int)) = true := decide_eq_true c4; clear c4
    by_cases c5 : 0 ≤ x12_1
    ·rw [if_pos c5] at H; have c5b0 : decide (0 ≤ x12_1) = true := decide_eq_true c5; clear c5
     by_cases c6 : x12_1 < (l0.length : Int)
     ·rw [if_pos c6] at H; have c6b0 : decide (x12_1 < (l0.length : Int)) = true := decide_eq_true c6; clear c6
      by_cases c7 : x12_1 ≥ 32
      ·rw [if_pos c7] at H; have c7b0 : decide (32 ≤ x12_1) = true := decide_eq_true c7; clear c7
       simp only [Option.some.injEq, Prod.mk.injEq] at H
       obtain ⟨rfl, rfl⟩ := H
       have p101 : 0 ≤ (x12_1 : Int) := of_decide_eq_true (by first | (with_reducible assumption) | assumption)
       have q101 : x12_1 < (l0.length : Int) := of_decide_eq_true (by first | (with_reducible assumption) | assumption)
       obtain ⟨ad101, e101, hx101_0, hx101_1, hx101_2, hx101_3, hx101_4, hx101_5⟩ := at_T61 HR0.out x12_1 p101 q101
       cases e101
       replace hx101_0 := (HB.out.cell (World.block_lt_of_cell? w _ hx101_0)).trans hx101_0; replace hx101_1 := (HB.out.cell (World.block_lt_of_cell? w _ hx101_1)).trans hx101_1; replace hx101_2 := (HB.out.cell (World.block_lt_of_cell? w _ hx101_2)).trans hx101_2; replace hx101_3 := (HB.out.cell (World.block_lt_of_cell? w _ hx101_3)).trans hx101_3; replace hx101_4 := (HB.out.cell (World.block_lt_of_cell? w _ hx101_4)).trans hx101_4; replace hx101_5 := (HB.out.cell (World.block_lt_of_cell? w _ hx101_5)).trans hx101_5; replace p101 := eq_true p101; replace q101 := eq_true q101
       go_wp2_with (first | ((with_reducible refine gate_dst (N:=9) rfl ?_); refine be_ (N:=9) (cs := #[.int .i64 0, .int .i64 0, .int .i64 0, .int .i64 0, .int .i64 0, .int .u64 0]) (t:=61) ?_; intro gb102 hg w8 hbox hb; have BK102 := Aside0.mk (hbox); have GW102 := hs_ HB hg; have GE102 := hs_ HB hg; replace HB := bs_ HB hb; clear hb hbox hg; have hcz9_0 : w8.cell? ⟨gb102, 0, none⟩ = some (.int .i64 0) := bc_ BK102 0 rfl; have hcz9_1 : w8.cell? ⟨gb102, 1, none⟩ = some (.int .i64 0) := bc_ BK102 1 rfl; have hcz9_2 : w8.cell? ⟨gb102, 2, none⟩ = some (.int .i64 0) := bc_ BK102 2 rfl; have hcz9_3 : w8.cell? ⟨gb102, 3, none⟩ = some (.int .i64 0) := bc_ BK102 3 rfl; have hcz9_4 : w8.cell? ⟨gb102, 4, none⟩ = some (.int .i64 0) := bc_ BK102 4 rfl; have hcz9_5 : w8.cell? ⟨gb102, 5, none⟩ = some (.int .u64 0) := bc_ BK102 5 rfl; have hfz9_0 := blk_frozen BK102.out 0; have hfz9_1 := blk_frozen BK102.out 1; have hfz9_2 := blk_frozen BK102.out 2; have hfz9_3 := blk_frozen BK102.out 3; have hfz9_4 := blk_frozen BK102.out 4; have hfz9_5 := blk_frozen BK102.out 5))
       go_ret2
       exact ⟨by first | rfl | (simp [errW_none, errW_some] <;> rfl) | (simp [*, errW_none, errW_some] <;> rfl), by repeat (first | (with_reducible first | exact HB.out | apply below_alloc | apply pw_below_drewN | apply below_drew1 | refine below_set ?_ GE102.out) | exact HB.out)⟩
      ·rw [if_neg c7] at H; have c7b0 : decide (32 ≤ x12_1) = false := decide_eq_false c7; clear c7; have HC10 := Aside0.mk H; clear H
       have p101 : 0 ≤ (x12_1 : Int) := of_decide_eq_true (by first | (with_reducible assumption) | assumption)
       have q101 : x12_1 < (l0.length : Int) := of_decide_eq_true (by first | (with_reducible assumption) | assumption)
       obtain ⟨ad101, e101, hx101_0, hx101_1, hx101_2, hx101_3, hx101_4, hx101_5⟩ := at_T61 HR0.out x12_1 p101 q101
       cases e101
       replace hx101_0 := (HB.out.cell (World.block_lt_of_cell? w _ hx101_0)).trans hx101_0; replace hx101_1 := (HB.out.cell (World.block_lt_of_cell? w _ hx101_1)).trans hx101_1; replace hx101_2 := (HB.out.cell (World.block_lt_of_cell? w _ hx101_2)).trans hx101_2; replace hx101_3 := (HB.out.cell (World.block_lt_of_cell? w _ hx101_3)).trans hx101_3; replace hx101_4 := (HB.out.cell (World.block_lt_of_cell? w _ hx101_4)).trans hx101_4; replace hx101_5 := (HB.out.cell (World.block_lt_of_cell? w _ hx101_5)).trans hx101_5; replace p101 := eq_true p101; replace q101 := eq_true q101
       go_upto_region 6 with (first | ((with_reducible refine gate_dst (N:=9) rfl ?_); refine be_ (N:=9) (cs := #[.int .i64 0, .int .i64 0, .int .i64 0, .int .i64 0, .int .i64 0, .int .u64 0]) (t:=61) ?_; intro gb102 hg w11 hbox hb; have BK102 := Aside0.mk (hbox); have GW102 := hs_ HB hg; have GE102 := hs_ HB hg; replace HB := bs_ HB hb; clear hb hbox hg; have hcz12_0 : w11.cell? ⟨gb102, 0, none⟩ = some (.int .i64 0) := bc_ BK102 0 rfl; have hcz12_1 : w11.cell? ⟨gb102, 1, none⟩ = some (.int .i64 0) := bc_ BK102 1 rfl; have hcz12_2 : w11.cell? ⟨gb102, 2, none⟩ = some (.int .i64 0) := bc_ BK102 2 rfl; have hcz12_3 : w11.cell? ⟨gb102, 3, none⟩ = some (.int .i64 0) := bc_ BK102 3 rfl; have hcz12_4 : w11.cell? ⟨gb102, 4, none⟩ = some (.int .i64 0) := bc_ BK102 4 rfl; have hcz12_5 : w11.cell? ⟨gb102, 5, none⟩ = some (.int .u64 0) := bc_ BK102 5 rfl; have hfz12_0 := blk_frozen BK102.out 0; have hfz12_1 := blk_frozen BK102.out 1; have hfz12_2 := blk_frozen BK102.out 2; have hfz12_3 := blk_frozen BK102.out 3; have hfz12_4 := blk_frozen BK102.out 4; have hfz12_5 := blk_frozen BK102.out 5))
       (try simp only [q_])
       go_cut [21] (fun v21 wc => ∃ (kq : Nat) (x21_9 : Bool), v21 = .bool x21_9 ∧ Aside0 (zone_Wrong.j1 kq a1 a2 x12_1 l0 (l0.length : Int) x12_1 x21_9 ((rd_T61 l0 x12_1).f0.f0.f0) ((rd_T61 l0 x12_1).f0.f0.f1) ((rd_T61 l0 x12_1).f0.f1.f0) ((rd_T61 l0 x12_1).f0.f1.f1) ((rd_T61 l0 x12_1).f1.f0) ((rd_T61 l0 x12_1).f1.f1) = some (r1, r2)) ∧ Aside0 (kq ≤ k1) ∧ Aside0 (wc.heap[gb102]? = some (.cells #[.int .i64 ((rd_T61 l0 x12_1).f0.f0.f0), .int .i64 ((rd_T61 l0 x12_1).f0.f0.f1), .int .i64 ((rd_T61 l0 x12_1).f0.f1.f0), .int .i64 ((rd_T61 l0 x12_1).f0.f1.f1), .int .i64 ((rd_T61 l0 x12_1).f1.f0), .int .u64 ((rd_T61 l0 x12_1).f1.f1)] 61 (0, 0))) ∧ Aside0 (Below w.heap.size w wc))
       case first =>
        have H := HC10.out; clear HC10; replace H := Option.bind_eq_some_iff.mp H; obtain ⟨t103, A130, H⟩ := H
        replace H : (if t103 = true then ((span_Straight.f ((rd_T61 l0 x12_1).f0.f0.f0) ((rd_T61 l0 x12_1).f0.f0.f1) ((rd_T61 l0 x12_1).f0.f1.f0) ((rd_T61 l0 x12_1).f0.f1.f1)).bind fun bt104 => (zone_Wrong.j1 k1 a1 a2 x12_1 l0 (l0.length : Int) x12_1 ((!(bt104.1 == ((rd_T61 l0 x12_1).f0.f0.f0)) || (!(bt104.2.1 == ((rd_T61 l0 x12_1).f0.f0.f1)))) || ((!(bt104.2.2.1 == ((rd_T61 l0 x12_1).f0.f1.f0)) || (!(bt104.2.2.2 == ((rd_T61 l0 x12_1).f0.f1.f1)))))) ((rd_T61 l0 x12_1).f0.f0.f0) ((rd_T61 l0 x12_1).f0.f0.f1) ((rd_T61 l0 x12_1).f0.f1.f0) ((rd_T61 l0 x12_1).f0.f1.f1) ((rd_T61 l0 x12_1).f1.f0) ((rd_T61 l0 x12_1).f1.f1))) else (zone_Wrong.j1 k1 a1 a2 x12_1 l0 (l0.length : Int) x12_1 true ((rd_T61 l0 x12_1).f0.f0.f0) ((rd_T61 l0 x12_1).f0.f0.f1) ((rd_T61 l0 x12_1).f0.f1.f0) ((rd_T61 l0 x12_1).f0.f1.f1) ((rd_T61 l0 x12_1).f1.f0) ((rd_T61 l0 x12_1).f1.f1))) = some (r1, r2) := H
        have A13 := Aside0.mk A130; clear A130
        by_cases c14 : t103 = true
        ·subst c14
         have H1 : ((span_Straight.f ((rd_T61 l0 x12_1).f0.f0.f0) ((rd_T61 l0 x12_1).f0.f0.f1) ((rd_T61 l0 x12_1).f0.f1.f0) ((rd_T61 l0 x12_1).f0.f1.f1)).bind fun bt104 => (zone_Wrong.j1 k1 a1 a2 x12_1 l0 (l0.length : Int) x12_1 ((!(bt104.1 == ((rd_T61 l0 x12_1).f0.f0.f0)) || (!(bt104.2.1 == ((rd_T61 l0 x12_1).f0.f0.f1)))) || ((!(bt104.2.2.1 == ((rd_T61 l0 x12_1).f0.f1.f0)) || (!(bt104.2.2.2 == ((rd_T61 l0 x12_1).f0.f1.f1)))))) ((rd_T61 l0 x12_1).f0.f0.f0) ((rd_T61 l0 x12_1).f0.f0.f1) ((rd_T61 l0 x12_1).f0.f1.f0) ((rd_T61 l0 x12_1).f0.f1.f1) ((rd_T61 l0 x12_1).f1.f0) ((rd_T61 l0 x12_1).f1.f1))) = some (r1, r2) := by rw [if_pos rfl] at H; exact H
         clear H; have H := H1; clear H1; replace H := Option.bind_eq_some_iff.mp H; obtain ⟨⟨t104, t105, t106, t107⟩, A150, H⟩ := H
         replace H : (zone_Wrong.j1 k1 a1 a2 x12_1 l0 (l0.length : Int) x12_1 ((!(t104 == ((rd_T61 l0 x12_1).f0.f0.f0)) || (!(t105 == ((rd_T61 l0 x12_1).f0.f0.f1)))) || ((!(t106 == ((rd_T61 l0 x12_1).f0.f1.f0)) || (!(t107 == ((rd_T61 l0 x12_1).f0.f1.f1)))))) ((rd_T61 l0 x12_1).f0.f0.f0) ((rd_T61 l0 x12_1).f0.f0.f1) ((rd_T61 l0 x12_1).f0.f1.f0) ((rd_T61 l0 x12_1).f0.f1.f1) ((rd_T61 l0 x12_1).f1.f0) ((rd_T61 l0 x12_1).f1.f1)) = some (r1, r2) := H
         have A15 := Aside0.mk A150; clear A150
         have H' := Aside0.mk H
         clear H
         try go_wp2
         have n0_ : Aside0 (((((((w11.setCell ⟨gb102, 0, none⟩ (.int .i64 ((rd_T61 l0 x12_1).f0.f0.f0))).setCell ⟨gb102, 1, none⟩ (.int .i64 ((rd_T61 l0 x12_1).f0.f0.f1))).setCell ⟨gb102, 2, none⟩ (.int .i64 ((rd_T61 l0 x12_1).f0.f1.f0))).setCell ⟨gb102, 3, none⟩ (.int .i64 ((rd_T61 l0 x12_1).f0.f1.f1))).setCell ⟨gb102, 4, none⟩ (.int .i64 ((rd_T61 l0 x12_1).f1.f0))).setCell ⟨gb102, 5, none⟩ (.int .u64 ((rd_T61 l0 x12_1).f1.f1))).heap[gb102]? = some (.cells #[.int .i64 ((rd_T61 l0 x12_1).f0.f0.f0), .int .i64 ((rd_T61 l0 x12_1).f0.f0.f1), .int .i64 ((rd_T61 l0 x12_1).f0.f1.f0), .int .i64 ((rd_T61 l0 x12_1).f0.f1.f1), .int .i64 ((rd_T61 l0 x12_1).f1.f0), .int .u64 ((rd_T61 l0 x12_1).f1.f1)] 61 (0, 0))) := ⟨by refine pp_ (cs := #[.int .i64 ((rd_T61 l0 x12_1).f0.f0.f0), .int .i64 ((rd_T61 l0 x12_1).f0.f0.f1), .int .i64 ((rd_T61 l0 x12_1).f0.f1.f0), .int .i64 ((rd_T61 l0 x12_1).f0.f1.f1), .int .i64 ((rd_T61 l0 x12_1).f1.f0), .int .u64 0]) 5 ?_ rfl; refine blk_put (cs := #[.int .i64 ((rd_T61 l0 x12_1).f0.f0.f0), .int .i64 ((rd_T61 l0 x12_1).f0.f0.f1), .int .i64 ((rd_T61 l0 x12_1).f0.f1.f0), .int .i64 ((rd_T61 l0 x12_1).f0.f1.f1), .int .i64 0, .int .u64 0]) ?_ 4 _ rfl; refine blk_put (cs := #[.int .i64 ((rd_T61 l0 x12_1).f0.f0.f0), .int .i64 ((rd_T61 l0 x12_1).f0.f0.f1), .int .i64 ((rd_T61 l0 x12_1).f0.f1.f0), .int .i64 0, .int .i64 0, .int .u64 0]) ?_ 3 _ rfl; refine blk_put (cs := #[.int .i64 ((rd_T61 l0 x12_1).f0.f0.f0), .int .i64 ((rd_T61 l0 x12_1).f0.f0.f1), .int .i64 0, .int .i64 0, .int .i64 0, .int .u64 0]) ?_ 2 _ rfl; refine blk_put (cs := #[.int .i64 ((rd_T61 l0 x12_1).f0.f0.f0), .int .i64 0, .int .i64 0, .int .i64 0, .int .i64 0, .int .u64 0]) ?_ 1 _ rfl; refine blk_put (cs := #[.int .i64 0, .int .i64 0, .int .i64 0, .int .i64 0, .int .i64 0, .int .u64 0]) ?_ 0 _ rfl; exact pkx BK102⟩
         have n1_ : Aside0 (Below w.heap.size w ((((((w11.setCell ⟨gb102, 0, none⟩ (.int .i64 ((rd_T61 l0 x12_1).f0.f0.f0))).setCell ⟨gb102, 1, none⟩ (.int .i64 ((rd_T61 l0 x12_1).f0.f0.f1))).setCell ⟨gb102, 2, none⟩ (.int .i64 ((rd_T61 l0 x12_1).f0.f1.f0))).setCell ⟨gb102, 3, none⟩ (.int .i64 ((rd_T61 l0 x12_1).f0.f1.f1))).setCell ⟨gb102, 4, none⟩ (.int .i64 ((rd_T61 l0 x12_1).f1.f0))).setCell ⟨gb102, 5, none⟩ (.int .u64 ((rd_T61 l0 x12_1).f1.f1)))) := ⟨by repeat (first | (with_reducible first | exact HB.out | apply below_alloc | apply pw_below_drewN | apply below_drew1 | refine below_set ?_ GE102.out) | exact HB.out)⟩; (try clear BK102); (try clear HB)
         generalize ((((((w11.setCell ⟨gb102, 0, none⟩ (.int .i64 ((rd_T61 l0 x12_1).f0.f0.f0))).setCell ⟨gb102, 1, none⟩ (.int .i64 ((rd_T61 l0 x12_1).f0.f0.f1))).setCell ⟨gb102, 2, none⟩ (.int .i64 ((rd_T61 l0 x12_1).f0.f1.f0))).setCell ⟨gb102, 3, none⟩ (.int .i64 ((rd_T61 l0 x12_1).f0.f1.f1))).setCell ⟨gb102, 4, none⟩ (.int .i64 ((rd_T61 l0 x12_1).f1.f0))).setCell ⟨gb102, 5, none⟩ (.int .u64 ((rd_T61 l0 x12_1).f1.f1))) = w16 at n0_ n1_ ⊢; have BK102 := n0_; have HB := n1_; clear n0_ n1_; (try (rw [drewN_self w16]; generalize hq_ : World.drewN w16 _ = w16; have n0_ : Aside0 (w16.heap[gb102]? = some (.cells #[.int .i64 ((rd_T61 l0 x12_1).f0.f0.f0), .int .i64 ((rd_T61 l0 x12_1).f0.f0.f1), .int .i64 ((rd_T61 l0 x12_1).f0.f1.f0), .int .i64 ((rd_T61 l0 x12_1).f0.f1.f1), .int .i64 ((rd_T61 l0 x12_1).f1.f0), .int .u64 ((rd_T61 l0 x12_1).f1.f1)] 61 (0, 0))) := ⟨by rw [← hq_]; exact (pkx BK102)⟩; have n1_ : Aside0 (Below w.heap.size w w16) := ⟨by rw [← hq_]; exact (pbx HB)⟩; clear BK102 HB hq_; have BK102 := n0_; have HB := n1_; clear n0_ n1_))
         replace BK102 := Aside0.mk (blk_drew BK102.out); replace HB := Aside0.mk (below_drew1 HB.out)
         refine start_ (n:=13) (S := fun w' => w'.cell? ⟨gb102, 0, none⟩ = some (.int .i64 ((rd_T61 l0 x12_1).f0.f0.f0)) ∧ w'.cell? ⟨gb102, 1, none⟩ = some (.int .i64 ((rd_T61 l0 x12_1).f0.f0.f1)) ∧ w'.cell? ⟨gb102, 2, none⟩ = some (.int .i64 ((rd_T61 l0 x12_1).f0.f1.f0)) ∧ w'.cell? ⟨gb102, 3, none⟩ = some (.int .i64 ((rd_T61 l0 x12_1).f0.f1.f1)) ∧ w'.cell? ⟨gb102, 4, none⟩ = some (.int .i64 ((rd_T61 l0 x12_1).f1.f0)) ∧ w'.cell? ⟨gb102, 5, none⟩ = some (.int .u64 ((rd_T61 l0 x12_1).f1.f1))) (ds := []) #[F,F,F,F,F,F,F,F,F,F,F,F,F] (by kernel_rfl) rfl rfl ⟨bc_ BK102 0 rfl, bc_ BK102 1 rfl, bc_ BK102 2 rfl, bc_ BK102 3 rfl, bc_ BK102 4 rfl, bc_ BK102 5 rfl⟩ (fun hHeld => ?_); refine with_tabW zone_Wrong.tab6 zone_Wrong.bits6 (fun HT_ HW_ => ?_)
         generalize w16.drew = w17 at BK102 HB hHeld ⊢; refine pure_ (i:=0) (N:=some 22) (v:=?_) (a':=?_) ⟨m_ 13 1⟩ rfl rfl (any_of HT_.out (by kernel_rfl)) (fun _ _ _ h=>h) (Or.inl ⟨rfl, ?_⟩) ?_ ?_; rotate_left
         ·intro w'; go_simp; with_reducible rfl
         rotate_left
         ·simp only [q_, i64_w, i32_w]; rfl
         refine take_ (i:=1) (N:=some 23) (v:=?_) (a':=?_) ⟨m_ 13 3⟩ rfl rfl (take_ofW HT_.out HW_.out (by kernel_rfl)) (fun _ _ _ h=>h) (Or.inl ⟨rfl, ?_⟩) hHeld ?_ ?_; rotate_left
         ·rintro w' ⟨s0, s1, s2, s3, s4, s5⟩; go_simp; with_reducible rfl
         rotate_left
         ·simp only [q_, i64_w, i32_w]; rfl
         refine one_ (i:=2) (N:=some 24) ⟨m_ 13 7⟩ rfl rfl (one_of HT_.out (by kernel_rfl)) (by decide) (fun K hK => ?_); refine goes_ Tryd.func38 (by kernel_rfl) rfl #[.agg #[.int .i64 ((rd_T61 l0 x12_1).f0.f0.f0), .int .i64 ((rd_T61 l0 x12_1).f0.f0.f1), .int .i64 ((rd_T61 l0 x12_1).f0.f1.f0), .int .i64 ((rd_T61 l0 x12_1).f0.f1.f1)]] (by rfl) rfl rfl (by (try simp only [List.map_toArray, List.map_cons, List.map_nil]); first | done | rfl | (simp only [List.length_drop, List.length_take]; rfl)) ?_; with_reducible refine (span_May.calls ((rd_T61 l0 x12_1).f0.f0.f0) ((rd_T61 l0 x12_1).f0.f0.f1) ((rd_T61 l0 x12_1).f0.f1.f0) ((rd_T61 l0 x12_1).f0.f1.f1) true _ A13.out).mono ?_; rintro e w18 ⟨rfl, hb⟩; refine ⟨_, rfl, ?_⟩
         replace BK102 := bb_ BK102 hb; replace HB := bs_ HB hb; (try clear hb); (try clear hb2); (try clear hk); (try clear hi); refine hK.out _ _ ⟨bc_ BK102 0 rfl, bc_ BK102 1 rfl, bc_ BK102 2 rfl, bc_ BK102 3 rfl, bc_ BK102 4 rfl, bc_ BK102 5 rfl⟩ (fun hHeld => ?_); clear hK K; refine norm_ (a':=?_) ?_ ?_; rotate_left
         ·show Act.put _ (some 24) _ = _; simp only [q_, i64_w, i32_w]; rfl
         refine pure_ (i:=3) (N:=some 25) (v:=?_) (a':=?_) ⟨m_ 13 15⟩ rfl rfl (any_of HT_.out (by kernel_rfl)) (fun _ _ _ h=>h) (Or.inl ⟨rfl, ?_⟩) ?_ ?_; rotate_left
         ·intro w'; go_simp; with_reducible rfl
         rotate_left
         ·simp only [q_, i64_w, i32_w]; rfl
         refine pure_ (i:=4) (N:=some 26) (v:=?_) (a':=?_) ⟨m_ 13 31⟩ rfl rfl (any_of HT_.out (by kernel_rfl)) (fun _ _ _ h=>h) (Or.inl ⟨rfl, ?_⟩) ?_ ?_; rotate_left
         ·intro w'; go_simp; with_reducible rfl
         rotate_left
         ·simp only [q_, i64_w, i32_w]; rfl
         refine pure_ (i:=5) (N:=some 27) (v:=?_) (a':=?_) ⟨m_ 13 63⟩ rfl rfl (any_of HT_.out (by kernel_rfl)) (fun _ _ _ h=>h) (Or.inl ⟨rfl, ?_⟩) ?_ ?_; rotate_left
         ·intro w'; go_simp; with_reducible rfl
         rotate_left
         ·simp only [q_, i64_w, i32_w]; rfl
         refine pure_ (i:=8) (N:=some 30) (v:=?_) (a':=?_) ⟨m_ 13 319⟩ rfl rfl (any_of HT_.out (by kernel_rfl)) (fun _ _ _ h=>h) (Or.inl ⟨rfl, ?_⟩) ?_ ?_; rotate_left
         ·intro w'; go_simp; with_reducible rfl
         rotate_left
         ·simp only [q_, i64_w, i32_w]; rfl
         refine take_ (i:=6) (N:=some 28) (v:=?_) (a':=?_) ⟨m_ 13 383⟩ rfl rfl (take_ofW HT_.out HW_.out (by kernel_rfl)) (fun _ _ _ h=>h) (Or.inl ⟨rfl, ?_⟩) hHeld ?_ ?_; rotate_left
         ·rintro w' ⟨s0, s1, s2, s3, s4, s5⟩; go_simp; with_reducible rfl
         rotate_left
         ·simp only [q_, i64_w, i32_w]; rfl
         refine take_ (i:=9) (N:=some 31) (v:=?_) (a':=?_) ⟨m_ 13 895⟩ rfl rfl (take_ofW HT_.out HW_.out (by kernel_rfl)) (fun _ _ _ h=>h) (Or.inl ⟨rfl, ?_⟩) hHeld ?_ ?_; rotate_left
         ·rintro w' ⟨s0, s1, s2, s3, s4, s5⟩; go_simp; with_reducible rfl
         rotate_left
         ·simp only [q_, i64_w, i32_w]; rfl
         refine one_ (i:=7) (N:=some 29) ⟨m_ 13 1023⟩ rfl rfl (one_of HT_.out (by kernel_rfl)) (by decide) (fun K hK => ?_); refine goes_ Tryd.func55 (by kernel_rfl) rfl #[.agg #[.int .i64 ((rd_T61 l0 x12_1).f0.f0.f0), .int .i64 ((rd_T61 l0 x12_1).f0.f0.f1), .int .i64 ((rd_T61 l0 x12_1).f0.f1.f0), .int .i64 ((rd_T61 l0 x12_1).f0.f1.f1)]] (by rfl) rfl rfl (by (try simp only [List.map_toArray, List.map_cons, List.map_nil]); first | done | rfl | (simp only [List.length_drop, List.length_take]; rfl)) ?_; with_reducible refine (span_Straight.calls ((rd_T61 l0 x12_1).f0.f0.f0) ((rd_T61 l0 x12_1).f0.f0.f1) ((rd_T61 l0 x12_1).f0.f1.f0) ((rd_T61 l0 x12_1).f0.f1.f1) t104 t105 t106 t107 _ A15.out).mono ?_; rintro e w19 ⟨rfl, hb⟩; refine ⟨_, rfl, ?_⟩
         replace BK102 := bb_ BK102 hb; replace HB := bs_ HB hb; (try clear hb); (try clear hb2); (try clear hk); (try clear hi); refine hK.out _ _ ⟨bc_ BK102 0 rfl, bc_ BK102 1 rfl, bc_ BK102 2 rfl, bc_ BK102 3 rfl, bc_ BK102 4 rfl, bc_ BK102 5 rfl⟩ (fun hHeld => ?_); clear hK K; refine norm_ (a':=?_) ?_ ?_; rotate_left
         ·show Act.put _ (some 29) _ = _; simp only [q_, i64_w, i32_w]; rfl
         refine pure_ (i:=10) (N:=some 32) (v:=?_) (a':=?_) ⟨m_ 13 2047⟩ rfl rfl (any_of HT_.out (by kernel_rfl)) (fun _ _ _ h=>h) (Or.inl ⟨rfl, ?_⟩) ?_ ?_; rotate_left
         ·intro w'; go_simp; with_reducible rfl
         rotate_left
         ·simp only [q_, i64_w, i32_w]; rfl
         refine pure_ (i:=11) (N:=some 33) (v:=?_) (a':=?_) ⟨m_ 13 4095⟩ rfl rfl (any_of HT_.out (by kernel_rfl)) (fun _ _ _ h=>h) (Or.inl ⟨rfl, ?_⟩) ?_ ?_; rotate_left
         ·intro w'; go_simp; with_reducible rfl
         rotate_left
         ·simp only [q_, i64_w, i32_w]; rfl
         refine pure_ (i:=12) (N:=some 21) (v:=?_) (a':=?_) ⟨m_ 13 8191⟩ rfl rfl (any_of HT_.out (by kernel_rfl)) (fun _ _ _ h=>h) (Or.inl ⟨rfl, ?_⟩) ?_ ?_; rotate_left
         ·intro w'; go_simp; with_reducible rfl
         rotate_left
         ·simp only [q_, i64_w, i32_w]; rfl
         refine done_ (done_of HT_.out (by kernel_rfl)) ?_
         try go_wp2
         go_meet
         case rel => exact ⟨_, (((!(t104 == ((rd_T61 l0 x12_1).f0.f0.f0)) || (!(t105 == ((rd_T61 l0 x12_1).f0.f0.f1)))) || ((!(t106 == ((rd_T61 l0 x12_1).f0.f1.f0)) || (!(t107 == ((rd_T61 l0 x12_1).f0.f1.f1))))))), (by first | rfl | (simp; done) | (simp [*]; done) | (cases t104 <;> simp; done) | (cases t105 <;> simp; done) | (cases t106 <;> simp; done)), H', ⟨by have := HK1.out; first | omega | exact Nat.le_refl _⟩, ⟨pkx BK102⟩, ⟨pbx HB⟩⟩
        ·replace c14 := Bool.eq_false_iff.mpr c14; subst c14
         have H1 : (zone_Wrong.j1 k1 a1 a2 x12_1 l0 (l0.length : Int) x12_1 true ((rd_T61 l0 x12_1).f0.f0.f0) ((rd_T61 l0 x12_1).f0.f0.f1) ((rd_T61 l0 x12_1).f0.f1.f0) ((rd_T61 l0 x12_1).f0.f1.f1) ((rd_T61 l0 x12_1).f1.f0) ((rd_T61 l0 x12_1).f1.f1)) = some (r1, r2) := by rw [if_neg (show ¬ (false = true) by decide)] at H; exact H
         clear H; have H := H1; clear H1
         have H' := Aside0.mk H
         clear H
         try go_wp2
         have n0_ : Aside0 (((((((w11.setCell ⟨gb102, 0, none⟩ (.int .i64 ((rd_T61 l0 x12_1).f0.f0.f0))).setCell ⟨gb102, 1, none⟩ (.int .i64 ((rd_T61 l0 x12_1).f0.f0.f1))).setCell ⟨gb102, 2, none⟩ (.int .i64 ((rd_T61 l0 x12_1).f0.f1.f0))).setCell ⟨gb102, 3, none⟩ (.int .i64 ((rd_T61 l0 x12_1).f0.f1.f1))).setCell ⟨gb102, 4, none⟩ (.int .i64 ((rd_T61 l0 x12_1).f1.f0))).setCell ⟨gb102, 5, none⟩ (.int .u64 ((rd_T61 l0 x12_1).f1.f1))).heap[gb102]? = some (.cells #[.int .i64 ((rd_T61 l0 x12_1).f0.f0.f0), .int .i64 ((rd_T61 l0 x12_1).f0.f0.f1), .int .i64 ((rd_T61 l0 x12_1).f0.f1.f0), .int .i64 ((rd_T61 l0 x12_1).f0.f1.f1), .int .i64 ((rd_T61 l0 x12_1).f1.f0), .int .u64 ((rd_T61 l0 x12_1).f1.f1)] 61 (0, 0))) := ⟨by refine pp_ (cs := #[.int .i64 ((rd_T61 l0 x12_1).f0.f0.f0), .int .i64 ((rd_T61 l0 x12_1).f0.f0.f1), .int .i64 ((rd_T61 l0 x12_1).f0.f1.f0), .int .i64 ((rd_T61 l0 x12_1).f0.f1.f1), .int .i64 ((rd_T61 l0 x12_1).f1.f0), .int .u64 0]) 5 ?_ rfl; refine blk_put (cs := #[.int .i64 ((rd_T61 l0 x12_1).f0.f0.f0), .int .i64 ((rd_T61 l0 x12_1).f0.f0.f1), .int .i64 ((rd_T61 l0 x12_1).f0.f1.f0), .int .i64 ((rd_T61 l0 x12_1).f0.f1.f1), .int .i64 0, .int .u64 0]) ?_ 4 _ rfl; refine blk_put (cs := #[.int .i64 ((rd_T61 l0 x12_1).f0.f0.f0), .int .i64 ((rd_T61 l0 x12_1).f0.f0.f1), .int .i64 ((rd_T61 l0 x12_1).f0.f1.f0), .int .i64 0, .int .i64 0, .int .u64 0]) ?_ 3 _ rfl; refine blk_put (cs := #[.int .i64 ((rd_T61 l0 x12_1).f0.f0.f0), .int .i64 ((rd_T61 l0 x12_1).f0.f0.f1), .int .i64 0, .int .i64 0, .int .i64 0, .int .u64 0]) ?_ 2 _ rfl; refine blk_put (cs := #[.int .i64 ((rd_T61 l0 x12_1).f0.f0.f0), .int .i64 0, .int .i64 0, .int .i64 0, .int .i64 0, .int .u64 0]) ?_ 1 _ rfl; refine blk_put (cs := #[.int .i64 0, .int .i64 0, .int .i64 0, .int .i64 0, .int .i64 0, .int .u64 0]) ?_ 0 _ rfl; exact pkx BK102⟩
         have n1_ : Aside0 (Below w.heap.size w ((((((w11.setCell ⟨gb102, 0, none⟩ (.int .i64 ((rd_T61 l0 x12_1).f0.f0.f0))).setCell ⟨gb102, 1, none⟩ (.int .i64 ((rd_T61 l0 x12_1).f0.f0.f1))).setCell ⟨gb102, 2, none⟩ (.int .i64 ((rd_T61 l0 x12_1).f0.f1.f0))).setCell ⟨gb102, 3, none⟩ (.int .i64 ((rd_T61 l0 x12_1).f0.f1.f1))).setCell ⟨gb102, 4, none⟩ (.int .i64 ((rd_T61 l0 x12_1).f1.f0))).setCell ⟨gb102, 5, none⟩ (.int .u64 ((rd_T61 l0 x12_1).f1.f1)))) := ⟨by repeat (first | (with_reducible first | exact HB.out | apply below_alloc | apply pw_below_drewN | apply below_drew1 | refine below_set ?_ GE102.out) | exact HB.out)⟩; (try clear BK102); (try clear HB)
         generalize ((((((w11.setCell ⟨gb102, 0, none⟩ (.int .i64 ((rd_T61 l0 x12_1).f0.f0.f0))).setCell ⟨gb102, 1, none⟩ (.int .i64 ((rd_T61 l0 x12_1).f0.f0.f1))).setCell ⟨gb102, 2, none⟩ (.int .i64 ((rd_T61 l0 x12_1).f0.f1.f0))).setCell ⟨gb102, 3, none⟩ (.int .i64 ((rd_T61 l0 x12_1).f0.f1.f1))).setCell ⟨gb102, 4, none⟩ (.int .i64 ((rd_T61 l0 x12_1).f1.f0))).setCell ⟨gb102, 5, none⟩ (.int .u64 ((rd_T61 l0 x12_1).f1.f1))) = w20 at n0_ n1_ ⊢; have BK102 := n0_; have HB := n1_; clear n0_ n1_; (try (rw [drewN_self w20]; generalize hq_ : World.drewN w20 _ = w20; have n0_ : Aside0 (w20.heap[gb102]? = some (.cells #[.int .i64 ((rd_T61 l0 x12_1).f0.f0.f0), .int .i64 ((rd_T61 l0 x12_1).f0.f0.f1), .int .i64 ((rd_T61 l0 x12_1).f0.f1.f0), .int .i64 ((rd_T61 l0 x12_1).f0.f1.f1), .int .i64 ((rd_T61 l0 x12_1).f1.f0), .int .u64 ((rd_T61 l0 x12_1).f1.f1)] 61 (0, 0))) := ⟨by rw [← hq_]; exact (pkx BK102)⟩; have n1_ : Aside0 (Below w.heap.size w w20) := ⟨by rw [← hq_]; exact (pbx HB)⟩; clear BK102 HB hq_; have BK102 := n0_; have HB := n1_; clear n0_ n1_))
         replace BK102 := Aside0.mk (blk_drew BK102.out); replace HB := Aside0.mk (below_drew1 HB.out)
         refine start_ (n:=13) (S := fun w' => w'.cell? ⟨gb102, 0, none⟩ = some (.int .i64 ((rd_T61 l0 x12_1).f0.f0.f0)) ∧ w'.cell? ⟨gb102, 1, none⟩ = some (.int .i64 ((rd_T61 l0 x12_1).f0.f0.f1)) ∧ w'.cell? ⟨gb102, 2, none⟩ = some (.int .i64 ((rd_T61 l0 x12_1).f0.f1.f0)) ∧ w'.cell? ⟨gb102, 3, none⟩ = some (.int .i64 ((rd_T61 l0 x12_1).f0.f1.f1)) ∧ w'.cell? ⟨gb102, 4, none⟩ = some (.int .i64 ((rd_T61 l0 x12_1).f1.f0)) ∧ w'.cell? ⟨gb102, 5, none⟩ = some (.int .u64 ((rd_T61 l0 x12_1).f1.f1))) (ds := []) #[F,F,F,F,F,F,F,F,F,F,F,F,F] (by kernel_rfl) rfl rfl ⟨bc_ BK102 0 rfl, bc_ BK102 1 rfl, bc_ BK102 2 rfl, bc_ BK102 3 rfl, bc_ BK102 4 rfl, bc_ BK102 5 rfl⟩ (fun hHeld => ?_); refine with_tabW zone_Wrong.tab6 zone_Wrong.bits6 (fun HT_ HW_ => ?_)
         generalize w20.drew = w21 at BK102 HB hHeld ⊢; refine pure_ (i:=0) (N:=some 22) (v:=?_) (a':=?_) ⟨m_ 13 1⟩ rfl rfl (any_of HT_.out (by kernel_rfl)) (fun _ _ _ h=>h) (Or.inl ⟨rfl, ?_⟩) ?_ ?_; rotate_left
         ·intro w'; go_simp; with_reducible rfl
         rotate_left
         ·simp only [q_, i64_w, i32_w]; rfl
         refine take_ (i:=1) (N:=some 23) (v:=?_) (a':=?_) ⟨m_ 13 3⟩ rfl rfl (take_ofW HT_.out HW_.out (by kernel_rfl)) (fun _ _ _ h=>h) (Or.inl ⟨rfl, ?_⟩) hHeld ?_ ?_; rotate_left
         ·rintro w' ⟨s0, s1, s2, s3, s4, s5⟩; go_simp; with_reducible rfl
         rotate_left
         ·simp only [q_, i64_w, i32_w]; rfl
         refine one_ (i:=2) (N:=some 24) ⟨m_ 13 7⟩ rfl rfl (one_of HT_.out (by kernel_rfl)) (by decide) (fun K hK => ?_); refine goes_ Tryd.func38 (by kernel_rfl) rfl #[.agg #[.int .i64 ((rd_T61 l0 x12_1).f0.f0.f0), .int .i64 ((rd_T61 l0 x12_1).f0.f0.f1), .int .i64 ((rd_T61 l0 x12_1).f0.f1.f0), .int .i64 ((rd_T61 l0 x12_1).f0.f1.f1)]] (by rfl) rfl rfl (by (try simp only [List.map_toArray, List.map_cons, List.map_nil]); first | done | rfl | (simp only [List.length_drop, List.length_take]; rfl)) ?_; with_reducible refine (span_May.calls ((rd_T61 l0 x12_1).f0.f0.f0) ((rd_T61 l0 x12_1).f0.f0.f1) ((rd_T61 l0 x12_1).f0.f1.f0) ((rd_T61 l0 x12_1).f0.f1.f1) false _ A13.out).mono ?_; rintro e w22 ⟨rfl, hb⟩; refine ⟨_, rfl, ?_⟩
         replace BK102 := bb_ BK102 hb; replace HB := bs_ HB hb; (try clear hb); (try clear hb2); (try clear hk); (try clear hi); refine hK.out _ _ ⟨bc_ BK102 0 rfl, bc_ BK102 1 rfl, bc_ BK102 2 rfl, bc_ BK102 3 rfl, bc_ BK102 4 rfl, bc_ BK102 5 rfl⟩ (fun hHeld => ?_); clear hK K; refine norm_ (a':=?_) ?_ ?_; rotate_left
         ·show Act.put _ (some 24) _ = _; simp only [q_, i64_w, i32_w]; rfl
         refine pure_ (i:=3) (N:=some 25) (v:=?_) (a':=?_) ⟨m_ 13 15⟩ rfl rfl (any_of HT_.out (by kernel_rfl)) (fun _ _ _ h=>h) (Or.inl ⟨rfl, ?_⟩) ?_ ?_; rotate_left
         ·intro w'; go_simp; with_reducible rfl
         rotate_left
         ·simp only [q_, i64_w, i32_w]; rfl
         refine pure_ (i:=4) (N:=some 26) (v:=?_) (a':=?_) ⟨m_ 13 31⟩ rfl rfl (any_of HT_.out (by kernel_rfl)) (fun _ _ _ h=>h) (Or.inl ⟨rfl, ?_⟩) ?_ ?_; rotate_left
         ·intro w'; go_simp; with_reducible rfl
         rotate_left
         ·simp only [q_, i64_w, i32_w]; rfl
         refine pure_ (i:=5) (N:=some 27) (v:=undef) (a':=?_) ⟨m_ 13 63⟩ rfl rfl (any_of HT_.out (by kernel_rfl)) (fun _ _ _ h=>h) (Or.inr ⟨by rfl, rfl⟩) ?_ ?_; rotate_left
         ·simp only [q_, i64_w, i32_w]; rfl
         refine pure_ (i:=6) (N:=some 28) (v:=undef) (a':=?_) ⟨m_ 13 127⟩ rfl rfl (any_of HT_.out (by kernel_rfl)) (fun _ _ _ h=>h) (Or.inr ⟨by rfl, rfl⟩) ?_ ?_; rotate_left
         ·simp only [q_, i64_w, i32_w]; rfl
         refine pure_ (i:=7) (N:=some 29) (v:=undef) (a':=?_) ⟨m_ 13 255⟩ rfl rfl (any_of HT_.out (by kernel_rfl)) (fun _ _ _ h=>h) (Or.inr ⟨by rfl, rfl⟩) ?_ ?_; rotate_left
         ·simp only [q_, i64_w, i32_w]; rfl
         refine pure_ (i:=8) (N:=some 30) (v:=undef) (a':=?_) ⟨m_ 13 511⟩ rfl rfl (any_of HT_.out (by kernel_rfl)) (fun _ _ _ h=>h) (Or.inr ⟨by rfl, rfl⟩) ?_ ?_; rotate_left
         ·simp only [q_, i64_w, i32_w]; rfl
         refine pure_ (i:=9) (N:=some 31) (v:=undef) (a':=?_) ⟨m_ 13 1023⟩ rfl rfl (any_of HT_.out (by kernel_rfl)) (fun _ _ _ h=>h) (Or.inr ⟨by rfl, rfl⟩) ?_ ?_; rotate_left
         ·simp only [q_, i64_w, i32_w]; rfl
         refine pure_ (i:=10) (N:=some 32) (v:=undef) (a':=?_) ⟨m_ 13 2047⟩ rfl rfl (any_of HT_.out (by kernel_rfl)) (fun _ _ _ h=>h) (Or.inr ⟨by rfl, rfl⟩) ?_ ?_; rotate_left
         ·simp only [q_, i64_w, i32_w]; rfl
         refine pure_ (i:=11) (N:=some 33) (v:=?_) (a':=?_) ⟨m_ 13 4095⟩ rfl rfl (any_of HT_.out (by kernel_rfl)) (fun _ _ _ h=>h) (Or.inl ⟨rfl, ?_⟩) ?_ ?_; rotate_left
         ·intro w'; go_simp; with_reducible rfl
         rotate_left
         ·simp only [q_, i64_w, i32_w]; rfl
         refine pure_ (i:=12) (N:=some 21) (v:=?_) (a':=?_) ⟨m_ 13 8191⟩ rfl rfl (any_of HT_.out (by kernel_rfl)) (fun _ _ _ h=>h) (Or.inl ⟨rfl, ?_⟩) ?_ ?_; rotate_left
         ·intro w'; go_simp; with_reducible rfl
         rotate_left
         ·simp only [q_, i64_w, i32_w]; rfl
         refine done_ (done_of HT_.out (by kernel_rfl)) ?_
         try go_wp2
         go_meet
         case rel => exact ⟨_, (true), (by first | rfl | (simp; done) | (simp [*]; done)), H', ⟨by have := HK1.out; first | omega | exact Nat.le_refl _⟩, ⟨pkx BK102⟩, ⟨pbx HB⟩⟩
       case rest =>
        clear HC10; (try clear c1); (try clear p1); (try clear q1); (try clear hx1); (try clear p2); (try clear c3); (try clear c4); (try clear c4b0); (try clear c5); (try clear c5b0); (try clear c6); (try clear c6b0); (try clear c7); (try clear c7b0); (try clear p10); (try clear q10); (try clear hx10); (try clear c14); (try clear hcz12_0); (try clear hcz12_1); (try clear hcz12_2); (try clear hcz12_3); (try clear hcz12_4); (try clear hcz12_5); (try clear hcz9_0); (try clear hcz9_1); (try clear hcz9_2); (try clear hcz9_3); (try clear hcz9_4); (try clear hcz9_5); (try clear hfz12_0); (try clear hfz12_1); (try clear hfz12_2); (try clear hfz12_3); (try clear hfz12_4); (try clear hfz12_5); (try clear hfz9_0); (try clear hfz9_1); (try clear hfz9_2); (try clear hfz9_3); (try clear hfz9_4); (try clear hfz9_5); (try clear hx101_0); (try clear hx101_1); (try clear hx101_2); (try clear hx101_3); (try clear hx101_4)
        (try clear hx101_5); (try clear p101); (try clear p2); (try clear q101); obtain ⟨kq, x21_9, rfl, HA, HJ9, BK102, HB⟩ := hcut
        cases kq with
        | zero => exact absurd HA.out (by simp [zone_Wrong.j1])
        | succ kj9 =>
         have H := HA.out; clear HA
         simp only [zone_Wrong.j1] at H
         by_cases c23 : x21_9 = true
         ·subst c23
          have H1 : (some (x12_1, 1)) = some (r1, r2) := by rw [if_pos rfl] at H; exact H
          clear H; have H := H1; clear H1
          simp only [Option.some.injEq, Prod.mk.injEq] at H
          obtain ⟨rfl, rfl⟩ := H
          go_wp2
          go_ret2
          exact ⟨by first | rfl | (simp [errW_none, errW_some] <;> rfl) | (simp [*, errW_none, errW_some] <;> rfl), pbx HB⟩
         ·replace c23 := Bool.eq_false_iff.mpr c23; subst c23
          have H1 : (if ((rd_T61 l0 x12_1).f0.f1.f0) ≥ a1 then (zone_Wrong.j2 kj9 a1 a2 x12_1 l0 (l0.length : Int) x12_1 true ((rd_T61 l0 x12_1).f0.f0.f0) ((rd_T61 l0 x12_1).f0.f0.f1) ((rd_T61 l0 x12_1).f0.f1.f0) ((rd_T61 l0 x12_1).f0.f1.f1) ((rd_T61 l0 x12_1).f1.f0) ((rd_T61 l0 x12_1).f1.f1)) else (zone_Wrong.j2 kj9 a1 a2 x12_1 l0 (l0.length : Int) x12_1 (decide (((rd_T61 l0 x12_1).f0.f1.f1) ≥ a2)) ((rd_T61 l0 x12_1).f0.f0.f0) ((rd_T61 l0 x12_1).f0.f0.f1) ((rd_T61 l0 x12_1).f0.f1.f0) ((rd_T61 l0 x12_1).f0.f1.f1) ((rd_T61 l0 x12_1).f1.f0) ((rd_T61 l0 x12_1).f1.f1))) = some (r1, r2) := by rw [if_neg (show ¬ (false = true) by decide)] at H; exact H
          clear H; have H := H1; clear H1; have HC24 := Aside0.mk H; clear H
          go_upto_region 8 with (fail)
          go_cut [35] (fun v35 wc => ∃ (kq : Nat) (x35_23 : Bool), v35 = .bool x35_23 ∧ Aside0 (zone_Wrong.j2 kq a1 a2 x12_1 l0 (l0.length : Int) x12_1 x35_23 ((rd_T61 l0 x12_1).f0.f0.f0) ((rd_T61 l0 x12_1).f0.f0.f1) ((rd_T61 l0 x12_1).f0.f1.f0) ((rd_T61 l0 x12_1).f0.f1.f1) ((rd_T61 l0 x12_1).f1.f0) ((rd_T61 l0 x12_1).f1.f1) = some (r1, r2)) ∧ Aside0 (kq ≤ kj9) ∧ Aside0 (wc.heap[gb102]? = some (.cells #[.int .i64 ((rd_T61 l0 x12_1).f0.f0.f0), .int .i64 ((rd_T61 l0 x12_1).f0.f0.f1), .int .i64 ((rd_T61 l0 x12_1).f0.f1.f0), .int .i64 ((rd_T61 l0 x12_1).f0.f1.f1), .int .i64 ((rd_T61 l0 x12_1).f1.f0), .int .u64 ((rd_T61 l0 x12_1).f1.f1)] 61 (0, 0))) ∧ Aside0 (Below w.heap.size w wc))
          case first =>
           have H := HC24.out; clear HC24
           by_cases c25 : ((rd_T61 l0 x12_1).f0.f1.f0) ≥ a1
           ·rw [if_pos c25] at H; have c25b0 : decide (a1 ≤ ((rd_T61 l0 x12_1).f0.f1.f0)) = true := decide_eq_true c25; clear c25; (first | rw [c25b0] | (simp only [i64_w, i32_w]; rw [c25b0]) | skip)
            have H' := Aside0.mk H
            clear H
            have hcz26_0 : wc.cell? ⟨gb102, 0, none⟩ = some (.int .i64 ((rd_T61 l0 x12_1).f0.f0.f0)) := bc_ BK102 0 rfl
            have hcz26_1 : wc.cell? ⟨gb102, 1, none⟩ = some (.int .i64 ((rd_T61 l0 x12_1).f0.f0.f1)) := bc_ BK102 1 rfl
            have hcz26_2 : wc.cell? ⟨gb102, 2, none⟩ = some (.int .i64 ((rd_T61 l0 x12_1).f0.f1.f0)) := bc_ BK102 2 rfl
            have hcz26_3 : wc.cell? ⟨gb102, 3, none⟩ = some (.int .i64 ((rd_T61 l0 x12_1).f0.f1.f1)) := bc_ BK102 3 rfl
            have hcz26_4 : wc.cell? ⟨gb102, 4, none⟩ = some (.int .i64 ((rd_T61 l0 x12_1).f1.f0)) := bc_ BK102 4 rfl
            have hcz26_5 : wc.cell? ⟨gb102, 5, none⟩ = some (.int .u64 ((rd_T61 l0 x12_1).f1.f1)) := bc_ BK102 5 rfl
            have hfz26_0 := blk_frozen BK102.out 0; have hfz26_1 := blk_frozen BK102.out 1; have hfz26_2 := blk_frozen BK102.out 2; have hfz26_3 := blk_frozen BK102.out 3; have hfz26_4 := blk_frozen BK102.out 4; have hfz26_5 := blk_frozen BK102.out 5
            go_wp2
            go_meet
            case rel => exact ⟨_, (true), (by first | rfl | (simp; done) | (simp [*]; done)), H', ⟨by have := HK1.out; have := HJ9.out; first | omega | exact Nat.le_refl _⟩, ⟨pkx BK102⟩, ⟨pbx HB⟩⟩
           ·rw [if_neg c25] at H; have c25b0 : decide (a1 ≤ ((rd_T61 l0 x12_1).f0.f1.f0)) = false := decide_eq_false c25; clear c25; (first | rw [c25b0] | (simp only [i64_w, i32_w]; rw [c25b0]) | skip)
            have H' := Aside0.mk H
            clear H
            have hcz27_0 : wc.cell? ⟨gb102, 0, none⟩ = some (.int .i64 ((rd_T61 l0 x12_1).f0.f0.f0)) := bc_ BK102 0 rfl
            have hcz27_1 : wc.cell? ⟨gb102, 1, none⟩ = some (.int .i64 ((rd_T61 l0 x12_1).f0.f0.f1)) := bc_ BK102 1 rfl
            have hcz27_2 : wc.cell? ⟨gb102, 2, none⟩ = some (.int .i64 ((rd_T61 l0 x12_1).f0.f1.f0)) := bc_ BK102 2 rfl
            have hcz27_3 : wc.cell? ⟨gb102, 3, none⟩ = some (.int .i64 ((rd_T61 l0 x12_1).f0.f1.f1)) := bc_ BK102 3 rfl
            have hcz27_4 : wc.cell? ⟨gb102, 4, none⟩ = some (.int .i64 ((rd_T61 l0 x12_1).f1.f0)) := bc_ BK102 4 rfl
            have hcz27_5 : wc.cell? ⟨gb102, 5, none⟩ = some (.int .u64 ((rd_T61 l0 x12_1).f1.f1)) := bc_ BK102 5 rfl
            have hfz27_0 := blk_frozen BK102.out 0; have hfz27_1 := blk_frozen BK102.out 1; have hfz27_2 := blk_frozen BK102.out 2; have hfz27_3 := blk_frozen BK102.out 3; have hfz27_4 := blk_frozen BK102.out 4; have hfz27_5 := blk_frozen BK102.out 5
            go_wp2
            go_meet
            case rel => exact ⟨_, (decide (((rd_T61 l0 x12_1).f0.f1.f1) ≥ a2)), (by first | rfl | (simp; done) | (simp [*]; done)), H', ⟨by have := HK1.out; have := HJ9.out; first | omega | exact Nat.le_refl _⟩, ⟨pkx BK102⟩, ⟨pbx HB⟩⟩
          case rest =>
           clear HC24; (try clear c1); (try clear p1); (try clear q1); (try clear hx1); (try clear c2); (try clear p2); (try clear c3); (try clear c4); (try clear c4b0); (try clear c5); (try clear c5b0); (try clear c6); (try clear c6b0); (try clear c7); (try clear c7b0); (try clear p10); (try clear q10); (try clear hx10); (try clear c14); (try clear c23); (try clear c25); (try clear c25b0); (try clear hcz12_0); (try clear hcz12_1); (try clear hcz12_2); (try clear hcz12_3); (try clear hcz12_4); (try clear hcz12_5); (try clear hcz26_0); (try clear hcz26_1); (try clear hcz26_2); (try clear hcz26_3); (try clear hcz26_4); (try clear hcz26_5); (try clear hcz27_0); (try clear hcz27_1); (try clear hcz27_2); (try clear hcz27_3); (try clear hcz27_4); (try clear hcz27_5); (try clear hcz9_0); (try clear hcz9_1); (try clear hcz9_2); (try clear hcz9_3); (try clear hcz9_4); (try clear hcz9_5); (try clear hfz12_0)
           (try clear hfz12_1); (try clear hfz12_2); (try clear hfz12_3); (try clear hfz12_4); (try clear hfz12_5); (try clear hfz26_0); (try clear hfz26_1); (try clear hfz26_2); (try clear hfz26_3); (try clear hfz26_4); (try clear hfz26_5); (try clear hfz27_0); (try clear hfz27_1); (try clear hfz27_2); (try clear hfz27_3); (try clear hfz27_4); (try clear hfz27_5); (try clear hfz9_0); (try clear hfz9_1); (try clear hfz9_2); (try clear hfz9_3); (try clear hfz9_4); (try clear hfz9_5); (try clear hx101_0); (try clear hx101_1); (try clear hx101_2); (try clear hx101_3); (try clear hx101_4); (try clear hx101_5); (try clear p1); (try clear p10); (try clear p101); (try clear p2); (try clear q1); (try clear q10); (try clear q101); obtain ⟨kq, x35_23, rfl, HA, HJ23, BK102, HB⟩ := hcut
           cases kq with
           | zero => exact absurd HA.out (by simp [zone_Wrong.j2])
           | succ kj23 =>
            have H := HA.out; clear HA
            simp only [zone_Wrong.j2] at H
            by_cases c28 : x35_23 = true
            ·subst c28
             have H1 : (some (x12_1, 2)) = some (r1, r2) := by rw [if_pos rfl] at H; exact H
             clear H; have H := H1; clear H1
             simp only [Option.some.injEq, Prod.mk.injEq] at H
             obtain ⟨rfl, rfl⟩ := H
             go_wp2
             go_ret2
             exact ⟨by first | rfl | (simp [errW_none, errW_some] <;> rfl) | (simp [*, errW_none, errW_some] <;> rfl), pbx HB⟩
            ·replace c28 := Bool.eq_false_iff.mpr c28; subst c28
             have H1 : ((label_May.f ((rd_T61 l0 x12_1).f1.f0) ((rd_T61 l0 x12_1).f1.f1)).bind fun t108 => (if t108 = true then (zone_Wrong.l0 kj23 a1 a2 l0 (l0.length : Int) (wrap64 (x12_1 + 1))) else (some (x12_1, 7)))) = some (r1, r2) := by rw [if_neg (show ¬ (false = true) by decide)] at H; exact H
             clear H; have H := H1; clear H1; replace H := Option.bind_eq_some_iff.mp H; obtain ⟨t108, A290, H⟩ := H
             replace H : (if t108 = true then (zone_Wrong.l0 kj23 a1 a2 l0 (l0.length : Int) (wrap64 (x12_1 + 1))) else (some (x12_1, 7))) = some (r1, r2) := H
             have A29 := Aside0.mk A290; clear A290
             by_cases c30 : t108 = true
             ·subst c30
              have H1 : (zone_Wrong.l0 kj23 a1 a2 l0 (l0.length : Int) (wrap64 (x12_1 + 1))) = some (r1, r2) := by rw [if_pos rfl] at H; exact H
              clear H; have H := H1; clear H1
              have H' := Aside0.mk H
              clear H
              have hcz31_0 : wc.cell? ⟨gb102, 0, none⟩ = some (.int .i64 ((rd_T61 l0 x12_1).f0.f0.f0)) := bc_ BK102 0 rfl
              have hcz31_1 : wc.cell? ⟨gb102, 1, none⟩ = some (.int .i64 ((rd_T61 l0 x12_1).f0.f0.f1)) := bc_ BK102 1 rfl
              have hcz31_2 : wc.cell? ⟨gb102, 2, none⟩ = some (.int .i64 ((rd_T61 l0 x12_1).f0.f1.f0)) := bc_ BK102 2 rfl
              have hcz31_3 : wc.cell? ⟨gb102, 3, none⟩ = some (.int .i64 ((rd_T61 l0 x12_1).f0.f1.f1)) := bc_ BK102 3 rfl
              have hcz31_4 : wc.cell? ⟨gb102, 4, none⟩ = some (.int .i64 ((rd_T61 l0 x12_1).f1.f0)) := bc_ BK102 4 rfl
              have hcz31_5 : wc.cell? ⟨gb102, 5, none⟩ = some (.int .u64 ((rd_T61 l0 x12_1).f1.f1)) := bc_ BK102 5 rfl
              have hfz31_0 := blk_frozen BK102.out 0; have hfz31_1 := blk_frozen BK102.out 1; have hfz31_2 := blk_frozen BK102.out 2; have hfz31_3 := blk_frozen BK102.out 3; have hfz31_4 := blk_frozen BK102.out 4; have hfz31_5 := blk_frozen BK102.out 5
              go_wp2_with (first | ((with_reducible refine gate_callee (f:=40) rfl ?_); refine gL_ (some 54) rfl rfl Tryd.func40 rfl #[.agg #[.int .i64 ((rd_T61 l0 x12_1).f1.f0), .int .u64 ((rd_T61 l0 x12_1).f1.f1)]] rfl ?_; (with_reducible refine (label_May.calls ((rd_T61 l0 x12_1).f1.f0) ((rd_T61 l0 x12_1).f1.f1) true _ A29.out).mono ?_); rintro e w32 ⟨rfl, hb⟩; refine ⟨_, rfl, ?_⟩; replace BK102 := bb_ BK102 hb; replace HB := bs_ HB hb; (try clear hb); (try clear hb2); (try clear hk); (try clear hi)))
              go_roundg kj23
              case measure => have := HK1.out; have := HJ9.out; have := HJ23.out; omega
              case rel => exact ⟨(wrap64 (x12_1 + 1)), (by first | rfl | (simp; done) | (simp [*]; done)), H', ⟨by have := HK1.out; have := HJ9.out; have := HJ23.out; omega⟩, ⟨pbx HB⟩⟩
             ·replace c30 := Bool.eq_false_iff.mpr c30; subst c30
              have H1 : (some (x12_1, 7)) = some (r1, r2) := by rw [if_neg (show ¬ (false = true) by decide)] at H; exact H
              clear H; have H := H1; clear H1
              simp only [Option.some.injEq, Prod.mk.injEq] at H
              obtain ⟨rfl, rfl⟩ := H
              have hcz33_0 : wc.cell? ⟨gb102, 0, none⟩ = some (.int .i64 ((rd_T61 l0 x12_1).f0.f0.f0)) := bc_ BK102 0 rfl
              have hcz33_1 : wc.cell? ⟨gb102, 1, none⟩ = some (.int .i64 ((rd_T61 l0 x12_1).f0.f0.f1)) := bc_ BK102 1 rfl
              have hcz33_2 : wc.cell? ⟨gb102, 2, none⟩ = some (.int .i64 ((rd_T61 l0 x12_1).f0.f1.f0)) := bc_ BK102 2 rfl
              have hcz33_3 : wc.cell? ⟨gb102, 3, none⟩ = some (.int .i64 ((rd_T61 l0 x12_1).f0.f1.f1)) := bc_ BK102 3 rfl
              have hcz33_4 : wc.cell? ⟨gb102, 4, none⟩ = some (.int .i64 ((rd_T61 l0 x12_1).f1.f0)) := bc_ BK102 4 rfl
              have hcz33_5 : wc.cell? ⟨gb102, 5, none⟩ = some (.int .u64 ((rd_T61 l0 x12_1).f1.f1)) := bc_ BK102 5 rfl
              have hfz33_0 := blk_frozen BK102.out 0; have hfz33_1 := blk_frozen BK102.out 1; have hfz33_2 := blk_frozen BK102.out 2; have hfz33_3 := blk_frozen BK102.out 3; have hfz33_4 := blk_frozen BK102.out 4; have hfz33_5 := blk_frozen BK102.out 5
              go_wp2_with (first | ((with_reducible refine gate_callee (f:=40) rfl ?_); refine gL_ (some 54) rfl rfl Tryd.func40 rfl #[.agg #[.int .i64 ((rd_T61 l0 x12_1).f1.f0), .int .u64 ((rd_T61 l0 x12_1).f1.f1)]] rfl ?_; (with_reducible refine (label_May.calls ((rd_T61 l0 x12_1).f1.f0) ((rd_T61 l0 x12_1).f1.f1) false _ A29.out).mono ?_); rintro e w34 ⟨rfl, hb⟩; refine ⟨_, rfl, ?_⟩; replace BK102 := bb_ BK102 hb; replace HB := bs_ HB hb; (try clear hb); (try clear hb2); (try clear hk); (try clear hi)))
              go_ret2
              exact ⟨by first | rfl | (simp [errW_none, errW_some] <;> rfl) | (simp [*, errW_none, errW_some] <;> rfl), pbx HB⟩
     ·rw [if_neg c6] at H
      exact absurd H (by simp)
    ·rw [if_neg c5] at H
     exact absurd H (by simp)
   ·rw [if_neg c4] at H; have c4b0 : decide (x12_1 < (l0.length : Int)) = false := decide_eq_false c4; clear c4
    simp only [Option.some.injEq, Prod.mk.injEq] at H
    obtain ⟨rfl, rfl⟩ := H
    go_wp2
    go_ret2
    exact ⟨by first | rfl | (simp [errW_none, errW_some] <;> rfl) | (simp [*, errW_none, errW_some] <;> rfl), pbx HB⟩

end Go.Proofs.YtbboanfggaknjaaDoor.X
namespace Go.Proofs.YtbboanfggaknjaaDoor.X
open Go.RowKit Go.Proofs.YtbboanfggaknjaaDoorW.PrintWords Go.Proofs.YtbboanfggaknjaaDoorW.PrintLast Go.Proofs.YtbboanfggaknjaaDoorW.PrintMore
attribute [local go_sem] max2_int min2_int max_two min_two max_three min_three max_four min_four
set_option linter.unusedVariables false
set_option linter.unusedSimpArgs false
def right_Find.l0 : Nat → ByteArray → List (S65) → Int → Int → Option (Int × Int × Bool)
 | 0, _, _, _, _ => none
 | k + 1, x1, x8, x9, x10 => if x10 < x9 then (if 0 ≤ x10 then (if x10 < (x8.length : Int) then (if ((rd_T65 x8 x10).f0).toList = x1.toList then (some ((rd_T65 x8 x10).f1.f0, (rd_T65 x8 x10).f1.f1, true)) else (right_Find.l0 k x1 x8 x9 (wrap64 (x10 + 1)))) else (none)) else (none)) else (some (0, 0, false))
def right_Find.f (k : Nat) (l0 : List (S65)) (a1 : ByteArray) : Option (Int × Int × Bool) := right_Find.l0 k a1 l0 (l0.length : Int) 0
theorem right_Find.mono_l : ∀ k, (∀ y0 y1 y2 y3, LeO (right_Find.l0 k y0 y1 y2 y3) (right_Find.l0 (k + 1) y0 y1 y2 y3))
 | 0 => fun _ _ _ _ r h => by simp [right_Find.l0] at h
 | k + 1 => by
  have ih0 := right_Find.mono_l k
  ·intro y0 y1 y2 y3
   unfold right_Find.l0
   repeat' first
   | (with_reducible exact ih0 _ _ _ _)
   | (with_reducible exact LeO.refl _)
   | (with_reducible exact LeO.none _)
   | (with_reducible refine LeO.ite ?_ ?_)
   | (with_reducible refine LeO.bind ?_ (fun _ => ?_))
theorem right_Find.mono : ∀ a0 a1 k, LeO (right_Find.f k a0 a1) (right_Find.f (k + 1) a0 a1) := by
 intro a0 a1 k; have ih0 := right_Find.mono_l k
 unfold right_Find.f
 repeat' first
   | (with_reducible exact ih0 _ _ _ _)
   | (with_reducible exact LeO.refl _)
   | (with_reducible exact LeO.none _)
   | (with_reducible refine LeO.ite ?_ ?_)
   | (with_reducible refine LeO.bind ?_ (fun _ => ?_))
set_option maxHeartbeats 8000000 in
set_option maxRecDepth 100000 in
theorem right_Find.calls (k : Nat) (A0 : Option Addr) (c0 : Nat) (l0 : List (S65)) (a1 : ByteArray) (r1 : Int) (r2 : Int) (r3 : Bool) (w : World) (hr0 : Kd.C k65 w A0 l0.length l0) (hc0 : l0.length ≤ c0) (h : right_Find.f k l0 a1 = some (r1, r2, r3)) :
  Calls Tryd.prog 56 #[.slice A0 l0.length c0, .string a1] w fun e w' => e = .returned (.tuple #[.agg #[.int .i64 r1, .int .u64 r2], .bool r3]) ∧ Below w.heap.size w w' := by
 have hu59 := Tryd.underlying59; have hu65 := Tryd.underlying65; have HR0 := Aside0.mk hr0; have HC0 := Aside0.mk hc0; clear hr0 hc0; have HB := Aside0.mk (Below.refl w.heap.size w)
 have H : (right_Find.l0 k a1 l0 (l0.length : Int) 0) = some (r1, r2, r3) := h
 clear h
 have H' := Aside0.mk H
 clear H
 go_enter Tryd.func56, Tryd.ntmps56
 go_wp2_with (first | ((with_reducible refine gate_dst (N:=4) rfl ?_); refine be_ (N:=4) (cs := #[.int .i64 0, .int .u64 0]) (t:=59) ?_; intro gb101 hg w3 hbox hb; have BK101 := Aside0.mk (hbox); have GW101 := hs_ HB hg; have GE101 := hs_ HB hg; replace HB := bs_ HB hb; clear hb hbox hg))
 go_loopg [10] k (fun kq v10 w' => ∃ (x10_1 : Int) (x102000_1 : Int) (x102001_1 : Int), v10 = .int .i64 x10_1 ∧ Aside0 (right_Find.l0 kq a1 l0 (l0.length : Int) x10_1 = some (r1, r2, r3)) ∧ Aside0 (kq ≤ k) ∧ Aside0 (w'.heap[gb101]? = some (.cells #[.int .i64 x102000_1, .int .u64 x102001_1] 59 (0, 0))) ∧ Aside0 (Below w.heap.size w w'))
 case atStart => exact ⟨(0), (0), (0), (by first | rfl | (simp; done) | (simp [*]; done)), H', ⟨Nat.le_refl _⟩, ⟨pkx BK101⟩, ⟨pbx HB⟩⟩
 case round =>
  clear H'; (try clear p2); obtain ⟨x10_1, x102000_1, x102001_1, rfl, HA, HK1, BK101, HB⟩ := hrel
  cases gk with
  | zero => exact absurd HA.out (by simp [right_Find.l0])
  | succ k1 =>
   have H := HA.out; clear HA
   simp only [right_Find.l0] at H
   by_cases c4 : x10_1 < (l0.length : Int)
   ·rw [if_pos c4] at H; have c4b0 : decide (x10_1 < (l0.length : Int)) = true := decide_eq_true c4; clear c4
    by_cases c5 : 0 ≤ x10_1
    ·rw [if_pos c5] at H; have c5b0 : decide (0 ≤ x10_1) = true := decide_eq_true c5; clear c5
     by_cases c6 : x10_1 < (l0.length : Int)
     ·rw [if_pos c6] at H; have c6b0 : decide (x10_1 < (l0.length : Int)) = true := decide_eq_true c6; clear c6
      by_cases c7 : ((rd_T65 l0 x10_1).f0).toList = a1.toList
      ·rw [if_pos c7] at H; have c7b0 : (((rd_T65 l0 x10_1).f0).toList == a1.toList) = true := beq_iff_eq.mpr c7; have c7b1 : (((rd_T65 l0 x10_1).f0).toList != a1.toList) = false := bne_eq_false_iff_eq.mpr c7; clear c7
       simp only [Option.some.injEq, Prod.mk.injEq] at H
       obtain ⟨rfl, rfl, rfl⟩ := H
       have p102 : 0 ≤ (x10_1 : Int) := of_decide_eq_true (by first | (with_reducible assumption) | assumption)
       have q102 : x10_1 < (l0.length : Int) := of_decide_eq_true (by first | (with_reducible assumption) | assumption)
       obtain ⟨ad102, e102, hx102_0, hx102_1, hx102_2⟩ := at_T65 HR0.out x10_1 p102 q102
       cases e102
       replace hx102_0 := (HB.out.cell (World.block_lt_of_cell? w _ hx102_0)).trans hx102_0; replace hx102_1 := (HB.out.cell (World.block_lt_of_cell? w _ hx102_1)).trans hx102_1; replace hx102_2 := (HB.out.cell (World.block_lt_of_cell? w _ hx102_2)).trans hx102_2; replace p102 := eq_true p102; replace q102 := eq_true q102
       go_wp2_with (first | ((with_reducible refine gate_dst (N:=7) rfl ?_); refine be_ (N:=7) (cs := #[.string (⟨#[]⟩ : ByteArray), .int .i64 0, .int .u64 0]) (t:=65) ?_; intro gb103 hg w8 hbox hb; have BK103 := Aside0.mk (hbox); have GW103 := hs_ HB hg; have GE103 := hs_ HB hg; have NB101_103 := hl_ BK101 hg; have NB103_101 := hr_ BK101 hg; replace BK101 := bb_ BK101 hb; replace HB := bs_ HB hb; clear hb hbox hg; have hnb9 := NB103_101.out; have hnc9 := NB101_103.out; have hcz10_0 : w8.cell? ⟨gb103, 0, none⟩ = some (.string (⟨#[]⟩ : ByteArray)) := bc_ BK103 0 rfl; have hcz10_1 : w8.cell? ⟨gb103, 1, none⟩ = some (.int .i64 0) := bc_ BK103 1 rfl; have hcz10_2 : w8.cell? ⟨gb103, 2, none⟩ = some (.int .u64 0) := bc_ BK103 2 rfl; have hfz10_0 := blk_frozen BK103.out 0; have hfz10_1 := blk_frozen BK103.out 1; have hfz10_2 := blk_frozen BK103.out 2; have hcz11_0 : w8.cell? ⟨gb101, 0, none⟩ = some (.int .i64 x102000_1) := bc_ BK101 0 rfl; have hcz11_1 : w8.cell? ⟨gb101, 1, none⟩ = some (.int .u64 x102001_1) := bc_ BK101 1 rfl; have hfz11_0 := blk_frozen BK101.out 0; have hfz11_1 := blk_frozen BK101.out 1))
       refine bodyPost_ret (results_ct rfl _ _ gb101 59 #[.int .i64 ((rd_T65 l0 x10_1).f1.f0), .int .u64 ((rd_T65 l0 x10_1).f1.f1)] (0, 0) _ rfl (by refine pp_ (cs := #[.int .i64 ((rd_T65 l0 x10_1).f1.f0), .int .u64 x102001_1]) 1 ?_ rfl; refine blk_put (cs := #[.int .i64 x102000_1, .int .u64 x102001_1]) ?_ 0 _ rfl; refine pf_ ?_ NB101_103.out; refine blk_far ?_ NB101_103.out _; refine blk_far ?_ NB101_103.out _; exact pkx BK101) Tryd.underlying59 rfl (by kernel_rfl)) rfl ?_
       exact ⟨by first | rfl | (simp [errW_none, errW_some] <;> rfl) | (simp [*, errW_none, errW_some] <;> rfl), by repeat (first | (with_reducible first | exact HB.out | apply below_alloc | apply pw_below_drewN | apply below_drew1 | refine below_set ?_ GE101.out | refine below_set ?_ GE103.out) | exact HB.out)⟩
      ·rw [if_neg c7] at H; have c7b0 : (((rd_T65 l0 x10_1).f0).toList == a1.toList) = false := beq_eq_false_iff_ne.mpr c7; have c7b1 : (((rd_T65 l0 x10_1).f0).toList != a1.toList) = true := bne_iff_ne.mpr c7
       have H' := Aside0.mk H
       clear H
       have p102 : 0 ≤ (x10_1 : Int) := of_decide_eq_true (by first | (with_reducible assumption) | assumption)
       have q102 : x10_1 < (l0.length : Int) := of_decide_eq_true (by first | (with_reducible assumption) | assumption)
       obtain ⟨ad102, e102, hx102_0, hx102_1, hx102_2⟩ := at_T65 HR0.out x10_1 p102 q102
       cases e102
       replace hx102_0 := (HB.out.cell (World.block_lt_of_cell? w _ hx102_0)).trans hx102_0; replace hx102_1 := (HB.out.cell (World.block_lt_of_cell? w _ hx102_1)).trans hx102_1; replace hx102_2 := (HB.out.cell (World.block_lt_of_cell? w _ hx102_2)).trans hx102_2; replace p102 := eq_true p102; replace q102 := eq_true q102
       go_wp2_with (first | ((with_reducible refine gate_dst (N:=7) rfl ?_); refine be_ (N:=7) (cs := #[.string (⟨#[]⟩ : ByteArray), .int .i64 0, .int .u64 0]) (t:=65) ?_; intro gb103 hg w12 hbox hb; have BK103 := Aside0.mk (hbox); have GW103 := hs_ HB hg; have GE103 := hs_ HB hg; have NB101_103 := hl_ BK101 hg; have NB103_101 := hr_ BK101 hg; replace BK101 := bb_ BK101 hb; replace HB := bs_ HB hb; clear hb hbox hg; have hnb13 := NB103_101.out; have hnc13 := NB101_103.out; have hcz14_0 : w12.cell? ⟨gb103, 0, none⟩ = some (.string (⟨#[]⟩ : ByteArray)) := bc_ BK103 0 rfl; have hcz14_1 : w12.cell? ⟨gb103, 1, none⟩ = some (.int .i64 0) := bc_ BK103 1 rfl; have hcz14_2 : w12.cell? ⟨gb103, 2, none⟩ = some (.int .u64 0) := bc_ BK103 2 rfl; have hfz14_0 := blk_frozen BK103.out 0; have hfz14_1 := blk_frozen BK103.out 1; have hfz14_2 := blk_frozen BK103.out 2))
       go_roundg k1
       case measure => have := HK1.out; omega
       case rel => exact ⟨(wrap64 (x10_1 + 1)), (x102000_1), (x102001_1), (by first | rfl | (simp; done) | (simp [*]; done)), H', ⟨by have := HK1.out; omega⟩, ⟨by refine pf_ ?_ NB101_103.out; refine blk_far ?_ NB101_103.out _; refine blk_far ?_ NB101_103.out _; exact pkx BK101⟩, ⟨by repeat (first | (with_reducible first | exact HB.out | apply below_alloc | apply pw_below_drewN | apply below_drew1 | refine below_set ?_ GE101.out | refine below_set ?_ GE103.out) | exact HB.out)⟩⟩
     ·rw [if_neg c6] at H
      exact absurd H (by simp)
    ·rw [if_neg c5] at H
     exact absurd H (by simp)
   ·rw [if_neg c4] at H; have c4b0 : decide (x10_1 < (l0.length : Int)) = false := decide_eq_false c4; clear c4
    simp only [Option.some.injEq, Prod.mk.injEq] at H
    obtain ⟨rfl, rfl, rfl⟩ := H
    have hcz15_0 : wr.cell? ⟨gb101, 0, none⟩ = some (.int .i64 x102000_1) := bc_ BK101 0 rfl
    have hcz15_1 : wr.cell? ⟨gb101, 1, none⟩ = some (.int .u64 x102001_1) := bc_ BK101 1 rfl
    have hfz15_0 := blk_frozen BK101.out 0; have hfz15_1 := blk_frozen BK101.out 1
    go_wp2
    refine bodyPost_ret (results_ct rfl _ _ gb101 59 #[.int .i64 0, .int .u64 0] (0, 0) _ rfl (by refine pp_ (cs := #[.int .i64 0, .int .u64 x102001_1]) 1 ?_ rfl; refine blk_put (cs := #[.int .i64 x102000_1, .int .u64 x102001_1]) ?_ 0 _ rfl; exact pkx BK101) Tryd.underlying59 rfl (by kernel_rfl)) rfl ?_
    exact ⟨by first | rfl | (simp [errW_none, errW_some] <;> rfl) | (simp [*, errW_none, errW_some] <;> rfl), by repeat (first | (with_reducible first | exact HB.out | apply below_alloc | apply pw_below_drewN | apply below_drew1 | refine below_set ?_ GE101.out) | exact HB.out)⟩

end Go.Proofs.YtbboanfggaknjaaDoor.X
