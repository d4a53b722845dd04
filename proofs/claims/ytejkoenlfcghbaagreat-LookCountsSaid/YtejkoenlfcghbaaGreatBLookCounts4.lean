/- Contracts of the functions that the law LookCounts reaches, and what they answer (a session's own texts, joined; part 4). -/
import Derived.Test.YtejkoenlfcghbaaGreatBLookCounts3
set_option maxHeartbeats 8000000
set_option maxRecDepth 100000
namespace Go.Proofs.YtejkoenlfcghbaaGreat.X
open Go.RowKit Go.Proofs.YtejkoenlfcghbaaGreatW.PrintWords Go.Proofs.YtejkoenlfcghbaaGreatW.PrintLast Go.Proofs.YtejkoenlfcghbaaGreatW.PrintMore
attribute [local go_sem] max2_int min2_int max_two min_two max_three min_three max_four min_four
set_option linter.unusedVariables false
set_option linter.unusedSimpArgs false
def fold_Numbers.l0 : Nat → List Int → List (S26) → Int → Int → Option (List Int × Int × Int × ByteArray)
 | 0, _, _, _, _ => none
 | k + 1, x5, x14, x15, x16 => if x16 < x15 then (if 0 ≤ x16 then (if x16 < (x14.length : Int) then (if ((rd_T26 x14 x16).f0) = 1 then (if x5.length < 17592186044416 then (fold_Numbers.l0 k (x5 ++ [(rd_T26 x14 x16).f1]) x14 x15 (wrap64 (x16 + 1))) else (none)) else (fold_Numbers.l0 k x5 x14 x15 (wrap64 (x16 + 1)))) else (none)) else (none)) else (some (x5, 0, 0, (⟨#[]⟩ : ByteArray)))
def fold_Numbers.f (k : Nat) (l0 : List (S26)) : Option (List Int × Int × Int × ByteArray) := (fold_fault.f k l0).bind fun bt102 => (if bt102.1 = 4 then (some (([] : List Int), bt102.1, bt102.2.1, bt102.2.2)) else (fold_Numbers.l0 k ([] : List Int) l0 (l0.length : Int) 0))
theorem fold_Numbers.mono_l : ∀ k, (∀ y0 y1 y2 y3, LeO (fold_Numbers.l0 k y0 y1 y2 y3) (fold_Numbers.l0 (k + 1) y0 y1 y2 y3))
 | 0 => fun _ _ _ _ r h => by simp [fold_Numbers.l0] at h
 | k + 1 => by
  have ih0 := fold_Numbers.mono_l k
  ·intro y0 y1 y2 y3
   unfold fold_Numbers.l0
   have m0 := @fold_fault.mono; exact mo_
theorem fold_Numbers.mono : ∀ a0 k, LeO (fold_Numbers.f k a0) (fold_Numbers.f (k + 1) a0) := by
 intro a0 k; have ih0 := fold_Numbers.mono_l k
 unfold fold_Numbers.f
 have m0 := @fold_fault.mono; exact mo_
theorem fold_Numbers.calls (k : Nat) (A0 : Option Addr) (c0 : Nat) (l0 : List (S26)) (r1 : List Int) (r2 : Int) (r3 : Int) (r4 : ByteArray) (w : World) (hr0 : Kd.C k26 w A0 l0.length l0) (hc0 : l0.length ≤ c0) (h : fold_Numbers.f k l0 = some (r1, r2, r3, r4)) :
  Calls Tryz.prog 36 #[.slice A0 l0.length c0] w fun e w' => ∃ v0_ : Value, e = .returned (.tuple #[v0_, .agg #[.int .i64 r2, .int .i64 r3, .string r4]]) ∧ Kd.R (Kd.int .i64) 2 w' w.heap.size (fun _ => True) v0_ r1 ∧ Below w.heap.size w w' := by
 have hu26 := Tryz.underlying26; have HR0 := A_ hr0; have HC0 := A_ hc0; clear hr0 hc0; have HB := A_ (Below.refl w.heap.size w)
 have H : ((fold_fault.f k l0).bind fun bt102 => (if bt102.1 = 4 then (some (([] : List Int), bt102.1, bt102.2.1, bt102.2.2)) else (fold_Numbers.l0 k ([] : List Int) l0 (l0.length : Int) 0))) = some (r1, r2, r3, r4) := h
 clear h; obtain ⟨⟨t102, t103, t104⟩, A2, H⟩ := bo_ H; dsimp only at H
 by_cases c3 : t102 = 4
 ·rw [if_pos c3] at H; have ⟨c3b0,c3b1⟩ := e1_ c3; clear c3
  simp only [Option.some.injEq, Prod.mk.injEq] at H
  obtain ⟨rfl, rfl, rfl, rfl⟩ := H
  go_enter Tryz.func36, Tryz.ntmps36
  try go_wp2_with (first | ((with_reducible refine gd_ 3 ?_); refine be_ (N:=3) (cs := #[.int .i64 0, .int .i64 0, .string (⟨#[]⟩ : ByteArray)]) (t:=26) ?_; intro g1 hg w4 hbox hb; have B1 := A_ (hbox); have GW101 := hs_ HB hg; have GE101 := hs_ HB hg; replace HB := bs_ HB hb; clear hb hbox hg) | ((with_reducible refine gate_callee (f:=51) rfl ?_); refine gL_ (some 9) rfl rfl Tryz.func51 rfl #[.slice A0 l0.length c0] rfl ?_; (with_reducible refine (fold_fault.calls k _ _ l0 t102 t103 t104 _ ?side1 ?side2 A2.out).mono ?_); (case side1 => exact ca_ (Kd.C_below HR0.out HB.out)); (case side2 => exact HC0.out); rintro e w5 ⟨rfl, hb⟩; refine ⟨_, rfl, ?_⟩; replace B1 := bb_ B1 hb; replace HB := bs_ HB hb; ) | ((with_reducible refine gd_ 4 ?_); refine be_ (N:=4) (cs := #[.int .i64 0, .int .i64 0, .string (⟨#[]⟩ : ByteArray)]) (t:=26) ?_; intro g5 hg w6 hbox hb; have B5 := A_ (hbox); have GW105 := hs_ HB hg; have GE105 := hs_ HB hg; have N15 := hl_ B1 hg; have N51 := hr_ B1 hg; replace B1 := bb_ B1 hb; replace HB := bs_ HB hb; clear hb hbox hg; have hnb7 := N51.out; have hnc7 := N15.out; have ⟨hcz8_0,hcz8_1,hcz8_2,hfz8_0,hfz8_1,hfz8_2⟩ := z3_ B5))
  have n0_ : Aside0 ((((w6.setCell ⟨g5, 0, none⟩ (.int .i64 t102)).setCell ⟨g5, 1, none⟩ (.int .i64 t103)).setCell ⟨g5, 2, none⟩ (.string t104)).heap[g1]? = some (.cells #[.int .i64 0, .int .i64 0, .string (⟨#[]⟩ : ByteArray)] 26 (0, 0))) := ⟨by (iterate 3 refine pf_ ?_ N15.out); exact pkx B1⟩; have n1_ : Aside0 ((((w6.setCell ⟨g5, 0, none⟩ (.int .i64 t102)).setCell ⟨g5, 1, none⟩ (.int .i64 t103)).setCell ⟨g5, 2, none⟩ (.string t104)).heap[g5]? = some (.cells #[.int .i64 t102, .int .i64 t103, .string t104] 26 (0, 0))) := ⟨by (iterate 3 apply pp_); exact pkx B5; all_goals rfl⟩
  have n2_ : Aside0 (Below w.heap.size w (((w6.setCell ⟨g5, 0, none⟩ (.int .i64 t102)).setCell ⟨g5, 1, none⟩ (.int .i64 t103)).setCell ⟨g5, 2, none⟩ (.string t104))) := ⟨bl_⟩; (try clear B1); (try clear B5); (try clear HB)
  generalize (((w6.setCell ⟨g5, 0, none⟩ (.int .i64 t102)).setCell ⟨g5, 1, none⟩ (.int .i64 t103)).setCell ⟨g5, 2, none⟩ (.string t104)) = w9 at n0_ n1_ n2_ ⊢; have B1 := n0_; have B5 := n1_; have HB := n2_; clear n0_ n1_ n2_; (try (rw [drewN_self w9]; generalize hq_ : World.drewN w9 _ = w9; have n0_ : Aside0 (w9.heap[g1]? = some (.cells #[.int .i64 0, .int .i64 0, .string (⟨#[]⟩ : ByteArray)] 26 (0, 0))) := ⟨by rw [← hq_]; exact (pkx B1)⟩; have n1_ : Aside0 (w9.heap[g5]? = some (.cells #[.int .i64 t102, .int .i64 t103, .string t104] 26 (0, 0))) := ⟨by rw [← hq_]; exact (pkx B5)⟩; have n2_ : Aside0 (Below w.heap.size w w9) := ⟨by rw [← hq_]; exact (pbx HB)⟩; clear B1 B5 HB hq_; have B1 := n0_; have B5 := n1_; have HB := n2_; clear n0_ n1_ n2_))
  replace B1 := A_ (blk_drew B1.out); replace B5 := A_ (blk_drew B5.out); replace HB := A_ (below_drew1 HB.out)
  refine start_ (n:=3) (S := fun w' => w'.cell? ⟨g5, 0, none⟩ = some (.int .i64 t102) ∧ w'.cell? ⟨g5, 1, none⟩ = some (.int .i64 t103) ∧ w'.cell? ⟨g5, 2, none⟩ = some (.string t104)) (ds := []) #[F,F,F] (by kernel_rfl) rfl rfl ⟨bc_ B5 0 rfl, bc_ B5 1 rfl, bc_ B5 2 rfl⟩ (fun hHeld => ?_)
  generalize w9.drew = w10 at B1 B5 HB hHeld ⊢; refine pure_ (i:=1) (N:=some 2) (v:=?_) (a':=?_) #[F,T,F] rfl rfl (by kernel_rfl) (fun _ _ _ h=>h) (Or.inl ⟨rfl, ?_⟩) ?_ ?_; rotate_left
  ·intro w'; go_simp; with_reducible rfl
  rotate_left
  ·simp only [q_, i64_w, i32_w]; rfl
  refine take_ (i:=0) (N:=some 13) (v:=?_) (a':=?_) #[T,T,F] rfl rfl (by kernel_rfl) (fun _ _ _ h=>h) (Or.inl ⟨rfl, ?_⟩) hHeld ?_ ?_; rotate_left
  ·rintro w' ⟨s0, s1, s2⟩; go_simp; with_reducible rfl
  rotate_left
  ·simp only [q_, i64_w, i32_w]; rfl
  refine one_ (i:=2) (N:=none) #[T,T,T] rfl rfl (by kernel_rfl) (by decide) (fun K hK => ?_)
  have hs11 : w10.cell? ⟨g1, 0, none⟩ = some (.int .i64 0) := bc_ B1 0 rfl
  have hfs11 := blk_frozen B1.out 0; have hns11_1 := N51.out; have hms11_1 := N15.out
  have hs12 : w10.cell? ⟨g1, 1, none⟩ = some (.int .i64 0) := bc_ B1 1 rfl
  have hfs12 := blk_frozen B1.out 1; have hns12_1 := N51.out; have hms12_1 := N15.out
  have hs13 : w10.cell? ⟨g1, 2, none⟩ = some (.string (⟨#[]⟩ : ByteArray)) := bc_ B1 2 rfl
  have hfs13 := blk_frozen B1.out 2; have hns13_1 := N51.out; have hms13_1 := N15.out
  refine skip_ (w1 := ?_) (by rfl) rfl ?_ ?_
  rotate_left
  ·go_simp; rfl
  refine hK.out _ _ ⟨((cell_far (p := ⟨g1, _, none⟩) N51.out _).trans (((cell_far (p := ⟨g1, _, none⟩) N51.out _).trans (((cell_far (p := ⟨g1, _, none⟩) N51.out _).trans (hHeld.1)))))), ((cell_far (p := ⟨g1, _, none⟩) N51.out _).trans (((cell_far (p := ⟨g1, _, none⟩) N51.out _).trans (((cell_far (p := ⟨g1, _, none⟩) N51.out _).trans (hHeld.2.1)))))), ((cell_far (p := ⟨g1, _, none⟩) N51.out _).trans (((cell_far (p := ⟨g1, _, none⟩) N51.out _).trans (((cell_far (p := ⟨g1, _, none⟩) N51.out _).trans (hHeld.2.2))))))⟩ (fun hHeld => ?_); clear hK K
  refine done_ (by kernel_rfl) ?_
  try go_wp2
  refine bodyPost_ret (results_tc rfl _ _ g1 26 #[.int .i64 t102, .int .i64 t103, .string t104] (0, 0) _ rfl (by (iterate 3 apply pp_); exact pkx B1; all_goals rfl) Tryz.underlying26 rfl (by kernel_rfl)) rfl ?_
  exact ⟨_, by first | rfl | (simp [errW_none, errW_some] <;> rfl) | (simp [*, errW_none, errW_some] <;> rfl), by first | exact Kd.R_nil _ _ _ _ _ | exact Kd.N_nil _ _ _ _ _ | exact Kd.V_nil _ _ _ _ _ | exact Kd.Q_nil _ _ _ _ _ | exact Kd.S_nil _ _ _ _ _, by repeat (first | (with_reducible first | exact HB.out | apply below_alloc | apply pw_below_drewN | apply below_drew1 | refine below_set ?_ GE101.out | refine below_set ?_ GE105.out) | exact HB.out)⟩
 ·rw [if_neg c3] at H; have ⟨c3b0,c3b1⟩ := e0_ c3
  have H' := A_ H
  clear H
  go_enter Tryz.func36, Tryz.ntmps36
  go_wp2_with (first | ((with_reducible refine gd_ 3 ?_); refine be_ (N:=3) (cs := #[.int .i64 0, .int .i64 0, .string (⟨#[]⟩ : ByteArray)]) (t:=26) ?_; intro g1 hg w14 hbox hb; have B1 := A_ (hbox); have GW101 := hs_ HB hg; have GE101 := hs_ HB hg; replace HB := bs_ HB hb; clear hb hbox hg) | ((with_reducible refine gate_callee (f:=51) rfl ?_); refine gL_ (some 9) rfl rfl Tryz.func51 rfl #[.slice A0 l0.length c0] rfl ?_; (with_reducible refine (fold_fault.calls k _ _ l0 t102 t103 t104 _ ?side1 ?side2 A2.out).mono ?_); (case side1 => exact ca_ (Kd.C_below HR0.out HB.out)); (case side2 => exact HC0.out); rintro e w15 ⟨rfl, hb⟩; refine ⟨_, rfl, ?_⟩; replace B1 := bb_ B1 hb; replace HB := bs_ HB hb; ) | ((with_reducible refine gd_ 4 ?_); refine be_ (N:=4) (cs := #[.int .i64 0, .int .i64 0, .string (⟨#[]⟩ : ByteArray)]) (t:=26) ?_; intro g5 hg w16 hbox hb; have B5 := A_ (hbox); have GW105 := hs_ HB hg; have GE105 := hs_ HB hg; have N15 := hl_ B1 hg; have N51 := hr_ B1 hg; replace B1 := bb_ B1 hb; replace HB := bs_ HB hb; clear hb hbox hg; have hnb17 := N51.out; have hnc17 := N15.out; have ⟨hcz18_0,hcz18_1,hcz18_2,hfz18_0,hfz18_1,hfz18_2⟩ := z3_ B5))
  go_loopg [5, 16] k (fun kq v5 v16 w' => ∃ (x5_1 : List Int) (x16_1 : Int), v16 = .int .i64 x16_1 ∧ Aside0 (fold_Numbers.l0 kq x5_1 l0 (l0.length : Int) x16_1 = some (r1, r2, r3, r4)) ∧ Aside0 (kq ≤ k) ∧ Aside0 (Kd.R (Kd.int .i64) 2 w' w.heap.size (fun _ => True) v5 x5_1) ∧ Aside0 (w'.heap[g1]? = some (.cells #[.int .i64 0, .int .i64 0, .string (⟨#[]⟩ : ByteArray)] 26 (0, 0))) ∧ Aside0 (w'.heap[g5]? = some (.cells #[.int .i64 t102, .int .i64 t103, .string t104] 26 (0, 0))) ∧ Aside0 (Below w.heap.size w w'))
  case atStart => exact ⟨(([] : List Int)), (0), sq_, H', ⟨Nat.le_refl _⟩, ⟨by first | exact Kd.R_nil _ _ _ _ _ | exact Kd.N_nil _ _ _ _ _ | exact Kd.V_nil _ _ _ _ _ | exact Kd.Q_nil _ _ _ _ _ | exact Kd.S_nil _ _ _ _ _⟩, ⟨by (iterate 3 refine pf_ ?_ N15.out); exact pkx B1⟩, ⟨by (iterate 3 apply pp_); exact pkx B5; all_goals rfl⟩, ⟨bl_⟩⟩
  case round =>
   clear H'; (try clear c3); (try clear c3b0); (try clear c3b1); (try clear hcz18_0); (try clear hcz18_1); (try clear hcz18_2); (try clear hfz18_0); (try clear hfz18_1); (try clear hfz18_2); obtain ⟨x5_1, x16_1, rfl, HA, HK1, HO_5, B1, B5, HB⟩ := hrel
   cases gk with
   | zero => exact absurd HA.out (by simp [fold_Numbers.l0])
   | succ k1 =>
    have H := HA.out; clear HA
    simp only [fold_Numbers.l0] at H
    by_cases c19 : x16_1 < (l0.length : Int)
    ·rw [if_pos c19] at H; have c19b0 := decide_eq_true c19; clear c19
     by_cases c20 : 0 ≤ x16_1
     ·rw [if_pos c20] at H; have c20b0 := decide_eq_true c20; clear c20
      by_cases c21 : x16_1 < (l0.length : Int)
      ·rw [if_pos c21] at H; have c21b0 := decide_eq_true c21; clear c21
       by_cases c22 : ((rd_T26 l0 x16_1).f0) = 1
       ·rw [if_pos c22] at H; have ⟨c22b0,c22b1⟩ := e1_ c22; clear c22
        by_cases c23 : x5_1.length < 17592186044416
        ·rw [if_pos c23] at H; have LMc23 := A_ c23; clear c23; obtain ⟨y108, hy108⟩ : ∃ y_ : List Int, y_ = (x5_1 ++ [(rd_T26 l0 x16_1).f1]) := ⟨_, rfl⟩
         replace H : (fold_Numbers.l0 k1 y108 l0 (l0.length : Int) (wrap64 (x16_1 + 1))) = some (r1, r2, r3, r4) := by first | (rw [hy108]; with_reducible exact H) | (have H2_ := (Option.bind_some _ _).symm.trans H; rw [hy108]; with_reducible exact H2_) | (have H2_ := (Option.bind_some _ _).symm.trans H; with_reducible exact H2_) | with_reducible exact H | (rw [hy108]; exact H) | exact H
         have Ny108 := A_ hy108; clear hy108
         have H' := A_ H
         clear H
         have p106 : 0 ≤ (x16_1 : Int) := of_decide_eq_true as_
         have q106 : x16_1 < (l0.length : Int) := of_decide_eq_true as_
         obtain ⟨ad106, e106, hx106_0, hx106_1, hx106_2⟩ := at_T26 HR0.out x16_1 p106 q106
         cases e106
         replace hx106_0 := (HB.out.cell (World.block_lt_of_cell? w _ hx106_0)).trans hx106_0; replace hx106_1 := (HB.out.cell (World.block_lt_of_cell? w _ hx106_1)).trans hx106_1; replace hx106_2 := (HB.out.cell (World.block_lt_of_cell? w _ hx106_2)).trans hx106_2; replace p106 := eq_true p106; replace q106 := eq_true q106
         go_wp2_with (first | ((with_reducible refine gd_ 7 ?_); refine be_ (N:=7) (cs := #[.int .i64 0, .int .i64 0, .string (⟨#[]⟩ : ByteArray)]) (t:=26) ?_; intro g7 hg w24 hbox hb; have B7 := A_ (hbox); have GW107 := hs_ HB hg; have GE107 := hs_ HB hg; have N17 := hl_ B1 hg; have N71 := hr_ B1 hg; have N57 := hl_ B5 hg; have N75 := hr_ B5 hg; replace HO_5 := A_ (Kd.R_below (ra_ HO_5.out) hb); replace B1 := bb_ B1 hb; replace B5 := bb_ B5 hb; replace HB := bs_ HB hb; clear hb hbox hg; have hnb25 := N71.out; have hnc25 := N17.out; have hnb26 := N75.out; have hnc26 := N57.out; have ⟨hcz27_0,hcz27_1,hcz27_2,hfz27_0,hfz27_1,hfz27_2⟩ := z3_ B7) | ((with_reducible refine gate_builtin (b := .append) (xs := #[.tmp 23, .tmp 26]) rfl ?_); at_builtin; refine Kd.R_append (Kd.int .i64) (w0 := w) w.heap.size rfl (.tmp 23) (.tmp 26) 54 2 (.int .i64 0) 8 rfl Tryz.underlying54 info2 rfl (by decide) (by omega) u5 x5_1 ((rd_T26 l0 x16_1).f1) [.int .i64 ((rd_T26 l0 x16_1).f1)] (fun _ => True) (fun _ => False) rfl (by first | (go_simp; done) | (go_simp; rfl)) ?aP (fun _ hk => hk.elim) ?aF ?aO ?aB ?aS ?aL ?_; (case aP => exact rfl); (case aB => exact bl_); (case aF => exact (fun _ _ => trivial)); (case aO => exact (by (with_reducible repeat (first | apply Kd.R_alloc | apply Kd.R_drewN | apply Kd.R_drew)); exact Kd.R_mono (Kd.R_far (p := ⟨g7, 2, none⟩) (Kd.R_far (p := ⟨g7, 1, none⟩) (Kd.R_far (p := ⟨g7, 0, none⟩) (Kd.R_types HO_5.out B7.out (by decide)) (fun _ hk => hk.2) (.int .i64 ((rd_T26 l0 x16_1).f0))) (fun _ hk => hk.2) (.int .i64 ((rd_T26 l0 x16_1).f1))) (fun _ hk => hk.2) (.string ((rd_T26 l0 x16_1).f2))) (fun _ hk => trivial))); (case aS => exact (below_size bl_)); (case aL => have := LMc23.out; omega); intro v109 w28 ho hb hg hat; rw [← Ny108.out] at ho; have HO110 := A_ (ho); replace B1 := A_ (blk_grown (g:=g1) (o := .cells #[.int .i64 0, .int .i64 0, .string (⟨#[]⟩ : ByteArray)] 26 (0, 0)) (by (iterate 3 refine pf_ ?_ N17.out); exact pkx B1) hg (Kd.R_ne HO_5.out B1.out (by decide))); replace B5 := A_ (blk_grown (g:=g5) (o := .cells #[.int .i64 t102, .int .i64 t103, .string t104] 26 (0, 0)) (by (iterate 3 refine pf_ ?_ N57.out); exact pkx B5) hg (Kd.R_ne HO_5.out B5.out (by decide))); replace B7 := A_ (blk_grown (g:=g7) (o := .cells #[.int .i64 ((rd_T26 l0 x16_1).f0), .int .i64 ((rd_T26 l0 x16_1).f1), .string ((rd_T26 l0 x16_1).f2)] 26 (0, 0)) (by (iterate 3 apply pp_); exact pkx B7; all_goals rfl) hg (Kd.R_ne HO_5.out B7.out (by decide))); replace HB := A_ (hb); clear HO_5; clear ho hb hg hat))
         go_roundg k1
         case measure => have := HK1.out; omega
         case rel => exact ⟨(y108), (wrap64 (x16_1 + 1)), sq_, H', ⟨by have := HK1.out; omega⟩, ⟨ra_ HO110.out⟩, ⟨pkx B1⟩, ⟨pkx B5⟩, ⟨pbx HB⟩⟩
        ·rw [if_neg c23] at H
         exact absurd H (by simp)
       ·rw [if_neg c22] at H; have ⟨c22b0,c22b1⟩ := e0_ c22
        have H' := A_ H
        clear H
        have p106 : 0 ≤ (x16_1 : Int) := of_decide_eq_true as_
        have q106 : x16_1 < (l0.length : Int) := of_decide_eq_true as_
        obtain ⟨ad106, e106, hx106_0, hx106_1, hx106_2⟩ := at_T26 HR0.out x16_1 p106 q106
        cases e106
        replace hx106_0 := (HB.out.cell (World.block_lt_of_cell? w _ hx106_0)).trans hx106_0; replace hx106_1 := (HB.out.cell (World.block_lt_of_cell? w _ hx106_1)).trans hx106_1; replace hx106_2 := (HB.out.cell (World.block_lt_of_cell? w _ hx106_2)).trans hx106_2; replace p106 := eq_true p106; replace q106 := eq_true q106
        go_wp2_with (first | ((with_reducible refine gd_ 7 ?_); refine be_ (N:=7) (cs := #[.int .i64 0, .int .i64 0, .string (⟨#[]⟩ : ByteArray)]) (t:=26) ?_; intro g7 hg w29 hbox hb; have B7 := A_ (hbox); have GW107 := hs_ HB hg; have GE107 := hs_ HB hg; have N17 := hl_ B1 hg; have N71 := hr_ B1 hg; have N57 := hl_ B5 hg; have N75 := hr_ B5 hg; replace HO_5 := A_ (Kd.R_below (ra_ HO_5.out) hb); replace B1 := bb_ B1 hb; replace B5 := bb_ B5 hb; replace HB := bs_ HB hb; clear hb hbox hg; have hnb30 := N71.out; have hnc30 := N17.out; have hnb31 := N75.out; have hnc31 := N57.out; have ⟨hcz32_0,hcz32_1,hcz32_2,hfz32_0,hfz32_1,hfz32_2⟩ := z3_ B7))
        go_roundg k1
        case measure => have := HK1.out; omega
        case rel => exact ⟨(x5_1), (wrap64 (x16_1 + 1)), sq_, H', ⟨by have := HK1.out; omega⟩, ⟨by (with_reducible repeat (first | apply Kd.R_alloc | apply Kd.R_drewN | apply Kd.R_drew)); exact Kd.R_mono (Kd.R_far (p := ⟨g7, 2, none⟩) (Kd.R_far (p := ⟨g7, 1, none⟩) (Kd.R_far (p := ⟨g7, 0, none⟩) (Kd.R_types HO_5.out B7.out (by decide)) (fun _ hk => hk.2) (.int .i64 ((rd_T26 l0 x16_1).f0))) (fun _ hk => hk.2) (.int .i64 ((rd_T26 l0 x16_1).f1))) (fun _ hk => hk.2) (.string ((rd_T26 l0 x16_1).f2))) (fun _ hk => trivial)⟩, ⟨by (iterate 3 refine pf_ ?_ N17.out); exact pkx B1⟩, ⟨by (iterate 3 refine pf_ ?_ N57.out); exact pkx B5⟩, ⟨bl_⟩⟩
      ·rw [if_neg c21] at H
       exact absurd H (by simp)
     ·rw [if_neg c20] at H
      exact absurd H (by simp)
    ·rw [if_neg c19] at H; have c19b0 := decide_eq_false c19; clear c19
     simp only [Option.some.injEq, Prod.mk.injEq] at H
     obtain ⟨rfl, rfl, rfl, rfl⟩ := H; have hnb33 := N15.out; have hnc33 := N51.out
     have ⟨hcz34_0,hcz34_1,hcz34_2,hfz34_0,hfz34_1,hfz34_2⟩ := z3_ B1
     go_wp2
     refine bodyPost_ret (results_tc rfl _ _ g1 26 #[.int .i64 0, .int .i64 0, .string (⟨#[]⟩ : ByteArray)] (0, 0) _ rfl (by (iterate 3 apply pp_); exact pkx B1; all_goals rfl) Tryz.underlying26 rfl (by kernel_rfl)) rfl ?_
     exact ⟨_, by first | rfl | (simp [errW_none, errW_some] <;> rfl) | (simp [*, errW_none, errW_some] <;> rfl), by (with_reducible repeat (first | apply Kd.R_alloc | apply Kd.R_drewN | apply Kd.R_drew)); exact Kd.R_mono (Kd.R_far (p := ⟨g1, 2, none⟩) (Kd.R_far (p := ⟨g1, 1, none⟩) (Kd.R_far (p := ⟨g1, 0, none⟩) (Kd.R_types HO_5.out B1.out (by decide)) (fun _ hk => hk.2) (.int .i64 0)) (fun _ hk => hk.2) (.int .i64 0)) (fun _ hk => hk.2) (.string (⟨#[]⟩ : ByteArray))) (fun _ hk => trivial), by repeat (first | (with_reducible first | exact HB.out | apply below_alloc | apply pw_below_drewN | apply below_drew1 | refine below_set ?_ GE101.out | refine below_set ?_ GE105.out) | exact HB.out)⟩

def fold_all.l0 : Nat → Int → List Int → Int → Int → Option (Int × Int × ByteArray)
 | 0, _, _, _, _ => none
 | k + 1, x1, x22, x23, x24 => if x24 < x23 then (if 0 ≤ x24 then (if x24 < (x22.length : Int) then ((dec_Add.f k x1 (rd x22 x24)).bind fun bt113 => (if bt113.2 = true then (fold_all.l0 k bt113.1 x22 x23 (wrap64 (x24 + 1))) else ((value_Bad.f 4).bind fun bt115 => (some (bt115.1, bt115.2.1, bt115.2.2))))) else (none)) else (none)) else ((value_Num.f x1).bind fun bt109 => (some (bt109.1, bt109.2.1, bt109.2.2)))
def fold_all.f (k : Nat) (l0 : List (S26)) (a1 : Int) (a2 : Int) : Option (Int × Int × ByteArray) := (fold_Numbers.f k l0).bind fun bt102 => (if bt102.2.1 = 4 then (some (bt102.2.1, bt102.2.2.1, bt102.2.2.2)) else (fold_all.l0 k a1 bt102.1 (bt102.1.length : Int) 0))
theorem fold_all.mono_l : ∀ k, (∀ y0 y1 y2 y3, LeO (fold_all.l0 k y0 y1 y2 y3) (fold_all.l0 (k + 1) y0 y1 y2 y3))
 | 0 => fun _ _ _ _ r h => by simp [fold_all.l0] at h
 | k + 1 => by
  have ih0 := fold_all.mono_l k
  ·intro y0 y1 y2 y3
   unfold fold_all.l0
   have m0 := @dec_Add.mono; have m1 := @fold_Numbers.mono; exact mo_
theorem fold_all.mono : ∀ a0 a1 a2 k, LeO (fold_all.f k a0 a1 a2) (fold_all.f (k + 1) a0 a1 a2) := by
 intro a0 a1 a2 k; have ih0 := fold_all.mono_l k
 unfold fold_all.f
 have m0 := @dec_Add.mono; have m1 := @fold_Numbers.mono; exact mo_
theorem fold_all.calls (k : Nat) (A0 : Option Addr) (c0 : Nat) (l0 : List (S26)) (a1 : Int) (a2 : Int) (r1 : Int) (r2 : Int) (r3 : ByteArray) (w : World) (hr0 : Kd.C k26 w A0 l0.length l0) (hc0 : l0.length ≤ c0) (h : fold_all.f k l0 a1 a2 = some (r1, r2, r3)) :
  Calls Tryz.prog 45 #[.slice A0 l0.length c0, .int .i64 a1, (.func (.func 38) #[] #[])] w fun e w' => e = .returned (.agg #[.int .i64 r1, .int .i64 r2, .string r3]) ∧ Below w.heap.size w w' := by
 have hu26 := Tryz.underlying26; have HR0 := A_ hr0; have HC0 := A_ hc0; clear hr0 hc0; have HB := A_ (Below.refl w.heap.size w)
 have H : ((fold_Numbers.f k l0).bind fun bt102 => (if bt102.2.1 = 4 then (some (bt102.2.1, bt102.2.2.1, bt102.2.2.2)) else (fold_all.l0 k a1 bt102.1 (bt102.1.length : Int) 0))) = some (r1, r2, r3) := h
 clear h; obtain ⟨⟨t102, t105, t106, t107⟩, A4, H⟩ := bo_ H; dsimp only at H
 by_cases c5 : t105 = 4
 ·rw [if_pos c5] at H; have ⟨c5b0,c5b1⟩ := e1_ c5; clear c5
  simp only [Option.some.injEq, Prod.mk.injEq] at H
  obtain ⟨rfl, rfl, rfl⟩ := H
  go_enter Tryz.func45, Tryz.ntmps45
  go_wp2_with (first | ((with_reducible refine gd_ 6 ?_); refine be_ (N:=6) (cs := #[.int .i64 0, .int .i64 0, .string (⟨#[]⟩ : ByteArray)]) (t:=26) ?_; intro g1 hg w6 hbox hb; have B1 := A_ (hbox); have GW101 := hs_ HB hg; have GE101 := hs_ HB hg; replace HB := bs_ HB hb; clear hb hbox hg) | ((with_reducible refine gate_callee (f:=36) rfl ?_); refine gL_ (some 15) rfl rfl Tryz.func36 rfl #[.slice A0 l0.length c0] rfl ?_; (with_reducible refine (fold_Numbers.calls k _ _ l0 t102 t105 t106 t107 _ ?side1 ?side2 A4.out).mono ?_); (case side1 => exact ca_ (Kd.C_below HR0.out HB.out)); (case side2 => exact HC0.out); rintro e w7 ⟨v103, rfl, ho0, hb⟩; refine ⟨_, rfl, ?_⟩; have HO104 := A_ (Kd.R_lower ho0 (below_size (pbx HB))); replace B1 := bb_ B1 hb; replace HB := bs_ HB hb; ) | ((with_reducible refine gd_ 8 ?_); refine be_ (N:=8) (cs := #[.int .i64 0, .int .i64 0, .string (⟨#[]⟩ : ByteArray)]) (t:=26) ?_; intro g8 hg w8 hbox hb; have B8 := A_ (hbox); have GW108 := hs_ HB hg; have GE108 := hs_ HB hg; have N18 := hl_ B1 hg; have N81 := hr_ B1 hg; replace HO104 := A_ (Kd.R_below (ra_ HO104.out) hb); replace B1 := bb_ B1 hb; replace HB := bs_ HB hb; clear hb hbox hg; have hnb9 := N81.out; have hnc9 := N18.out; have ⟨hcz10_0,hcz10_1,hcz10_2,hfz10_0,hfz10_1,hfz10_2⟩ := z3_ B8; have ⟨hcz11_0,hcz11_1,hcz11_2,hfz11_0,hfz11_1,hfz11_2⟩ := z3_ B1))
  refine bodyPost_ret (results_cell_row rfl _ _ g1 26 #[.int .i64 t105, .int .i64 t106, .string t107] (0, 0) _ rfl (by refine pp_ (cs := #[.int .i64 t105, .int .i64 t106, .string (⟨#[]⟩ : ByteArray)]) 2 ?_ rfl; refine pp_ (cs := #[.int .i64 t105, .int .i64 0, .string (⟨#[]⟩ : ByteArray)]) 1 ?_ rfl; refine pp_ (cs := #[.int .i64 0, .int .i64 0, .string (⟨#[]⟩ : ByteArray)]) 0 ?_ rfl; (iterate 3 refine pf_ ?_ N18.out); exact pkx B1) Tryz.underlying26 rfl (by kernel_rfl)) rfl ?_
  exact fi_ bl_
 ·rw [if_neg c5] at H; have ⟨c5b0,c5b1⟩ := e0_ c5
  have H' := A_ H
  clear H
  go_enter Tryz.func45, Tryz.ntmps45
  go_wp2_with (first | ((with_reducible refine gd_ 6 ?_); refine be_ (N:=6) (cs := #[.int .i64 0, .int .i64 0, .string (⟨#[]⟩ : ByteArray)]) (t:=26) ?_; intro g1 hg w12 hbox hb; have B1 := A_ (hbox); have GW101 := hs_ HB hg; have GE101 := hs_ HB hg; replace HB := bs_ HB hb; clear hb hbox hg) | ((with_reducible refine gate_callee (f:=36) rfl ?_); refine gL_ (some 15) rfl rfl Tryz.func36 rfl #[.slice A0 l0.length c0] rfl ?_; (with_reducible refine (fold_Numbers.calls k _ _ l0 t102 t105 t106 t107 _ ?side1 ?side2 A4.out).mono ?_); (case side1 => exact ca_ (Kd.C_below HR0.out HB.out)); (case side2 => exact HC0.out); rintro e w13 ⟨v103, rfl, ho0, hb⟩; refine ⟨_, rfl, ?_⟩; have HO104 := A_ (Kd.R_lower ho0 (below_size (pbx HB))); replace B1 := bb_ B1 hb; replace HB := bs_ HB hb; ) | ((with_reducible refine gd_ 8 ?_); refine be_ (N:=8) (cs := #[.int .i64 0, .int .i64 0, .string (⟨#[]⟩ : ByteArray)]) (t:=26) ?_; intro g8 hg w14 hbox hb; have B8 := A_ (hbox); have GW108 := hs_ HB hg; have GE108 := hs_ HB hg; have N18 := hl_ B1 hg; have N81 := hr_ B1 hg; replace HO104 := A_ (Kd.R_below (ra_ HO104.out) hb); replace B1 := bb_ B1 hb; replace HB := bs_ HB hb; clear hb hbox hg; have hnb15 := N81.out; have hnc15 := N18.out; have ⟨hcz16_0,hcz16_1,hcz16_2,hfz16_0,hfz16_1,hfz16_2⟩ := z3_ B8; obtain ⟨Ao17, co17, eo17⟩ := Kd.R_slice HO104.out; subst eo17))
  go_loopg [1, 24] k (fun kq v1 v24 w' => ∃ (x1_1 : Int) (x24_1 : Int) (x102000_1 : Int) (x102001_1 : Int) (x102002_1 : ByteArray), v1 = .int .i64 x1_1 ∧ v24 = .int .i64 x24_1 ∧ Aside0 (fold_all.l0 kq x1_1 t102 (t102.length : Int) x24_1 = some (r1, r2, r3)) ∧ Aside0 (kq ≤ k) ∧ Aside0 (Kd.R (Kd.int .i64) 2 w' w.heap.size (fun _ => True) (.slice Ao17 t102.length co17) t102) ∧ Aside0 (w'.heap[g1]? = some (.cells #[.int .i64 x102000_1, .int .i64 x102001_1, .string x102002_1] 26 (0, 0))) ∧ Aside0 (w'.heap[g8]? = some (.cells #[.int .i64 t105, .int .i64 t106, .string t107] 26 (0, 0))) ∧ Aside0 (Below w.heap.size w w'))
  case atStart => exact ⟨(a1), (0), (0), (0), ((⟨#[]⟩ : ByteArray)), sq_, sq_, H', ⟨Nat.le_refl _⟩, ⟨by (with_reducible repeat (first | apply Kd.R_alloc | apply Kd.R_drewN | apply Kd.R_drew)); exact Kd.R_mono (Kd.R_far (p := ⟨g8, 2, none⟩) (Kd.R_far (p := ⟨g8, 1, none⟩) (Kd.R_far (p := ⟨g8, 0, none⟩) (Kd.R_types HO104.out B8.out (by decide)) (fun _ hk => hk.2) (.int .i64 t105)) (fun _ hk => hk.2) (.int .i64 t106)) (fun _ hk => hk.2) (.string t107)) (fun _ hk => trivial)⟩, ⟨by (iterate 3 refine pf_ ?_ N18.out); exact pkx B1⟩, ⟨by (iterate 3 apply pp_); exact pkx B8; all_goals rfl⟩, ⟨bl_⟩⟩
  case round =>
   clear H'; (try clear c5); (try clear c5b0); (try clear c5b1); (try clear hcz16_0); (try clear hcz16_1); (try clear hcz16_2); (try clear hfz16_0); (try clear hfz16_1); (try clear hfz16_2); obtain ⟨x1_1, x24_1, x102000_1, x102001_1, x102002_1, rfl, rfl, HA, HK1, HO_22, B1, B8, HB⟩ := hrel
   cases gk with
   | zero => exact absurd HA.out (by simp [fold_all.l0])
   | succ k1 =>
    have H := HA.out; clear HA
    simp only [fold_all.l0] at H
    by_cases c18 : x24_1 < (t102.length : Int)
    ·rw [if_pos c18] at H; have c18b0 := decide_eq_true c18; clear c18
     by_cases c19 : 0 ≤ x24_1
     ·rw [if_pos c19] at H; have c19b0 := decide_eq_true c19; clear c19
      by_cases c20 : x24_1 < (t102.length : Int)
      ·rw [if_pos c20] at H; have c20b0 := decide_eq_true c20; clear c20; obtain ⟨⟨t113, t114⟩, A21, H⟩ := bo_ H; dsimp only at H
       replace H := ib_ H; rcases H with ⟨rfl,H⟩|⟨rfl,H⟩
       ·have H' := A_ H
        clear H
        have p112 : 0 ≤ (x24_1 : Int) := of_decide_eq_true as_
        have q112 : x24_1 < (t102.length : Int) := of_decide_eq_true as_
        obtain ⟨ad112, e112, hx112_0⟩ := Kd.at_int (Kd.R_reads' HO_22.out).2.2 x24_1 p112 q112
        cases e112
        replace p112 := eq_true p112; replace q112 := eq_true q112
        go_wp2_with (first | ((with_reducible refine gate_callee_t rfl ?_); refine goesLT_ (some 32) rfl rfl Tryz.func38 (by kernel_rfl) rfl #[.int .i64 x1_1, .int .i64 (rd t102 x24_1)] rfl rfl ha_ ?_; (with_reducible refine (dec_Add.calls k1 x1_1 (rd t102 x24_1) t113 true _ A21.out).mono ?_); rintro e w' ⟨rfl, ⟨nd, rfl⟩⟩; refine ⟨_, rfl, ?_⟩))
        go_roundg k1
        case measure => have := HK1.out; omega
        case rel => exact ⟨(t113), (wrap64 (x24_1 + 1)), (x102000_1), (x102001_1), (x102002_1), (by first | rfl | (simp; done) | (simp [*]; done) | (cases t113 <;> simp; done)), sq_, H', ⟨by have := HK1.out; omega⟩, ⟨ra_ HO_22.out⟩, ⟨pkx B1⟩, ⟨pkx B8⟩, ⟨pbx HB⟩⟩
       ·obtain ⟨⟨t115, t116, t117⟩, A23, H⟩ := bo_ H; dsimp only at H
        simp only [Option.some.injEq, Prod.mk.injEq] at H
        obtain ⟨rfl, rfl, rfl⟩ := H
        have p112 : 0 ≤ (x24_1 : Int) := of_decide_eq_true as_
        have q112 : x24_1 < (t102.length : Int) := of_decide_eq_true as_
        obtain ⟨ad112, e112, hx112_0⟩ := Kd.at_int (Kd.R_reads' HO_22.out).2.2 x24_1 p112 q112
        cases e112
        replace p112 := eq_true p112; replace q112 := eq_true q112
        go_wp2_with (first | ((with_reducible refine gate_callee_t rfl ?_); refine goesLT_ (some 32) rfl rfl Tryz.func38 (by kernel_rfl) rfl #[.int .i64 x1_1, .int .i64 (rd t102 x24_1)] rfl rfl ha_ ?_; (with_reducible refine (dec_Add.calls k1 x1_1 (rd t102 x24_1) t113 false _ A21.out).mono ?_); rintro e w' ⟨rfl, ⟨nd, rfl⟩⟩; refine ⟨_, rfl, ?_⟩; (try (rw [drewN_self wr]; generalize hq_ : World.drewN wr _ = wr; have n0_ : Aside0 (Kd.R (Kd.int .i64) 2 wr w.heap.size (fun _ => True) (.slice (some ad112) t102.length co17) t102) := ⟨by rw [← hq_]; exact (ra_ HO_22.out)⟩; have n1_ : Aside0 (wr.heap[g1]? = some (.cells #[.int .i64 x102000_1, .int .i64 x102001_1, .string x102002_1] 26 (0, 0))) := ⟨by rw [← hq_]; exact (pkx B1)⟩; have n2_ : Aside0 (wr.heap[g8]? = some (.cells #[.int .i64 t105, .int .i64 t106, .string t107] 26 (0, 0))) := ⟨by rw [← hq_]; exact (pkx B8)⟩; have n3_ : Aside0 (Below w.heap.size w wr) := ⟨by rw [← hq_]; exact (pbx HB)⟩; clear HO_22 B1 B8 HB hq_; have HO_22 := n0_; have B1 := n1_; have B8 := n2_; have HB := n3_; clear n0_ n1_ n2_ n3_))) | ((with_reducible refine gate_callee (f:=34) rfl ?_); refine gL_ (some 37) rfl rfl Tryz.func34 rfl #[.int .i64 4] rfl ?_; (with_reducible refine (value_Bad.calls 4 t115 t116 t117 _ A23.out).mono ?_); rintro e w24 ⟨rfl, hb⟩; refine ⟨_, rfl, ?_⟩; replace HO_22 := A_ (Kd.R_below (ra_ HO_22.out) hb); replace B1 := bb_ B1 hb; replace B8 := bb_ B8 hb; replace HB := bs_ HB hb; (try clear hb); (try clear hk); have hnb25 := N18.out; have hnc25 := N81.out; have ⟨hcz26_0,hcz26_1,hcz26_2,hfz26_0,hfz26_1,hfz26_2⟩ := z3_ B1))
        refine bodyPost_ret (results_cell_row rfl _ _ g1 26 #[.int .i64 t115, .int .i64 t116, .string t117] (0, 0) _ rfl (by refine pp_ (cs := #[.int .i64 t115, .int .i64 t116, .string x102002_1]) 2 ?_ rfl; refine blk_put (cs := #[.int .i64 t115, .int .i64 x102001_1, .string x102002_1]) ?_ 1 _ rfl; refine blk_put (cs := #[.int .i64 x102000_1, .int .i64 x102001_1, .string x102002_1]) ?_ 0 _ rfl; exact pkx B1) Tryz.underlying26 rfl (by kernel_rfl)) rfl ?_
        exact fi_ bl_
      ·rw [if_neg c20] at H
       exact absurd H (by simp)
     ·rw [if_neg c19] at H
      exact absurd H (by simp)
    ·rw [if_neg c18] at H; have c18b0 := decide_eq_false c18; clear c18; obtain ⟨⟨t109, t110, t111⟩, A27, H⟩ := bo_ H; dsimp only at H
     simp only [Option.some.injEq, Prod.mk.injEq] at H
     obtain ⟨rfl, rfl, rfl⟩ := H
     go_wp2_with (first | ((with_reducible refine gate_callee (f:=16) rfl ?_); refine gL_ (some 41) rfl rfl Tryz.func16 rfl #[.int .i64 x1_1] rfl ?_; (with_reducible refine (value_Num.calls x1_1 t109 t110 t111 _ A27.out).mono ?_); rintro e w28 ⟨rfl, hb⟩; refine ⟨_, rfl, ?_⟩; replace HO_22 := A_ (Kd.R_below (ra_ HO_22.out) hb); replace B1 := bb_ B1 hb; replace B8 := bb_ B8 hb; replace HB := bs_ HB hb; (try clear hb); (try clear hk); have hnb29 := N18.out; have hnc29 := N81.out; have ⟨hcz30_0,hcz30_1,hcz30_2,hfz30_0,hfz30_1,hfz30_2⟩ := z3_ B1))
     refine bodyPost_ret (results_cell_row rfl _ _ g1 26 #[.int .i64 t109, .int .i64 t110, .string t111] (0, 0) _ rfl (by refine pp_ (cs := #[.int .i64 t109, .int .i64 t110, .string x102002_1]) 2 ?_ rfl; refine blk_put (cs := #[.int .i64 t109, .int .i64 x102001_1, .string x102002_1]) ?_ 1 _ rfl; refine blk_put (cs := #[.int .i64 x102000_1, .int .i64 x102001_1, .string x102002_1]) ?_ 0 _ rfl; exact pkx B1) Tryz.underlying26 rfl (by kernel_rfl)) rfl ?_
     exact fi_ bl_

def fold_Sum.f (k : Nat) (l0 : List (S26)) : Option (Int × Int × ByteArray) := (fold_all.f k l0 0 0).bind fun bt102 => (some (bt102.1, bt102.2.1, bt102.2.2))
theorem fold_Sum.mono : ∀ a0 k, LeO (fold_Sum.f k a0) (fold_Sum.f (k + 1) a0) := by
 intro a0 k
 unfold fold_Sum.f
 have m0 := @fold_all.mono; exact mo_
theorem fold_Sum.calls (k : Nat) (A0 : Option Addr) (c0 : Nat) (l0 : List (S26)) (r1 : Int) (r2 : Int) (r3 : ByteArray) (w : World) (hr0 : Kd.C k26 w A0 l0.length l0) (hc0 : l0.length ≤ c0) (h : fold_Sum.f k l0 = some (r1, r2, r3)) :
  Calls Tryz.prog 26 #[.slice A0 l0.length c0] w fun e w' => e = .returned (.agg #[.int .i64 r1, .int .i64 r2, .string r3]) ∧ Below w.heap.size w w' := by
 have hu26 := Tryz.underlying26; have HR0 := A_ hr0; have HC0 := A_ hc0; clear hr0 hc0; have HB := A_ (Below.refl w.heap.size w)
 have H : ((fold_all.f k l0 0 0).bind fun bt102 => (some (bt102.1, bt102.2.1, bt102.2.2))) = some (r1, r2, r3) := h
 clear h; obtain ⟨⟨t102, t103, t104⟩, A2, H⟩ := bo_ H; dsimp only at H
 simp only [Option.some.injEq, Prod.mk.injEq] at H
 obtain ⟨rfl, rfl, rfl⟩ := H
 go_enter Tryz.func26, Tryz.ntmps26
 go_wp2_with (first | ((with_reducible refine gd_ 2 ?_); refine be_ (N:=2) (cs := #[.int .i64 0, .int .i64 0, .string (⟨#[]⟩ : ByteArray)]) (t:=26) ?_; intro g1 hg w3 hbox hb; have B1 := A_ (hbox); have GW101 := hs_ HB hg; have GE101 := hs_ HB hg; replace HB := bs_ HB hb; clear hb hbox hg) | ((with_reducible refine gate_callee (f:=45) rfl ?_); refine gL_ (some 4) rfl rfl Tryz.func45 rfl #[.slice A0 l0.length c0, .int .i64 0, (.func (.func 38) #[] #[])] rfl ?_; (with_reducible refine (fold_all.calls k _ _ l0 0 0 t102 t103 t104 _ ?side1 ?side2 A2.out).mono ?_); (case side1 => exact ca_ (Kd.C_below HR0.out HB.out)); (case side2 => exact HC0.out); rintro e w4 ⟨rfl, hb⟩; refine ⟨_, rfl, ?_⟩; replace B1 := bb_ B1 hb; replace HB := bs_ HB hb; have ⟨hcz5_0,hcz5_1,hcz5_2,hfz5_0,hfz5_1,hfz5_2⟩ := z3_ B1))
 refine bodyPost_ret (results_cell_row rfl _ _ g1 26 #[.int .i64 t102, .int .i64 t103, .string t104] (0, 0) _ rfl (by (iterate 3 apply pp_); exact pkx B1; all_goals rfl) Tryz.underlying26 rfl (by kernel_rfl)) rfl ?_
 exact fi_ bl_

def look_SumIf.f (k : Nat) (a0_0 : Int) (a0_1 : Int) (l0_2 : List (S26)) (a1_0 : Int) (a1_1 : Int) (a1_2 : ByteArray) : Option (Int × Int × ByteArray) := (look_hit.f k a0_0 a0_1 l0_2 a1_0 a1_1 a1_2).bind fun bt104 => (if bt104.2.1 = 4 then (some (bt104.2.1, bt104.2.2.1, bt104.2.2.2)) else ((fold_Sum.f k bt104.1).bind fun bt111 => (some (bt111.1, bt111.2.1, bt111.2.2))))
theorem look_SumIf.mono : ∀ a0 a1 a2 a3 a4 a5 k, LeO (look_SumIf.f k a0 a1 a2 a3 a4 a5) (look_SumIf.f (k + 1) a0 a1 a2 a3 a4 a5) := by
 intro a0 a1 a2 a3 a4 a5 k
 unfold look_SumIf.f
 have m0 := @fold_Sum.mono; have m1 := @look_hit.mono; exact mo_
theorem look_SumIf.calls (k : Nat) (a0_0 : Int) (a0_1 : Int) (A0_2 : Option Addr) (c0_2 : Nat) (l0_2 : List (S26)) (a1_0 : Int) (a1_1 : Int) (a1_2 : ByteArray) (r1 : Int) (r2 : Int) (r3 : ByteArray) (w : World) (hr0_2 : Kd.C k26 w A0_2 l0_2.length l0_2) (hc0_2 : l0_2.length ≤ c0_2) (h : look_SumIf.f k a0_0 a0_1 l0_2 a1_0 a1_1 a1_2 = some (r1, r2, r3)) :
  Calls Tryz.prog 9 #[.agg #[.int .i64 a0_0, .int .i64 a0_1, .slice A0_2 l0_2.length c0_2], .agg #[.int .i64 a1_0, .int .i64 a1_1, .string a1_2]] w fun e w' => e = .returned (.agg #[.int .i64 r1, .int .i64 r2, .string r3]) ∧ Below w.heap.size w w' := by
 have hu24 := Tryz.underlying24; have hu26 := Tryz.underlying26; have HR0_2 := A_ hr0_2; have HC0_2 := A_ hc0_2; clear hr0_2 hc0_2; have HB := A_ (Below.refl w.heap.size w)
 have H : ((look_hit.f k a0_0 a0_1 l0_2 a1_0 a1_1 a1_2).bind fun bt104 => (if bt104.2.1 = 4 then (some (bt104.2.1, bt104.2.2.1, bt104.2.2.2)) else ((fold_Sum.f k bt104.1).bind fun bt111 => (some (bt111.1, bt111.2.1, bt111.2.2))))) = some (r1, r2, r3) := h
 clear h; obtain ⟨⟨t104, t107, t108, t109⟩, A3, H⟩ := bo_ H; dsimp only at H
 by_cases c4 : t107 = 4
 ·rw [if_pos c4] at H; have ⟨c4b0,c4b1⟩ := e1_ c4; clear c4
  simp only [Option.some.injEq, Prod.mk.injEq] at H
  obtain ⟨rfl, rfl, rfl⟩ := H
  go_enter Tryz.func9, Tryz.ntmps9
  go_wp2_with (first | ((with_reducible refine gd_ 2 ?_); refine be_ (N:=2) (cs := #[.int .i64 a0_0, .int .i64 a0_1, .slice A0_2 l0_2.length c0_2]) (t:=24) ?_; intro g1 hg w5 hbox hb; have B1 := A_ (hbox); have GW101 := hs_ HB hg; have GE101 := hs_ HB hg; replace HB := bs_ HB hb; clear hb hbox hg) | ((with_reducible refine gd_ 3 ?_); refine be_ (N:=3) (cs := #[.int .i64 a1_0, .int .i64 a1_1, .string a1_2]) (t:=26) ?_; intro g2 hg w6 hbox hb; have B2 := A_ (hbox); have GW102 := hs_ HB hg; have GE102 := hs_ HB hg; have N12 := hl_ B1 hg; have N21 := hr_ B1 hg; replace B1 := bb_ B1 hb; replace HB := bs_ HB hb; clear hb hbox hg) | ((with_reducible refine gd_ 4 ?_); refine be_ (N:=4) (cs := #[.int .i64 0, .int .i64 0, .string (⟨#[]⟩ : ByteArray)]) (t:=26) ?_; intro g3 hg w7 hbox hb; have B3 := A_ (hbox); have GW103 := hs_ HB hg; have GE103 := hs_ HB hg; have N13 := hl_ B1 hg; have N31 := hr_ B1 hg; have N23 := hl_ B2 hg; have N32 := hr_ B2 hg; replace B1 := bb_ B1 hb; replace B2 := bb_ B2 hb; replace HB := bs_ HB hb; clear hb hbox hg; have hnb8 := N12.out; have hnc8 := N21.out; have hnb9 := N13.out; have hnc9 := N31.out; have ⟨hcz10_0,hcz10_1,hcz10_2,hfz10_0,hfz10_1,hfz10_2⟩ := z3_ B1; have hnb11 := N23.out; have hnc11 := N32.out; have ⟨hcz12_0,hcz12_1,hcz12_2,hfz12_0,hfz12_1,hfz12_2⟩ := z3_ B2) | ((with_reducible refine gate_callee (f:=21) rfl ?_); refine gL_ (some 10) rfl rfl Tryz.func21 rfl #[.agg #[.int .i64 a0_0, .int .i64 a0_1, .slice A0_2 l0_2.length c0_2], .agg #[.int .i64 a1_0, .int .i64 a1_1, .string a1_2]] rfl ?_; (with_reducible refine (look_hit.calls k a0_0 a0_1 _ _ l0_2 a1_0 a1_1 a1_2 t104 t107 t108 t109 _ ?side1 ?side2 A3.out).mono ?_); (case side1 => exact ca_ (Kd.C_below HR0_2.out HB.out)); (case side2 => exact HC0_2.out); rintro e w13 ⟨v105, rfl, ho0, hb⟩; refine ⟨_, rfl, ?_⟩; have HO106 := A_ (Kd.R_lower (Kd.R_newB (Kd.R_newB ho0 (pkx B2)) (pkx B3)) (below_size (pbx HB))); replace B1 := bb_ B1 hb; replace B2 := bb_ B2 hb; replace B3 := bb_ B3 hb; replace HB := bs_ HB hb; ) | ((with_reducible refine gd_ 6 ?_); refine be_ (N:=6) (cs := #[.int .i64 0, .int .i64 0, .string (⟨#[]⟩ : ByteArray)]) (t:=26) ?_; intro gb110 hg w14 hbox hb; have BK110 := A_ (hbox); have GW110 := hs_ HB hg; have GE110 := hs_ HB hg; have NB101_110 := hl_ B1 hg; have NB110_101 := hr_ B1 hg; have NB102_110 := hl_ B2 hg; have NB110_102 := hr_ B2 hg; have NB103_110 := hl_ B3 hg; have NB110_103 := hr_ B3 hg; replace HO106 := A_ (Kd.R_below (Kd.R_elderB (ra_ HO106.out) gb110 (Nat.le_of_eq hg.symm)) hb); replace B1 := bb_ B1 hb; replace B2 := bb_ B2 hb; replace B3 := bb_ B3 hb; replace HB := bs_ HB hb; clear hb hbox hg; have hnb15 := NB110_101.out; have hnc15 := NB101_110.out; have hnb16 := NB110_102.out; have hnc16 := NB102_110.out; have hnb17 := NB110_103.out; have hnc17 := NB103_110.out; have ⟨hcz18_0,hcz18_1,hcz18_2,hfz18_0,hfz18_1,hfz18_2⟩ := z3_ BK110; have ⟨hcz19_0,hcz19_1,hcz19_2,hfz19_0,hfz19_1,hfz19_2⟩ := z3_ B3))
  refine bodyPost_ret (results_cell_row rfl _ _ g3 26 #[.int .i64 t107, .int .i64 t108, .string t109] (0, 0) _ rfl (by refine pp_ (cs := #[.int .i64 t107, .int .i64 t108, .string (⟨#[]⟩ : ByteArray)]) 2 ?_ rfl; refine pp_ (cs := #[.int .i64 t107, .int .i64 0, .string (⟨#[]⟩ : ByteArray)]) 1 ?_ rfl; refine pp_ (cs := #[.int .i64 0, .int .i64 0, .string (⟨#[]⟩ : ByteArray)]) 0 ?_ rfl; (iterate 3 refine pf_ ?_ NB103_110.out); exact pkx B3) Tryz.underlying26 rfl (by kernel_rfl)) rfl ?_
  exact fi_ bl_
 ·rw [if_neg c4] at H; have ⟨c4b0,c4b1⟩ := e0_ c4; obtain ⟨⟨t111, t112, t113⟩, A20, H⟩ := bo_ H; dsimp only at H
  simp only [Option.some.injEq, Prod.mk.injEq] at H
  obtain ⟨rfl, rfl, rfl⟩ := H
  go_enter Tryz.func9, Tryz.ntmps9
  go_wp2_with (first | ((with_reducible refine gd_ 2 ?_); refine be_ (N:=2) (cs := #[.int .i64 a0_0, .int .i64 a0_1, .slice A0_2 l0_2.length c0_2]) (t:=24) ?_; intro g1 hg w21 hbox hb; have B1 := A_ (hbox); have GW101 := hs_ HB hg; have GE101 := hs_ HB hg; replace HB := bs_ HB hb; clear hb hbox hg) | ((with_reducible refine gd_ 3 ?_); refine be_ (N:=3) (cs := #[.int .i64 a1_0, .int .i64 a1_1, .string a1_2]) (t:=26) ?_; intro g2 hg w22 hbox hb; have B2 := A_ (hbox); have GW102 := hs_ HB hg; have GE102 := hs_ HB hg; have N12 := hl_ B1 hg; have N21 := hr_ B1 hg; replace B1 := bb_ B1 hb; replace HB := bs_ HB hb; clear hb hbox hg) | ((with_reducible refine gd_ 4 ?_); refine be_ (N:=4) (cs := #[.int .i64 0, .int .i64 0, .string (⟨#[]⟩ : ByteArray)]) (t:=26) ?_; intro g3 hg w23 hbox hb; have B3 := A_ (hbox); have GW103 := hs_ HB hg; have GE103 := hs_ HB hg; have N13 := hl_ B1 hg; have N31 := hr_ B1 hg; have N23 := hl_ B2 hg; have N32 := hr_ B2 hg; replace B1 := bb_ B1 hb; replace B2 := bb_ B2 hb; replace HB := bs_ HB hb; clear hb hbox hg; have hnb24 := N12.out; have hnc24 := N21.out; have hnb25 := N13.out; have hnc25 := N31.out; have ⟨hcz26_0,hcz26_1,hcz26_2,hfz26_0,hfz26_1,hfz26_2⟩ := z3_ B1; have hnb27 := N23.out; have hnc27 := N32.out; have ⟨hcz28_0,hcz28_1,hcz28_2,hfz28_0,hfz28_1,hfz28_2⟩ := z3_ B2) | ((with_reducible refine gate_callee (f:=21) rfl ?_); refine gL_ (some 10) rfl rfl Tryz.func21 rfl #[.agg #[.int .i64 a0_0, .int .i64 a0_1, .slice A0_2 l0_2.length c0_2], .agg #[.int .i64 a1_0, .int .i64 a1_1, .string a1_2]] rfl ?_; (with_reducible refine (look_hit.calls k a0_0 a0_1 _ _ l0_2 a1_0 a1_1 a1_2 t104 t107 t108 t109 _ ?side1 ?side2 A3.out).mono ?_); (case side1 => exact ca_ (Kd.C_below HR0_2.out HB.out)); (case side2 => exact HC0_2.out); rintro e w29 ⟨v105, rfl, ho0, hb⟩; refine ⟨_, rfl, ?_⟩; have HO106 := A_ (Kd.R_lower (Kd.R_newB (Kd.R_newB ho0 (pkx B2)) (pkx B3)) (below_size (pbx HB))); replace B1 := bb_ B1 hb; replace B2 := bb_ B2 hb; replace B3 := bb_ B3 hb; replace HB := bs_ HB hb; ) | ((with_reducible refine gd_ 6 ?_); refine be_ (N:=6) (cs := #[.int .i64 0, .int .i64 0, .string (⟨#[]⟩ : ByteArray)]) (t:=26) ?_; intro gb110 hg w30 hbox hb; have BK110 := A_ (hbox); have GW110 := hs_ HB hg; have GE110 := hs_ HB hg; have NB101_110 := hl_ B1 hg; have NB110_101 := hr_ B1 hg; have NB102_110 := hl_ B2 hg; have NB110_102 := hr_ B2 hg; have NB103_110 := hl_ B3 hg; have NB110_103 := hr_ B3 hg; replace HO106 := A_ (Kd.R_below (Kd.R_elderB (ra_ HO106.out) gb110 (Nat.le_of_eq hg.symm)) hb); replace B1 := bb_ B1 hb; replace B2 := bb_ B2 hb; replace B3 := bb_ B3 hb; replace HB := bs_ HB hb; clear hb hbox hg; have hnb31 := NB110_101.out; have hnc31 := NB101_110.out; have hnb32 := NB110_102.out; have hnc32 := NB102_110.out; have hnb33 := NB110_103.out; have hnc33 := NB103_110.out; have ⟨hcz34_0,hcz34_1,hcz34_2,hfz34_0,hfz34_1,hfz34_2⟩ := z3_ BK110; obtain ⟨Ao35, co35, eo35⟩ := Kd.R_slice HO106.out; subst eo35) | ((with_reducible refine gate_callee (f:=26) rfl ?_); refine gL_ (some 18) rfl rfl Tryz.func26 rfl #[.slice Ao35 t104.length co35] rfl ?_; (with_reducible refine (fold_Sum.calls k _ _ t104 t111 t112 t113 _ ?side1 ?side2 A20.out).mono ?_); (case side1 => refine (Kd.R_reads' (e:=26) (base := w.heap.size) (ok := fun k_ => (((True ∧ k_ ≠ g2) ∧ k_ ≠ g3) ∧ k_ ≠ gb110)) (n := t104.length) (c:=co35) ?_).2.2; exact (by (with_reducible repeat (first | apply Kd.R_alloc | apply Kd.R_drewN | apply Kd.R_drew)); exact (Kd.R_mono (Kd.R_far (p := ⟨gb110, 2, none⟩) (Kd.R_far (p := ⟨gb110, 1, none⟩) (Kd.R_far (p := ⟨gb110, 0, none⟩) (Kd.R_mono HO106.out (fun k_ hk => (⟨hk, hk.2⟩ : _ ∧ k_ ≠ gb110))) (fun _ hk => hk.2) (.int .i64 t107)) (fun _ hk => hk.2) (.int .i64 t108)) (fun _ hk => hk.2) (.string t109)) (fun _ h_ => h_.1)))); (case side2 => exact (Kd.R_reads' HO106.out).2.1); rintro e w36 ⟨rfl, hb⟩; refine ⟨_, rfl, ?_⟩; replace HO106 := A_ (Kd.R_below (by (with_reducible repeat (first | apply Kd.R_alloc | apply Kd.R_drewN | apply Kd.R_drew)); exact (Kd.R_mono (Kd.R_far (p := ⟨gb110, 2, none⟩) (Kd.R_far (p := ⟨gb110, 1, none⟩) (Kd.R_far (p := ⟨gb110, 0, none⟩) (Kd.R_mono HO106.out (fun k_ hk => (⟨hk, hk.2⟩ : _ ∧ k_ ≠ gb110))) (fun _ hk => hk.2) (.int .i64 t107)) (fun _ hk => hk.2) (.int .i64 t108)) (fun _ hk => hk.2) (.string t109)) (fun _ h_ => h_.1))) hb); replace B1 := A_ (blk_below (g:=g1) (o := .cells #[.int .i64 a0_0, .int .i64 a0_1, .slice A0_2 l0_2.length c0_2] 24 (0, 0)) (by (iterate 3 refine pf_ ?_ NB101_110.out); exact pkx B1) hb); replace B2 := A_ (blk_below (g:=g2) (o := .cells #[.int .i64 a1_0, .int .i64 a1_1, .string a1_2] 26 (0, 0)) (by (iterate 3 refine pf_ ?_ NB102_110.out); exact pkx B2) hb); replace B3 := A_ (blk_below (g:=g3) (o := .cells #[.int .i64 0, .int .i64 0, .string (⟨#[]⟩ : ByteArray)] 26 (0, 0)) (by (iterate 3 refine pf_ ?_ NB103_110.out); exact pkx B3) hb); replace BK110 := A_ (blk_below (g:=gb110) (o := .cells #[.int .i64 t107, .int .i64 t108, .string t109] 26 (0, 0)) (by (iterate 3 apply pp_); exact pkx BK110; all_goals rfl) hb); replace HB := A_ (below_step (by repeat (first | (with_reducible first | exact HB.out | apply below_alloc | apply pw_below_drewN | apply below_drew1 | refine below_set ?_ GE101.out | refine below_set ?_ GE102.out | refine below_set ?_ GE103.out | refine below_set ?_ GE110.out) | exact HB.out)) hb); have ⟨hcz37_0,hcz37_1,hcz37_2,hfz37_0,hfz37_1,hfz37_2⟩ := z3_ B3))
  refine bodyPost_ret (results_cell_row rfl _ _ g3 26 #[.int .i64 t111, .int .i64 t112, .string t113] (0, 0) _ rfl (by (iterate 3 apply pp_); exact pkx B3; all_goals rfl) Tryz.underlying26 rfl (by kernel_rfl)) rfl ?_
  exact fi_ bl_

def look_found.f (k : Nat) (a0_0 : Int) (a0_1 : Int) (a0_2 : ByteArray) (a1_0 : Int) (a1_1 : Int) (a1_2 : ByteArray) : Option (Bool) := if a0_0 = 4 then (some false) else (if a1_0 = 4 then (some false) else ((value_Compare.f k a0_0 a0_1 a0_2 a1_0 a1_1 a1_2).bind fun t103 => (some (t103 == 0))))
theorem look_found.mono : ∀ a0 a1 a2 a3 a4 a5 k, LeO (look_found.f k a0 a1 a2 a3 a4 a5) (look_found.f (k + 1) a0 a1 a2 a3 a4 a5) := by
 intro a0 a1 a2 a3 a4 a5 k
 unfold look_found.f
 have m0 := @value_Compare.mono; exact mo_
theorem look_found.calls (k : Nat) (a0_0 : Int) (a0_1 : Int) (a0_2 : ByteArray) (a1_0 : Int) (a1_1 : Int) (a1_2 : ByteArray) (r : Bool) (w : World) (h : look_found.f k a0_0 a0_1 a0_2 a1_0 a1_1 a1_2 = some r) :
  Calls Tryz.prog 32 #[.agg #[.int .i64 a0_0, .int .i64 a0_1, .string a0_2], .agg #[.int .i64 a1_0, .int .i64 a1_1, .string a1_2]] w fun e w' => e = .returned (.bool r) ∧ Below w.heap.size w w' := by
 have hu26 := Tryz.underlying26; have HB := A_ (Below.refl w.heap.size w)
 have H : (if a0_0 = 4 then (some false) else (if a1_0 = 4 then (some false) else ((value_Compare.f k a0_0 a0_1 a0_2 a1_0 a1_1 a1_2).bind fun t103 => (some (t103 == 0))))) = some r := h
 clear h
 by_cases c3 : a0_0 = 4
 ·rw [if_pos c3] at H; have ⟨c3b0,c3b1⟩ := e1_ c3; clear c3; obtain rfl := Option.some.inj H
  go_enter Tryz.func32, Tryz.ntmps32
  go_wp2_with (first | ((with_reducible refine gd_ 2 ?_); refine be_ (N:=2) (cs := #[.int .i64 a0_0, .int .i64 a0_1, .string a0_2]) (t:=26) ?_; intro g1 hg w4 hbox hb; have B1 := A_ (hbox); replace HB := bs_ HB hb; clear hb hbox hg) | ((with_reducible refine gd_ 3 ?_); refine be_ (N:=3) (cs := #[.int .i64 a1_0, .int .i64 a1_1, .string a1_2]) (t:=26) ?_; intro g2 hg w5 hbox hb; have B2 := A_ (hbox); replace B1 := bb_ B1 hb; replace HB := bs_ HB hb; clear hb hbox hg; have hcz6_0 : w5.cell? ⟨g1, 0, none⟩ = some (.int .i64 a0_0) := bc_ B1 0 rfl; have hcz6_1 : w5.cell? ⟨g1, 1, none⟩ = some (.int .i64 a0_1) := bc_ B1 1 rfl; have hcz6_2 : w5.cell? ⟨g1, 2, none⟩ = some (.string a0_2) := bc_ B1 2 rfl))
  go_ret
  exact fi_ (pbx HB)
 ·rw [if_neg c3] at H; have ⟨c3b0,c3b1⟩ := e0_ c3
  by_cases c7 : a1_0 = 4
  ·rw [if_pos c7] at H; have ⟨c7b0,c7b1⟩ := e1_ c7; clear c7; obtain rfl := Option.some.inj H
   go_enter Tryz.func32, Tryz.ntmps32
   go_wp2_with (first | ((with_reducible refine gd_ 2 ?_); refine be_ (N:=2) (cs := #[.int .i64 a0_0, .int .i64 a0_1, .string a0_2]) (t:=26) ?_; intro g1 hg w8 hbox hb; have B1 := A_ (hbox); replace HB := bs_ HB hb; clear hb hbox hg) | ((with_reducible refine gd_ 3 ?_); refine be_ (N:=3) (cs := #[.int .i64 a1_0, .int .i64 a1_1, .string a1_2]) (t:=26) ?_; intro g2 hg w9 hbox hb; have B2 := A_ (hbox); replace B1 := bb_ B1 hb; replace HB := bs_ HB hb; clear hb hbox hg; have hcz10_0 : w9.cell? ⟨g1, 0, none⟩ = some (.int .i64 a0_0) := bc_ B1 0 rfl; have hcz10_1 : w9.cell? ⟨g1, 1, none⟩ = some (.int .i64 a0_1) := bc_ B1 1 rfl; have hcz10_2 : w9.cell? ⟨g1, 2, none⟩ = some (.string a0_2) := bc_ B1 2 rfl; have hcz11_0 : w9.cell? ⟨g2, 0, none⟩ = some (.int .i64 a1_0) := bc_ B2 0 rfl; have hcz11_1 : w9.cell? ⟨g2, 1, none⟩ = some (.int .i64 a1_1) := bc_ B2 1 rfl; have hcz11_2 : w9.cell? ⟨g2, 2, none⟩ = some (.string a1_2) := bc_ B2 2 rfl))
   go_ret
   exact fi_ (pbx HB)
  ·rw [if_neg c7] at H; have ⟨c7b0,c7b1⟩ := e0_ c7; obtain ⟨t103, A12, H⟩ := bo_ H; obtain rfl := Option.some.inj H
   go_enter Tryz.func32, Tryz.ntmps32
   go_wp2_with (first | ((with_reducible refine gd_ 2 ?_); refine be_ (N:=2) (cs := #[.int .i64 a0_0, .int .i64 a0_1, .string a0_2]) (t:=26) ?_; intro g1 hg w13 hbox hb; have B1 := A_ (hbox); replace HB := bs_ HB hb; clear hb hbox hg) | ((with_reducible refine gd_ 3 ?_); refine be_ (N:=3) (cs := #[.int .i64 a1_0, .int .i64 a1_1, .string a1_2]) (t:=26) ?_; intro g2 hg w14 hbox hb; have B2 := A_ (hbox); replace B1 := bb_ B1 hb; replace HB := bs_ HB hb; clear hb hbox hg; have hcz15_0 : w14.cell? ⟨g1, 0, none⟩ = some (.int .i64 a0_0) := bc_ B1 0 rfl; have hcz15_1 : w14.cell? ⟨g1, 1, none⟩ = some (.int .i64 a0_1) := bc_ B1 1 rfl; have hcz15_2 : w14.cell? ⟨g1, 2, none⟩ = some (.string a0_2) := bc_ B1 2 rfl; have hcz16_0 : w14.cell? ⟨g2, 0, none⟩ = some (.int .i64 a1_0) := bc_ B2 0 rfl; have hcz16_1 : w14.cell? ⟨g2, 1, none⟩ = some (.int .i64 a1_1) := bc_ B2 1 rfl; have hcz16_2 : w14.cell? ⟨g2, 2, none⟩ = some (.string a1_2) := bc_ B2 2 rfl) | (go_at_call 54; (with_reducible refine (value_Compare.calls k a0_0 a0_1 a0_2 a1_0 a1_1 a1_2 t103 _ A12.out).mono ?_); rintro e w17 ⟨rfl, hb⟩; replace B1 := bb_ B1 hb; replace B2 := bb_ B2 hb; replace HB := bs_ HB hb; ))
   go_ret
   exact fi_ (pbx HB)

mutual
def look_Match.l0 : Nat → List (S26) → Int → Int → Int → Int → ByteArray → Option (Int × Bool)
 | 0, _, _, _, _, _, _ => none
 | k + 1, x9, x10, x11, x102000, x102001, x102002 => if x11 < x10 then (if 0 ≤ x11 then (if x11 < (x9.length : Int) then ((look_found.f k x102000 x102001 x102002 ((rd_T26 x9 x11).f0) ((rd_T26 x9 x11).f1) ((rd_T26 x9 x11).f2)).bind fun t105 => (look_Match.j1 k x11 x9 x10 x11 t105 x102000 x102001 x102002)) else (none)) else (none)) else (some (0, false))
def look_Match.j1 : Nat → Int → List (S26) → Int → Int → Bool → Int → Int → ByteArray → Option (Int × Bool)
 | 0, _, _, _, _, _, _, _, _ => none
 | k + 1, x6, x9, x10, x11, x18, x102000, x102001, x102002 => if x18 = true then (some (wrap64 (x6 + 1), true)) else (look_Match.l0 k x9 x10 (wrap64 (x11 + 1)) x102000 x102001 x102002)
end
def look_Match.f (k : Nat) (a0_0 : Int) (a0_1 : Int) (a0_2 : ByteArray) (a1_0 : Int) (a1_1 : Int) (l1_2 : List (S26)) : Option (Int × Bool) := look_Match.l0 k l1_2 (l1_2.length : Int) 0 a0_0 a0_1 a0_2
theorem look_Match.mono_l : ∀ k, (∀ y0 y1 y2 y3 y4 y5, LeO (look_Match.l0 k y0 y1 y2 y3 y4 y5) (look_Match.l0 (k + 1) y0 y1 y2 y3 y4 y5)) ∧ (∀ y0 y1 y2 y3 y4 y5 y6 y7, LeO (look_Match.j1 k y0 y1 y2 y3 y4 y5 y6 y7) (look_Match.j1 (k + 1) y0 y1 y2 y3 y4 y5 y6 y7))
 | 0 => ⟨fun _ _ _ _ _ _ r h => by simp [look_Match.l0] at h, fun _ _ _ _ _ _ _ _ r h => by simp [look_Match.j1] at h⟩
 | k + 1 => by
  obtain ⟨ih0, ih1⟩ := look_Match.mono_l k
  refine ⟨?_, ?_⟩
  ·intro y0 y1 y2 y3 y4 y5
   unfold look_Match.l0
   have m0 := @look_found.mono; exact mo_
  ·intro y0 y1 y2 y3 y4 y5 y6 y7
   unfold look_Match.j1
   have m0 := @look_found.mono; exact mo_
theorem look_Match.mono : ∀ a0 a1 a2 a3 a4 a5 k, LeO (look_Match.f k a0 a1 a2 a3 a4 a5) (look_Match.f (k + 1) a0 a1 a2 a3 a4 a5) := by
 intro a0 a1 a2 a3 a4 a5 k; obtain ⟨ih0, ih1⟩ := look_Match.mono_l k
 unfold look_Match.f
 have m0 := @look_found.mono; exact mo_
theorem look_Match.calls (k : Nat) (a0_0 : Int) (a0_1 : Int) (a0_2 : ByteArray) (a1_0 : Int) (a1_1 : Int) (A1_2 : Option Addr) (c1_2 : Nat) (l1_2 : List (S26)) (r1 : Int) (r2 : Bool) (w : World) (hr1_2 : Kd.C k26 w A1_2 l1_2.length l1_2) (hc1_2 : l1_2.length ≤ c1_2) (h : look_Match.f k a0_0 a0_1 a0_2 a1_0 a1_1 l1_2 = some (r1, r2)) :
  Calls Tryz.prog 17 #[.agg #[.int .i64 a0_0, .int .i64 a0_1, .string a0_2], .agg #[.int .i64 a1_0, .int .i64 a1_1, .slice A1_2 l1_2.length c1_2]] w fun e w' => e = .returned (.tuple #[.int .i64 r1, .bool r2]) ∧ Below w.heap.size w w' := by
 have hu26 := Tryz.underlying26; have hu24 := Tryz.underlying24; have HR1_2 := A_ hr1_2; have HC1_2 := A_ hc1_2; clear hr1_2 hc1_2; have HB := A_ (Below.refl w.heap.size w)
 have H : (look_Match.l0 k l1_2 (l1_2.length : Int) 0 a0_0 a0_1 a0_2) = some (r1, r2) := h
 clear h
 have H' := A_ H
 clear H
 go_enter Tryz.func17, Tryz.ntmps17
 go_wp2_with (first | ((with_reducible refine gd_ 2 ?_); refine be_ (N:=2) (cs := #[.int .i64 a0_0, .int .i64 a0_1, .string a0_2]) (t:=26) ?_; intro g1 hg w3 hbox hb; have B1 := A_ (hbox); have GW101 := hs_ HB hg; have GE101 := hs_ HB hg; replace HB := bs_ HB hb; clear hb hbox hg) | ((with_reducible refine gd_ 3 ?_); refine be_ (N:=3) (cs := #[.int .i64 a1_0, .int .i64 a1_1, .slice A1_2 l1_2.length c1_2]) (t:=24) ?_; intro g2 hg w4 hbox hb; have B2 := A_ (hbox); have GW102 := hs_ HB hg; have GE102 := hs_ HB hg; have N12 := hl_ B1 hg; have N21 := hr_ B1 hg; replace B1 := bb_ B1 hb; replace HB := bs_ HB hb; clear hb hbox hg; have hnb5 := N21.out; have hnc5 := N12.out; have ⟨hcz6_0,hcz6_1,hcz6_2,hfz6_0,hfz6_1,hfz6_2⟩ := z3_ B2))
 go_loopg [11] k (fun kq v11 w' => ∃ (x11_1 : Int), v11 = .int .i64 x11_1 ∧ Aside0 (look_Match.l0 kq l1_2 (l1_2.length : Int) x11_1 a0_0 a0_1 a0_2 = some (r1, r2)) ∧ Aside0 (kq ≤ k) ∧ Aside0 (w'.heap[g1]? = some (.cells #[.int .i64 a0_0, .int .i64 a0_1, .string a0_2] 26 (0, 0))) ∧ Aside0 (w'.heap[g2]? = some (.cells #[.int .i64 a1_0, .int .i64 a1_1, (.slice A1_2 l1_2.length c1_2)] 24 (0, 0))) ∧ Aside0 (Below w.heap.size w w'))
 case atStart => exact ⟨(0), sq_, H', ⟨Nat.le_refl _⟩, ⟨pkx B1⟩, ⟨pkx B2⟩, ⟨pbx HB⟩⟩
 case round =>
  clear H'; (try clear hcz6_0); (try clear hcz6_1); (try clear hcz6_2); (try clear hfz6_0); (try clear hfz6_1); (try clear hfz6_2); obtain ⟨x11_1, rfl, HA, HK1, B1, B2, HB⟩ := hrel
  cases gk with
  | zero => exact absurd HA.out (by simp [look_Match.l0])
  | succ k1 =>
   have H := HA.out; clear HA
   simp only [look_Match.l0] at H
   by_cases c7 : x11_1 < (l1_2.length : Int)
   ·rw [if_pos c7] at H; have c7b0 := decide_eq_true c7; clear c7
    by_cases c8 : 0 ≤ x11_1
    ·rw [if_pos c8] at H; have c8b0 := decide_eq_true c8; clear c8
     by_cases c9 : x11_1 < (l1_2.length : Int)
     ·rw [if_pos c9] at H; have c9b0 := decide_eq_true c9; clear c9; have HC10 := A_ H; clear H
      have p103 : 0 ≤ (x11_1 : Int) := of_decide_eq_true as_
      have q103 : x11_1 < (l1_2.length : Int) := of_decide_eq_true as_
      obtain ⟨ad103, e103, hx103_0, hx103_1, hx103_2⟩ := at_T26 HR1_2.out x11_1 p103 q103
      cases e103
      replace hx103_0 := (HB.out.cell (World.block_lt_of_cell? w _ hx103_0)).trans hx103_0; replace hx103_1 := (HB.out.cell (World.block_lt_of_cell? w _ hx103_1)).trans hx103_1; replace hx103_2 := (HB.out.cell (World.block_lt_of_cell? w _ hx103_2)).trans hx103_2; replace p103 := eq_true p103; replace q103 := eq_true q103
      go_upto_region 4 with (first | ((with_reducible refine gd_ 7 ?_); refine be_ (N:=7) (cs := #[.int .i64 0, .int .i64 0, .string (⟨#[]⟩ : ByteArray)]) (t:=26) ?_; intro g4 hg w11 hbox hb; have B4 := A_ (hbox); have GW104 := hs_ HB hg; have GE104 := hs_ HB hg; have N14 := hl_ B1 hg; have N41 := hr_ B1 hg; have N24 := hl_ B2 hg; have N42 := hr_ B2 hg; replace B1 := bb_ B1 hb; replace B2 := bb_ B2 hb; replace HB := bs_ HB hb; clear hb hbox hg; have hnb12 := N41.out; have hnc12 := N14.out; have hnb13 := N42.out; have hnc13 := N24.out; have ⟨hcz14_0,hcz14_1,hcz14_2,hfz14_0,hfz14_1,hfz14_2⟩ := z3_ B4))
      (try simp only [q_])
      go_cut [18] (fun v18 wc => ∃ (kq : Nat) (x18_9 : Bool), v18 = .bool x18_9 ∧ Aside0 (look_Match.j1 kq x11_1 l1_2 (l1_2.length : Int) x11_1 x18_9 a0_0 a0_1 a0_2 = some (r1, r2)) ∧ Aside0 (kq ≤ k1) ∧ Aside0 (wc.heap[g1]? = some (.cells #[.int .i64 a0_0, .int .i64 a0_1, .string a0_2] 26 (0, 0))) ∧ Aside0 (wc.heap[g2]? = some (.cells #[.int .i64 a1_0, .int .i64 a1_1, (.slice (some ad103) l1_2.length c1_2)] 24 (0, 0))) ∧ Aside0 (wc.heap[g4]? = some (.cells #[.int .i64 ((rd_T26 l1_2 x11_1).f0), .int .i64 ((rd_T26 l1_2 x11_1).f1), .string ((rd_T26 l1_2 x11_1).f2)] 26 (0, 0))) ∧ Aside0 (Below w.heap.size w wc))
      case first =>
       have H := HC10.out; clear HC10; obtain ⟨t105, A15, H⟩ := bo_ H
       have H' := A_ H
       clear H; have hnb16 := N12.out; have hnc16 := N21.out; have hnb17 := N14.out; have hnc17 := N41.out
       have ⟨hcz18_0,hcz18_1,hcz18_2,hfz18_0,hfz18_1,hfz18_2⟩ := z3_ B1; have hnb19 := N42.out; have hnc19 := N24.out
       have ⟨hcz20_0,hcz20_1,hcz20_2,hfz20_0,hfz20_1,hfz20_2⟩ := z3_ B4
       go_wp2_with (first | ((with_reducible refine gate_callee (f:=32) rfl ?_); refine gL_ (some 18) rfl rfl Tryz.func32 rfl #[.agg #[.int .i64 a0_0, .int .i64 a0_1, .string a0_2], .agg #[.int .i64 ((rd_T26 l1_2 x11_1).f0), .int .i64 ((rd_T26 l1_2 x11_1).f1), .string ((rd_T26 l1_2 x11_1).f2)]] rfl ?_; (with_reducible refine (look_found.calls k1 a0_0 a0_1 a0_2 ((rd_T26 l1_2 x11_1).f0) ((rd_T26 l1_2 x11_1).f1) ((rd_T26 l1_2 x11_1).f2) t105 _ A15.out).mono ?_); rintro e w21 ⟨rfl, hb⟩; refine ⟨_, rfl, ?_⟩; replace B1 := A_ (blk_below (g:=g1) (o := .cells #[.int .i64 a0_0, .int .i64 a0_1, .string a0_2] 26 (0, 0)) (by (iterate 3 refine pf_ ?_ N14.out); exact pkx B1) hb); replace B2 := A_ (blk_below (g:=g2) (o := .cells #[.int .i64 a1_0, .int .i64 a1_1, .slice (some ad103) l1_2.length c1_2] 24 (0, 0)) (by (iterate 3 refine pf_ ?_ N24.out); exact pkx B2) hb); replace B4 := A_ (blk_below (g:=g4) (o := .cells #[.int .i64 ((rd_T26 l1_2 x11_1).f0), .int .i64 ((rd_T26 l1_2 x11_1).f1), .string ((rd_T26 l1_2 x11_1).f2)] 26 (0, 0)) (by (iterate 3 apply pp_); exact pkx B4; all_goals rfl) hb); replace HB := A_ (below_step (by repeat (first | (with_reducible first | exact HB.out | apply below_alloc | apply pw_below_drewN | apply below_drew1 | refine below_set ?_ GE101.out | refine below_set ?_ GE102.out | refine below_set ?_ GE104.out) | exact HB.out)) hb); (try clear hb); ))
       go_meet
       case rel => exact ⟨_, (t105), (by first | rfl | (simp; done) | (simp [*]; done) | (cases t105 <;> simp; done)), H', ⟨by have := HK1.out; first | omega | exact Nat.le_refl _⟩, ⟨pkx B1⟩, ⟨pkx B2⟩, ⟨pkx B4⟩, ⟨pbx HB⟩⟩
      case rest =>
       clear HC10; (try clear c7); (try clear c7b0); (try clear c8); (try clear c8b0); (try clear c9); (try clear c9b0); (try clear hcz14_0); (try clear hcz14_1); (try clear hcz14_2); (try clear hcz6_0); (try clear hcz6_1); (try clear hcz6_2); (try clear hfz14_0); (try clear hfz14_1); (try clear hfz14_2); (try clear hfz6_0); (try clear hfz6_1); (try clear hfz6_2); (try clear hx103_0); (try clear hx103_1)
       (try clear hx103_2); (try clear p103); (try clear q103); obtain ⟨kq, x18_9, rfl, HA, HJ9, B1, B2, B4, HB⟩ := hcut
       cases kq with
       | zero => exact absurd HA.out (by simp [look_Match.j1])
       | succ kj9 =>
        have H := HA.out; clear HA
        simp only [look_Match.j1] at H
        replace H := ib_ H; rcases H with ⟨rfl,H⟩|⟨rfl,H⟩
        ·simp only [Option.some.injEq, Prod.mk.injEq] at H
         obtain ⟨rfl, rfl⟩ := H
         go_wp2
         go_ret2
         exact fi_ (pbx HB)
        ·have H' := A_ H
         clear H
         go_wp2
         go_roundg kj9
         case measure => have := HK1.out; have := HJ9.out; omega
         case rel => exact ⟨(wrap64 (x11_1 + 1)), sq_, H', ⟨by have := HK1.out; have := HJ9.out; omega⟩, ⟨pkx B1⟩, ⟨pkx B2⟩, ⟨pbx HB⟩⟩
     ·rw [if_neg c9] at H
      exact absurd H (by simp)
    ·rw [if_neg c8] at H
     exact absurd H (by simp)
   ·rw [if_neg c7] at H; have c7b0 := decide_eq_false c7; clear c7
    simp only [Option.some.injEq, Prod.mk.injEq] at H
    obtain ⟨rfl, rfl⟩ := H
    go_wp2
    go_ret2
    exact fi_ (pbx HB)

def look_shaped.f (a0_0 : Int) (a0_1 : Int) (l0_2 : List (S26)) : Option (Bool) := if a0_0 ≥ 1 then (if a0_1 ≥ 1 then (if a0_0 ≤ 1000 then (if a0_1 ≤ 1000 then (if (l0_2.length : Int) ≤ 1000 then (some ((wrap64 (a0_0 * a0_1)) == (l0_2.length : Int))) else (some false)) else (some false)) else (some false)) else (some false)) else (some false)
theorem look_shaped.calls (a0_0 : Int) (a0_1 : Int) (A0_2 : Option Addr) (c0_2 : Nat) (l0_2 : List (S26)) (r : Bool) (w : World) (hr0_2 : Kd.C k26 w A0_2 l0_2.length l0_2) (hc0_2 : l0_2.length ≤ c0_2) (h : look_shaped.f a0_0 a0_1 l0_2 = some r) :
  Calls Tryz.prog 33 #[.agg #[.int .i64 a0_0, .int .i64 a0_1, .slice A0_2 l0_2.length c0_2]] w fun e w' => e = .returned (.bool r) ∧ Below w.heap.size w w' := by
 have hu24 := Tryz.underlying24; have HR0_2 := A_ hr0_2; have HC0_2 := A_ hc0_2; clear hr0_2 hc0_2; have HB := A_ (Below.refl w.heap.size w)
 have H : (if a0_0 ≥ 1 then (if a0_1 ≥ 1 then (if a0_0 ≤ 1000 then (if a0_1 ≤ 1000 then (if (l0_2.length : Int) ≤ 1000 then (some ((wrap64 (a0_0 * a0_1)) == (l0_2.length : Int))) else (some false)) else (some false)) else (some false)) else (some false)) else (some false)) = some r := h
 clear h
 by_cases c2 : a0_0 ≥ 1
 ·rw [if_pos c2] at H; have c2b0 := decide_eq_true c2; clear c2
  by_cases c3 : a0_1 ≥ 1
  ·rw [if_pos c3] at H; have c3b0 := decide_eq_true c3; clear c3
   by_cases c4 : a0_0 ≤ 1000
   ·rw [if_pos c4] at H; have c4b0 := decide_eq_true c4; clear c4
    by_cases c5 : a0_1 ≤ 1000
    ·rw [if_pos c5] at H; have c5b0 := decide_eq_true c5; clear c5
     by_cases c6 : (l0_2.length : Int) ≤ 1000
     ·rw [if_pos c6] at H; have c6b0 := decide_eq_true c6; have c6b1 : decide (l0_2.length ≤ 1000) = true := decide_eq_true (by omega); clear c6; obtain rfl := Option.some.inj H
      go_enter Tryz.func33, Tryz.ntmps33
      go_wp2_with (first | ((with_reducible refine gd_ 1 ?_); (try (refine gate_guard (by rfl) ?_; dsimp only)); refine be_ (N:=1) (cs := #[.int .i64 a0_0, .int .i64 a0_1, .slice A0_2 l0_2.length c0_2]) (t:=24) ?_; intro g1 hg w7 hbox hb; have B1 := A_ (hbox); replace HB := bs_ HB hb; clear hb hbox hg; have hcz8_0 : w7.cell? ⟨g1, 0, none⟩ = some (.int .i64 a0_0) := bc_ B1 0 rfl; have hcz8_1 : w7.cell? ⟨g1, 1, none⟩ = some (.int .i64 a0_1) := bc_ B1 1 rfl; have hcz8_2 : w7.cell? ⟨g1, 2, none⟩ = some (.slice A0_2 l0_2.length c0_2) := bc_ B1 2 rfl))
      go_ret
      exact fi_ (pbx HB)
     ·rw [if_neg c6] at H; have c6b0 := decide_eq_false c6; have c6b1 : decide (l0_2.length ≤ 1000) = false := decide_eq_false (by omega); clear c6; obtain rfl := Option.some.inj H
      go_enter Tryz.func33, Tryz.ntmps33
      go_wp2_with (first | ((with_reducible refine gd_ 1 ?_); (try (refine gate_guard (by rfl) ?_; dsimp only)); refine be_ (N:=1) (cs := #[.int .i64 a0_0, .int .i64 a0_1, .slice A0_2 l0_2.length c0_2]) (t:=24) ?_; intro g1 hg w9 hbox hb; have B1 := A_ (hbox); replace HB := bs_ HB hb; clear hb hbox hg; have hcz10_0 : w9.cell? ⟨g1, 0, none⟩ = some (.int .i64 a0_0) := bc_ B1 0 rfl; have hcz10_1 : w9.cell? ⟨g1, 1, none⟩ = some (.int .i64 a0_1) := bc_ B1 1 rfl; have hcz10_2 : w9.cell? ⟨g1, 2, none⟩ = some (.slice A0_2 l0_2.length c0_2) := bc_ B1 2 rfl))
      go_ret
      exact fi_ (pbx HB)
    ·rw [if_neg c5] at H; have c5b0 := decide_eq_false c5; clear c5; obtain rfl := Option.some.inj H
     go_enter Tryz.func33, Tryz.ntmps33
     go_wp2_with (first | ((with_reducible refine gd_ 1 ?_); (try (refine gate_guard (by rfl) ?_; dsimp only)); refine be_ (N:=1) (cs := #[.int .i64 a0_0, .int .i64 a0_1, .slice A0_2 l0_2.length c0_2]) (t:=24) ?_; intro g1 hg w11 hbox hb; have B1 := A_ (hbox); replace HB := bs_ HB hb; clear hb hbox hg; have hcz12_0 : w11.cell? ⟨g1, 0, none⟩ = some (.int .i64 a0_0) := bc_ B1 0 rfl; have hcz12_1 : w11.cell? ⟨g1, 1, none⟩ = some (.int .i64 a0_1) := bc_ B1 1 rfl; have hcz12_2 : w11.cell? ⟨g1, 2, none⟩ = some (.slice A0_2 l0_2.length c0_2) := bc_ B1 2 rfl))
     go_ret
     exact fi_ (pbx HB)
   ·rw [if_neg c4] at H; have c4b0 := decide_eq_false c4; clear c4; obtain rfl := Option.some.inj H
    go_enter Tryz.func33, Tryz.ntmps33
    go_wp2_with (first | ((with_reducible refine gd_ 1 ?_); (try (refine gate_guard (by rfl) ?_; dsimp only)); refine be_ (N:=1) (cs := #[.int .i64 a0_0, .int .i64 a0_1, .slice A0_2 l0_2.length c0_2]) (t:=24) ?_; intro g1 hg w13 hbox hb; have B1 := A_ (hbox); replace HB := bs_ HB hb; clear hb hbox hg; have hcz14_0 : w13.cell? ⟨g1, 0, none⟩ = some (.int .i64 a0_0) := bc_ B1 0 rfl; have hcz14_1 : w13.cell? ⟨g1, 1, none⟩ = some (.int .i64 a0_1) := bc_ B1 1 rfl; have hcz14_2 : w13.cell? ⟨g1, 2, none⟩ = some (.slice A0_2 l0_2.length c0_2) := bc_ B1 2 rfl))
    go_ret
    exact fi_ (pbx HB)
  ·rw [if_neg c3] at H; have c3b0 := decide_eq_false c3; clear c3; obtain rfl := Option.some.inj H
   go_enter Tryz.func33, Tryz.ntmps33
   go_wp2_with (first | ((with_reducible refine gd_ 1 ?_); (try (refine gate_guard (by rfl) ?_; dsimp only)); refine be_ (N:=1) (cs := #[.int .i64 a0_0, .int .i64 a0_1, .slice A0_2 l0_2.length c0_2]) (t:=24) ?_; intro g1 hg w15 hbox hb; have B1 := A_ (hbox); replace HB := bs_ HB hb; clear hb hbox hg; have hcz16_0 : w15.cell? ⟨g1, 0, none⟩ = some (.int .i64 a0_0) := bc_ B1 0 rfl; have hcz16_1 : w15.cell? ⟨g1, 1, none⟩ = some (.int .i64 a0_1) := bc_ B1 1 rfl; have hcz16_2 : w15.cell? ⟨g1, 2, none⟩ = some (.slice A0_2 l0_2.length c0_2) := bc_ B1 2 rfl))
   go_ret
   exact fi_ (pbx HB)
 ·rw [if_neg c2] at H; have c2b0 := decide_eq_false c2; clear c2; obtain rfl := Option.some.inj H
  go_enter Tryz.func33, Tryz.ntmps33
  go_wp2_with (first | ((with_reducible refine gd_ 1 ?_); (try (refine gate_guard (by rfl) ?_; dsimp only)); refine be_ (N:=1) (cs := #[.int .i64 a0_0, .int .i64 a0_1, .slice A0_2 l0_2.length c0_2]) (t:=24) ?_; intro g1 hg w17 hbox hb; have B1 := A_ (hbox); replace HB := bs_ HB hb; clear hb hbox hg; have hcz18_0 : w17.cell? ⟨g1, 0, none⟩ = some (.int .i64 a0_0) := bc_ B1 0 rfl; have hcz18_1 : w17.cell? ⟨g1, 1, none⟩ = some (.int .i64 a0_1) := bc_ B1 1 rfl; have hcz18_2 : w17.cell? ⟨g1, 2, none⟩ = some (.slice A0_2 l0_2.length c0_2) := bc_ B1 2 rfl))
  go_ret
  exact fi_ (pbx HB)

def look_At.j0 : Nat → Int → Int → Bool → Int → Int → List (S26) → Option (Int × Int × ByteArray × Bool)
 | 0, _, _, _, _, _, _ => none
 | k + 1, x1, x2, x30, x102000, x102001, x102002 => if x30 = true then (some (0, 0, (⟨#[]⟩ : ByteArray), false)) else (if 0 ≤ (wrap64 ((wrap64 ((wrap64 ((wrap64 (x1 - 1)) * x102001)) + x2)) - 1)) then (if (wrap64 ((wrap64 ((wrap64 ((wrap64 (x1 - 1)) * x102001)) + x2)) - 1)) < (x102002.length : Int) then (some ((rd_T26 x102002 (wrap64 ((wrap64 ((wrap64 ((wrap64 (x1 - 1)) * x102001)) + x2)) - 1))).f0, (rd_T26 x102002 (wrap64 ((wrap64 ((wrap64 ((wrap64 (x1 - 1)) * x102001)) + x2)) - 1))).f1, (rd_T26 x102002 (wrap64 ((wrap64 ((wrap64 ((wrap64 (x1 - 1)) * x102001)) + x2)) - 1))).f2, true)) else (none)) else (none))
def look_At.f (k : Nat) (a0_0 : Int) (a0_1 : Int) (l0_2 : List (S26)) (a1 : Int) (a2 : Int) : Option (Int × Int × ByteArray × Bool) := (look_shaped.f a0_0 a0_1 l0_2).bind fun t103 => (if t103 = true then (if a1 < 1 then (look_At.j0 k a1 a2 true a0_0 a0_1 l0_2) else (if a1 > a0_0 then (look_At.j0 k a1 a2 true a0_0 a0_1 l0_2) else (if a2 < 1 then (look_At.j0 k a1 a2 true a0_0 a0_1 l0_2) else (look_At.j0 k a1 a2 (decide (a2 > a0_1)) a0_0 a0_1 l0_2)))) else (look_At.j0 k a1 a2 true a0_0 a0_1 l0_2))
theorem look_At.mono_l : ∀ k, (∀ y0 y1 y2 y3 y4 y5, LeO (look_At.j0 k y0 y1 y2 y3 y4 y5) (look_At.j0 (k + 1) y0 y1 y2 y3 y4 y5))
 | 0 => fun _ _ _ _ _ _ r h => by simp [look_At.j0] at h
 | k + 1 => by
  have ih0 := look_At.mono_l k
  ·intro y0 y1 y2 y3 y4 y5
   unfold look_At.j0
   exact mo_
theorem look_At.mono : ∀ a0 a1 a2 a3 a4 k, LeO (look_At.f k a0 a1 a2 a3 a4) (look_At.f (k + 1) a0 a1 a2 a3 a4) := by
 intro a0 a1 a2 a3 a4 k; have ih0 := look_At.mono_l k
 unfold look_At.f
 exact mo_
theorem look_At.calls (k : Nat) (a0_0 : Int) (a0_1 : Int) (A0_2 : Option Addr) (c0_2 : Nat) (l0_2 : List (S26)) (a1 : Int) (a2 : Int) (r1 : Int) (r2 : Int) (r3 : ByteArray) (r4 : Bool) (w : World) (hr0_2 : Kd.C k26 w A0_2 l0_2.length l0_2) (hc0_2 : l0_2.length ≤ c0_2) (h : look_At.f k a0_0 a0_1 l0_2 a1 a2 = some (r1, r2, r3, r4)) :
  Calls Tryz.prog 35 #[.agg #[.int .i64 a0_0, .int .i64 a0_1, .slice A0_2 l0_2.length c0_2], .int .i64 a1, .int .i64 a2] w fun e w' => e = .returned (.tuple #[.agg #[.int .i64 r1, .int .i64 r2, .string r3], .bool r4]) ∧ Below w.heap.size w w' := by
 have hu24 := Tryz.underlying24; have hu26 := Tryz.underlying26; have HR0_2 := A_ hr0_2; have HC0_2 := A_ hc0_2; clear hr0_2 hc0_2; have HB := A_ (Below.refl w.heap.size w)
 have H : ((look_shaped.f a0_0 a0_1 l0_2).bind fun t103 => (if t103 = true then (if a1 < 1 then (look_At.j0 k a1 a2 true a0_0 a0_1 l0_2) else (if a1 > a0_0 then (look_At.j0 k a1 a2 true a0_0 a0_1 l0_2) else (if a2 < 1 then (look_At.j0 k a1 a2 true a0_0 a0_1 l0_2) else (look_At.j0 k a1 a2 (decide (a2 > a0_1)) a0_0 a0_1 l0_2)))) else (look_At.j0 k a1 a2 true a0_0 a0_1 l0_2))) = some (r1, r2, r3, r4) := h
 clear h; have HC4 := A_ H; clear H
 go_enter Tryz.func35, Tryz.ntmps35
 go_upto_region 1 with (first | ((with_reducible refine gd_ 3 ?_); refine be_ (N:=3) (cs := #[.int .i64 a0_0, .int .i64 a0_1, .slice A0_2 l0_2.length c0_2]) (t:=24) ?_; intro g1 hg w5 hbox hb; have B1 := A_ (hbox); have GW101 := hs_ HB hg; have GE101 := hs_ HB hg; replace HB := bs_ HB hb; clear hb hbox hg) | ((with_reducible refine gd_ 6 ?_); refine be_ (N:=6) (cs := #[.int .i64 0, .int .i64 0, .string (⟨#[]⟩ : ByteArray)]) (t:=26) ?_; intro g2 hg w6 hbox hb; have B2 := A_ (hbox); have GW102 := hs_ HB hg; have GE102 := hs_ HB hg; have N12 := hl_ B1 hg; have N21 := hr_ B1 hg; replace B1 := bb_ B1 hb; replace HB := bs_ HB hb; clear hb hbox hg))
 (try simp only [q_])
 go_cut [30] (fun v30 wc => ∃ (kq : Nat) (x30_3 : Bool), v30 = .bool x30_3 ∧ Aside0 (look_At.j0 kq a1 a2 x30_3 a0_0 a0_1 l0_2 = some (r1, r2, r3, r4)) ∧ Aside0 (kq ≤ k) ∧ Aside0 (wc.heap[g1]? = some (.cells #[.int .i64 a0_0, .int .i64 a0_1, (.slice A0_2 l0_2.length c0_2)] 24 (0, 0))) ∧ Aside0 (wc.heap[g2]? = some (.cells #[.int .i64 0, .int .i64 0, .string (⟨#[]⟩ : ByteArray)] 26 (0, 0))) ∧ Aside0 (Below w.heap.size w wc))
 case first =>
  have H := HC4.out; clear HC4; obtain ⟨t103, A7, H⟩ := bo_ H
  replace H := ib_ H; rcases H with ⟨rfl,H⟩|⟨rfl,H⟩
  ·by_cases c9 : a1 < 1
   ·rw [if_pos c9] at H; have c9b0 := decide_eq_true c9; clear c9; (first | rw [c9b0] | (simp only [i64_w, i32_w]; rw [c9b0]) | skip)
    have H' := A_ H
    clear H; have hnb10 := N12.out; have hnc10 := N21.out
    have ⟨hcz11_0,hcz11_1,hcz11_2,hfz11_0,hfz11_1,hfz11_2⟩ := z3_ B1
    go_wp2_with (first | ((with_reducible refine gate_callee (f:=33) rfl ?_); refine gL_ (some 9) rfl rfl Tryz.func33 rfl #[.agg #[.int .i64 a0_0, .int .i64 a0_1, .slice A0_2 l0_2.length c0_2]] rfl ?_; (with_reducible refine (look_shaped.calls a0_0 a0_1 _ _ l0_2 true _ ?side1 ?side2 A7.out).mono ?_); (case side1 => exact ca_ (Kd.C_below HR0_2.out HB.out)); (case side2 => exact HC0_2.out); rintro e w12 ⟨rfl, hb⟩; refine ⟨_, rfl, ?_⟩; replace B1 := bb_ B1 hb; replace B2 := bb_ B2 hb; replace HB := bs_ HB hb; (try clear hb); ))
    go_meet
    case rel => exact ⟨_, (true), sq_, H', le_, ⟨pkx B1⟩, ⟨pkx B2⟩, ⟨pbx HB⟩⟩
   ·rw [if_neg c9] at H; have c9b0 := decide_eq_false c9; clear c9; (first | rw [c9b0] | (simp only [i64_w, i32_w]; rw [c9b0]) | skip)
    by_cases c13 : a1 > a0_0
    ·rw [if_pos c13] at H; have c13b0 := decide_eq_true c13; clear c13
     have H' := A_ H
     clear H; have hnb14 := N12.out; have hnc14 := N21.out
     have ⟨hcz15_0,hcz15_1,hcz15_2,hfz15_0,hfz15_1,hfz15_2⟩ := z3_ B1
     go_wp2_with (first | ((with_reducible refine gate_callee (f:=33) rfl ?_); refine gL_ (some 9) rfl rfl Tryz.func33 rfl #[.agg #[.int .i64 a0_0, .int .i64 a0_1, .slice A0_2 l0_2.length c0_2]] rfl ?_; (with_reducible refine (look_shaped.calls a0_0 a0_1 _ _ l0_2 true _ ?side1 ?side2 A7.out).mono ?_); (case side1 => exact ca_ (Kd.C_below HR0_2.out HB.out)); (case side2 => exact HC0_2.out); rintro e w16 ⟨rfl, hb⟩; refine ⟨_, rfl, ?_⟩; replace B1 := bb_ B1 hb; replace B2 := bb_ B2 hb; replace HB := bs_ HB hb; (try clear hb); have ⟨hcz17_0,hcz17_1,hcz17_2,hfz17_0,hfz17_1,hfz17_2⟩ := z3_ B1))
     go_meet
     case rel => exact ⟨_, (true), sq_, H', le_, ⟨pkx B1⟩, ⟨pkx B2⟩, ⟨pbx HB⟩⟩
    ·rw [if_neg c13] at H; have c13b0 := decide_eq_false c13; clear c13
     by_cases c18 : a2 < 1
     ·rw [if_pos c18] at H; have c18b0 := decide_eq_true c18; clear c18
      have H' := A_ H
      clear H; have hnb19 := N12.out; have hnc19 := N21.out
      have ⟨hcz20_0,hcz20_1,hcz20_2,hfz20_0,hfz20_1,hfz20_2⟩ := z3_ B1
      go_wp2_with (first | ((with_reducible refine gate_callee (f:=33) rfl ?_); refine gL_ (some 9) rfl rfl Tryz.func33 rfl #[.agg #[.int .i64 a0_0, .int .i64 a0_1, .slice A0_2 l0_2.length c0_2]] rfl ?_; (with_reducible refine (look_shaped.calls a0_0 a0_1 _ _ l0_2 true _ ?side1 ?side2 A7.out).mono ?_); (case side1 => exact ca_ (Kd.C_below HR0_2.out HB.out)); (case side2 => exact HC0_2.out); rintro e w21 ⟨rfl, hb⟩; refine ⟨_, rfl, ?_⟩; replace B1 := bb_ B1 hb; replace B2 := bb_ B2 hb; replace HB := bs_ HB hb; (try clear hb); have ⟨hcz22_0,hcz22_1,hcz22_2,hfz22_0,hfz22_1,hfz22_2⟩ := z3_ B1))
      go_meet
      case rel => exact ⟨_, (true), sq_, H', le_, ⟨pkx B1⟩, ⟨pkx B2⟩, ⟨pbx HB⟩⟩
     ·rw [if_neg c18] at H; have c18b0 := decide_eq_false c18; clear c18
      have H' := A_ H
      clear H; have hnb23 := N12.out; have hnc23 := N21.out
      have ⟨hcz24_0,hcz24_1,hcz24_2,hfz24_0,hfz24_1,hfz24_2⟩ := z3_ B1
      go_wp2_with (first | ((with_reducible refine gate_callee (f:=33) rfl ?_); refine gL_ (some 9) rfl rfl Tryz.func33 rfl #[.agg #[.int .i64 a0_0, .int .i64 a0_1, .slice A0_2 l0_2.length c0_2]] rfl ?_; (with_reducible refine (look_shaped.calls a0_0 a0_1 _ _ l0_2 true _ ?side1 ?side2 A7.out).mono ?_); (case side1 => exact ca_ (Kd.C_below HR0_2.out HB.out)); (case side2 => exact HC0_2.out); rintro e w25 ⟨rfl, hb⟩; refine ⟨_, rfl, ?_⟩; replace B1 := bb_ B1 hb; replace B2 := bb_ B2 hb; replace HB := bs_ HB hb; (try clear hb); have ⟨hcz26_0,hcz26_1,hcz26_2,hfz26_0,hfz26_1,hfz26_2⟩ := z3_ B1))
      go_meet
      case rel => exact ⟨_, (decide (a2 > a0_1)), sq_, H', le_, ⟨pkx B1⟩, ⟨pkx B2⟩, ⟨pbx HB⟩⟩
  ·have H' := A_ H
   clear H; have hnb27 := N12.out; have hnc27 := N21.out
   have ⟨hcz28_0,hcz28_1,hcz28_2,hfz28_0,hfz28_1,hfz28_2⟩ := z3_ B1
   go_wp2_with (first | ((with_reducible refine gate_callee (f:=33) rfl ?_); refine gL_ (some 9) rfl rfl Tryz.func33 rfl #[.agg #[.int .i64 a0_0, .int .i64 a0_1, .slice A0_2 l0_2.length c0_2]] rfl ?_; (with_reducible refine (look_shaped.calls a0_0 a0_1 _ _ l0_2 false _ ?side1 ?side2 A7.out).mono ?_); (case side1 => exact ca_ (Kd.C_below HR0_2.out HB.out)); (case side2 => exact HC0_2.out); rintro e w29 ⟨rfl, hb⟩; refine ⟨_, rfl, ?_⟩; replace B1 := bb_ B1 hb; replace B2 := bb_ B2 hb; replace HB := bs_ HB hb; (try clear hb); ))
   go_meet
   case rel => exact ⟨_, (true), sq_, H', le_, ⟨pkx B1⟩, ⟨pkx B2⟩, ⟨pbx HB⟩⟩
 case rest =>
  clear HC4
  obtain ⟨kq, x30_3, rfl, HA, HJ3, B1, B2, HB⟩ := hcut
  cases kq with
  | zero => exact absurd HA.out (by simp [look_At.j0])
  | succ kj3 =>
   have H := HA.out; clear HA
   simp only [look_At.j0] at H
   replace H := ib_ H; rcases H with ⟨rfl,H⟩|⟨rfl,H⟩
   ·simp only [Option.some.injEq, Prod.mk.injEq] at H
    obtain ⟨rfl, rfl, rfl, rfl⟩ := H; have hnb31 := N21.out; have hnc31 := N12.out
    have ⟨hcz32_0,hcz32_1,hcz32_2,hfz32_0,hfz32_1,hfz32_2⟩ := z3_ B2
    go_wp2
    refine bodyPost_ret (results_ct rfl _ _ g2 26 #[.int .i64 0, .int .i64 0, .string (⟨#[]⟩ : ByteArray)] (0, 0) _ rfl (by (iterate 3 apply pp_); exact pkx B2; all_goals rfl) Tryz.underlying26 rfl (by kernel_rfl)) rfl ?_
    exact fi_ bl_
   ·obtain ⟨ji33, hji33⟩ : ∃ j_ : Int, (wrap64 ((wrap64 ((wrap64 ((wrap64 (a1 - 1)) * a0_1)) + a2)) - 1)) = j_ := ⟨_, rfl⟩
    replace H : (if 0 ≤ (ji33) then (if (ji33) < (l0_2.length : Int) then (some ((rd_T26 l0_2 (ji33)).f0, (rd_T26 l0_2 (ji33)).f1, (rd_T26 l0_2 (ji33)).f2, true)) else (none)) else (none)) = some (r1, r2, r3, r4) := by first | (rw [hji33] at H; exact H) | (simp only [hji33] at H ⊢; exact H)
    have hji33w : (IntKind.i64.wrap ((wrap64 ((wrap64 ((wrap64 (a1 - 1)) * a0_1)) + a2)) - 1)) = ji33 := (i64_w _).trans hji33
    by_cases c34 : 0 ≤ (ji33)
    ·rw [if_pos c34] at H; have c34b0 := decide_eq_true c34; clear c34
     by_cases c35 : (ji33) < (l0_2.length : Int)
     ·rw [if_pos c35] at H; have c35b0 := decide_eq_true c35; clear c35
      simp only [Option.some.injEq, Prod.mk.injEq] at H
      obtain ⟨rfl, rfl, rfl, rfl⟩ := H; have hnb36 := N12.out; have hnc36 := N21.out
      have ⟨hcz37_0,hcz37_1,hcz37_2,hfz37_0,hfz37_1,hfz37_2⟩ := z3_ B1
      have p104 : 0 ≤ ((ji33) : Int) := of_decide_eq_true as_
      have q104 : (ji33) < (l0_2.length : Int) := of_decide_eq_true as_
      obtain ⟨ad104, e104, hx104_0, hx104_1, hx104_2⟩ := at_T26 HR0_2.out (ji33) p104 q104
      cases e104
      replace hx104_0 := (HB.out.cell (World.block_lt_of_cell? w _ hx104_0)).trans hx104_0; replace hx104_1 := (HB.out.cell (World.block_lt_of_cell? w _ hx104_1)).trans hx104_1; replace hx104_2 := (HB.out.cell (World.block_lt_of_cell? w _ hx104_2)).trans hx104_2; replace p104 := eq_true p104; replace q104 := eq_true q104
      have ⟨hcz38_0,hcz38_1,hcz38_2,hfz38_0,hfz38_1,hfz38_2⟩ := z3_ B2
      go_wp2
      refine bodyPost_ret (results_ct rfl _ _ g2 26 #[.int .i64 ((rd_T26 l0_2 (ji33)).f0), .int .i64 ((rd_T26 l0_2 (ji33)).f1), .string ((rd_T26 l0_2 (ji33)).f2)] (0, 0) _ rfl (by (iterate 3 apply pp_); exact pkx B2; all_goals rfl) Tryz.underlying26 rfl (by kernel_rfl)) rfl ?_
      exact ⟨by first | rfl | (simp [errW_none, errW_some] <;> rfl) | (simp only [← hji33]; first | rfl | (simp [errW_none, errW_some] <;> rfl)) | (simp [*, errW_none, errW_some] <;> rfl), by repeat (first | (with_reducible first | exact HB.out | apply below_alloc | apply pw_below_drewN | apply below_drew1 | refine below_set ?_ GE101.out | refine below_set ?_ GE102.out) | exact HB.out)⟩
     ·rw [if_neg c35] at H
      exact absurd H (by simp)
    ·rw [if_neg c34] at H
     exact absurd H (by simp)

def look_Down.l0 : Nat → Int → Int → Int → Int → ByteArray → Int → Int → List (S26) → Option (Int × Int × ByteArray)
 | 0, _, _, _, _, _, _, _, _ => none
 | k + 1, x2, x7, x102000, x102001, x102002, x103000, x103001, x103002 => if x7 ≤ x103000 then ((look_At.f k x103000 x103001 x103002 x7 1).bind fun bt105 => (if bt105.2.2.2 = true then ((look_found.f k x102000 x102001 x102002 bt105.1 bt105.2.1 bt105.2.2.1).bind fun t110 => (if t110 = true then ((look_At.f k x103000 x103001 x103002 x7 x2).bind fun bt111 => (some (bt111.1, bt111.2.1, bt111.2.2.1))) else (look_Down.l0 k x2 (wrap64 (x7 + 1)) x102000 x102001 x102002 x103000 x103001 x103002))) else (look_Down.l0 k x2 (wrap64 (x7 + 1)) x102000 x102001 x102002 x103000 x103001 x103002))) else (none)
def look_Down.f (k : Nat) (a0_0 : Int) (a0_1 : Int) (a0_2 : ByteArray) (a1_0 : Int) (a1_1 : Int) (l1_2 : List (S26)) (a2 : Int) : Option (Int × Int × ByteArray) := (look_shaped.f a1_0 a1_1 l1_2).bind fun t104 => (if t104 = true then (if a0_0 = 4 then (some (a0_0, a0_1, a0_2)) else (if a2 < 1 then (none) else (if a2 > a1_1 then (none) else (look_Down.l0 k a2 1 a0_0 a0_1 a0_2 a1_0 a1_1 l1_2)))) else (none))
theorem look_Down.mono_l : ∀ k, (∀ y0 y1 y2 y3 y4 y5 y6 y7, LeO (look_Down.l0 k y0 y1 y2 y3 y4 y5 y6 y7) (look_Down.l0 (k + 1) y0 y1 y2 y3 y4 y5 y6 y7))
 | 0 => fun _ _ _ _ _ _ _ _ r h => by simp [look_Down.l0] at h
 | k + 1 => by
  have ih0 := look_Down.mono_l k
  ·intro y0 y1 y2 y3 y4 y5 y6 y7
   unfold look_Down.l0
   have m0 := @look_At.mono; have m1 := @look_found.mono; exact mo_
theorem look_Down.mono : ∀ a0 a1 a2 a3 a4 a5 a6 k, LeO (look_Down.f k a0 a1 a2 a3 a4 a5 a6) (look_Down.f (k + 1) a0 a1 a2 a3 a4 a5 a6) := by
 intro a0 a1 a2 a3 a4 a5 a6 k; have ih0 := look_Down.mono_l k
 unfold look_Down.f
 have m0 := @look_At.mono; have m1 := @look_found.mono; exact mo_
theorem look_Down.calls (k : Nat) (a0_0 : Int) (a0_1 : Int) (a0_2 : ByteArray) (a1_0 : Int) (a1_1 : Int) (A1_2 : Option Addr) (c1_2 : Nat) (l1_2 : List (S26)) (a2 : Int) (r1 : Int) (r2 : Int) (r3 : ByteArray) (w : World) (hr1_2 : Kd.C k26 w A1_2 l1_2.length l1_2) (hc1_2 : l1_2.length ≤ c1_2) (h : look_Down.f k a0_0 a0_1 a0_2 a1_0 a1_1 l1_2 a2 = some (r1, r2, r3)) :
  Calls Tryz.prog 18 #[.agg #[.int .i64 a0_0, .int .i64 a0_1, .string a0_2], .agg #[.int .i64 a1_0, .int .i64 a1_1, .slice A1_2 l1_2.length c1_2], .int .i64 a2] w fun e w' => e = .returned (.agg #[.int .i64 r1, .int .i64 r2, .string r3]) ∧ Below w.heap.size w w' := by
 have hu26 := Tryz.underlying26; have hu24 := Tryz.underlying24; have HR1_2 := A_ hr1_2; have HC1_2 := A_ hc1_2; clear hr1_2 hc1_2; have HB := A_ (Below.refl w.heap.size w)
 have H : ((look_shaped.f a1_0 a1_1 l1_2).bind fun t104 => (if t104 = true then (if a0_0 = 4 then (some (a0_0, a0_1, a0_2)) else (if a2 < 1 then (none) else (if a2 > a1_1 then (none) else (look_Down.l0 k a2 1 a0_0 a0_1 a0_2 a1_0 a1_1 l1_2)))) else (none))) = some (r1, r2, r3) := h
 clear h; obtain ⟨t104, A4, H⟩ := bo_ H
 replace H := ib_ H; rcases H with ⟨rfl,H⟩|⟨rfl,H⟩
 ·by_cases c6 : a0_0 = 4
  ·rw [if_pos c6] at H; have ⟨c6b0,c6b1⟩ := e1_ c6; clear c6
   simp only [Option.some.injEq, Prod.mk.injEq] at H
   obtain ⟨rfl, rfl, rfl⟩ := H
   go_enter Tryz.func18, Tryz.ntmps18
   go_wp2_with (first | ((with_reducible refine gd_ 3 ?_); refine be_ (N:=3) (cs := #[.int .i64 a0_0, .int .i64 a0_1, .string a0_2]) (t:=26) ?_; intro g1 hg w7 hbox hb; have B1 := A_ (hbox); have GW101 := hs_ HB hg; have GE101 := hs_ HB hg; replace HB := bs_ HB hb; clear hb hbox hg) | ((with_reducible refine gd_ 4 ?_); refine be_ (N:=4) (cs := #[.int .i64 a1_0, .int .i64 a1_1, .slice A1_2 l1_2.length c1_2]) (t:=24) ?_; intro g2 hg w8 hbox hb; have B2 := A_ (hbox); have GW102 := hs_ HB hg; have GE102 := hs_ HB hg; have N12 := hl_ B1 hg; have N21 := hr_ B1 hg; replace B1 := bb_ B1 hb; replace HB := bs_ HB hb; clear hb hbox hg) | ((with_reducible refine gd_ 6 ?_); refine be_ (N:=6) (cs := #[.int .i64 0, .int .i64 0, .string (⟨#[]⟩ : ByteArray)]) (t:=26) ?_; intro g3 hg w9 hbox hb; have B3 := A_ (hbox); have GW103 := hs_ HB hg; have GE103 := hs_ HB hg; have N13 := hl_ B1 hg; have N31 := hr_ B1 hg; have N23 := hl_ B2 hg; have N32 := hr_ B2 hg; replace B1 := bb_ B1 hb; replace B2 := bb_ B2 hb; replace HB := bs_ HB hb; clear hb hbox hg; have hnb10 := N21.out; have hnc10 := N12.out; have hnb11 := N23.out; have hnc11 := N32.out; have ⟨hcz12_0,hcz12_1,hcz12_2,hfz12_0,hfz12_1,hfz12_2⟩ := z3_ B2) | ((with_reducible refine gate_callee (f:=33) rfl ?_); refine gL_ (some 14) rfl rfl Tryz.func33 rfl #[.agg #[.int .i64 a1_0, .int .i64 a1_1, .slice A1_2 l1_2.length c1_2]] rfl ?_; (with_reducible refine (look_shaped.calls a1_0 a1_1 _ _ l1_2 true _ ?side1 ?side2 A4.out).mono ?_); (case side1 => exact ca_ (Kd.C_below HR1_2.out HB.out)); (case side2 => exact HC1_2.out); rintro e w13 ⟨rfl, hb⟩; refine ⟨_, rfl, ?_⟩; replace B1 := bb_ B1 hb; replace B2 := bb_ B2 hb; replace B3 := bb_ B3 hb; replace HB := bs_ HB hb; have hnb14 := N13.out; have hnc14 := N31.out; have ⟨hcz15_0,hcz15_1,hcz15_2,hfz15_0,hfz15_1,hfz15_2⟩ := z3_ B1; have ⟨hcz16_0,hcz16_1,hcz16_2,hfz16_0,hfz16_1,hfz16_2⟩ := z3_ B3))
   refine bodyPost_ret (results_cell_row rfl _ _ g3 26 #[.int .i64 a0_0, .int .i64 a0_1, .string a0_2] (0, 0) _ rfl (by (iterate 3 apply pp_); exact pkx B3; all_goals rfl) Tryz.underlying26 rfl (by kernel_rfl)) rfl ?_
   exact fi_ bl_
  ·rw [if_neg c6] at H; have ⟨c6b0,c6b1⟩ := e0_ c6
   by_cases c17 : a2 < 1
   ·rw [if_pos c17] at H
    exact absurd H (by simp)
   ·rw [if_neg c17] at H; have c17b0 := decide_eq_false c17; clear c17
    by_cases c18 : a2 > a1_1
    ·rw [if_pos c18] at H
     exact absurd H (by simp)
    ·rw [if_neg c18] at H; have c18b0 := decide_eq_false c18; clear c18
     have H' := A_ H
     clear H
     go_enter Tryz.func18, Tryz.ntmps18
     go_wp2_with (first | ((with_reducible refine gd_ 3 ?_); refine be_ (N:=3) (cs := #[.int .i64 a0_0, .int .i64 a0_1, .string a0_2]) (t:=26) ?_; intro g1 hg w19 hbox hb; have B1 := A_ (hbox); have GW101 := hs_ HB hg; have GE101 := hs_ HB hg; replace HB := bs_ HB hb; clear hb hbox hg) | ((with_reducible refine gd_ 4 ?_); refine be_ (N:=4) (cs := #[.int .i64 a1_0, .int .i64 a1_1, .slice A1_2 l1_2.length c1_2]) (t:=24) ?_; intro g2 hg w20 hbox hb; have B2 := A_ (hbox); have GW102 := hs_ HB hg; have GE102 := hs_ HB hg; have N12 := hl_ B1 hg; have N21 := hr_ B1 hg; replace B1 := bb_ B1 hb; replace HB := bs_ HB hb; clear hb hbox hg) | ((with_reducible refine gd_ 6 ?_); refine be_ (N:=6) (cs := #[.int .i64 0, .int .i64 0, .string (⟨#[]⟩ : ByteArray)]) (t:=26) ?_; intro g3 hg w21 hbox hb; have B3 := A_ (hbox); have GW103 := hs_ HB hg; have GE103 := hs_ HB hg; have N13 := hl_ B1 hg; have N31 := hr_ B1 hg; have N23 := hl_ B2 hg; have N32 := hr_ B2 hg; replace B1 := bb_ B1 hb; replace B2 := bb_ B2 hb; replace HB := bs_ HB hb; clear hb hbox hg; have hnb22 := N21.out; have hnc22 := N12.out; have hnb23 := N23.out; have hnc23 := N32.out; have ⟨hcz24_0,hcz24_1,hcz24_2,hfz24_0,hfz24_1,hfz24_2⟩ := z3_ B2) | ((with_reducible refine gate_callee (f:=33) rfl ?_); refine gL_ (some 14) rfl rfl Tryz.func33 rfl #[.agg #[.int .i64 a1_0, .int .i64 a1_1, .slice A1_2 l1_2.length c1_2]] rfl ?_; (with_reducible refine (look_shaped.calls a1_0 a1_1 _ _ l1_2 true _ ?side1 ?side2 A4.out).mono ?_); (case side1 => exact ca_ (Kd.C_below HR1_2.out HB.out)); (case side2 => exact HC1_2.out); rintro e w25 ⟨rfl, hb⟩; refine ⟨_, rfl, ?_⟩; replace B1 := bb_ B1 hb; replace B2 := bb_ B2 hb; replace B3 := bb_ B3 hb; replace HB := bs_ HB hb; have hnb26 := N13.out; have hnc26 := N31.out; have ⟨hcz27_0,hcz27_1,hcz27_2,hfz27_0,hfz27_1,hfz27_2⟩ := z3_ B1; have ⟨hcz28_0,hcz28_1,hcz28_2,hfz28_0,hfz28_1,hfz28_2⟩ := z3_ B2))
     go_loopg [7] k (fun kq v7 w' => ∃ (x7_1 : Int) (x104000_1 : Int) (x104001_1 : Int) (x104002_1 : ByteArray), v7 = .int .i64 x7_1 ∧ Aside0 (look_Down.l0 kq a2 x7_1 a0_0 a0_1 a0_2 a1_0 a1_1 l1_2 = some (r1, r2, r3)) ∧ Aside0 (kq ≤ k) ∧ Aside0 (w'.heap[g1]? = some (.cells #[.int .i64 a0_0, .int .i64 a0_1, .string a0_2] 26 (0, 0))) ∧ Aside0 (w'.heap[g2]? = some (.cells #[.int .i64 a1_0, .int .i64 a1_1, (.slice A1_2 l1_2.length c1_2)] 24 (0, 0))) ∧ Aside0 (w'.heap[g3]? = some (.cells #[.int .i64 x104000_1, .int .i64 x104001_1, .string x104002_1] 26 (0, 0))) ∧ Aside0 (Below w.heap.size w w'))
     case atStart => exact ⟨(1), (0), (0), ((⟨#[]⟩ : ByteArray)), sq_, H', ⟨Nat.le_refl _⟩, ⟨pkx B1⟩, ⟨pkx B2⟩, ⟨pkx B3⟩, ⟨pbx HB⟩⟩
     case round =>
      clear H'; (try clear c5); (try clear c6); (try clear c6b0); (try clear c6b1); (try clear c17); (try clear c17b0); (try clear c18); (try clear c18b0); (try clear hcz24_0); (try clear hcz24_1); (try clear hcz24_2); (try clear hcz27_0); (try clear hcz27_1); (try clear hcz27_2); (try clear hcz28_0); (try clear hcz28_1); (try clear hcz28_2); (try clear hfz24_0)
      (try clear hfz24_1); (try clear hfz24_2); (try clear hfz27_0); (try clear hfz27_1); (try clear hfz27_2); (try clear hfz28_0); (try clear hfz28_1); (try clear hfz28_2); obtain ⟨x7_1, x104000_1, x104001_1, x104002_1, rfl, HA, HK1, B1, B2, B3, HB⟩ := hrel
      cases gk with
      | zero => exact absurd HA.out (by simp [look_Down.l0])
      | succ k1 =>
       have H := HA.out; clear HA
       simp only [look_Down.l0] at H
       by_cases c29 : x7_1 ≤ a1_0
       ·rw [if_pos c29] at H; have c29b0 := decide_eq_true c29; clear c29; obtain ⟨⟨t105, t106, t107, t108⟩, A30, H⟩ := bo_ H; dsimp only at H
        replace H := ib_ H; rcases H with ⟨rfl,H⟩|⟨rfl,H⟩
        ·obtain ⟨t110, A32, H⟩ := bo_ H
         replace H := ib_ H; rcases H with ⟨rfl,H⟩|⟨rfl,H⟩
         ·obtain ⟨⟨t111, t112, t113, t114⟩, A34, H⟩ := bo_ H; dsimp only at H
          simp only [Option.some.injEq, Prod.mk.injEq] at H
          obtain ⟨rfl, rfl, rfl⟩ := H; have hnb35 := N21.out; have hnc35 := N12.out; have hnb36 := N23.out; have hnc36 := N32.out
          have ⟨hcz37_0,hcz37_1,hcz37_2,hfz37_0,hfz37_1,hfz37_2⟩ := z3_ B2
          go_wp2_with (first | ((with_reducible refine gate_callee (f:=35) rfl ?_); refine gL_ (some 41) rfl rfl Tryz.func35 rfl #[.agg #[.int .i64 a1_0, .int .i64 a1_1, .slice A1_2 l1_2.length c1_2], .int .i64 x7_1, .int .i64 1] rfl ?_; (with_reducible refine (look_At.calls k1 a1_0 a1_1 _ _ l1_2 x7_1 1 t105 t106 t107 true _ ?side1 ?side2 A30.out).mono ?_); (case side1 => exact ca_ (Kd.C_below HR1_2.out HB.out)); (case side2 => exact HC1_2.out); rintro e w38 ⟨rfl, hb⟩; refine ⟨_, rfl, ?_⟩; replace B1 := bb_ B1 hb; replace B2 := bb_ B2 hb; replace B3 := bb_ B3 hb; replace HB := bs_ HB hb; (try clear hb); ) | ((with_reducible refine gd_ 8 ?_); refine be_ (N:=8) (cs := #[.int .i64 0, .int .i64 0, .string (⟨#[]⟩ : ByteArray)]) (t:=26) ?_; intro g9 hg w39 hbox hb; have B9 := A_ (hbox); have GW109 := hs_ HB hg; have GE109 := hs_ HB hg; have N19 := hl_ B1 hg; have N91 := hr_ B1 hg; have N29 := hl_ B2 hg; have N92 := hr_ B2 hg; have N39 := hl_ B3 hg; have N93 := hr_ B3 hg; replace B1 := bb_ B1 hb; replace B2 := bb_ B2 hb; replace B3 := bb_ B3 hb; replace HB := bs_ HB hb; clear hb hbox hg; have hnb40 := N91.out; have hnc40 := N19.out; have hnb41 := N92.out; have hnc41 := N29.out; have hnb42 := N93.out; have hnc42 := N39.out; have ⟨hcz43_0,hcz43_1,hcz43_2,hfz43_0,hfz43_1,hfz43_2⟩ := z3_ B9; have hnb44 := N13.out; have hnc44 := N31.out; have ⟨hcz45_0,hcz45_1,hcz45_2,hfz45_0,hfz45_1,hfz45_2⟩ := z3_ B1) | (go_at_call 32; (with_reducible refine (look_found.calls k1 a0_0 a0_1 a0_2 t105 t106 t107 true _ A32.out).mono ?_); rintro e w46 ⟨rfl, hb⟩; replace B1 := A_ (blk_below (g:=g1) (o := .cells #[.int .i64 a0_0, .int .i64 a0_1, .string a0_2] 26 (0, 0)) (by (iterate 3 refine pf_ ?_ N19.out); exact pkx B1) hb); replace B2 := A_ (blk_below (g:=g2) (o := .cells #[.int .i64 a1_0, .int .i64 a1_1, .slice A1_2 l1_2.length c1_2] 24 (0, 0)) (by (iterate 3 refine pf_ ?_ N29.out); exact pkx B2) hb); replace B3 := A_ (blk_below (g:=g3) (o := .cells #[.int .i64 x104000_1, .int .i64 x104001_1, .string x104002_1] 26 (0, 0)) (by (iterate 3 refine pf_ ?_ N39.out); exact pkx B3) hb); replace B9 := A_ (blk_below (g:=g9) (o := .cells #[.int .i64 t105, .int .i64 t106, .string t107] 26 (0, 0)) (by (iterate 3 apply pp_); exact pkx B9; all_goals rfl) hb); replace HB := A_ (below_step (by repeat (first | (with_reducible first | exact HB.out | apply below_alloc | apply pw_below_drewN | apply below_drew1 | refine below_set ?_ GE101.out | refine below_set ?_ GE102.out | refine below_set ?_ GE103.out | refine below_set ?_ GE109.out) | exact HB.out)) hb); (try clear hb); have ⟨hcz47_0,hcz47_1,hcz47_2,hfz47_0,hfz47_1,hfz47_2⟩ := z3_ B2) | ((with_reducible refine gate_callee (f:=35) rfl ?_); refine gL_ (some 54) rfl rfl Tryz.func35 rfl #[.agg #[.int .i64 a1_0, .int .i64 a1_1, .slice A1_2 l1_2.length c1_2], .int .i64 x7_1, .int .i64 a2] rfl ?_; (with_reducible refine (look_At.calls k1 a1_0 a1_1 _ _ l1_2 x7_1 a2 t111 t112 t113 t114 _ ?side1 ?side2 A34.out).mono ?_); (case side1 => exact ca_ (Kd.C_below HR1_2.out HB.out)); (case side2 => exact HC1_2.out); rintro e w48 ⟨rfl, hb⟩; refine ⟨_, rfl, ?_⟩; replace B1 := bb_ B1 hb; replace B2 := bb_ B2 hb; replace B3 := bb_ B3 hb; replace B9 := bb_ B9 hb; replace HB := bs_ HB hb; (try clear hb); ) | ((with_reducible refine gd_ 10 ?_); refine be_ (N:=10) (cs := #[.int .i64 0, .int .i64 0, .string (⟨#[]⟩ : ByteArray)]) (t:=26) ?_; intro gb115 hg w49 hbox hb; have BK115 := A_ (hbox); have GW115 := hs_ HB hg; have GE115 := hs_ HB hg; have NB101_115 := hl_ B1 hg; have NB115_101 := hr_ B1 hg; have NB102_115 := hl_ B2 hg; have NB115_102 := hr_ B2 hg; have NB103_115 := hl_ B3 hg; have NB115_103 := hr_ B3 hg; have NB109_115 := hl_ B9 hg; have NB115_109 := hr_ B9 hg; replace B1 := bb_ B1 hb; replace B2 := bb_ B2 hb; replace B3 := bb_ B3 hb; replace B9 := bb_ B9 hb; replace HB := bs_ HB hb; clear hb hbox hg; have hnb50 := NB115_101.out; have hnc50 := NB101_115.out; have hnb51 := NB115_102.out; have hnc51 := NB102_115.out; have hnb52 := NB115_103.out; have hnc52 := NB103_115.out; have hnb53 := NB115_109.out; have hnc53 := NB109_115.out; have ⟨hcz54_0,hcz54_1,hcz54_2,hfz54_0,hfz54_1,hfz54_2⟩ := z3_ BK115; have ⟨hcz55_0,hcz55_1,hcz55_2,hfz55_0,hfz55_1,hfz55_2⟩ := z3_ B3))
          refine bodyPost_ret (results_cell_row rfl _ _ g3 26 #[.int .i64 t111, .int .i64 t112, .string t113] (0, 0) _ rfl (by refine pp_ (cs := #[.int .i64 t111, .int .i64 t112, .string x104002_1]) 2 ?_ rfl; refine blk_put (cs := #[.int .i64 t111, .int .i64 x104001_1, .string x104002_1]) ?_ 1 _ rfl; refine blk_put (cs := #[.int .i64 x104000_1, .int .i64 x104001_1, .string x104002_1]) ?_ 0 _ rfl; (iterate 3 refine pf_ ?_ NB103_115.out); exact pkx B3) Tryz.underlying26 rfl (by kernel_rfl)) rfl ?_
          exact fi_ bl_
         ·have H' := A_ H
          clear H; have hnb56 := N21.out; have hnc56 := N12.out; have hnb57 := N23.out; have hnc57 := N32.out
          have ⟨hcz58_0,hcz58_1,hcz58_2,hfz58_0,hfz58_1,hfz58_2⟩ := z3_ B2
          go_wp2_with (first | ((with_reducible refine gate_callee (f:=35) rfl ?_); refine gL_ (some 41) rfl rfl Tryz.func35 rfl #[.agg #[.int .i64 a1_0, .int .i64 a1_1, .slice A1_2 l1_2.length c1_2], .int .i64 x7_1, .int .i64 1] rfl ?_; (with_reducible refine (look_At.calls k1 a1_0 a1_1 _ _ l1_2 x7_1 1 t105 t106 t107 true _ ?side1 ?side2 A30.out).mono ?_); (case side1 => exact ca_ (Kd.C_below HR1_2.out HB.out)); (case side2 => exact HC1_2.out); rintro e w59 ⟨rfl, hb⟩; refine ⟨_, rfl, ?_⟩; replace B1 := bb_ B1 hb; replace B2 := bb_ B2 hb; replace B3 := bb_ B3 hb; replace HB := bs_ HB hb; (try clear hb); ) | ((with_reducible refine gd_ 8 ?_); refine be_ (N:=8) (cs := #[.int .i64 0, .int .i64 0, .string (⟨#[]⟩ : ByteArray)]) (t:=26) ?_; intro g9 hg w60 hbox hb; have B9 := A_ (hbox); have GW109 := hs_ HB hg; have GE109 := hs_ HB hg; have N19 := hl_ B1 hg; have N91 := hr_ B1 hg; have N29 := hl_ B2 hg; have N92 := hr_ B2 hg; have N39 := hl_ B3 hg; have N93 := hr_ B3 hg; replace B1 := bb_ B1 hb; replace B2 := bb_ B2 hb; replace B3 := bb_ B3 hb; replace HB := bs_ HB hb; clear hb hbox hg; have hnb61 := N91.out; have hnc61 := N19.out; have hnb62 := N92.out; have hnc62 := N29.out; have hnb63 := N93.out; have hnc63 := N39.out; have ⟨hcz64_0,hcz64_1,hcz64_2,hfz64_0,hfz64_1,hfz64_2⟩ := z3_ B9; have hnb65 := N13.out; have hnc65 := N31.out; have ⟨hcz66_0,hcz66_1,hcz66_2,hfz66_0,hfz66_1,hfz66_2⟩ := z3_ B1) | (go_at_call 32; (with_reducible refine (look_found.calls k1 a0_0 a0_1 a0_2 t105 t106 t107 false _ A32.out).mono ?_); rintro e w67 ⟨rfl, hb⟩; replace B1 := A_ (blk_below (g:=g1) (o := .cells #[.int .i64 a0_0, .int .i64 a0_1, .string a0_2] 26 (0, 0)) (by (iterate 3 refine pf_ ?_ N19.out); exact pkx B1) hb); replace B2 := A_ (blk_below (g:=g2) (o := .cells #[.int .i64 a1_0, .int .i64 a1_1, .slice A1_2 l1_2.length c1_2] 24 (0, 0)) (by (iterate 3 refine pf_ ?_ N29.out); exact pkx B2) hb); replace B3 := A_ (blk_below (g:=g3) (o := .cells #[.int .i64 x104000_1, .int .i64 x104001_1, .string x104002_1] 26 (0, 0)) (by (iterate 3 refine pf_ ?_ N39.out); exact pkx B3) hb); replace B9 := A_ (blk_below (g:=g9) (o := .cells #[.int .i64 t105, .int .i64 t106, .string t107] 26 (0, 0)) (by (iterate 3 apply pp_); exact pkx B9; all_goals rfl) hb); replace HB := A_ (below_step (by repeat (first | (with_reducible first | exact HB.out | apply below_alloc | apply pw_below_drewN | apply below_drew1 | refine below_set ?_ GE101.out | refine below_set ?_ GE102.out | refine below_set ?_ GE103.out | refine below_set ?_ GE109.out) | exact HB.out)) hb); (try clear hb); ))
          go_roundg k1
          case measure => have := HK1.out; omega
          case rel => exact ⟨(wrap64 (x7_1 + 1)), (x104000_1), (x104001_1), (x104002_1), sq_, H', ⟨by have := HK1.out; omega⟩, ⟨pkx B1⟩, ⟨pkx B2⟩, ⟨pkx B3⟩, ⟨pbx HB⟩⟩
        ·have H' := A_ H
         clear H; have hnb68 := N21.out; have hnc68 := N12.out; have hnb69 := N23.out; have hnc69 := N32.out
         have ⟨hcz70_0,hcz70_1,hcz70_2,hfz70_0,hfz70_1,hfz70_2⟩ := z3_ B2
         go_wp2_with (first | ((with_reducible refine gate_callee (f:=35) rfl ?_); refine gL_ (some 41) rfl rfl Tryz.func35 rfl #[.agg #[.int .i64 a1_0, .int .i64 a1_1, .slice A1_2 l1_2.length c1_2], .int .i64 x7_1, .int .i64 1] rfl ?_; (with_reducible refine (look_At.calls k1 a1_0 a1_1 _ _ l1_2 x7_1 1 t105 t106 t107 false _ ?side1 ?side2 A30.out).mono ?_); (case side1 => exact ca_ (Kd.C_below HR1_2.out HB.out)); (case side2 => exact HC1_2.out); rintro e w71 ⟨rfl, hb⟩; refine ⟨_, rfl, ?_⟩; replace B1 := bb_ B1 hb; replace B2 := bb_ B2 hb; replace B3 := bb_ B3 hb; replace HB := bs_ HB hb; (try clear hb); ) | ((with_reducible refine gd_ 8 ?_); refine be_ (N:=8) (cs := #[.int .i64 0, .int .i64 0, .string (⟨#[]⟩ : ByteArray)]) (t:=26) ?_; intro g9 hg w72 hbox hb; have B9 := A_ (hbox); have GW109 := hs_ HB hg; have GE109 := hs_ HB hg; have N19 := hl_ B1 hg; have N91 := hr_ B1 hg; have N29 := hl_ B2 hg; have N92 := hr_ B2 hg; have N39 := hl_ B3 hg; have N93 := hr_ B3 hg; replace B1 := bb_ B1 hb; replace B2 := bb_ B2 hb; replace B3 := bb_ B3 hb; replace HB := bs_ HB hb; clear hb hbox hg; have hnb73 := N91.out; have hnc73 := N19.out; have hnb74 := N92.out; have hnc74 := N29.out; have hnb75 := N93.out; have hnc75 := N39.out; have ⟨hcz76_0,hcz76_1,hcz76_2,hfz76_0,hfz76_1,hfz76_2⟩ := z3_ B9))
         go_roundg k1
         case measure => have := HK1.out; omega
         case rel => exact ⟨(wrap64 (x7_1 + 1)), (x104000_1), (x104001_1), (x104002_1), sq_, H', ⟨by have := HK1.out; omega⟩, ⟨by (iterate 3 refine pf_ ?_ N19.out); exact pkx B1⟩, ⟨by (iterate 3 refine pf_ ?_ N29.out); exact pkx B2⟩, ⟨by (iterate 3 refine pf_ ?_ N39.out); exact pkx B3⟩, ⟨bl_⟩⟩
       ·rw [if_neg c29] at H
        exact absurd H (by simp)
 ·exact absurd H (by simp)

mutual
def look_Across.l0 : Nat → Int → Int → Int → Int → ByteArray → Int → Int → List (S26) → Int → Int → List (S26) → Option (Int × Int × ByteArray)
 | 0, _, _, _, _, _, _, _, _, _, _, _ => none
 | k + 1, x2, x8, x102000, x102001, x102002, x103000, x103001, x103002, x106000, x106001, x106002 => if x8 ≤ x103001 then (look_Across.l1 k x2 x8 1 x102000 x102001 x102002 x103000 x103001 x103002 x106000 x106001 x106002) else ((look_Down.f k x102000 x102001 x102002 x106000 x106001 x106002 x2).bind fun bt106 => (some (bt106.1, bt106.2.1, bt106.2.2)))
def look_Across.l1 : Nat → Int → Int → Int → Int → Int → ByteArray → Int → Int → List (S26) → Int → Int → List (S26) → Option (Int × Int × ByteArray)
 | 0, _, _, _, _, _, _, _, _, _, _, _, _ => none
 | k + 1, x2, x8, x9, x102000, x102001, x102002, x103000, x103001, x103002, x106000, x106001, x106002 => if x9 ≤ x103000 then ((look_At.f k x103000 x103001 x103002 x9 x8).bind fun bt109 => (if x106002.length < 4398046511104 then (look_Across.l1 k x2 x8 (wrap64 (x9 + 1)) x102000 x102001 x102002 x103000 x103001 x103002 x106000 x106001 (x106002 ++ [(⟨bt109.1, bt109.2.1, bt109.2.2.1⟩ : S26)])) else (none))) else (look_Across.l0 k x2 (wrap64 (x8 + 1)) x102000 x102001 x102002 x103000 x103001 x103002 x106000 x106001 x106002)
end
def look_Across.f (k : Nat) (a0_0 : Int) (a0_1 : Int) (a0_2 : ByteArray) (a1_0 : Int) (a1_1 : Int) (l1_2 : List (S26)) (a2 : Int) : Option (Int × Int × ByteArray) := (look_shaped.f a1_0 a1_1 l1_2).bind fun t104 => (if t104 = true then (look_Across.l0 k a2 1 a0_0 a0_1 a0_2 a1_0 a1_1 l1_2 a1_1 a1_0 ([] : List (S26))) else (none))
theorem look_Across.mono_l : ∀ k, (∀ y0 y1 y2 y3 y4 y5 y6 y7 y8 y9 y10, LeO (look_Across.l0 k y0 y1 y2 y3 y4 y5 y6 y7 y8 y9 y10) (look_Across.l0 (k + 1) y0 y1 y2 y3 y4 y5 y6 y7 y8 y9 y10)) ∧ (∀ y0 y1 y2 y3 y4 y5 y6 y7 y8 y9 y10 y11, LeO (look_Across.l1 k y0 y1 y2 y3 y4 y5 y6 y7 y8 y9 y10 y11) (look_Across.l1 (k + 1) y0 y1 y2 y3 y4 y5 y6 y7 y8 y9 y10 y11))
 | 0 => ⟨fun _ _ _ _ _ _ _ _ _ _ _ r h => by simp [look_Across.l0] at h, fun _ _ _ _ _ _ _ _ _ _ _ _ r h => by simp [look_Across.l1] at h⟩
 | k + 1 => by
  obtain ⟨ih0, ih1⟩ := look_Across.mono_l k
  refine ⟨?_, ?_⟩
  ·intro y0 y1 y2 y3 y4 y5 y6 y7 y8 y9 y10
   unfold look_Across.l0
   have m0 := @look_At.mono; have m1 := @look_Down.mono; exact mo_
  ·intro y0 y1 y2 y3 y4 y5 y6 y7 y8 y9 y10 y11
   unfold look_Across.l1
   have m0 := @look_At.mono; have m1 := @look_Down.mono; exact mo_
theorem look_Across.mono : ∀ a0 a1 a2 a3 a4 a5 a6 k, LeO (look_Across.f k a0 a1 a2 a3 a4 a5 a6) (look_Across.f (k + 1) a0 a1 a2 a3 a4 a5 a6) := by
 intro a0 a1 a2 a3 a4 a5 a6 k; obtain ⟨ih0, ih1⟩ := look_Across.mono_l k
 unfold look_Across.f
 have m0 := @look_At.mono; have m1 := @look_Down.mono; exact mo_
theorem look_Across.calls (k : Nat) (a0_0 : Int) (a0_1 : Int) (a0_2 : ByteArray) (a1_0 : Int) (a1_1 : Int) (A1_2 : Option Addr) (c1_2 : Nat) (l1_2 : List (S26)) (a2 : Int) (r1 : Int) (r2 : Int) (r3 : ByteArray) (w : World) (hr1_2 : Kd.C k26 w A1_2 l1_2.length l1_2) (hc1_2 : l1_2.length ≤ c1_2) (h : look_Across.f k a0_0 a0_1 a0_2 a1_0 a1_1 l1_2 a2 = some (r1, r2, r3)) :
  Calls Tryz.prog 19 #[.agg #[.int .i64 a0_0, .int .i64 a0_1, .string a0_2], .agg #[.int .i64 a1_0, .int .i64 a1_1, .slice A1_2 l1_2.length c1_2], .int .i64 a2] w fun e w' => e = .returned (.agg #[.int .i64 r1, .int .i64 r2, .string r3]) ∧ Below w.heap.size w w' := by
 have hu26 := Tryz.underlying26; have hu24 := Tryz.underlying24; have HR1_2 := A_ hr1_2; have HC1_2 := A_ hc1_2; clear hr1_2 hc1_2; have HB := A_ (Below.refl w.heap.size w)
 have H : ((look_shaped.f a1_0 a1_1 l1_2).bind fun t104 => (if t104 = true then (look_Across.l0 k a2 1 a0_0 a0_1 a0_2 a1_0 a1_1 l1_2 a1_1 a1_0 ([] : List (S26))) else (none))) = some (r1, r2, r3) := h
 clear h; obtain ⟨t104, A4, H⟩ := bo_ H
 replace H := ib_ H; rcases H with ⟨rfl,H⟩|⟨rfl,H⟩
 ·have H' := A_ H
  clear H
  go_enter Tryz.func19, Tryz.ntmps19
  go_wp2_with (first | ((with_reducible refine gd_ 3 ?_); refine be_ (N:=3) (cs := #[.int .i64 a0_0, .int .i64 a0_1, .string a0_2]) (t:=26) ?_; intro g1 hg w6 hbox hb; have B1 := A_ (hbox); have GW101 := hs_ HB hg; have GE101 := hs_ HB hg; replace HB := bs_ HB hb; clear hb hbox hg) | ((with_reducible refine gd_ 4 ?_); refine be_ (N:=4) (cs := #[.int .i64 a1_0, .int .i64 a1_1, .slice A1_2 l1_2.length c1_2]) (t:=24) ?_; intro g2 hg w7 hbox hb; have B2 := A_ (hbox); have GW102 := hs_ HB hg; have GE102 := hs_ HB hg; have N12 := hl_ B1 hg; have N21 := hr_ B1 hg; replace B1 := bb_ B1 hb; replace HB := bs_ HB hb; clear hb hbox hg) | ((with_reducible refine gd_ 6 ?_); refine be_ (N:=6) (cs := #[.int .i64 0, .int .i64 0, .string (⟨#[]⟩ : ByteArray)]) (t:=26) ?_; intro g3 hg w8 hbox hb; have B3 := A_ (hbox); have GW103 := hs_ HB hg; have GE103 := hs_ HB hg; have N13 := hl_ B1 hg; have N31 := hr_ B1 hg; have N23 := hl_ B2 hg; have N32 := hr_ B2 hg; replace B1 := bb_ B1 hb; replace B2 := bb_ B2 hb; replace HB := bs_ HB hb; clear hb hbox hg; have hnb9 := N21.out; have hnc9 := N12.out; have hnb10 := N23.out; have hnc10 := N32.out; have ⟨hcz11_0,hcz11_1,hcz11_2,hfz11_0,hfz11_1,hfz11_2⟩ := z3_ B2) | ((with_reducible refine gate_callee (f:=33) rfl ?_); refine gL_ (some 13) rfl rfl Tryz.func33 rfl #[.agg #[.int .i64 a1_0, .int .i64 a1_1, .slice A1_2 l1_2.length c1_2]] rfl ?_; (with_reducible refine (look_shaped.calls a1_0 a1_1 _ _ l1_2 true _ ?side1 ?side2 A4.out).mono ?_); (case side1 => exact ca_ (Kd.C_below HR1_2.out HB.out)); (case side2 => exact HC1_2.out); rintro e w12 ⟨rfl, hb⟩; refine ⟨_, rfl, ?_⟩; replace B1 := bb_ B1 hb; replace B2 := bb_ B2 hb; replace B3 := bb_ B3 hb; replace HB := bs_ HB hb; have ⟨hcz13_0,hcz13_1,hcz13_2,hfz13_0,hfz13_1,hfz13_2⟩ := z3_ B2) | ((with_reducible refine gd_ 7 ?_); refine be_ (N:=7) (cs := #[.int .i64 0, .int .i64 0, .slice none 0 0]) (t:=24) ?_; intro g5 hg w14 hbox hb; have B5 := A_ (hbox); have GW105 := hs_ HB hg; have GE105 := hs_ HB hg; have N15 := hl_ B1 hg; have N51 := hr_ B1 hg; have N25 := hl_ B2 hg; have N52 := hr_ B2 hg; have N35 := hl_ B3 hg; have N53 := hr_ B3 hg; replace B1 := bb_ B1 hb; replace B2 := bb_ B2 hb; replace B3 := bb_ B3 hb; replace HB := bs_ HB hb; clear hb hbox hg; have hnb15 := N51.out; have hnc15 := N15.out; have hnb16 := N52.out; have hnc16 := N25.out; have hnb17 := N53.out; have hnc17 := N35.out; have ⟨hcz18_0,hcz18_1,hcz18_2,hfz18_0,hfz18_1,hfz18_2⟩ := z3_ B5))
  go_loopg [8] k (fun kq v8 w' => ∃ (x8_1 : Int) (x106002_1 : List (S26)) (u106002 : Value), v8 = .int .i64 x8_1 ∧ Aside0 (look_Across.l0 kq a2 x8_1 a0_0 a0_1 a0_2 a1_0 a1_1 l1_2 a1_1 a1_0 x106002_1 = some (r1, r2, r3)) ∧ Aside0 (kq ≤ k) ∧ Aside0 (Kd.R k26 26 w' w.heap.size (fun k_ => k_ ≠ g1 ∧ k_ ≠ g3) u106002 x106002_1) ∧ Aside0 (w'.heap[g1]? = some (.cells #[.int .i64 a0_0, .int .i64 a0_1, .string a0_2] 26 (0, 0))) ∧ Aside0 (w'.heap[g2]? = some (.cells #[.int .i64 a1_0, .int .i64 a1_1, (.slice A1_2 l1_2.length c1_2)] 24 (0, 0))) ∧ Aside0 (w'.heap[g3]? = some (.cells #[.int .i64 0, .int .i64 0, .string (⟨#[]⟩ : ByteArray)] 26 (0, 0))) ∧ Aside0 (w'.heap[g5]? = some (.cells #[.int .i64 a1_1, .int .i64 a1_0, u106002] 24 (0, 0))) ∧ Aside0 (Below w.heap.size w w'))
  case atStart => exact ⟨(1), (([] : List (S26))), (.slice none 0 0), sq_, H', ⟨Nat.le_refl _⟩, ⟨by first | exact Kd.R_nil _ _ _ _ _ | exact Kd.N_nil _ _ _ _ _ | exact Kd.V_nil _ _ _ _ _ | exact Kd.Q_nil _ _ _ _ _ | exact Kd.S_nil _ _ _ _ _⟩, ⟨by (iterate 3 refine pf_ ?_ N15.out); exact pkx B1⟩, ⟨by (iterate 3 refine pf_ ?_ N25.out); exact pkx B2⟩, ⟨by (iterate 3 refine pf_ ?_ N35.out); exact pkx B3⟩, ⟨by refine pp_ (cs := #[.int .i64 a1_1, .int .i64 a1_0, .slice none 0 0]) 2 ?_ rfl; refine blk_put (cs := #[.int .i64 a1_1, .int .i64 0, .slice none 0 0]) ?_ 1 _ rfl; refine blk_put (cs := #[.int .i64 0, .int .i64 0, .slice none 0 0]) ?_ 0 _ rfl; exact pkx B5⟩, ⟨bl_⟩⟩
  case round =>
   clear H'; (try clear c5); (try clear hcz11_0); (try clear hcz11_1); (try clear hcz11_2); (try clear hcz13_0); (try clear hcz13_1); (try clear hcz13_2); (try clear hcz18_0); (try clear hcz18_1); (try clear hcz18_2); (try clear hfz11_0); (try clear hfz11_1); (try clear hfz11_2); (try clear hfz13_0); (try clear hfz13_1); (try clear hfz13_2); (try clear hfz18_0); (try clear hfz18_1); (try clear hfz18_2); obtain ⟨x8_1, x106002_1, u106002, rfl, HA, HK1, HO_106002, B1, B2, B3, B5, HB⟩ := hrel
   cases gk with
   | zero => exact absurd HA.out (by simp [look_Across.l0])
   | succ k1 =>
    have H := HA.out; clear HA
    simp only [look_Across.l0] at H
    by_cases c19 : x8_1 ≤ a1_1
    ·rw [if_pos c19] at H; have c19b0 := decide_eq_true c19; clear c19
     have H' := A_ H
     clear H; have hnb20 := N21.out; have hnc20 := N12.out; have hnb21 := N23.out; have hnc21 := N32.out; have hnb22 := N25.out; have hnc22 := N52.out
     have ⟨hcz23_0,hcz23_1,hcz23_2,hfz23_0,hfz23_1,hfz23_2⟩ := z3_ B2
     go_wp2
     go_loopg [9] k1 (fun kq v9 w' => ∃ (x9_2 : Int) (x106002_2 : List (S26)) (u106002 : Value), v9 = .int .i64 x9_2 ∧ Aside0 (look_Across.l1 kq a2 x8_1 x9_2 a0_0 a0_1 a0_2 a1_0 a1_1 l1_2 a1_1 a1_0 x106002_2 = some (r1, r2, r3)) ∧ Aside0 (kq ≤ k1) ∧ Aside0 (Kd.R k26 26 w' w.heap.size (fun k_ => k_ ≠ g1 ∧ k_ ≠ g3) u106002 x106002_2) ∧ Aside0 (w'.heap[g1]? = some (.cells #[.int .i64 a0_0, .int .i64 a0_1, .string a0_2] 26 (0, 0))) ∧ Aside0 (w'.heap[g2]? = some (.cells #[.int .i64 a1_0, .int .i64 a1_1, (.slice A1_2 l1_2.length c1_2)] 24 (0, 0))) ∧ Aside0 (w'.heap[g3]? = some (.cells #[.int .i64 0, .int .i64 0, .string (⟨#[]⟩ : ByteArray)] 26 (0, 0))) ∧ Aside0 (w'.heap[g5]? = some (.cells #[.int .i64 a1_1, .int .i64 a1_0, u106002] 24 (0, 0))) ∧ Aside0 (Below w.heap.size w w'))
     case atStart => exact ⟨(1), (x106002_1), (u106002), sq_, H', ⟨Nat.le_refl _⟩, ⟨ra_ HO_106002.out⟩, ⟨pkx B1⟩, ⟨pkx B2⟩, ⟨pkx B3⟩, ⟨pkx B5⟩, ⟨pbx HB⟩⟩
     case round =>
      clear H'; (try clear c5); (try clear c19); (try clear c19b0); (try clear hcz11_0); (try clear hcz11_1); (try clear hcz11_2); (try clear hcz13_0); (try clear hcz13_1); (try clear hcz13_2); (try clear hcz18_0); (try clear hcz18_1); (try clear hcz18_2); (try clear hcz23_0); (try clear hcz23_1); (try clear hcz23_2); (try clear hfz11_0); (try clear hfz11_1); (try clear hfz11_2); (try clear hfz13_0); (try clear hfz13_1); (try clear hfz13_2); (try clear hfz18_0); (try clear hfz18_1); (try clear hfz18_2); (try clear hfz23_0); (try clear hfz23_1); (try clear hfz23_2); obtain ⟨x9_2, x106002_2, u106002, rfl, HA, HK2, HO_106002, B1, B2, B3, B5, HB⟩ := hrel
      cases gk with
      | zero => exact absurd HA.out (by simp [look_Across.l1])
      | succ k2 =>
       have H := HA.out; clear HA
       simp only [look_Across.l1] at H
       by_cases c24 : x9_2 ≤ a1_0
       ·rw [if_pos c24] at H; have c24b0 := decide_eq_true c24; clear c24; obtain ⟨⟨t109, t110, t111, t112⟩, A25, H⟩ := bo_ H; dsimp only at H
        by_cases c26 : x106002_2.length < 4398046511104
        ·rw [if_pos c26] at H; have LMc26 := A_ c26; clear c26; obtain ⟨y114, hy114⟩ : ∃ y_ : List (S26), y_ = (x106002_2 ++ [(⟨t109, t110, t111⟩ : S26)]) := ⟨_, rfl⟩
         replace H : (look_Across.l1 k2 a2 x8_1 (wrap64 (x9_2 + 1)) a0_0 a0_1 a0_2 a1_0 a1_1 l1_2 a1_1 a1_0 y114) = some (r1, r2, r3) := by first | (rw [hy114]; with_reducible exact H) | (have H2_ := (Option.bind_some _ _).symm.trans H; rw [hy114]; with_reducible exact H2_) | (have H2_ := (Option.bind_some _ _).symm.trans H; with_reducible exact H2_) | with_reducible exact H | (rw [hy114]; exact H) | exact H
         have Ny114 := A_ hy114; clear hy114
         have H' := A_ H
         clear H; have hnb27 := N21.out; have hnc27 := N12.out; have hnb28 := N23.out; have hnc28 := N32.out; have hnb29 := N25.out; have hnc29 := N52.out
         have ⟨hcz30_0,hcz30_1,hcz30_2,hfz30_0,hfz30_1,hfz30_2⟩ := z3_ B2
         go_wp2_with (first | ((with_reducible refine gate_callee (f:=35) rfl ?_); refine gL_ (some 37) rfl rfl Tryz.func35 rfl #[.agg #[.int .i64 a1_0, .int .i64 a1_1, .slice A1_2 l1_2.length c1_2], .int .i64 x9_2, .int .i64 x8_1] rfl ?_; (with_reducible refine (look_At.calls k2 a1_0 a1_1 _ _ l1_2 x9_2 x8_1 t109 t110 t111 t112 _ ?side1 ?side2 A25.out).mono ?_); (case side1 => exact ca_ (Kd.C_below HR1_2.out HB.out)); (case side2 => exact HC1_2.out); rintro e w31 ⟨rfl, hb⟩; refine ⟨_, rfl, ?_⟩; replace HO_106002 := A_ (Kd.R_below (ra_ HO_106002.out) hb); replace B1 := bb_ B1 hb; replace B2 := bb_ B2 hb; replace B3 := bb_ B3 hb; replace B5 := bb_ B5 hb; replace HB := bs_ HB hb; (try clear hb); ) | ((with_reducible refine gd_ 10 ?_); refine be_ (N:=10) (cs := #[.int .i64 0, .int .i64 0, .string (⟨#[]⟩ : ByteArray)]) (t:=26) ?_; intro gb113 hg w32 hbox hb; have BK113 := A_ (hbox); have GW113 := hs_ HB hg; have GE113 := hs_ HB hg; have NB101_113 := hl_ B1 hg; have NB113_101 := hr_ B1 hg; have NB102_113 := hl_ B2 hg; have NB113_102 := hr_ B2 hg; have NB103_113 := hl_ B3 hg; have NB113_103 := hr_ B3 hg; have NB105_113 := hl_ B5 hg; have NB113_105 := hr_ B5 hg; replace HO_106002 := A_ (Kd.R_below (Kd.R_elderB (ra_ HO_106002.out) gb113 (Nat.le_of_eq hg.symm)) hb); replace B1 := bb_ B1 hb; replace B2 := bb_ B2 hb; replace B3 := bb_ B3 hb; replace B5 := bb_ B5 hb; replace HB := bs_ HB hb; clear hb hbox hg; have hnb33 := NB113_101.out; have hnc33 := NB101_113.out; have hnb34 := NB113_102.out; have hnc34 := NB102_113.out; have hnb35 := NB113_103.out; have hnc35 := NB103_113.out; have hnb36 := NB113_105.out; have hnc36 := NB105_113.out; have ⟨hcz37_0,hcz37_1,hcz37_2,hfz37_0,hfz37_1,hfz37_2⟩ := z3_ BK113; have hnb38 := N51.out; have hnc38 := N15.out; have hnb39 := N53.out; have hnc39 := N35.out; have ⟨hcz40_0,hcz40_1,hcz40_2,hfz40_0,hfz40_1,hfz40_2⟩ := z3_ B5) | ((with_reducible refine gate_builtin (b := .append) (xs := #[.tmp 41, .tmp 43]) rfl ?_); at_builtin; refine Kd.R_append k26 (w0 := w) w.heap.size rfl (.tmp 41) (.tmp 43) 22 26 (.agg #[(.int .i64 0), (.int .i64 0), (.string ⟨#[]⟩)]) 32 rfl Tryz.underlying22 info26 rfl (by decide) (by omega) u106002 x106002_2 (⟨t109, t110, t111⟩ : S26) [.int .i64 t109, .int .i64 t110, .string t111] (fun k_ => k_ ≠ g1 ∧ k_ ≠ g3 ∧ k_ ≠ gb113) (fun _ => False) rfl (by first | (go_simp; done) | (go_simp; rfl)) ?aP (fun _ hk => hk.elim) ?aF ?aO ?aB ?aS ?aL ?_; (case aP => exact k26_mkM _ _ _ (⟨t109, t110, t111⟩ : S26)); (case aB => exact bl_); (case aF => exact (fun k_ hk => ⟨Kd.freshB (g:=g1) (o := .cells #[.int .i64 a0_0, .int .i64 a0_1, .string a0_2] 26 (0, 0)) (by (iterate 3 refine pf_ ?_ NB101_113.out); exact pkx B1) k_ hk, Kd.freshB (g:=g3) (o := .cells #[.int .i64 0, .int .i64 0, .string (⟨#[]⟩ : ByteArray)] 26 (0, 0)) (by (iterate 3 refine pf_ ?_ NB103_113.out); exact pkx B3) k_ hk, Kd.freshB (g:=gb113) (o := .cells #[.int .i64 t109, .int .i64 t110, .string t111] 26 (0, 0)) (by (iterate 3 apply pp_); exact pkx BK113; all_goals rfl) k_ hk⟩)); (case aO => exact (by (with_reducible repeat (first | apply Kd.R_alloc | apply Kd.R_drewN | apply Kd.R_drew)); exact Kd.R_mono (Kd.R_far (p := ⟨gb113, 2, none⟩) (Kd.R_far (p := ⟨gb113, 1, none⟩) (Kd.R_far (p := ⟨gb113, 0, none⟩) (Kd.R_mono HO_106002.out (fun k_ hk => (⟨hk, hk.2⟩ : _ ∧ k_ ≠ gb113))) (fun _ hk => hk.2) (.int .i64 t109)) (fun _ hk => hk.2) (.int .i64 t110)) (fun _ hk => hk.2) (.string t111)) (fun _ hk => ⟨hk.1.1.1, ⟨hk.1.1.2, hk.1.2⟩⟩))); (case aS => exact (below_size bl_)); (case aL => have := LMc26.out; omega); intro v115 w41 ho hb hg hat; rw [← Ny114.out] at ho; have HO116 := A_ (ho); replace B1 := A_ (blk_grown (g:=g1) (o := .cells #[.int .i64 a0_0, .int .i64 a0_1, .string a0_2] 26 (0, 0)) (by (iterate 3 refine pf_ ?_ NB101_113.out); exact pkx B1) hg (Kd.R_away HO_106002.out (fun _ hk => hk.1.1))); replace B2 := A_ (blk_grown (g:=g2) (o := .cells #[.int .i64 a1_0, .int .i64 a1_1, .slice A1_2 l1_2.length c1_2] 24 (0, 0)) (by (iterate 3 refine pf_ ?_ NB102_113.out); exact pkx B2) hg (Kd.R_ne HO_106002.out B2.out (by decide))); replace B3 := A_ (blk_grown (g:=g3) (o := .cells #[.int .i64 0, .int .i64 0, .string (⟨#[]⟩ : ByteArray)] 26 (0, 0)) (by (iterate 3 refine pf_ ?_ NB103_113.out); exact pkx B3) hg (Kd.R_away HO_106002.out (fun _ hk => hk.1.2))); replace B5 := A_ (blk_grown (g:=g5) (o := .cells #[.int .i64 a1_1, .int .i64 a1_0, u106002] 24 (0, 0)) (by (iterate 3 refine pf_ ?_ NB105_113.out); exact pkx B5) hg (Kd.R_ne HO_106002.out B5.out (by decide))); replace BK113 := A_ (blk_grown (g:=gb113) (o := .cells #[.int .i64 t109, .int .i64 t110, .string t111] 26 (0, 0)) (by (iterate 3 apply pp_); exact pkx BK113; all_goals rfl) hg (Kd.R_away HO_106002.out (fun _ hk => hk.2))); replace HB := A_ (hb); clear HO_106002; clear ho hb hg hat; obtain ⟨Ao42, co42, eo42⟩ := Kd.R_slice HO116.out; subst eo42; have ⟨hcz43_0,hcz43_1,hcz43_2,hfz43_0,hfz43_1,hfz43_2⟩ := z3_ B5))
         go_roundg k2
         case measure => have := HK1.out; have := HK2.out; omega
         case rel => exact ⟨(wrap64 (x9_2 + 1)), (y114), (.slice Ao42 y114.length co42), sq_, H', ⟨by have := HK1.out; have := HK2.out; omega⟩, ⟨by (with_reducible repeat (first | apply Kd.R_alloc | apply Kd.R_drewN | apply Kd.R_drew)); exact Kd.R_mono (Kd.R_far (p := ⟨g5, 2, none⟩) (Kd.R_types HO116.out B5.out (by decide)) (fun _ hk => hk.2) (.slice Ao42 y114.length co42)) (fun _ hk => ⟨hk.1.1, hk.1.2.1⟩)⟩, ⟨by refine pf_ ?_ N15.out; exact pkx B1⟩, ⟨by refine pf_ ?_ N25.out; exact pkx B2⟩, ⟨by refine pf_ ?_ N35.out; exact pkx B3⟩, ⟨by refine pp_ (cs := #[.int .i64 a1_1, .int .i64 a1_0, u106002]) 2 ?_ rfl; exact pkx B5⟩, ⟨bl_⟩⟩
        ·rw [if_neg c26] at H
         exact absurd H (by simp)
       ·rw [if_neg c24] at H; have c24b0 := decide_eq_false c24; clear c24
        have H' := A_ H
        clear H; have hnb44 := N21.out; have hnc44 := N12.out; have hnb45 := N23.out; have hnc45 := N32.out; have hnb46 := N25.out; have hnc46 := N52.out
        have ⟨hcz47_0,hcz47_1,hcz47_2,hfz47_0,hfz47_1,hfz47_2⟩ := z3_ B2
        go_wp2
        go_roundg k2
        case measure => have := HK1.out; have := HK2.out; omega
        case rel => exact ⟨(wrap64 (x8_1 + 1)), (x106002_2), (u106002), sq_, H', ⟨by have := HK1.out; have := HK2.out; omega⟩, ⟨ra_ HO_106002.out⟩, ⟨pkx B1⟩, ⟨pkx B2⟩, ⟨pkx B3⟩, ⟨pkx B5⟩, ⟨pbx HB⟩⟩
    ·rw [if_neg c19] at H; have c19b0 := decide_eq_false c19; clear c19; obtain ⟨⟨t106, t107, t108⟩, A48, H⟩ := bo_ H; dsimp only at H
     simp only [Option.some.injEq, Prod.mk.injEq] at H
     obtain ⟨rfl, rfl, rfl⟩ := H; have hnb49 := N21.out; have hnc49 := N12.out; have hnb50 := N23.out; have hnc50 := N32.out; have hnb51 := N25.out; have hnc51 := N52.out
     have ⟨hcz52_0,hcz52_1,hcz52_2,hfz52_0,hfz52_1,hfz52_2⟩ := z3_ B2; have hnb53 := N13.out; have hnc53 := N31.out; have hnb54 := N15.out; have hnc54 := N51.out
     have ⟨hcz55_0,hcz55_1,hcz55_2,hfz55_0,hfz55_1,hfz55_2⟩ := z3_ B1; have hnb56 := N53.out; have hnc56 := N35.out
     have ⟨hcz57_0,hcz57_1,hcz57_2,hfz57_0,hfz57_1,hfz57_2⟩ := z3_ B5; obtain ⟨Ao58, co58, eo58⟩ := Kd.R_slice HO_106002.out; subst eo58
     go_wp2_with (first | ((with_reducible refine gate_callee (f:=18) rfl ?_); refine gL_ (some 49) rfl rfl Tryz.func18 rfl #[.agg #[.int .i64 a0_0, .int .i64 a0_1, .string a0_2], .agg #[.int .i64 a1_1, .int .i64 a1_0, .slice Ao58 x106002_1.length co58], .int .i64 a2] rfl ?_; (with_reducible refine (look_Down.calls k1 a0_0 a0_1 a0_2 a1_1 a1_0 _ _ x106002_1 a2 t106 t107 t108 _ ?side1 ?side2 A48.out).mono ?_); (case side1 => exact ca_ (Kd.R_reads' HO_106002.out).2.2); (case side2 => exact (Kd.R_reads' HO_106002.out).2.1); rintro e w59 ⟨rfl, hb⟩; refine ⟨_, rfl, ?_⟩; replace HO_106002 := A_ (Kd.R_below (ra_ HO_106002.out) hb); replace B1 := bb_ B1 hb; replace B2 := bb_ B2 hb; replace B3 := bb_ B3 hb; replace B5 := bb_ B5 hb; replace HB := bs_ HB hb; (try clear hb); have ⟨hcz60_0,hcz60_1,hcz60_2,hfz60_0,hfz60_1,hfz60_2⟩ := z3_ B3))
     refine bodyPost_ret (results_cell_row rfl _ _ g3 26 #[.int .i64 t106, .int .i64 t107, .string t108] (0, 0) _ rfl (by (iterate 3 apply pp_); exact pkx B3; all_goals rfl) Tryz.underlying26 rfl (by kernel_rfl)) rfl ?_
     exact fi_ bl_
 ·exact absurd H (by simp)

def dec_Mul.f (k : Nat) (a0 : Int) (a1 : Int) : Option (Int × Bool) := (dec_Scaled.f k a0 a1 10000).bind fun bt101 => (some (bt101.1, bt101.2))
theorem dec_Mul.mono : ∀ a0 a1 k, LeO (dec_Mul.f k a0 a1) (dec_Mul.f (k + 1) a0 a1) := by
 intro a0 a1 k
 unfold dec_Mul.f
 have m0 := @dec_Scaled.mono; exact mo_
theorem dec_Mul.calls (k : Nat) (a0 : Int) (a1 : Int) (r1 : Int) (r2 : Bool) (w : World) (h : dec_Mul.f k a0 a1 = some (r1, r2)) :
  Calls Tryz.prog 37 #[.int .i64 a0, .int .i64 a1] w fun e w' => e = .returned (.tuple #[.int .i64 r1, .bool r2]) ∧ Drawn0 w w' := by
 have H : ((dec_Scaled.f k a0 a1 10000).bind fun bt101 => (some (bt101.1, bt101.2))) = some (r1, r2) := h
 clear h; obtain ⟨⟨t101, t102⟩, A3, H⟩ := bo_ H; dsimp only at H
 simp only [Option.some.injEq, Prod.mk.injEq] at H
 obtain ⟨rfl, rfl⟩ := H
 go_enter Tryz.func37, Tryz.ntmps37
 go_wp2_with (first | ((with_reducible refine gate_callee (f:=41) rfl ?_); refine gL_ (some 8) rfl rfl Tryz.func41 rfl #[.int .i64 a0, .int .i64 a1, .int .i64 10000] rfl ?_; (with_reducible refine (dec_Scaled.calls k a0 a1 10000 t101 t102 _ A3.out).mono ?_); rintro e w' ⟨rfl, ⟨nd, rfl⟩⟩; refine ⟨_, rfl, ?_⟩))
 go_ret2
 exact ⟨by first | rfl | (simp; done) | (simp [*]; done), dr_⟩

theorem lt_cell18 {w : World} {ad : Addr} {i : Nat} {v : Value} (h : w.cell? (ad.add i) = some v) : ad.block < w.heap.size := by
 rcases Nat.lt_or_ge ad.block w.heap.size with h' | h'
 ·exact h'
 ·unfold World.cell? at h
  rw [add_block, Array.getElem?_eq_none h'] at h
  cases h
mutual
def look_Products.j0 : Nat → Bool → Int → Int → List (S26) → Int → Int → List (S26) → Option (Int × Int × ByteArray)
 | 0, _, _, _, _, _, _, _ => none
 | k + 1, x38, x102000, x102001, x102002, x103000, x103001, x103002 => if x38 = true then (none) else ((some (([x102002, x103002] : List (List (S26))) : List (List (S26)))).bind fun y106 => (look_Products.l0 k y106 (y106.length : Int) 0 x102000 x102001 x102002 x103000 x103001 x103002))
def look_Products.l0 : Nat → List (List (S26)) → Int → Int → Int → Int → List (S26) → Int → Int → List (S26) → Option (Int × Int × ByteArray)
 | 0, _, _, _, _, _, _, _, _, _ => none
 | k + 1, x44, x45, x46, x102000, x102001, x102002, x103000, x103001, x103002 => if x46 < x45 then (if 0 ≤ x46 then (if x46 < (x44.length : Int) then ((fold_Numbers.f k (rd_L5 x44 x46)).bind fun bt110 => (if bt110.2.1 = 4 then (some (bt110.2.1, bt110.2.2.1, bt110.2.2.2)) else (look_Products.l0 k x44 x45 (wrap64 (x46 + 1)) x102000 x102001 x102002 x103000 x103001 x103002))) else (none)) else (none)) else (look_Products.l1 k 0 x102002 (x102002.length : Int) 0 x103000 x103001 x103002)
def look_Products.l1 : Nat → Int → List (S26) → Int → Int → Int → Int → List (S26) → Option (Int × Int × ByteArray)
 | 0, _, _, _, _, _, _, _ => none
 | k + 1, x9, x61, x62, x63, x103000, x103001, x103002 => if x63 < x62 then (if 0 ≤ x63 then (if x63 < (x61.length : Int) then (if x63 < (x103002.length : Int) then (if ((rd_T26 x61 x63).f0) = 1 then (look_Products.j3 k x9 x61 x62 x63 (((rd_T26 x103002 x63).f0) != 1) x103000 x103001 x103002 ((rd_T26 x61 x63).f0) ((rd_T26 x61 x63).f1) ((rd_T26 x61 x63).f2) ((rd_T26 x103002 x63).f0) ((rd_T26 x103002 x63).f1) ((rd_T26 x103002 x63).f2)) else (look_Products.j3 k x9 x61 x62 x63 true x103000 x103001 x103002 ((rd_T26 x61 x63).f0) ((rd_T26 x61 x63).f1) ((rd_T26 x61 x63).f2) ((rd_T26 x103002 x63).f0) ((rd_T26 x103002 x63).f1) ((rd_T26 x103002 x63).f2))) else (none)) else (none)) else (none)) else ((value_Num.f x9).bind fun bt117 => (some (bt117.1, bt117.2.1, bt117.2.2)))
def look_Products.j3 : Nat → Int → List (S26) → Int → Int → Bool → Int → Int → List (S26) → Int → Int → ByteArray → Int → Int → ByteArray → Option (Int × Int × ByteArray)
 | 0, _, _, _, _, _, _, _, _, _, _, _, _, _, _ => none
 | k + 1, x9, x61, x62, x63, x80, x103000, x103001, x103002, x122000, x122001, x122002, x124000, x124001, x124002 => if x80 = true then (look_Products.l1 k x9 x61 x62 (wrap64 (x63 + 1)) x103000 x103001 x103002) else ((dec_Mul.f k x122001 x124001).bind fun bt124 => ((dec_Add.f k x9 bt124.1).bind fun bt126 => (if bt124.2 = true then (if bt126.2 = true then (look_Products.l1 k bt126.1 x61 x62 (wrap64 (x63 + 1)) x103000 x103001 x103002) else (none)) else (none))))
end
def look_Products.f (k : Nat) (a0_0 : Int) (a0_1 : Int) (l0_2 : List (S26)) (a1_0 : Int) (a1_1 : Int) (l1_2 : List (S26)) : Option (Int × Int × ByteArray) := if a0_0 = a1_0 then (if a0_1 = a1_1 then ((look_shaped.f a0_0 a0_1 l0_2).bind fun t104 => (if t104 = true then ((look_shaped.f a1_0 a1_1 l1_2).bind fun t105 => (look_Products.j0 k (!t105) a0_0 a0_1 l0_2 a1_0 a1_1 l1_2)) else (look_Products.j0 k true a0_0 a0_1 l0_2 a1_0 a1_1 l1_2))) else (look_Products.j0 k true a0_0 a0_1 l0_2 a1_0 a1_1 l1_2)) else (look_Products.j0 k true a0_0 a0_1 l0_2 a1_0 a1_1 l1_2)
theorem look_Products.mono_l : ∀ k, (∀ y0 y1 y2 y3 y4 y5 y6, LeO (look_Products.j0 k y0 y1 y2 y3 y4 y5 y6) (look_Products.j0 (k + 1) y0 y1 y2 y3 y4 y5 y6)) ∧ (∀ y0 y1 y2 y3 y4 y5 y6 y7 y8, LeO (look_Products.l0 k y0 y1 y2 y3 y4 y5 y6 y7 y8) (look_Products.l0 (k + 1) y0 y1 y2 y3 y4 y5 y6 y7 y8)) ∧ (∀ y0 y1 y2 y3 y4 y5 y6, LeO (look_Products.l1 k y0 y1 y2 y3 y4 y5 y6) (look_Products.l1 (k + 1) y0 y1 y2 y3 y4 y5 y6)) ∧ (∀ y0 y1 y2 y3 y4 y5 y6 y7 y8 y9 y10 y11 y12 y13, LeO (look_Products.j3 k y0 y1 y2 y3 y4 y5 y6 y7 y8 y9 y10 y11 y12 y13) (look_Products.j3 (k + 1) y0 y1 y2 y3 y4 y5 y6 y7 y8 y9 y10 y11 y12 y13))
 | 0 => ⟨fun _ _ _ _ _ _ _ r h => by simp [look_Products.j0] at h, fun _ _ _ _ _ _ _ _ _ r h => by simp [look_Products.l0] at h, fun _ _ _ _ _ _ _ r h => by simp [look_Products.l1] at h, fun _ _ _ _ _ _ _ _ _ _ _ _ _ _ r h => by simp [look_Products.j3] at h⟩
 | k + 1 => by
  obtain ⟨ih0, ih1, ih2, ih3⟩ := look_Products.mono_l k
  refine ⟨?_, ?_, ?_, ?_⟩
  ·intro y0 y1 y2 y3 y4 y5 y6
   unfold look_Products.j0
   have m0 := @dec_Add.mono; have m1 := @dec_Mul.mono; have m2 := @fold_Numbers.mono; exact mo_
  ·intro y0 y1 y2 y3 y4 y5 y6 y7 y8
   unfold look_Products.l0
   have m0 := @dec_Add.mono; have m1 := @dec_Mul.mono; have m2 := @fold_Numbers.mono; exact mo_
  ·intro y0 y1 y2 y3 y4 y5 y6
   unfold look_Products.l1
   have m0 := @dec_Add.mono; have m1 := @dec_Mul.mono; have m2 := @fold_Numbers.mono; exact mo_
  ·intro y0 y1 y2 y3 y4 y5 y6 y7 y8 y9 y10 y11 y12 y13
   unfold look_Products.j3
   have m0 := @dec_Add.mono; have m1 := @dec_Mul.mono; have m2 := @fold_Numbers.mono; exact mo_
theorem look_Products.mono : ∀ a0 a1 a2 a3 a4 a5 k, LeO (look_Products.f k a0 a1 a2 a3 a4 a5) (look_Products.f (k + 1) a0 a1 a2 a3 a4 a5) := by
 intro a0 a1 a2 a3 a4 a5 k; obtain ⟨ih0, ih1, ih2, ih3⟩ := look_Products.mono_l k
 unfold look_Products.f
 have m0 := @dec_Add.mono; have m1 := @dec_Mul.mono; have m2 := @fold_Numbers.mono; exact mo_
theorem look_Products.calls (k : Nat) (a0_0 : Int) (a0_1 : Int) (P0_2_ : Nat → Prop) (A0_2 : Option Addr) (c0_2 : Nat) (l0_2 : List (S26)) (a1_0 : Int) (a1_1 : Int) (P1_2_ : Nat → Prop) (A1_2 : Option Addr) (c1_2 : Nat) (l1_2 : List (S26)) (r1 : Int) (r2 : Int) (r3 : ByteArray) (w : World) (hs0_2 : Kd.V k26 26 w w.heap.size (fun k_ => P0_2_ k_) (.slice A0_2 l0_2.length c0_2) l0_2) (hs1_2 : Kd.V k26 26 w w.heap.size (fun k_ => P1_2_ k_) (.slice A1_2 l1_2.length c1_2) l1_2) (h : look_Products.f k a0_0 a0_1 l0_2 a1_0 a1_1 l1_2 = some (r1, r2, r3)) :
  Calls Tryz.prog 20 #[.agg #[.int .i64 a0_0, .int .i64 a0_1, .slice A0_2 l0_2.length c0_2], .agg #[.int .i64 a1_0, .int .i64 a1_1, .slice A1_2 l1_2.length c1_2]] w fun e w' => e = .returned (.agg #[.int .i64 r1, .int .i64 r2, .string r3]) ∧ Below w.heap.size w w' := by
 have hu24 := Tryz.underlying24; have hu26 := Tryz.underlying26; have HO0_2 := A_ (show Kd.V k26 26 w w.heap.size (fun k_ => ((P0_2_ k_ ∨ P1_2_ k_) ∨ w.heap.size ≤ k_)) (.slice A0_2 l0_2.length c0_2) l0_2 from Kd.V_mono hs0_2 (fun k_ hk => .inl (.inl hk))); have HO1_2 := A_ (show Kd.V k26 26 w w.heap.size (fun k_ => ((P0_2_ k_ ∨ P1_2_ k_) ∨ w.heap.size ≤ k_)) (.slice A1_2 l1_2.length c1_2) l1_2 from Kd.V_mono hs1_2 (fun k_ hk => .inl (.inr hk))); have HB := A_ (Below.refl w.heap.size w)
 have H : (if a0_0 = a1_0 then (if a0_1 = a1_1 then ((look_shaped.f a0_0 a0_1 l0_2).bind fun t104 => (if t104 = true then ((look_shaped.f a1_0 a1_1 l1_2).bind fun t105 => (look_Products.j0 k (!t105) a0_0 a0_1 l0_2 a1_0 a1_1 l1_2)) else (look_Products.j0 k true a0_0 a0_1 l0_2 a1_0 a1_1 l1_2))) else (look_Products.j0 k true a0_0 a0_1 l0_2 a1_0 a1_1 l1_2)) else (look_Products.j0 k true a0_0 a0_1 l0_2 a1_0 a1_1 l1_2)) = some (r1, r2, r3) := h
 clear h; have HC3 := A_ H; clear H
 go_enter Tryz.func20, Tryz.ntmps20
 go_upto_region 1 with (first | ((with_reducible refine gd_ 2 ?_); refine be_ (N:=2) (cs := #[.int .i64 a0_0, .int .i64 a0_1, .slice A0_2 l0_2.length c0_2]) (t:=24) ?_; intro g1 hg w4 hbox hb; have B1 := A_ (hbox); have GW101 := hs_ HB hg; have GE101 := hs_ HB hg; replace HO0_2 := A_ (Kd.V_below (Kd.V_elderB (va_ HO0_2.out) g1 (Nat.le_of_eq hg.symm)) hb); replace HO1_2 := A_ (Kd.V_below (Kd.V_elderB (va_ HO1_2.out) g1 (Nat.le_of_eq hg.symm)) hb); replace HB := bs_ HB hb; clear hb hbox hg) | ((with_reducible refine gd_ 3 ?_); refine be_ (N:=3) (cs := #[.int .i64 a1_0, .int .i64 a1_1, .slice A1_2 l1_2.length c1_2]) (t:=24) ?_; intro g2 hg w5 hbox hb; have B2 := A_ (hbox); have GW102 := hs_ HB hg; have GE102 := hs_ HB hg; have N12 := hl_ B1 hg; have N21 := hr_ B1 hg; replace HO0_2 := A_ (Kd.V_below (Kd.V_elderB (va_ HO0_2.out) g2 (Nat.le_of_eq hg.symm)) hb); replace HO1_2 := A_ (Kd.V_below (Kd.V_elderB (va_ HO1_2.out) g2 (Nat.le_of_eq hg.symm)) hb); replace B1 := bb_ B1 hb; replace HB := bs_ HB hb; clear hb hbox hg) | ((with_reducible refine gd_ 4 ?_); refine be_ (N:=4) (cs := #[.int .i64 0, .int .i64 0, .string (⟨#[]⟩ : ByteArray)]) (t:=26) ?_; intro g3 hg w6 hbox hb; have B3 := A_ (hbox); have GW103 := hs_ HB hg; have GE103 := hs_ HB hg; have N13 := hl_ B1 hg; have N31 := hr_ B1 hg; have N23 := hl_ B2 hg; have N32 := hr_ B2 hg; replace HO0_2 := A_ (Kd.V_below (Kd.V_elderB (va_ HO0_2.out) g3 (Nat.le_of_eq hg.symm)) hb); replace HO1_2 := A_ (Kd.V_below (Kd.V_elderB (va_ HO1_2.out) g3 (Nat.le_of_eq hg.symm)) hb); replace B1 := bb_ B1 hb; replace B2 := bb_ B2 hb; replace HB := bs_ HB hb; clear hb hbox hg))
 (try simp only [q_])
 go_cut [38] (fun v38 wc => ∃ (kq : Nat) (x38_2 : Bool), v38 = .bool x38_2 ∧ Aside0 (look_Products.j0 kq x38_2 a0_0 a0_1 l0_2 a1_0 a1_1 l1_2 = some (r1, r2, r3)) ∧ Aside0 (kq ≤ k) ∧ Aside0 (Kd.V k26 26 wc w.heap.size (fun k_ => ((P0_2_ k_ ∨ P1_2_ k_) ∨ w.heap.size ≤ k_) ∧ k_ ≠ g1 ∧ k_ ≠ g2 ∧ k_ ≠ g3) (.slice A0_2 l0_2.length c0_2) l0_2) ∧ Aside0 (Kd.V k26 26 wc w.heap.size (fun k_ => ((P0_2_ k_ ∨ P1_2_ k_) ∨ w.heap.size ≤ k_) ∧ k_ ≠ g1 ∧ k_ ≠ g2 ∧ k_ ≠ g3) (.slice A1_2 l1_2.length c1_2) l1_2) ∧ Aside0 (wc.heap[g1]? = some (.cells #[.int .i64 a0_0, .int .i64 a0_1, (.slice A0_2 l0_2.length c0_2)] 24 (0, 0))) ∧ Aside0 (wc.heap[g2]? = some (.cells #[.int .i64 a1_0, .int .i64 a1_1, (.slice A1_2 l1_2.length c1_2)] 24 (0, 0))) ∧ Aside0 (wc.heap[g3]? = some (.cells #[.int .i64 0, .int .i64 0, .string (⟨#[]⟩ : ByteArray)] 26 (0, 0))) ∧ Aside0 (Below w.heap.size w wc))
 case first =>
  have H := HC3.out; clear HC3
  by_cases c7 : a0_0 = a1_0
  ·rw [if_pos c7] at H; have ⟨c7b0,c7b1⟩ := e1_ c7; clear c7; (first | rw [c7b0] | (simp only [i64_w, i32_w]; rw [c7b0]) | skip)
   by_cases c8 : a0_1 = a1_1
   ·rw [if_pos c8] at H; have ⟨c8b0,c8b1⟩ := e1_ c8; clear c8; obtain ⟨t104, A9, H⟩ := bo_ H
    by_cases c10 : t104 = true
    ·subst c10
     obtain ⟨t105, A11, H⟩ := bo_ (it_ H)
     have H' := A_ H
     clear H; have hnb12 := N12.out; have hnc12 := N21.out; have hnb13 := N13.out; have hnc13 := N31.out
     have ⟨hcz14_0,hcz14_1,hcz14_2,hfz14_0,hfz14_1,hfz14_2⟩ := z3_ B1; have hnb15 := N23.out; have hnc15 := N32.out
     have ⟨hcz16_0,hcz16_1,hcz16_2,hfz16_0,hfz16_1,hfz16_2⟩ := z3_ B2
     go_wp2_with (first | (go_at_call 33; (with_reducible refine (look_shaped.calls a0_0 a0_1 _ _ l0_2 true _ ?side1 ?side2 A9.out).mono ?_); (case side1 => exact ca_ (Kd.V_reads' HO0_2.out).2.2); (case side2 => exact (Kd.V_reads' HO0_2.out).2.1); rintro e w17 ⟨rfl, hb⟩; replace HO0_2 := A_ (Kd.V_below (va_ HO0_2.out) hb); replace HO1_2 := A_ (Kd.V_below (va_ HO1_2.out) hb); replace B1 := bb_ B1 hb; replace B2 := bb_ B2 hb; replace B3 := bb_ B3 hb; replace HB := bs_ HB hb; (try clear hb); (try clear hk); have ⟨hcz18_0,hcz18_1,hcz18_2,hfz18_0,hfz18_1,hfz18_2⟩ := z3_ B2) | (go_at_call 33; (with_reducible refine (look_shaped.calls a1_0 a1_1 _ _ l1_2 t105 _ ?side1 ?side2 A11.out).mono ?_); (case side1 => exact ca_ (Kd.V_reads' HO1_2.out).2.2); (case side2 => exact (Kd.V_reads' HO1_2.out).2.1); rintro e w19 ⟨rfl, hb⟩; replace HO0_2 := A_ (Kd.V_below (va_ HO0_2.out) hb); replace HO1_2 := A_ (Kd.V_below (va_ HO1_2.out) hb); replace B1 := bb_ B1 hb; replace B2 := bb_ B2 hb; replace B3 := bb_ B3 hb; replace HB := bs_ HB hb; (try clear hb); (try clear hk); ))
     go_meet
     case rel => exact ⟨_, (!t105), (by first | rfl | (simp; done) | (simp [*]; done) | (cases t105 <;> simp; done)), H', le_, ⟨by (with_reducible repeat (first | apply Kd.V_alloc | apply Kd.V_drewN | apply Kd.V_drew)); exact Kd.V_mono HO0_2.out (fun _ hk => ⟨hk.1.1.1, ⟨hk.1.1.2, ⟨hk.1.2, hk.2⟩⟩⟩)⟩, ⟨by (with_reducible repeat (first | apply Kd.V_alloc | apply Kd.V_drewN | apply Kd.V_drew)); exact Kd.V_mono HO1_2.out (fun _ hk => ⟨hk.1.1.1, ⟨hk.1.1.2, ⟨hk.1.2, hk.2⟩⟩⟩)⟩, ⟨pkx B1⟩, ⟨pkx B2⟩, ⟨pkx B3⟩, ⟨pbx HB⟩⟩
    ·replace c10 := Bool.eq_false_iff.mpr c10; subst c10
     replace H := ie_ H
     have H' := A_ H
     clear H; have hnb20 := N12.out; have hnc20 := N21.out; have hnb21 := N13.out; have hnc21 := N31.out
     have ⟨hcz22_0,hcz22_1,hcz22_2,hfz22_0,hfz22_1,hfz22_2⟩ := z3_ B1; have hnb23 := N23.out; have hnc23 := N32.out
     have ⟨hcz24_0,hcz24_1,hcz24_2,hfz24_0,hfz24_1,hfz24_2⟩ := z3_ B2
     go_wp2_with (first | (go_at_call 33; (with_reducible refine (look_shaped.calls a0_0 a0_1 _ _ l0_2 false _ ?side1 ?side2 A9.out).mono ?_); (case side1 => exact ca_ (Kd.V_reads' HO0_2.out).2.2); (case side2 => exact (Kd.V_reads' HO0_2.out).2.1); rintro e w25 ⟨rfl, hb⟩; replace HO0_2 := A_ (Kd.V_below (va_ HO0_2.out) hb); replace HO1_2 := A_ (Kd.V_below (va_ HO1_2.out) hb); replace B1 := bb_ B1 hb; replace B2 := bb_ B2 hb; replace B3 := bb_ B3 hb; replace HB := bs_ HB hb; (try clear hb); (try clear hk); ))
     go_meet
     case rel => exact ⟨_, (true), sq_, H', le_, ⟨by (with_reducible repeat (first | apply Kd.V_alloc | apply Kd.V_drewN | apply Kd.V_drew)); exact Kd.V_mono HO0_2.out (fun _ hk => ⟨hk.1.1.1, ⟨hk.1.1.2, ⟨hk.1.2, hk.2⟩⟩⟩)⟩, ⟨by (with_reducible repeat (first | apply Kd.V_alloc | apply Kd.V_drewN | apply Kd.V_drew)); exact Kd.V_mono HO1_2.out (fun _ hk => ⟨hk.1.1.1, ⟨hk.1.1.2, ⟨hk.1.2, hk.2⟩⟩⟩)⟩, ⟨pkx B1⟩, ⟨pkx B2⟩, ⟨pkx B3⟩, ⟨pbx HB⟩⟩
   ·rw [if_neg c8] at H; have ⟨c8b0,c8b1⟩ := e0_ c8
    have H' := A_ H
    clear H; have hnb26 := N12.out; have hnc26 := N21.out; have hnb27 := N13.out; have hnc27 := N31.out
    have ⟨hcz28_0,hcz28_1,hcz28_2,hfz28_0,hfz28_1,hfz28_2⟩ := z3_ B1; have hnb29 := N23.out; have hnc29 := N32.out
    have ⟨hcz30_0,hcz30_1,hcz30_2,hfz30_0,hfz30_1,hfz30_2⟩ := z3_ B2
    go_wp2
    go_meet
    case rel => exact ⟨_, (true), sq_, H', le_, ⟨by (with_reducible repeat (first | apply Kd.V_alloc | apply Kd.V_drewN | apply Kd.V_drew)); exact Kd.V_mono HO0_2.out (fun _ hk => ⟨hk.1.1.1, ⟨hk.1.1.2, ⟨hk.1.2, hk.2⟩⟩⟩)⟩, ⟨by (with_reducible repeat (first | apply Kd.V_alloc | apply Kd.V_drewN | apply Kd.V_drew)); exact Kd.V_mono HO1_2.out (fun _ hk => ⟨hk.1.1.1, ⟨hk.1.1.2, ⟨hk.1.2, hk.2⟩⟩⟩)⟩, ⟨pkx B1⟩, ⟨pkx B2⟩, ⟨pkx B3⟩, ⟨pbx HB⟩⟩
  ·rw [if_neg c7] at H; have ⟨c7b0,c7b1⟩ := e0_ c7; (first | rw [c7b0] | (simp only [i64_w, i32_w]; rw [c7b0]) | skip)
   have H' := A_ H
   clear H; have hnb31 := N12.out; have hnc31 := N21.out; have hnb32 := N13.out; have hnc32 := N31.out
   have ⟨hcz33_0,hcz33_1,hcz33_2,hfz33_0,hfz33_1,hfz33_2⟩ := z3_ B1; have hnb34 := N23.out; have hnc34 := N32.out
   have ⟨hcz35_0,hcz35_1,hcz35_2,hfz35_0,hfz35_1,hfz35_2⟩ := z3_ B2
   go_wp2
   go_meet
   case rel => exact ⟨_, (true), sq_, H', le_, ⟨by (with_reducible repeat (first | apply Kd.V_alloc | apply Kd.V_drewN | apply Kd.V_drew)); exact Kd.V_mono HO0_2.out (fun _ hk => ⟨hk.1.1.1, ⟨hk.1.1.2, ⟨hk.1.2, hk.2⟩⟩⟩)⟩, ⟨by (with_reducible repeat (first | apply Kd.V_alloc | apply Kd.V_drewN | apply Kd.V_drew)); exact Kd.V_mono HO1_2.out (fun _ hk => ⟨hk.1.1.1, ⟨hk.1.1.2, ⟨hk.1.2, hk.2⟩⟩⟩)⟩, ⟨pkx B1⟩, ⟨pkx B2⟩, ⟨pkx B3⟩, ⟨pbx HB⟩⟩
 case rest =>
  clear HC3
  obtain ⟨kq, x38_2, rfl, HA, HJ2, HO_102002, HO_103002, B1, B2, B3, HB⟩ := hcut
  cases kq with
  | zero => exact absurd HA.out (by simp [look_Products.j0])
  | succ kj2 =>
   have H := HA.out; clear HA
   simp only [look_Products.j0] at H
   by_cases c36 : x38_2 = true
   ·subst c36
    replace H := it_ H
    exact absurd H (by simp)
   ·replace c36 := Bool.eq_false_iff.mpr c36; subst c36
    replace H := ie_ H; obtain ⟨y106, hy106⟩ : ∃ y_ : List (List (S26)), y_ = (([l0_2, l1_2] : List (List (S26)))) := ⟨_, rfl⟩
    replace H : (look_Products.l0 kj2 y106 (y106.length : Int) 0 a0_0 a0_1 l0_2 a1_0 a1_1 l1_2) = some (r1, r2, r3) := by first | (rw [hy106]; with_reducible exact H) | (have H2_ := (Option.bind_some _ _).symm.trans H; rw [hy106]; with_reducible exact H2_) | (have H2_ := (Option.bind_some _ _).symm.trans H; with_reducible exact H2_) | with_reducible exact H | (rw [hy106]; exact H) | exact H
    have Ny106 := A_ hy106; clear hy106
    have H' := A_ H
    clear H; have hnb37 := N12.out; have hnc37 := N21.out; have hnb38 := N13.out; have hnc38 := N31.out
    have ⟨hcz39_0,hcz39_1,hcz39_2,hfz39_0,hfz39_1,hfz39_2⟩ := z3_ B1; have hnb40 := N23.out; have hnc40 := N32.out
    have ⟨hcz41_0,hcz41_1,hcz41_2,hfz41_0,hfz41_1,hfz41_2⟩ := z3_ B2
    go_wp2_with (first | ((with_reducible refine gd_ 44 ?_); refine Kd.N_lit (Kd.slice 26 k26) _ 22 ?hg (N':=44) ?hd (xs := ([l0_2, l1_2] : List (List (S26)))) (inner := [.slice A0_2 l0_2.length c0_2, .slice A1_2 l1_2.length c1_2]) (ok := (fun k_ => ((P0_2_ k_ ∨ P1_2_ k_) ∨ w.heap.size ≤ k_) ∧ k_ ≠ g1 ∧ k_ ≠ g2 ∧ k_ ≠ g3)) (okp := (fun k_ => ((P0_2_ k_ ∨ P1_2_ k_) ∨ w.heap.size ≤ k_) ∧ k_ ≠ g1 ∧ k_ ≠ g2 ∧ k_ ≠ g3)) ?hr ?hp (fun _ hk => hk) ((show ∀ k_, wc.heap.size ≤ k_ → (fun k_ => ((P0_2_ k_ ∨ P1_2_ k_) ∨ w.heap.size ≤ k_) ∧ k_ ≠ g1 ∧ k_ ≠ g2 ∧ k_ ≠ g3) k_ from fun k_ hk => ⟨(.inr (Nat.le_trans (below_size (pbx HB)) hk)), Kd.freshB (pkx B1) k_ hk, Kd.freshB (pkx B2) k_ hk, Kd.freshB (pkx B3) k_ hk⟩) _ (Nat.le_refl _)) (Below.refl _ _) (Nat.le_refl _) (by simp) ?_; (case hd => rfl); (case hg => rfl); (case hr => first | (go_simp; done) | (go_simp; rfl)); (case hp => exact (Reps.one (show Kd.FK (Kd.slice 26 k26) _ _ l0_2 [.slice A0_2 l0_2.length c0_2] from (Kd.FK_slice_mk (Kd.V_reads' (Kd.V_mono (ok' := (fun k_ => ((P0_2_ k_ ∨ P1_2_ k_) ∨ w.heap.size ≤ k_) ∧ k_ ≠ g1 ∧ k_ ≠ g2 ∧ k_ ≠ g3)) (HO_102002.out) (fun k_ hk => ⟨hk.1, ⟨hk.2.1, ⟨hk.2.2.1, hk.2.2.2⟩⟩⟩))).2.1 (Kd.V_F (Kd.V_mono (ok' := (fun k_ => ((P0_2_ k_ ∨ P1_2_ k_) ∨ w.heap.size ≤ k_) ∧ k_ ≠ g1 ∧ k_ ≠ g2 ∧ k_ ≠ g3)) (HO_102002.out) (fun k_ hk => ⟨hk.1, ⟨hk.2.1, ⟨hk.2.2.1, hk.2.2.2⟩⟩⟩))))) (Reps.one (show Kd.FK (Kd.slice 26 k26) _ _ l1_2 [.slice A1_2 l1_2.length c1_2] from (Kd.FK_slice_mk (Kd.V_reads' (Kd.V_mono (ok' := (fun k_ => ((P0_2_ k_ ∨ P1_2_ k_) ∨ w.heap.size ≤ k_) ∧ k_ ≠ g1 ∧ k_ ≠ g2 ∧ k_ ≠ g3)) (HO_103002.out) (fun k_ hk => ⟨hk.1, ⟨hk.2.1, ⟨hk.2.2.1, hk.2.2.2⟩⟩⟩))).2.1 (Kd.V_F (Kd.V_mono (ok' := (fun k_ => ((P0_2_ k_ ∨ P1_2_ k_) ∨ w.heap.size ≤ k_) ∧ k_ ≠ g1 ∧ k_ ≠ g2 ∧ k_ ≠ g3)) (HO_103002.out) (fun k_ hk => ⟨hk.1, ⟨hk.2.1, ⟨hk.2.2.1, hk.2.2.2⟩⟩⟩))))) (Reps.none _ _)))); intro v107 w42 ho43 hb hg_ hnew_; clear hg_ hnew_; (first | rw [← Ny106.out] at ho43 | (simp only [Int.reduceToNat] at ho43; rw [← Ny106.out] at ho43)); have HO108 := A_ (Kd.N_lower ho43 (below_size (pbx HB))); replace HO_102002 := A_ (Kd.V_elder' (va_ HO_102002.out) (Kd.N_base ho43) hb); replace HO_103002 := A_ (Kd.V_elder' (va_ HO_103002.out) (Kd.N_base ho43) hb); replace B1 := bb_ B1 hb; replace B2 := bb_ B2 hb; replace B3 := bb_ B3 hb; replace HB := bs_ HB hb; clear hb ho43; obtain ⟨Ao44, co44, eo44⟩ := Kd.N_slice HO108.out; subst eo44))
    go_loopg [46] kj2 (fun kq v46 w' => ∃ (x46_2 : Int) (x104000_2 : Int) (x104001_2 : Int) (x104002_2 : ByteArray), v46 = .int .i64 x46_2 ∧ Aside0 (look_Products.l0 kq y106 (y106.length : Int) x46_2 a0_0 a0_1 l0_2 a1_0 a1_1 l1_2 = some (r1, r2, r3)) ∧ Aside0 (kq ≤ kj2) ∧ Aside0 (Kd.N (Kd.slice 26 k26) 22 w' w.heap.size (fun k_ => ((P0_2_ k_ ∨ P1_2_ k_) ∨ w.heap.size ≤ k_) ∧ k_ ≠ g1 ∧ k_ ≠ g2 ∧ k_ ≠ g3) (.slice Ao44 y106.length co44) y106) ∧ Aside0 (Kd.V k26 26 w' w.heap.size (fun k_ => ((P0_2_ k_ ∨ P1_2_ k_) ∨ w.heap.size ≤ k_) ∧ some k_ ≠ ((.slice Ao44 y106.length co44) : Value).ownBlock ∧ k_ ≠ g1 ∧ k_ ≠ g2 ∧ k_ ≠ g3) (.slice A0_2 l0_2.length c0_2) l0_2) ∧ Aside0 (Kd.V k26 26 w' w.heap.size (fun k_ => ((P0_2_ k_ ∨ P1_2_ k_) ∨ w.heap.size ≤ k_) ∧ some k_ ≠ ((.slice Ao44 y106.length co44) : Value).ownBlock ∧ k_ ≠ g1 ∧ k_ ≠ g2 ∧ k_ ≠ g3) (.slice A1_2 l1_2.length c1_2) l1_2) ∧ Aside0 (w'.heap[g1]? = some (.cells #[.int .i64 a0_0, .int .i64 a0_1, (.slice A0_2 l0_2.length c0_2)] 24 (0, 0))) ∧ Aside0 (w'.heap[g2]? = some (.cells #[.int .i64 a1_0, .int .i64 a1_1, (.slice A1_2 l1_2.length c1_2)] 24 (0, 0))) ∧ Aside0 (w'.heap[g3]? = some (.cells #[.int .i64 x104000_2, .int .i64 x104001_2, .string x104002_2] 26 (0, 0))) ∧ Aside0 (Below w.heap.size w w'))
    case atStart => exact ⟨(0), (0), (0), ((⟨#[]⟩ : ByteArray)), sq_, H', ⟨Nat.le_refl _⟩, ⟨by (with_reducible repeat (first | apply Kd.N_alloc | apply Kd.N_drewN | apply Kd.N_drew)); exact HO108.out⟩, ⟨by (with_reducible repeat (first | apply Kd.V_alloc | apply Kd.V_drewN | apply Kd.V_drew)); exact Kd.V_mono HO_102002.out (fun _ hk => ⟨hk.1.1, ⟨hk.2, ⟨hk.1.2.1, ⟨hk.1.2.2.1, hk.1.2.2.2⟩⟩⟩⟩)⟩, ⟨by (with_reducible repeat (first | apply Kd.V_alloc | apply Kd.V_drewN | apply Kd.V_drew)); exact Kd.V_mono HO_103002.out (fun _ hk => ⟨hk.1.1, ⟨hk.2, ⟨hk.1.2.1, ⟨hk.1.2.2.1, hk.1.2.2.2⟩⟩⟩⟩)⟩, ⟨pkx B1⟩, ⟨pkx B2⟩, ⟨pkx B3⟩, ⟨pbx HB⟩⟩
    case round =>
     clear H'; (try clear c36); (try clear hcz39_0); (try clear hcz39_1); (try clear hcz39_2); (try clear hcz41_0); (try clear hcz41_1); (try clear hcz41_2); (try clear hfz39_0); (try clear hfz39_1); (try clear hfz39_2)
     (try clear hfz41_0); (try clear hfz41_1); (try clear hfz41_2); obtain ⟨x46_2, x104000_2, x104001_2, x104002_2, rfl, HA, HK2, HO_44, HO_102002, HO_103002, B1, B2, B3, HB⟩ := hrel
     cases gk with
     | zero => exact absurd HA.out (by simp [look_Products.l0])
     | succ k2 =>
      have H := HA.out; clear HA
      simp only [look_Products.l0] at H
      by_cases c45 : x46_2 < (y106.length : Int)
      ·rw [if_pos c45] at H; have c45b0 := decide_eq_true c45; clear c45
       by_cases c46 : 0 ≤ x46_2
       ·rw [if_pos c46] at H; have c46b0 := decide_eq_true c46; clear c46
        by_cases c47 : x46_2 < (y106.length : Int)
        ·rw [if_pos c47] at H; have c47b0 := decide_eq_true c47; clear c47; obtain ⟨⟨t110, t113, t114, t115⟩, A48, H⟩ := bo_ H; dsimp only at H
         by_cases c49 : t113 = 4
         ·rw [if_pos c49] at H; have ⟨c49b0,c49b1⟩ := e1_ c49; clear c49
          simp only [Option.some.injEq, Prod.mk.injEq] at H
          obtain ⟨rfl, rfl, rfl⟩ := H
          have p109 : 0 ≤ (x46_2 : Int) := of_decide_eq_true as_
          have q109 : x46_2 < (y106.length : Int) := of_decide_eq_true as_
          obtain ⟨ad109, A109_0, c109_0, e109, hx109_0, hl109_0, hi109_0⟩ := at_L5 (Kd.N_reads' HO_44.out).2.2 x46_2 p109 q109
          cases e109
          obtain ⟨ce109, hce109, hMe109, hcc109⟩ := Kd.N_get HO_44.out [] x46_2 p109 (by first | exact q109 | exact of_decide_eq_true as_ | (have e_ := (Kd.N_reads' HO_44.out).1; omega)); obtain ⟨ua109_0, uc109_0, rfl, ul109_0, ge109_0⟩ := Kd.FK_slice_open hMe109; have hv109_0 := hcc109 0 _ rfl; rw [Nat.add_zero, show ((Kd.slice 26 k26)).sz = 1 from rfl, Nat.mul_one] at hv109_0; replace hv109_0 := Option.some.inj (hv109_0.symm.trans hx109_0)
          injection hv109_0 with hva_ hvn_ hvc_
          rw [hva_] at ge109_0; rw [hvc_] at ul109_0; have HL109_0 := A_ (show Kd.V k26 26 _ w.heap.size _ _ (rd_L5 y106 x46_2) from Kd.V_mk ul109_0 ge109_0); clear hva_ hvn_ hvc_ ge109_0 ul109_0; clear hcc109 hce109; have HR109_0 := A_ hi109_0; have HC109_0 := A_ hl109_0; clear hi109_0 hl109_0; replace p109 := eq_true p109; replace q109 := eq_true q109
          go_wp2_with (first | ((with_reducible refine gate_callee (f:=36) rfl ?_); refine gL_ (some 52) rfl rfl Tryz.func36 rfl #[.slice A109_0 (rd_L5 y106 x46_2).length c109_0] rfl ?_; (with_reducible refine (fold_Numbers.calls k2 _ _ (rd_L5 y106 x46_2) t110 t113 t114 t115 _ ?side1 ?side2 A48.out).mono ?_); (case side1 => exact ca_ (by repeat (first | (with_reducible exact HR109_0.out) | (with_reducible refine Kd.C_alloc ?_ _) | (with_reducible refine Kd.C_drewN ?_ _) | (with_reducible refine Kd.C_drew ?_) | exact HR109_0.out))); (case side2 => exact HC109_0.out); rintro e w50 ⟨v111, rfl, ho0, hb⟩; refine ⟨_, rfl, ?_⟩; have HO112 := A_ (Kd.R_lower (Kd.R_newM (M := fun k_ => (w.heap.size ≤ k_)) ho0 (below_size (pbx HB)) (fun k_ h_ => h_)) (below_size (pbx HB))); replace HO_44 := A_ (Kd.N_elder' (by (with_reducible repeat (first | apply Kd.N_alloc | apply Kd.N_drewN | apply Kd.N_drew)); exact HO_44.out) (Kd.R_base ho0) hb); replace HO_102002 := A_ (Kd.V_elder' (va_ HO_102002.out) (Kd.R_base ho0) hb); replace HO_103002 := A_ (Kd.V_elder' (va_ HO_103002.out) (Kd.R_base ho0) hb); replace HL109_0 := A_ (Kd.V_elder' (by (with_reducible repeat (first | apply Kd.V_alloc | apply Kd.V_drewN | apply Kd.V_drew)); exact HL109_0.out) (Kd.R_base ho0) hb); replace B1 := bb_ B1 hb; replace B2 := bb_ B2 hb; replace B3 := bb_ B3 hb; replace HR109_0 := A_ (Kd.C_below (by repeat (first | (with_reducible exact HR109_0.out) | (with_reducible refine Kd.C_alloc ?_ _) | (with_reducible refine Kd.C_drewN ?_ _) | (with_reducible refine Kd.C_drew ?_) | exact HR109_0.out)) hb); replace HB := bs_ HB hb; (try clear hb); (try clear hk); ) | ((with_reducible refine gd_ 8 ?_); refine be_ (N:=8) (cs := #[.int .i64 0, .int .i64 0, .string (⟨#[]⟩ : ByteArray)]) (t:=26) ?_; intro gb116 hg w51 hbox hb; have BK116 := A_ (hbox); have GW116 := hs_ HB hg; have GE116 := hs_ HB hg; have NB101_116 := hl_ B1 hg; have NB116_101 := hr_ B1 hg; have NB102_116 := hl_ B2 hg; have NB116_102 := hr_ B2 hg; have NB103_116 := hl_ B3 hg; have NB116_103 := hr_ B3 hg; replace HO_44 := A_ (Kd.N_below (Kd.N_elderB (by (with_reducible repeat (first | apply Kd.N_alloc | apply Kd.N_drewN | apply Kd.N_drew)); exact HO_44.out) gb116 (Nat.le_of_eq hg.symm)) hb); replace HO_102002 := A_ (Kd.V_below (Kd.V_elderB (va_ HO_102002.out) gb116 (Nat.le_of_eq hg.symm)) hb); replace HO_103002 := A_ (Kd.V_below (Kd.V_elderB (va_ HO_103002.out) gb116 (Nat.le_of_eq hg.symm)) hb); replace HL109_0 := A_ (Kd.V_below (Kd.V_elderB (by (with_reducible repeat (first | apply Kd.V_alloc | apply Kd.V_drewN | apply Kd.V_drew)); exact HL109_0.out) gb116 (Nat.le_of_eq hg.symm)) hb); replace HO112 := A_ (Kd.R_below (ra_ HO112.out) hb); replace B1 := bb_ B1 hb; replace B2 := bb_ B2 hb; replace B3 := bb_ B3 hb; replace HR109_0 := A_ (Kd.C_below (by repeat (first | (with_reducible exact HR109_0.out) | (with_reducible refine Kd.C_alloc ?_ _) | (with_reducible refine Kd.C_drewN ?_ _) | (with_reducible refine Kd.C_drew ?_) | exact HR109_0.out)) hb); replace HB := bs_ HB hb; clear hb hbox hg; have hnb52 := NB116_101.out; have hnc52 := NB101_116.out; have hnb53 := NB116_102.out; have hnc53 := NB102_116.out; have hnb54 := NB116_103.out; have hnc54 := NB103_116.out; have ⟨hcz55_0,hcz55_1,hcz55_2,hfz55_0,hfz55_1,hfz55_2⟩ := z3_ BK116; have hnb56 := N31.out; have hnc56 := N13.out; have hnb57 := N32.out; have hnc57 := N23.out; have ⟨hcz58_0,hcz58_1,hcz58_2,hfz58_0,hfz58_1,hfz58_2⟩ := z3_ B3))
          refine bodyPost_ret (results_cell_row rfl _ _ g3 26 #[.int .i64 t113, .int .i64 t114, .string t115] (0, 0) _ rfl (by refine pp_ (cs := #[.int .i64 t113, .int .i64 t114, .string x104002_2]) 2 ?_ rfl; refine blk_put (cs := #[.int .i64 t113, .int .i64 x104001_2, .string x104002_2]) ?_ 1 _ rfl; refine blk_put (cs := #[.int .i64 x104000_2, .int .i64 x104001_2, .string x104002_2]) ?_ 0 _ rfl; (iterate 3 refine pf_ ?_ NB103_116.out); exact pkx B3) Tryz.underlying26 rfl (by kernel_rfl)) rfl ?_
          exact fi_ bl_
         ·rw [if_neg c49] at H; have ⟨c49b0,c49b1⟩ := e0_ c49
          have H' := A_ H
          clear H
          have p109 : 0 ≤ (x46_2 : Int) := of_decide_eq_true as_
          have q109 : x46_2 < (y106.length : Int) := of_decide_eq_true as_
          obtain ⟨ad109, A109_0, c109_0, e109, hx109_0, hl109_0, hi109_0⟩ := at_L5 (Kd.N_reads' HO_44.out).2.2 x46_2 p109 q109
          cases e109
          obtain ⟨ce109, hce109, hMe109, hcc109⟩ := Kd.N_get HO_44.out [] x46_2 p109 (by first | exact q109 | exact of_decide_eq_true as_ | (have e_ := (Kd.N_reads' HO_44.out).1; omega)); obtain ⟨ua109_0, uc109_0, rfl, ul109_0, ge109_0⟩ := Kd.FK_slice_open hMe109; have hv109_0 := hcc109 0 _ rfl; rw [Nat.add_zero, show ((Kd.slice 26 k26)).sz = 1 from rfl, Nat.mul_one] at hv109_0; replace hv109_0 := Option.some.inj (hv109_0.symm.trans hx109_0)
          injection hv109_0 with hva_ hvn_ hvc_
          rw [hva_] at ge109_0; rw [hvc_] at ul109_0; have HL109_0 := A_ (show Kd.V k26 26 _ w.heap.size _ _ (rd_L5 y106 x46_2) from Kd.V_mk ul109_0 ge109_0); clear hva_ hvn_ hvc_ ge109_0 ul109_0; clear hcc109 hce109; have HR109_0 := A_ hi109_0; have HC109_0 := A_ hl109_0; clear hi109_0 hl109_0; replace p109 := eq_true p109; replace q109 := eq_true q109
          go_wp2_with (first | ((with_reducible refine gate_callee (f:=36) rfl ?_); refine gL_ (some 52) rfl rfl Tryz.func36 rfl #[.slice A109_0 (rd_L5 y106 x46_2).length c109_0] rfl ?_; (with_reducible refine (fold_Numbers.calls k2 _ _ (rd_L5 y106 x46_2) t110 t113 t114 t115 _ ?side1 ?side2 A48.out).mono ?_); (case side1 => exact ca_ (by repeat (first | (with_reducible exact HR109_0.out) | (with_reducible refine Kd.C_alloc ?_ _) | (with_reducible refine Kd.C_drewN ?_ _) | (with_reducible refine Kd.C_drew ?_) | exact HR109_0.out))); (case side2 => exact HC109_0.out); rintro e w59 ⟨v111, rfl, ho0, hb⟩; refine ⟨_, rfl, ?_⟩; have HO112 := A_ (Kd.R_lower (Kd.R_newM (M := fun k_ => (w.heap.size ≤ k_)) ho0 (below_size (pbx HB)) (fun k_ h_ => h_)) (below_size (pbx HB))); replace HO_44 := A_ (Kd.N_elder' (by (with_reducible repeat (first | apply Kd.N_alloc | apply Kd.N_drewN | apply Kd.N_drew)); exact HO_44.out) (Kd.R_base ho0) hb); replace HO_102002 := A_ (Kd.V_elder' (va_ HO_102002.out) (Kd.R_base ho0) hb); replace HO_103002 := A_ (Kd.V_elder' (va_ HO_103002.out) (Kd.R_base ho0) hb); replace HL109_0 := A_ (Kd.V_elder' (by (with_reducible repeat (first | apply Kd.V_alloc | apply Kd.V_drewN | apply Kd.V_drew)); exact HL109_0.out) (Kd.R_base ho0) hb); replace B1 := bb_ B1 hb; replace B2 := bb_ B2 hb; replace B3 := bb_ B3 hb; replace HR109_0 := A_ (Kd.C_below (by repeat (first | (with_reducible exact HR109_0.out) | (with_reducible refine Kd.C_alloc ?_ _) | (with_reducible refine Kd.C_drewN ?_ _) | (with_reducible refine Kd.C_drew ?_) | exact HR109_0.out)) hb); replace HB := bs_ HB hb; (try clear hb); (try clear hk); ) | ((with_reducible refine gd_ 8 ?_); refine be_ (N:=8) (cs := #[.int .i64 0, .int .i64 0, .string (⟨#[]⟩ : ByteArray)]) (t:=26) ?_; intro gb116 hg w60 hbox hb; have BK116 := A_ (hbox); have GW116 := hs_ HB hg; have GE116 := hs_ HB hg; have NB101_116 := hl_ B1 hg; have NB116_101 := hr_ B1 hg; have NB102_116 := hl_ B2 hg; have NB116_102 := hr_ B2 hg; have NB103_116 := hl_ B3 hg; have NB116_103 := hr_ B3 hg; replace HO_44 := A_ (Kd.N_below (Kd.N_elderB (by (with_reducible repeat (first | apply Kd.N_alloc | apply Kd.N_drewN | apply Kd.N_drew)); exact HO_44.out) gb116 (Nat.le_of_eq hg.symm)) hb); replace HO_102002 := A_ (Kd.V_below (Kd.V_elderB (va_ HO_102002.out) gb116 (Nat.le_of_eq hg.symm)) hb); replace HO_103002 := A_ (Kd.V_below (Kd.V_elderB (va_ HO_103002.out) gb116 (Nat.le_of_eq hg.symm)) hb); replace HL109_0 := A_ (Kd.V_below (Kd.V_elderB (by (with_reducible repeat (first | apply Kd.V_alloc | apply Kd.V_drewN | apply Kd.V_drew)); exact HL109_0.out) gb116 (Nat.le_of_eq hg.symm)) hb); replace HO112 := A_ (Kd.R_below (ra_ HO112.out) hb); replace B1 := bb_ B1 hb; replace B2 := bb_ B2 hb; replace B3 := bb_ B3 hb; replace HR109_0 := A_ (Kd.C_below (by repeat (first | (with_reducible exact HR109_0.out) | (with_reducible refine Kd.C_alloc ?_ _) | (with_reducible refine Kd.C_drewN ?_ _) | (with_reducible refine Kd.C_drew ?_) | exact HR109_0.out)) hb); replace HB := bs_ HB hb; clear hb hbox hg; have hnb61 := NB116_101.out; have hnc61 := NB101_116.out; have hnb62 := NB116_102.out; have hnc62 := NB102_116.out; have hnb63 := NB116_103.out; have hnc63 := NB103_116.out; have ⟨hcz64_0,hcz64_1,hcz64_2,hfz64_0,hfz64_1,hfz64_2⟩ := z3_ BK116))
          go_roundg k2
          case measure => have := HJ2.out; have := HK2.out; omega
          case rel => exact ⟨(wrap64 (x46_2 + 1)), (x104000_2), (x104001_2), (x104002_2), sq_, H', ⟨by have := HJ2.out; have := HK2.out; omega⟩, ⟨by (with_reducible repeat (first | apply Kd.N_alloc | apply Kd.N_drewN | apply Kd.N_drew)); exact Kd.N_mono (Kd.N_far (p := ⟨gb116, 2, none⟩) (Kd.N_far (p := ⟨gb116, 1, none⟩) (Kd.N_far (p := ⟨gb116, 0, none⟩) (Kd.N_mono HO_44.out (fun k_ hk => (⟨hk, hk.2⟩ : _ ∧ k_ ≠ gb116))) (fun _ hk => hk.2) (.int .i64 t113)) (fun _ hk => hk.2) (.int .i64 t114)) (fun _ hk => hk.2) (.string t115)) (fun _ hk => ⟨hk.1.1.1.1, ⟨hk.1.1.1.2.1, ⟨hk.1.1.1.2.2.1, hk.1.1.1.2.2.2⟩⟩⟩)⟩, ⟨by (with_reducible repeat (first | apply Kd.V_alloc | apply Kd.V_drewN | apply Kd.V_drew)); exact Kd.V_mono (Kd.V_far (p := ⟨gb116, 2, none⟩) (Kd.V_far (p := ⟨gb116, 1, none⟩) (Kd.V_far (p := ⟨gb116, 0, none⟩) (Kd.V_mono HO_102002.out (fun k_ hk => (⟨hk, hk.2⟩ : _ ∧ k_ ≠ gb116))) (fun _ hk => hk.2) (.int .i64 t113)) (fun _ hk => hk.2) (.int .i64 t114)) (fun _ hk => hk.2) (.string t115)) (fun _ hk => ⟨hk.1.1.1.1, ⟨hk.1.1.1.2.1, ⟨hk.1.1.1.2.2.1, ⟨hk.1.1.1.2.2.2.1, hk.1.1.1.2.2.2.2⟩⟩⟩⟩)⟩, ⟨by (with_reducible repeat (first | apply Kd.V_alloc | apply Kd.V_drewN | apply Kd.V_drew)); exact Kd.V_mono (Kd.V_far (p := ⟨gb116, 2, none⟩) (Kd.V_far (p := ⟨gb116, 1, none⟩) (Kd.V_far (p := ⟨gb116, 0, none⟩) (Kd.V_mono HO_103002.out (fun k_ hk => (⟨hk, hk.2⟩ : _ ∧ k_ ≠ gb116))) (fun _ hk => hk.2) (.int .i64 t113)) (fun _ hk => hk.2) (.int .i64 t114)) (fun _ hk => hk.2) (.string t115)) (fun _ hk => ⟨hk.1.1.1.1, ⟨hk.1.1.1.2.1, ⟨hk.1.1.1.2.2.1, ⟨hk.1.1.1.2.2.2.1, hk.1.1.1.2.2.2.2⟩⟩⟩⟩)⟩, ⟨by (iterate 3 refine pf_ ?_ NB101_116.out); exact pkx B1⟩, ⟨by (iterate 3 refine pf_ ?_ NB102_116.out); exact pkx B2⟩, ⟨by (iterate 3 refine pf_ ?_ NB103_116.out); exact pkx B3⟩, ⟨bl_⟩⟩
        ·rw [if_neg c47] at H
         exact absurd H (by simp)
       ·rw [if_neg c46] at H
        exact absurd H (by simp)
      ·rw [if_neg c45] at H; have c45b0 := decide_eq_false c45; clear c45
       have H' := A_ H
       clear H; have hnb65 := N12.out; have hnc65 := N21.out; have hnb66 := N13.out; have hnc66 := N31.out
       have ⟨hcz67_0,hcz67_1,hcz67_2,hfz67_0,hfz67_1,hfz67_2⟩ := z3_ B1
       go_wp2
       go_loopg [9, 63] k2 (fun kq v9 v63 w' => ∃ (x9_3 : Int) (x63_3 : Int) (x104000_3 : Int) (x104001_3 : Int) (x104002_3 : ByteArray), v9 = .int .i64 x9_3 ∧ v63 = .int .i64 x63_3 ∧ Aside0 (look_Products.l1 kq x9_3 l0_2 (l0_2.length : Int) x63_3 a1_0 a1_1 l1_2 = some (r1, r2, r3)) ∧ Aside0 (kq ≤ k2) ∧ Aside0 (Kd.V k26 26 w' w.heap.size (fun k_ => ((P0_2_ k_ ∨ P1_2_ k_) ∨ w.heap.size ≤ k_) ∧ k_ ≠ g1 ∧ k_ ≠ g2 ∧ k_ ≠ g3) (.slice A0_2 l0_2.length c0_2) l0_2) ∧ Aside0 (Kd.V k26 26 w' w.heap.size (fun k_ => ((P0_2_ k_ ∨ P1_2_ k_) ∨ w.heap.size ≤ k_) ∧ k_ ≠ g1 ∧ k_ ≠ g2 ∧ k_ ≠ g3) (.slice A0_2 l0_2.length c0_2) l0_2) ∧ Aside0 (Kd.V k26 26 w' w.heap.size (fun k_ => ((P0_2_ k_ ∨ P1_2_ k_) ∨ w.heap.size ≤ k_) ∧ k_ ≠ g1 ∧ k_ ≠ g2 ∧ k_ ≠ g3) (.slice A1_2 l1_2.length c1_2) l1_2) ∧ Aside0 (w'.heap[g1]? = some (.cells #[.int .i64 a0_0, .int .i64 a0_1, (.slice A0_2 l0_2.length c0_2)] 24 (0, 0))) ∧ Aside0 (w'.heap[g2]? = some (.cells #[.int .i64 a1_0, .int .i64 a1_1, (.slice A1_2 l1_2.length c1_2)] 24 (0, 0))) ∧ Aside0 (w'.heap[g3]? = some (.cells #[.int .i64 x104000_3, .int .i64 x104001_3, .string x104002_3] 26 (0, 0))) ∧ Aside0 (Below w.heap.size w w'))
       case atStart => exact ⟨(0), (0), (x104000_2), (x104001_2), (x104002_2), sq_, sq_, H', ⟨Nat.le_refl _⟩, ⟨by (with_reducible repeat (first | apply Kd.V_alloc | apply Kd.V_drewN | apply Kd.V_drew)); exact Kd.V_mono HO_102002.out (fun _ hk => ⟨hk.1, ⟨hk.2.2.1, ⟨hk.2.2.2.1, hk.2.2.2.2⟩⟩⟩)⟩, ⟨by (with_reducible repeat (first | apply Kd.V_alloc | apply Kd.V_drewN | apply Kd.V_drew)); exact Kd.V_mono HO_102002.out (fun _ hk => ⟨hk.1, ⟨hk.2.2.1, ⟨hk.2.2.2.1, hk.2.2.2.2⟩⟩⟩)⟩, ⟨by (with_reducible repeat (first | apply Kd.V_alloc | apply Kd.V_drewN | apply Kd.V_drew)); exact Kd.V_mono HO_103002.out (fun _ hk => ⟨hk.1, ⟨hk.2.2.1, ⟨hk.2.2.2.1, hk.2.2.2.2⟩⟩⟩)⟩, ⟨pkx B1⟩, ⟨pkx B2⟩, ⟨pkx B3⟩, ⟨pbx HB⟩⟩
       case round =>
        clear H'; (try clear c36); (try clear c45); (try clear c45b0); (try clear hcz39_0); (try clear hcz39_1); (try clear hcz39_2); (try clear hcz41_0); (try clear hcz41_1); (try clear hcz41_2)
        (try clear hcz67_0); (try clear hcz67_1); (try clear hcz67_2); (try clear hfz39_0); (try clear hfz39_1); (try clear hfz39_2); (try clear hfz41_0); (try clear hfz41_1); (try clear hfz41_2)
        (try clear hfz67_0); (try clear hfz67_1); (try clear hfz67_2); obtain ⟨x9_3, x63_3, x104000_3, x104001_3, x104002_3, rfl, rfl, HA, HK3, HO_61, HO_102002, HO_103002, B1, B2, B3, HB⟩ := hrel
        cases gk with
        | zero => exact absurd HA.out (by simp [look_Products.l1])
        | succ k3 =>
         have H := HA.out; clear HA
         simp only [look_Products.l1] at H
         by_cases c68 : x63_3 < (l0_2.length : Int)
         ·rw [if_pos c68] at H; have c68b0 := decide_eq_true c68; clear c68
          by_cases c69 : 0 ≤ x63_3
          ·rw [if_pos c69] at H; have c69b0 := decide_eq_true c69; clear c69
           by_cases c70 : x63_3 < (l0_2.length : Int)
           ·rw [if_pos c70] at H; have c70b0 := decide_eq_true c70; clear c70
            by_cases c71 : x63_3 < (l1_2.length : Int)
            ·rw [if_pos c71] at H; have c71b0 := decide_eq_true c71; clear c71; have HC72 := A_ H; clear H
             have p120 : 0 ≤ (x63_3 : Int) := of_decide_eq_true as_
             have q120 : x63_3 < (l0_2.length : Int) := of_decide_eq_true as_
             obtain ⟨ad120, e120, hx120_0, hx120_1, hx120_2⟩ := at_T26 (Kd.V_reads' HO_61.out).2.2 x63_3 p120 q120
             cases e120
             replace p120 := eq_true p120; replace q120 := eq_true q120
             have pz18 : 0 ≤ (x63_3 : Int) := of_decide_eq_true as_
             have qz18 : x63_3 < (l1_2.length : Int) := of_decide_eq_true as_
             obtain ⟨ad122, e122, hy18, -, -⟩ := at_T26 (Kd.V_reads' HO_103002.out).2.2 x63_3 pz18 qz18
             cases e122
             have HZ122 := A_ (lt_cell18 hy18); clear pz18 qz18 hy18
             go_upto_region 15 with (first | ((with_reducible refine gd_ 11 ?_); refine be_ (N:=11) (cs := #[.int .i64 0, .int .i64 0, .string (⟨#[]⟩ : ByteArray)]) (t:=26) ?_; intro gb121 hg w73 hbox hb; have hz_122 : ad122.block ≠ gb121 := (by rw [hg]; exact Nat.ne_of_lt HZ122.out); have BK121 := A_ (hbox); have GW121 := hs_ HB hg; have GE121 := hs_ HB hg; have NB101_121 := hl_ B1 hg; have NB121_101 := hr_ B1 hg; have NB102_121 := hl_ B2 hg; have NB121_102 := hr_ B2 hg; have NB103_121 := hl_ B3 hg; have NB121_103 := hr_ B3 hg; replace HO_61 := A_ (Kd.V_below (Kd.V_elderB (va_ HO_61.out) gb121 (Nat.le_of_eq hg.symm)) hb); replace HO_102002 := A_ (Kd.V_below (Kd.V_elderB (va_ HO_102002.out) gb121 (Nat.le_of_eq hg.symm)) hb); replace HO_103002 := A_ (Kd.V_below (Kd.V_elderB (va_ HO_103002.out) gb121 (Nat.le_of_eq hg.symm)) hb); replace B1 := bb_ B1 hb; replace B2 := bb_ B2 hb; replace B3 := bb_ B3 hb; replace HB := bs_ HB hb; clear hb hbox hg; have hnb74 := NB121_101.out; have hnc74 := NB101_121.out; have hnb75 := NB121_102.out; have hnc75 := NB102_121.out; have hnb76 := NB121_103.out; have hnc76 := NB103_121.out; have ⟨hcz77_0,hcz77_1,hcz77_2,hfz77_0,hfz77_1,hfz77_2⟩ := z3_ BK121; have hnb78 := N21.out; have hnc78 := N12.out; have hnb79 := N23.out; have hnc79 := N32.out; have ⟨hcz80_0,hcz80_1,hcz80_2,hfz80_0,hfz80_1,hfz80_2⟩ := z3_ B2; have p122 : 0 ≤ (x63_3 : Int) := of_decide_eq_true as_; have q122 : x63_3 < (l1_2.length : Int) := of_decide_eq_true as_; obtain ⟨ad122, e122, hx122_0, hx122_1, hx122_2⟩ := at_T26 (Kd.V_reads' HO_103002.out).2.2 x63_3 p122 q122; cases e122; have hn122_0 : ad122.block ≠ gb121 := (by first | exact hz_122 | exact Kd.own_blk (Kd.V_ne HO_103002.out BK121.out (by decide))); have hn122_1 : ad122.block ≠ gb121 := (by first | exact hz_122 | exact Kd.own_blk (Kd.V_ne HO_103002.out BK121.out (by decide))); have hn122_2 : ad122.block ≠ gb121 := (by first | exact hz_122 | exact Kd.own_blk (Kd.V_ne HO_103002.out BK121.out (by decide))); replace hx122_0 := (cell_far (p := ⟨gb121, 0, none⟩) (by first | (rw [add_block]; exact hn122_0) | (show (Addr.add _ _).block ≠ _; rw [add_block]; exact hn122_0) | exact hn122_0) (.int .i64 ((rd_T26 l0_2 x63_3).f0))).trans hx122_0; replace hx122_1 := (cell_far (p := ⟨gb121, 0, none⟩) (by first | (rw [add_block]; exact hn122_0) | (show (Addr.add _ _).block ≠ _; rw [add_block]; exact hn122_0) | exact hn122_0) (.int .i64 ((rd_T26 l0_2 x63_3).f0))).trans hx122_1; replace hx122_2 := (cell_far (p := ⟨gb121, 0, none⟩) (by first | (rw [add_block]; exact hn122_0) | (show (Addr.add _ _).block ≠ _; rw [add_block]; exact hn122_0) | exact hn122_0) (.int .i64 ((rd_T26 l0_2 x63_3).f0))).trans hx122_2; replace hx122_0 := (cell_far (p := ⟨gb121, 1, none⟩) (by first | (rw [add_block]; exact hn122_1) | (show (Addr.add _ _).block ≠ _; rw [add_block]; exact hn122_1) | exact hn122_1) (.int .i64 ((rd_T26 l0_2 x63_3).f1))).trans hx122_0; replace hx122_1 := (cell_far (p := ⟨gb121, 1, none⟩) (by first | (rw [add_block]; exact hn122_1) | (show (Addr.add _ _).block ≠ _; rw [add_block]; exact hn122_1) | exact hn122_1) (.int .i64 ((rd_T26 l0_2 x63_3).f1))).trans hx122_1; replace hx122_2 := (cell_far (p := ⟨gb121, 1, none⟩) (by first | (rw [add_block]; exact hn122_1) | (show (Addr.add _ _).block ≠ _; rw [add_block]; exact hn122_1) | exact hn122_1) (.int .i64 ((rd_T26 l0_2 x63_3).f1))).trans hx122_2; replace hx122_0 := (cell_far (p := ⟨gb121, 2, none⟩) (by first | (rw [add_block]; exact hn122_2) | (show (Addr.add _ _).block ≠ _; rw [add_block]; exact hn122_2) | exact hn122_2) (.string ((rd_T26 l0_2 x63_3).f2))).trans hx122_0; replace hx122_1 := (cell_far (p := ⟨gb121, 2, none⟩) (by first | (rw [add_block]; exact hn122_2) | (show (Addr.add _ _).block ≠ _; rw [add_block]; exact hn122_2) | exact hn122_2) (.string ((rd_T26 l0_2 x63_3).f2))).trans hx122_1; replace hx122_2 := (cell_far (p := ⟨gb121, 2, none⟩) (by first | (rw [add_block]; exact hn122_2) | (show (Addr.add _ _).block ≠ _; rw [add_block]; exact hn122_2) | exact hn122_2) (.string ((rd_T26 l0_2 x63_3).f2))).trans hx122_2; clear hn122_0; clear hn122_1; clear hn122_2; replace p122 := eq_true p122; replace q122 := eq_true q122) | ((with_reducible refine gd_ 12 ?_); refine be_ (N:=12) (cs := #[.int .i64 0, .int .i64 0, .string (⟨#[]⟩ : ByteArray)]) (t:=26) ?_; intro gb123 hg w81 hbox hb; have BK123 := A_ (hbox); have GW123 := A_ ((by rw [hg]; exact (below_size bl_) : w.heap.size ≤ gb123)); have GE123 := A_ ((by rw [hg]; exact (below_size bl_) : w.heap.size ≤ gb123)); have NB101_123 := A_ ((by rw [hg]; exact Nat.ne_of_lt (blk_lt (g:=g1) (o := .cells #[.int .i64 a0_0, .int .i64 a0_1, .slice (some ad120) l0_2.length c0_2] 24 (0, 0)) (by (iterate 3 refine pf_ ?_ NB101_121.out); exact pkx B1)) : g1 ≠ gb123)); have NB123_101 := A_ ((by rw [hg]; exact Nat.ne_of_gt (blk_lt (g:=g1) (o := .cells #[.int .i64 a0_0, .int .i64 a0_1, .slice (some ad120) l0_2.length c0_2] 24 (0, 0)) (by (iterate 3 refine pf_ ?_ NB101_121.out); exact pkx B1)) : gb123 ≠ g1)); have NB102_123 := A_ ((by rw [hg]; exact Nat.ne_of_lt (blk_lt (g:=g2) (o := .cells #[.int .i64 a1_0, .int .i64 a1_1, .slice (some ad122) l1_2.length c1_2] 24 (0, 0)) (by (iterate 3 refine pf_ ?_ NB102_121.out); exact pkx B2)) : g2 ≠ gb123)); have NB123_102 := A_ ((by rw [hg]; exact Nat.ne_of_gt (blk_lt (g:=g2) (o := .cells #[.int .i64 a1_0, .int .i64 a1_1, .slice (some ad122) l1_2.length c1_2] 24 (0, 0)) (by (iterate 3 refine pf_ ?_ NB102_121.out); exact pkx B2)) : gb123 ≠ g2)); have NB103_123 := A_ ((by rw [hg]; exact Nat.ne_of_lt (blk_lt (g:=g3) (o := .cells #[.int .i64 x104000_3, .int .i64 x104001_3, .string x104002_3] 26 (0, 0)) (by (iterate 3 refine pf_ ?_ NB103_121.out); exact pkx B3)) : g3 ≠ gb123)); have NB123_103 := A_ ((by rw [hg]; exact Nat.ne_of_gt (blk_lt (g:=g3) (o := .cells #[.int .i64 x104000_3, .int .i64 x104001_3, .string x104002_3] 26 (0, 0)) (by (iterate 3 refine pf_ ?_ NB103_121.out); exact pkx B3)) : gb123 ≠ g3)); have NB121_123 := A_ ((by rw [hg]; exact Nat.ne_of_lt (blk_lt (g:=gb121) (o := .cells #[.int .i64 ((rd_T26 l0_2 x63_3).f0), .int .i64 ((rd_T26 l0_2 x63_3).f1), .string ((rd_T26 l0_2 x63_3).f2)] 26 (0, 0)) (by (iterate 3 apply pp_); exact pkx BK121; all_goals rfl)) : gb121 ≠ gb123)); have NB123_121 := A_ ((by rw [hg]; exact Nat.ne_of_gt (blk_lt (g:=gb121) (o := .cells #[.int .i64 ((rd_T26 l0_2 x63_3).f0), .int .i64 ((rd_T26 l0_2 x63_3).f1), .string ((rd_T26 l0_2 x63_3).f2)] 26 (0, 0)) (by (iterate 3 apply pp_); exact pkx BK121; all_goals rfl)) : gb123 ≠ gb121)); replace HO_61 := A_ (Kd.V_below (Kd.V_elderB (by (with_reducible repeat (first | apply Kd.V_alloc | apply Kd.V_drewN | apply Kd.V_drew)); exact (Kd.V_mono (Kd.V_far (p := ⟨gb121, 2, none⟩) (Kd.V_far (p := ⟨gb121, 1, none⟩) (Kd.V_far (p := ⟨gb121, 0, none⟩) (Kd.V_mono HO_61.out (fun k_ hk => (⟨hk, hk.2⟩ : _ ∧ k_ ≠ gb121))) (fun _ hk => hk.2) (.int .i64 ((rd_T26 l0_2 x63_3).f0))) (fun _ hk => hk.2) (.int .i64 ((rd_T26 l0_2 x63_3).f1))) (fun _ hk => hk.2) (.string ((rd_T26 l0_2 x63_3).f2))) (fun _ h_ => h_.1))) gb123 (Nat.le_of_eq hg.symm)) hb); replace HO_102002 := A_ (Kd.V_below (Kd.V_elderB (by (with_reducible repeat (first | apply Kd.V_alloc | apply Kd.V_drewN | apply Kd.V_drew)); exact (Kd.V_mono (Kd.V_far (p := ⟨gb121, 2, none⟩) (Kd.V_far (p := ⟨gb121, 1, none⟩) (Kd.V_far (p := ⟨gb121, 0, none⟩) (Kd.V_mono HO_102002.out (fun k_ hk => (⟨hk, hk.2⟩ : _ ∧ k_ ≠ gb121))) (fun _ hk => hk.2) (.int .i64 ((rd_T26 l0_2 x63_3).f0))) (fun _ hk => hk.2) (.int .i64 ((rd_T26 l0_2 x63_3).f1))) (fun _ hk => hk.2) (.string ((rd_T26 l0_2 x63_3).f2))) (fun _ h_ => h_.1))) gb123 (Nat.le_of_eq hg.symm)) hb); replace HO_103002 := A_ (Kd.V_below (Kd.V_elderB (by (with_reducible repeat (first | apply Kd.V_alloc | apply Kd.V_drewN | apply Kd.V_drew)); exact (Kd.V_mono (Kd.V_far (p := ⟨gb121, 2, none⟩) (Kd.V_far (p := ⟨gb121, 1, none⟩) (Kd.V_far (p := ⟨gb121, 0, none⟩) (Kd.V_mono HO_103002.out (fun k_ hk => (⟨hk, hk.2⟩ : _ ∧ k_ ≠ gb121))) (fun _ hk => hk.2) (.int .i64 ((rd_T26 l0_2 x63_3).f0))) (fun _ hk => hk.2) (.int .i64 ((rd_T26 l0_2 x63_3).f1))) (fun _ hk => hk.2) (.string ((rd_T26 l0_2 x63_3).f2))) (fun _ h_ => h_.1))) gb123 (Nat.le_of_eq hg.symm)) hb); replace B1 := A_ (blk_below (g:=g1) (o := .cells #[.int .i64 a0_0, .int .i64 a0_1, .slice (some ad120) l0_2.length c0_2] 24 (0, 0)) (by (iterate 3 refine pf_ ?_ NB101_121.out); exact pkx B1) hb); replace B2 := A_ (blk_below (g:=g2) (o := .cells #[.int .i64 a1_0, .int .i64 a1_1, .slice (some ad122) l1_2.length c1_2] 24 (0, 0)) (by (iterate 3 refine pf_ ?_ NB102_121.out); exact pkx B2) hb); replace B3 := A_ (blk_below (g:=g3) (o := .cells #[.int .i64 x104000_3, .int .i64 x104001_3, .string x104002_3] 26 (0, 0)) (by (iterate 3 refine pf_ ?_ NB103_121.out); exact pkx B3) hb); replace BK121 := A_ (blk_below (g:=gb121) (o := .cells #[.int .i64 ((rd_T26 l0_2 x63_3).f0), .int .i64 ((rd_T26 l0_2 x63_3).f1), .string ((rd_T26 l0_2 x63_3).f2)] 26 (0, 0)) (by (iterate 3 apply pp_); exact pkx BK121; all_goals rfl) hb); replace HB := A_ (below_step (by repeat (first | (with_reducible first | exact HB.out | apply below_alloc | apply pw_below_drewN | apply below_drew1 | refine below_set ?_ GE101.out | refine below_set ?_ GE102.out | refine below_set ?_ GE103.out | refine below_set ?_ GE121.out) | exact HB.out)) hb); clear hb hbox hg; have hnb82 := NB123_101.out; have hnc82 := NB101_123.out; have hnb83 := NB123_102.out; have hnc83 := NB102_123.out; have hnb84 := NB123_103.out; have hnc84 := NB103_123.out; have hnb85 := NB123_121.out; have hnc85 := NB121_123.out; have ⟨hcz86_0,hcz86_1,hcz86_2,hfz86_0,hfz86_1,hfz86_2⟩ := z3_ BK123))
             (try simp only [q_])
             go_cut [80] (fun v80 wc => ∃ (kq : Nat) (x80_71 : Bool), v80 = .bool x80_71 ∧ Aside0 (look_Products.j3 kq x9_3 l0_2 (l0_2.length : Int) x63_3 x80_71 a1_0 a1_1 l1_2 ((rd_T26 l0_2 x63_3).f0) ((rd_T26 l0_2 x63_3).f1) ((rd_T26 l0_2 x63_3).f2) ((rd_T26 l1_2 x63_3).f0) ((rd_T26 l1_2 x63_3).f1) ((rd_T26 l1_2 x63_3).f2) = some (r1, r2, r3)) ∧ Aside0 (kq ≤ k3) ∧ Aside0 (Kd.V k26 26 wc w.heap.size (fun k_ => ((P0_2_ k_ ∨ P1_2_ k_) ∨ w.heap.size ≤ k_) ∧ k_ ≠ g1 ∧ k_ ≠ g2 ∧ k_ ≠ g3 ∧ k_ ≠ gb121 ∧ k_ ≠ gb123) (.slice (some ad120) l0_2.length c0_2) l0_2) ∧ Aside0 (Kd.V k26 26 wc w.heap.size (fun k_ => ((P0_2_ k_ ∨ P1_2_ k_) ∨ w.heap.size ≤ k_) ∧ k_ ≠ g1 ∧ k_ ≠ g2 ∧ k_ ≠ g3 ∧ k_ ≠ gb121 ∧ k_ ≠ gb123) (.slice (some ad120) l0_2.length c0_2) l0_2) ∧ Aside0 (Kd.V k26 26 wc w.heap.size (fun k_ => ((P0_2_ k_ ∨ P1_2_ k_) ∨ w.heap.size ≤ k_) ∧ k_ ≠ g1 ∧ k_ ≠ g2 ∧ k_ ≠ g3 ∧ k_ ≠ gb121 ∧ k_ ≠ gb123) (.slice (some ad122) l1_2.length c1_2) l1_2) ∧ Aside0 (wc.heap[g1]? = some (.cells #[.int .i64 a0_0, .int .i64 a0_1, (.slice (some ad120) l0_2.length c0_2)] 24 (0, 0))) ∧ Aside0 (wc.heap[g2]? = some (.cells #[.int .i64 a1_0, .int .i64 a1_1, (.slice (some ad122) l1_2.length c1_2)] 24 (0, 0))) ∧ Aside0 (wc.heap[g3]? = some (.cells #[.int .i64 x104000_3, .int .i64 x104001_3, .string x104002_3] 26 (0, 0))) ∧ Aside0 (wc.heap[gb121]? = some (.cells #[.int .i64 ((rd_T26 l0_2 x63_3).f0), .int .i64 ((rd_T26 l0_2 x63_3).f1), .string ((rd_T26 l0_2 x63_3).f2)] 26 (0, 0))) ∧ Aside0 (wc.heap[gb123]? = some (.cells #[.int .i64 ((rd_T26 l1_2 x63_3).f0), .int .i64 ((rd_T26 l1_2 x63_3).f1), .string ((rd_T26 l1_2 x63_3).f2)] 26 (0, 0))) ∧ Aside0 (Below w.heap.size w wc))
             case first =>
              have H := HC72.out; clear HC72
              by_cases c87 : ((rd_T26 l0_2 x63_3).f0) = 1
              ·rw [if_pos c87] at H; have ⟨c87b0,c87b1⟩ := e1_ c87; clear c87; (first | rw [c87b0] | (simp only [i64_w, i32_w]; rw [c87b0]) | skip)
               have H' := A_ H
               clear H; have hnb88 := NB121_101.out; have hnc88 := NB101_121.out; have hnb89 := NB121_102.out; have hnc89 := NB102_121.out; have hnb90 := NB121_103.out; have hnc90 := NB103_121.out; have hnb91 := NB121_123.out; have hnc91 := NB123_121.out
               have ⟨hcz92_0,hcz92_1,hcz92_2,hfz92_0,hfz92_1,hfz92_2⟩ := z3_ BK121; have hnb93 := NB123_101.out; have hnc93 := NB101_123.out; have hnb94 := NB123_102.out; have hnc94 := NB102_123.out; have hnb95 := NB123_103.out; have hnc95 := NB103_123.out
               have ⟨hcz96_0,hcz96_1,hcz96_2,hfz96_0,hfz96_1,hfz96_2⟩ := z3_ BK123
               go_wp2
               go_meet
               case rel => exact ⟨_, ((((rd_T26 l1_2 x63_3).f0) != 1)), sq_, H', ⟨by have := HJ2.out; have := HK2.out; have := HK3.out; first | omega | exact Nat.le_refl _⟩, ⟨by (with_reducible repeat (first | apply Kd.V_alloc | apply Kd.V_drewN | apply Kd.V_drew)); exact Kd.V_mono (Kd.V_far (p := ⟨gb123, 2, none⟩) (Kd.V_far (p := ⟨gb123, 1, none⟩) (Kd.V_far (p := ⟨gb123, 0, none⟩) (Kd.V_mono HO_61.out (fun k_ hk => (⟨hk, hk.2⟩ : _ ∧ k_ ≠ gb123))) (fun _ hk => hk.2) (.int .i64 ((rd_T26 l1_2 x63_3).f0))) (fun _ hk => hk.2) (.int .i64 ((rd_T26 l1_2 x63_3).f1))) (fun _ hk => hk.2) (.string ((rd_T26 l1_2 x63_3).f2))) (fun _ hk => ⟨hk.1.1.1.1, ⟨hk.1.1.1.2.1, ⟨hk.1.1.1.2.2.1, ⟨hk.1.1.1.2.2.2, ⟨hk.1.1.2, hk.1.2⟩⟩⟩⟩⟩)⟩, ⟨by (with_reducible repeat (first | apply Kd.V_alloc | apply Kd.V_drewN | apply Kd.V_drew)); exact Kd.V_mono (Kd.V_far (p := ⟨gb123, 2, none⟩) (Kd.V_far (p := ⟨gb123, 1, none⟩) (Kd.V_far (p := ⟨gb123, 0, none⟩) (Kd.V_mono HO_102002.out (fun k_ hk => (⟨hk, hk.2⟩ : _ ∧ k_ ≠ gb123))) (fun _ hk => hk.2) (.int .i64 ((rd_T26 l1_2 x63_3).f0))) (fun _ hk => hk.2) (.int .i64 ((rd_T26 l1_2 x63_3).f1))) (fun _ hk => hk.2) (.string ((rd_T26 l1_2 x63_3).f2))) (fun _ hk => ⟨hk.1.1.1.1, ⟨hk.1.1.1.2.1, ⟨hk.1.1.1.2.2.1, ⟨hk.1.1.1.2.2.2, ⟨hk.1.1.2, hk.1.2⟩⟩⟩⟩⟩)⟩, ⟨by (with_reducible repeat (first | apply Kd.V_alloc | apply Kd.V_drewN | apply Kd.V_drew)); exact Kd.V_mono (Kd.V_far (p := ⟨gb123, 2, none⟩) (Kd.V_far (p := ⟨gb123, 1, none⟩) (Kd.V_far (p := ⟨gb123, 0, none⟩) (Kd.V_mono HO_103002.out (fun k_ hk => (⟨hk, hk.2⟩ : _ ∧ k_ ≠ gb123))) (fun _ hk => hk.2) (.int .i64 ((rd_T26 l1_2 x63_3).f0))) (fun _ hk => hk.2) (.int .i64 ((rd_T26 l1_2 x63_3).f1))) (fun _ hk => hk.2) (.string ((rd_T26 l1_2 x63_3).f2))) (fun _ hk => ⟨hk.1.1.1.1, ⟨hk.1.1.1.2.1, ⟨hk.1.1.1.2.2.1, ⟨hk.1.1.1.2.2.2, ⟨hk.1.1.2, hk.1.2⟩⟩⟩⟩⟩)⟩, ⟨by (iterate 3 refine pf_ ?_ NB101_123.out); exact pkx B1⟩, ⟨by (iterate 3 refine pf_ ?_ NB102_123.out); exact pkx B2⟩, ⟨by (iterate 3 refine pf_ ?_ NB103_123.out); exact pkx B3⟩, ⟨by (iterate 3 refine pf_ ?_ NB121_123.out); exact pkx BK121⟩, ⟨by (iterate 3 apply pp_); exact pkx BK123; all_goals rfl⟩, ⟨bl_⟩⟩
              ·rw [if_neg c87] at H; have ⟨c87b0,c87b1⟩ := e0_ c87; (first | rw [c87b0] | (simp only [i64_w, i32_w]; rw [c87b0]) | skip)
               have H' := A_ H
               clear H; have hnb97 := NB121_101.out; have hnc97 := NB101_121.out; have hnb98 := NB121_102.out; have hnc98 := NB102_121.out; have hnb99 := NB121_103.out; have hnc99 := NB103_121.out; have hnb100 := NB121_123.out; have hnc100 := NB123_121.out
               have ⟨hcz101_0,hcz101_1,hcz101_2,hfz101_0,hfz101_1,hfz101_2⟩ := z3_ BK121
               go_wp2
               go_meet
               case rel => exact ⟨_, (true), sq_, H', ⟨by have := HJ2.out; have := HK2.out; have := HK3.out; first | omega | exact Nat.le_refl _⟩, ⟨by (with_reducible repeat (first | apply Kd.V_alloc | apply Kd.V_drewN | apply Kd.V_drew)); exact Kd.V_mono (Kd.V_far (p := ⟨gb123, 2, none⟩) (Kd.V_far (p := ⟨gb123, 1, none⟩) (Kd.V_far (p := ⟨gb123, 0, none⟩) (Kd.V_mono HO_61.out (fun k_ hk => (⟨hk, hk.2⟩ : _ ∧ k_ ≠ gb123))) (fun _ hk => hk.2) (.int .i64 ((rd_T26 l1_2 x63_3).f0))) (fun _ hk => hk.2) (.int .i64 ((rd_T26 l1_2 x63_3).f1))) (fun _ hk => hk.2) (.string ((rd_T26 l1_2 x63_3).f2))) (fun _ hk => ⟨hk.1.1.1.1, ⟨hk.1.1.1.2.1, ⟨hk.1.1.1.2.2.1, ⟨hk.1.1.1.2.2.2, ⟨hk.1.1.2, hk.1.2⟩⟩⟩⟩⟩)⟩, ⟨by (with_reducible repeat (first | apply Kd.V_alloc | apply Kd.V_drewN | apply Kd.V_drew)); exact Kd.V_mono (Kd.V_far (p := ⟨gb123, 2, none⟩) (Kd.V_far (p := ⟨gb123, 1, none⟩) (Kd.V_far (p := ⟨gb123, 0, none⟩) (Kd.V_mono HO_102002.out (fun k_ hk => (⟨hk, hk.2⟩ : _ ∧ k_ ≠ gb123))) (fun _ hk => hk.2) (.int .i64 ((rd_T26 l1_2 x63_3).f0))) (fun _ hk => hk.2) (.int .i64 ((rd_T26 l1_2 x63_3).f1))) (fun _ hk => hk.2) (.string ((rd_T26 l1_2 x63_3).f2))) (fun _ hk => ⟨hk.1.1.1.1, ⟨hk.1.1.1.2.1, ⟨hk.1.1.1.2.2.1, ⟨hk.1.1.1.2.2.2, ⟨hk.1.1.2, hk.1.2⟩⟩⟩⟩⟩)⟩, ⟨by (with_reducible repeat (first | apply Kd.V_alloc | apply Kd.V_drewN | apply Kd.V_drew)); exact Kd.V_mono (Kd.V_far (p := ⟨gb123, 2, none⟩) (Kd.V_far (p := ⟨gb123, 1, none⟩) (Kd.V_far (p := ⟨gb123, 0, none⟩) (Kd.V_mono HO_103002.out (fun k_ hk => (⟨hk, hk.2⟩ : _ ∧ k_ ≠ gb123))) (fun _ hk => hk.2) (.int .i64 ((rd_T26 l1_2 x63_3).f0))) (fun _ hk => hk.2) (.int .i64 ((rd_T26 l1_2 x63_3).f1))) (fun _ hk => hk.2) (.string ((rd_T26 l1_2 x63_3).f2))) (fun _ hk => ⟨hk.1.1.1.1, ⟨hk.1.1.1.2.1, ⟨hk.1.1.1.2.2.1, ⟨hk.1.1.1.2.2.2, ⟨hk.1.1.2, hk.1.2⟩⟩⟩⟩⟩)⟩, ⟨by (iterate 3 refine pf_ ?_ NB101_123.out); exact pkx B1⟩, ⟨by (iterate 3 refine pf_ ?_ NB102_123.out); exact pkx B2⟩, ⟨by (iterate 3 refine pf_ ?_ NB103_123.out); exact pkx B3⟩, ⟨by (iterate 3 refine pf_ ?_ NB121_123.out); exact pkx BK121⟩, ⟨by (iterate 3 apply pp_); exact pkx BK123; all_goals rfl⟩, ⟨bl_⟩⟩
             case rest =>
              clear HC72; (try clear c36); (try clear c45); (try clear c45b0); (try clear c68); (try clear c68b0); (try clear c69); (try clear c69b0); (try clear c70); (try clear c70b0); (try clear c71); (try clear c71b0)
              (try clear hcz39_0); (try clear hcz39_1); (try clear hcz39_2); (try clear hcz41_0); (try clear hcz41_1); (try clear hcz41_2); (try clear hcz67_0); (try clear hcz67_1); (try clear hcz67_2); (try clear hcz77_0); (try clear hcz77_1); (try clear hcz77_2); (try clear hcz80_0); (try clear hcz80_1); (try clear hcz80_2); (try clear hcz86_0); (try clear hcz86_1); (try clear hcz86_2); (try clear hfz39_0); (try clear hfz39_1); (try clear hfz39_2)
              (try clear hfz41_0); (try clear hfz41_1); (try clear hfz41_2); (try clear hfz67_0); (try clear hfz67_1); (try clear hfz67_2); (try clear hfz77_0); (try clear hfz77_1); (try clear hfz77_2); (try clear hfz80_0); (try clear hfz80_1); (try clear hfz80_2); (try clear hfz86_0); (try clear hfz86_1); (try clear hfz86_2); (try clear hx120_0); (try clear hx120_1); (try clear hx120_2); (try clear hx122_0); (try clear hx122_1); (try clear hx122_2); (try clear p120); (try clear p122)
              (try clear q120); (try clear q122); obtain ⟨kq, x80_71, rfl, HA, HJ71, HO_61, HO_102002, HO_103002, B1, B2, B3, BK121, BK123, HB⟩ := hcut
              cases kq with
              | zero => exact absurd HA.out (by simp [look_Products.j3])
              | succ kj71 =>
               have H := HA.out; clear HA
               simp only [look_Products.j3] at H
               by_cases c102 : x80_71 = true
               ·subst c102
                replace H := it_ H
                have H' := A_ H
                clear H
                go_wp2
                go_roundg kj71
                case measure => have := HJ2.out; have := HK2.out; have := HK3.out; have := HJ71.out; omega
                case rel => exact ⟨(x9_3), (wrap64 (x63_3 + 1)), (x104000_3), (x104001_3), (x104002_3), sq_, sq_, H', ⟨by have := HJ2.out; have := HK2.out; have := HK3.out; have := HJ71.out; omega⟩, ⟨by (with_reducible repeat (first | apply Kd.V_alloc | apply Kd.V_drewN | apply Kd.V_drew)); exact Kd.V_mono HO_61.out (fun _ hk => ⟨hk.1, ⟨hk.2.1, ⟨hk.2.2.1, hk.2.2.2.1⟩⟩⟩)⟩, ⟨by (with_reducible repeat (first | apply Kd.V_alloc | apply Kd.V_drewN | apply Kd.V_drew)); exact Kd.V_mono HO_102002.out (fun _ hk => ⟨hk.1, ⟨hk.2.1, ⟨hk.2.2.1, hk.2.2.2.1⟩⟩⟩)⟩, ⟨by (with_reducible repeat (first | apply Kd.V_alloc | apply Kd.V_drewN | apply Kd.V_drew)); exact Kd.V_mono HO_103002.out (fun _ hk => ⟨hk.1, ⟨hk.2.1, ⟨hk.2.2.1, hk.2.2.2.1⟩⟩⟩)⟩, ⟨pkx B1⟩, ⟨pkx B2⟩, ⟨pkx B3⟩, ⟨pbx HB⟩⟩
               ·replace c102 := Bool.eq_false_iff.mpr c102; subst c102
                obtain ⟨⟨t124, t125⟩, A103, H⟩ := bo_ (ie_ H); dsimp only at H; obtain ⟨⟨t126, t127⟩, A104, H⟩ := bo_ H; dsimp only at H
                by_cases c105 : t125 = true
                ·subst c105
                 replace H := it_ H
                 by_cases c106 : t127 = true
                 ·subst c106
                  replace H := it_ H
                  have H' := A_ H
                  clear H; have hnb107 := NB121_101.out; have hnc107 := NB101_121.out; have hnb108 := NB121_102.out; have hnc108 := NB102_121.out; have hnb109 := NB121_103.out; have hnc109 := NB103_121.out; have hnb110 := NB121_123.out; have hnc110 := NB123_121.out
                  have ⟨hcz111_0,hcz111_1,hcz111_2,hfz111_0,hfz111_1,hfz111_2⟩ := z3_ BK121; have hnb112 := NB123_101.out; have hnc112 := NB101_123.out; have hnb113 := NB123_102.out; have hnc113 := NB102_123.out; have hnb114 := NB123_103.out; have hnc114 := NB103_123.out
                  have ⟨hcz115_0,hcz115_1,hcz115_2,hfz115_0,hfz115_1,hfz115_2⟩ := z3_ BK123
                  go_wp2_with (first | ((with_reducible refine gate_callee (f:=37) rfl ?_); refine gL_ (some 86) rfl rfl Tryz.func37 rfl #[.int .i64 ((rd_T26 l0_2 x63_3).f1), .int .i64 ((rd_T26 l1_2 x63_3).f1)] rfl ?_; (with_reducible refine (dec_Mul.calls kj71 ((rd_T26 l0_2 x63_3).f1) ((rd_T26 l1_2 x63_3).f1) t124 true _ A103.out).mono ?_); rintro e w' ⟨rfl, ⟨nd, rfl⟩⟩; refine ⟨_, rfl, ?_⟩) | ((with_reducible refine gate_callee (f:=38) rfl ?_); refine gL_ (some 92) rfl rfl Tryz.func38 rfl #[.int .i64 x9_3, .int .i64 t124] rfl ?_; (with_reducible refine (dec_Add.calls kj71 x9_3 t124 t126 true _ A104.out).mono ?_); rintro e w' ⟨rfl, ⟨nd, rfl⟩⟩; refine ⟨_, rfl, ?_⟩))
                  go_roundg kj71
                  case measure => have := HJ2.out; have := HK2.out; have := HK3.out; have := HJ71.out; omega
                  case rel => exact ⟨(t126), (wrap64 (x63_3 + 1)), (x104000_3), (x104001_3), (x104002_3), (by first | rfl | (simp; done) | (simp [*]; done) | (cases t126 <;> simp; done)), sq_, H', ⟨by have := HJ2.out; have := HK2.out; have := HK3.out; have := HJ71.out; omega⟩, ⟨by (with_reducible repeat (first | apply Kd.V_alloc | apply Kd.V_drewN | apply Kd.V_drew)); exact Kd.V_mono HO_61.out (fun _ hk => ⟨hk.1, ⟨hk.2.1, ⟨hk.2.2.1, hk.2.2.2.1⟩⟩⟩)⟩, ⟨by (with_reducible repeat (first | apply Kd.V_alloc | apply Kd.V_drewN | apply Kd.V_drew)); exact Kd.V_mono HO_102002.out (fun _ hk => ⟨hk.1, ⟨hk.2.1, ⟨hk.2.2.1, hk.2.2.2.1⟩⟩⟩)⟩, ⟨by (with_reducible repeat (first | apply Kd.V_alloc | apply Kd.V_drewN | apply Kd.V_drew)); exact Kd.V_mono HO_103002.out (fun _ hk => ⟨hk.1, ⟨hk.2.1, ⟨hk.2.2.1, hk.2.2.2.1⟩⟩⟩)⟩, ⟨pkx B1⟩, ⟨pkx B2⟩, ⟨pkx B3⟩, ⟨pbx HB⟩⟩
                 ·replace c106 := Bool.eq_false_iff.mpr c106; subst c106
                  replace H := ie_ H
                  exact absurd H (by simp)
                ·replace c105 := Bool.eq_false_iff.mpr c105; subst c105
                 replace H := ie_ H
                 exact absurd H (by simp)
            ·rw [if_neg c71] at H
             exact absurd H (by simp)
           ·rw [if_neg c70] at H
            exact absurd H (by simp)
          ·rw [if_neg c69] at H
           exact absurd H (by simp)
         ·rw [if_neg c68] at H; have c68b0 := decide_eq_false c68; clear c68; obtain ⟨⟨t117, t118, t119⟩, A116, H⟩ := bo_ H; dsimp only at H
          simp only [Option.some.injEq, Prod.mk.injEq] at H
          obtain ⟨rfl, rfl, rfl⟩ := H
          go_wp2_with (first | ((with_reducible refine gate_callee (f:=16) rfl ?_); refine gL_ (some 105) rfl rfl Tryz.func16 rfl #[.int .i64 x9_3] rfl ?_; (with_reducible refine (value_Num.calls x9_3 t117 t118 t119 _ A116.out).mono ?_); rintro e w117 ⟨rfl, hb⟩; refine ⟨_, rfl, ?_⟩; replace HO_61 := A_ (Kd.V_below (va_ HO_61.out) hb); replace HO_102002 := A_ (Kd.V_below (va_ HO_102002.out) hb); replace HO_103002 := A_ (Kd.V_below (va_ HO_103002.out) hb); replace B1 := bb_ B1 hb; replace B2 := bb_ B2 hb; replace B3 := bb_ B3 hb; replace HB := bs_ HB hb; (try clear hb); (try clear hk); have hnb118 := N31.out; have hnc118 := N13.out; have hnb119 := N32.out; have hnc119 := N23.out; have ⟨hcz120_0,hcz120_1,hcz120_2,hfz120_0,hfz120_1,hfz120_2⟩ := z3_ B3))
          refine bodyPost_ret (results_cell_row rfl _ _ g3 26 #[.int .i64 t117, .int .i64 t118, .string t119] (0, 0) _ rfl (by refine pp_ (cs := #[.int .i64 t117, .int .i64 t118, .string x104002_3]) 2 ?_ rfl; refine blk_put (cs := #[.int .i64 t117, .int .i64 x104001_3, .string x104002_3]) ?_ 1 _ rfl; refine blk_put (cs := #[.int .i64 x104000_3, .int .i64 x104001_3, .string x104002_3]) ?_ 0 _ rfl; exact pkx B3) Tryz.underlying26 rfl (by kernel_rfl)) rfl ?_
          exact fi_ bl_

end Go.Proofs.YtejkoenlfcghbaaGreat.X
