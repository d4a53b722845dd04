/- Contracts of the functions that the law LookCounts reaches, and what they answer (a session's own texts, joined; part 5). -/
import Derived.Test.YtejkoenlfcghbaaGreatBLookCounts4
set_option maxHeartbeats 8000000
set_option maxRecDepth 100000
namespace Go.Proofs.YtejkoenlfcghbaaGreat.X
open Go.RowKit Go.Proofs.YtejkoenlfcghbaaGreatW.PrintWords Go.Proofs.YtejkoenlfcghbaaGreatW.PrintLast Go.Proofs.YtejkoenlfcghbaaGreatW.PrintMore
attribute [local go_sem] max2_int min2_int max_two min_two max_three min_three max_four min_four
set_option linter.unusedVariables false
set_option linter.unusedSimpArgs false
attribute [local go_sem high] eqA26
def oculuslaw18_alive.j0 : Nat → Int → Bool → Int → Int → List (S26) → Option (Bool)
 | 0, _, _, _, _, _ => none
 | k + 1, x2, x3, x117000, x117001, x117002 => if x3 = true then (if x2 = 3 then ((value_Str.f (⟨#[98]⟩ : ByteArray)).bind fun bt122 => ((look_Down.f k bt122.1 bt122.2.1 bt122.2.2 x117000 x117001 x117002 2).bind fun bt125 => ((value_Num.f 25000).bind fun bt128 => (if (bt125.1 == bt128.1 && (bt125.2.1 == bt128.2.1 && (bt125.2.2.toList == bt128.2.2.toList))) = true then ((value_Num.f 10000).bind fun bt131 => ((look_Across.f k bt131.1 bt131.2.1 bt131.2.2 x117000 x117001 x117002 2).bind fun bt134 => ((value_Num.f 25000).bind fun bt137 => (if (bt134.1 == bt137.1 && (bt134.2.1 == bt137.2.1 && (bt134.2.2.toList == bt137.2.2.toList))) = true then ((value_Str.f (⟨#[62, 61, 49]⟩ : ByteArray)).bind fun bt140 => ((look_CountIf.f k x117000 x117001 x117002 bt140.1 bt140.2.1 bt140.2.2).bind fun bt143 => ((value_Num.f 20000).bind fun bt146 => (if (bt143.1 == bt146.1 && (bt143.2.1 == bt146.2.1 && (bt143.2.2.toList == bt146.2.2.toList))) = true then ((value_Str.f (⟨#[60, 50]⟩ : ByteArray)).bind fun bt149 => ((look_SumIf.f k x117000 x117001 x117002 bt149.1 bt149.2.1 bt149.2.2).bind fun bt152 => ((value_Num.f 10000).bind fun bt155 => (if (bt152.1 == bt155.1 && (bt152.2.1 == bt155.2.1 && (bt152.2.2.toList == bt155.2.2.toList))) = true then ((look_Products.f k x117000 x117001 x117002 x117000 x117001 x117002).bind fun bt158 => ((value_Num.f 72500).bind fun bt161 => (some (bt158.1 == bt161.1 && (bt158.2.1 == bt161.2.1 && (bt158.2.2.toList == bt161.2.2.toList)))))) else (none))))) else (none))))) else (none))))) else (none))))) else (none)) else (none)
def oculuslaw18_alive.f (k : Nat)  : Option (Bool) := (value_Str.f (⟨#[97]⟩ : ByteArray)).bind fun bt101 => ((value_Num.f 10000).bind fun bt104 => ((value_Str.f (⟨#[98]⟩ : ByteArray)).bind fun bt107 => ((value_Num.f 25000).bind fun bt110 => ((some (([(⟨bt101.1, bt101.2.1, bt101.2.2⟩ : S26), (⟨bt104.1, bt104.2.1, bt104.2.2⟩ : S26), (⟨bt107.1, bt107.2.1, bt107.2.2⟩ : S26), (⟨bt110.1, bt110.2.1, bt110.2.2⟩ : S26)] : List (S26)) : List (S26))).bind fun y113 => ((value_Str.f (⟨#[98]⟩ : ByteArray)).bind fun bt117 => ((look_Match.f k bt117.1 bt117.2.1 bt117.2.2 2 2 y113).bind fun bt120 => (oculuslaw18_alive.j0 k bt120.1 bt120.2 2 2 y113)))))))
theorem oculuslaw18_alive.mono_l : ∀ k, (∀ y0 y1 y2 y3 y4, LeO (oculuslaw18_alive.j0 k y0 y1 y2 y3 y4) (oculuslaw18_alive.j0 (k + 1) y0 y1 y2 y3 y4))
 | 0 => fun _ _ _ _ _ r h => by simp [oculuslaw18_alive.j0] at h
 | k + 1 => by
  have ih0 := oculuslaw18_alive.mono_l k
  ·intro y0 y1 y2 y3 y4
   unfold oculuslaw18_alive.j0
   have m0 := @look_Across.mono; have m1 := @look_CountIf.mono; have m2 := @look_Down.mono; have m3 := @look_Match.mono; have m4 := @look_Products.mono; have m5 := @look_SumIf.mono; exact mo_
theorem oculuslaw18_alive.mono : ∀ k, LeO (oculuslaw18_alive.f k ) (oculuslaw18_alive.f (k + 1) ) := by
 intro  k; have ih0 := oculuslaw18_alive.mono_l k
 unfold oculuslaw18_alive.f
 have m0 := @look_Across.mono; have m1 := @look_CountIf.mono; have m2 := @look_Down.mono; have m3 := @look_Match.mono; have m4 := @look_Products.mono; have m5 := @look_SumIf.mono; exact mo_
def oculuslaw18_alive.T2 : Bool × List (List Nat × List Nat) := (true, [([], []), ([], []), ([0, 1, 0], [0, 1]), ([2], [2]), ([3], [3]), ([3], [3]), ([4, 2, 0, 1, 2, 3, 4], [4]), ([5, 6, 0, 1, 2, 3, 4, 5, 6], [5])])
def oculuslaw18_alive.B2 : List Nat := [0, 0, 3, 7, 15, 15, 31, 127]
theorem oculuslaw18_alive.tab2 : rtab .any (opsOf Tryz.f6 2) = oculuslaw18_alive.T2 := by kernel_rfl
theorem oculuslaw18_alive.bits2 : waitsOk oculuslaw18_alive.T2.2 oculuslaw18_alive.B2 = true := by kernel_rfl
def oculuslaw18_alive.T3 : Bool × List (List Nat × List Nat) := (true, [([], []), ([0], [0]), ([1], [1]), ([2, 1], [1, 2]), ([1, 3], [1, 3]), ([4, 1], [4]), ([5, 5], [5]), ([5], [5]), ([6, 7, 6, 5], [5, 6, 7]), ([8, 5], [5]), ([8, 9, 5], [5, 8, 9]), ([5, 10], [5, 10]), ([11, 9], [11]), ([12, 12], [12]), ([12], [12]), ([13, 14, 13, 12], [12, 13, 14]), ([15, 12], [12]), ([15, 16, 12], [12, 15, 16]), ([12, 17], [12, 17]), ([18, 16], [18]), ([19], [19]), ([19, 19], [19]), ([20, 21, 21, 19], [19, 20, 21]), ([22, 19], [19]), ([22, 23, 19], [19, 22, 23]), ([19, 24], [19, 24]), ([25, 23], [25]), ([26], [26]), ([26, 26], [26]), ([27, 28, 28, 26], [26, 27, 28]), ([29, 26], [26]), ([29, 30, 26], [26, 29, 30]), ([26, 31], [26, 31]), ([32, 30], [32]), ([33], [33]), ([33], [33]), ([34, 35, 33, 33], [33, 34, 35]), ([36, 33], [33]), ([36, 37, 33], [33, 36, 37]), ([33, 38], [33, 38]), ([39, 37, 0, 1, 2, 3, 4, 5, 6, 7, 8, 9, 10, 11, 12, 13, 14, 15, 16, 17, 18, 19, 20, 21, 22, 23, 24, 25, 26, 27, 28, 29, 30, 31, 32, 33, 34, 35, 36, 37, 38, 39], [39])])
def oculuslaw18_alive.B3 : List Nat := [0, 1, 3, 7, 15, 31, 63, 63, 255, 511, 1023, 2047, 4095, 8191, 8191, 32767, 65535, 131071, 262143, 524287, 1048575, 1048575, 4194303, 8388607, 16777215, 33554431, 67108863, 134217727, 134217727, 536870911, 1073741823, 2147483647, 4294967295, 8589934591, 17179869183, 17179869183, 68719476735, 137438953471, 274877906943, 549755813887, 1099511627775]
theorem oculuslaw18_alive.tab3 : rtab .any (opsOf Tryz.f6 3) = oculuslaw18_alive.T3 := by kernel_rfl
theorem oculuslaw18_alive.bits3 : waitsOk oculuslaw18_alive.T3.2 oculuslaw18_alive.B3 = true := by kernel_rfl
theorem oculuslaw18_alive.calls (k : Nat)  (r : Bool) (w : World) (h : oculuslaw18_alive.f k  = some r) :
  Calls Tryz.prog 6 #[] w fun e w' => e = .returned (.bool r) ∧ Below w.heap.size w w' := by
 have hu24 := Tryz.underlying24; have HB := A_ (Below.refl w.heap.size w)
 have H : ((value_Str.f (⟨#[97]⟩ : ByteArray)).bind fun bt101 => ((value_Num.f 10000).bind fun bt104 => ((value_Str.f (⟨#[98]⟩ : ByteArray)).bind fun bt107 => ((value_Num.f 25000).bind fun bt110 => ((some (([(⟨bt101.1, bt101.2.1, bt101.2.2⟩ : S26), (⟨bt104.1, bt104.2.1, bt104.2.2⟩ : S26), (⟨bt107.1, bt107.2.1, bt107.2.2⟩ : S26), (⟨bt110.1, bt110.2.1, bt110.2.2⟩ : S26)] : List (S26)) : List (S26))).bind fun y113 => ((value_Str.f (⟨#[98]⟩ : ByteArray)).bind fun bt117 => ((look_Match.f k bt117.1 bt117.2.1 bt117.2.2 2 2 y113).bind fun bt120 => (oculuslaw18_alive.j0 k bt120.1 bt120.2 2 2 y113)))))))) = some r := h
 clear h; obtain ⟨⟨t101, t102, t103⟩, A1, H⟩ := bo_ H; dsimp only at H; obtain ⟨⟨t104, t105, t106⟩, A2, H⟩ := bo_ H; dsimp only at H; obtain ⟨⟨t107, t108, t109⟩, A3, H⟩ := bo_ H; dsimp only at H; obtain ⟨⟨t110, t111, t112⟩, A4, H⟩ := bo_ H; dsimp only at H; obtain ⟨y113, hy113⟩ : ∃ y_ : List (S26), y_ = (([(⟨t101, t102, t103⟩ : S26), (⟨t104, t105, t106⟩ : S26), (⟨t107, t108, t109⟩ : S26), (⟨t110, t111, t112⟩ : S26)] : List (S26))) := ⟨_, rfl⟩
 replace H : ((value_Str.f (⟨#[98]⟩ : ByteArray)).bind fun bt117 => ((look_Match.f k bt117.1 bt117.2.1 bt117.2.2 2 2 y113).bind fun bt120 => (oculuslaw18_alive.j0 k bt120.1 bt120.2 2 2 y113))) = some r := by first | (rw [hy113]; with_reducible exact H) | (have H2_ := (Option.bind_some _ _).symm.trans H; rw [hy113]; with_reducible exact H2_) | (have H2_ := (Option.bind_some _ _).symm.trans H; with_reducible exact H2_) | with_reducible exact H | (rw [hy113]; exact H) | exact H
 have Ny113 := A_ hy113; clear hy113; have HC5 := A_ H; clear H
 go_enter Tryz.func6, Tryz.ntmps6
 go_upto_region 2 with (first | ((with_reducible refine gate_callee (f:=13) rfl ?_); refine gL_ (some 4) rfl rfl Tryz.func13 rfl #[.string (⟨#[97]⟩ : ByteArray)] rfl ?_; (with_reducible refine (value_Str.calls (⟨#[97]⟩ : ByteArray) t101 t102 t103 _ A1.out).mono ?_); rintro e w6 ⟨rfl, hb⟩; refine ⟨_, rfl, ?_⟩; replace HB := bs_ HB hb; ) | ((with_reducible refine gate_callee (f:=16) rfl ?_); refine gL_ (some 5) rfl rfl Tryz.func16 rfl #[.int .i64 10000] rfl ?_; (with_reducible refine (value_Num.calls 10000 t104 t105 t106 _ A2.out).mono ?_); rintro e w7 ⟨rfl, hb⟩; refine ⟨_, rfl, ?_⟩; replace HB := bs_ HB hb; ) | ((with_reducible refine gate_callee (f:=13) rfl ?_); refine gL_ (some 6) rfl rfl Tryz.func13 rfl #[.string (⟨#[98]⟩ : ByteArray)] rfl ?_; (with_reducible refine (value_Str.calls (⟨#[98]⟩ : ByteArray) t107 t108 t109 _ A3.out).mono ?_); rintro e w8 ⟨rfl, hb⟩; refine ⟨_, rfl, ?_⟩; replace HB := bs_ HB hb; ) | ((with_reducible refine gate_callee (f:=16) rfl ?_); refine gL_ (some 7) rfl rfl Tryz.func16 rfl #[.int .i64 25000] rfl ?_; (with_reducible refine (value_Num.calls 25000 t110 t111 t112 _ A4.out).mono ?_); rintro e w9 ⟨rfl, hb⟩; refine ⟨_, rfl, ?_⟩; replace HB := bs_ HB hb; ) | ((with_reducible refine gd_ 8 ?_); refine Kd.R_lit k26 _ 26 ?hg (N:=8) ?hd (xs := ([(⟨t101, t102, t103⟩ : S26), (⟨t104, t105, t106⟩ : S26), (⟨t107, t108, t109⟩ : S26), (⟨t110, t111, t112⟩ : S26)] : List (S26))) (inner := [.int .i64 t101, .int .i64 t102, .string t103, .int .i64 t104, .int .i64 t105, .string t106, .int .i64 t107, .int .i64 t108, .string t109, .int .i64 t110, .int .i64 t111, .string t112]) (ok := fun _ => True) (okp := fun _ => True) ?hr ?hp (fun _ hk => hk) trivial (Below.refl _ _) (Nat.le_refl _) (by simp) ?_; (case hd => rfl); (case hg => rfl); (case hr => first | (go_simp; done) | (go_simp; rfl)); (case hp => exact (Reps.c3 (show Kd.M k26 _ _ _ (⟨t101, t102, t103⟩ : S26) [.int .i64 t101, .int .i64 t102, .string t103] from (k26_mkM _ _ _ (⟨t101, t102, t103⟩ : S26) )) (Reps.c3 (show Kd.M k26 _ _ _ (⟨t104, t105, t106⟩ : S26) [.int .i64 t104, .int .i64 t105, .string t106] from (k26_mkM _ _ _ (⟨t104, t105, t106⟩ : S26) )) (Reps.c3 (show Kd.M k26 _ _ _ (⟨t107, t108, t109⟩ : S26) [.int .i64 t107, .int .i64 t108, .string t109] from (k26_mkM _ _ _ (⟨t107, t108, t109⟩ : S26) )) (Reps.c3 (show Kd.M k26 _ _ _ (⟨t110, t111, t112⟩ : S26) [.int .i64 t110, .int .i64 t111, .string t112] from (k26_mkM _ _ _ (⟨t110, t111, t112⟩ : S26) )) (Reps.none _ _)))))); intro v114 w10 ho11 hb hg_ hnew_; clear hg_ hnew_; (first | rw [← Ny113.out] at ho11 | (simp only [Int.reduceToNat] at ho11; rw [← Ny113.out] at ho11)); have HO115 := A_ (Kd.R_lower ho11 (below_size (pbx HB))); replace HB := bs_ HB hb; clear hb ho11; obtain ⟨Ao12, co12, eo12⟩ := Kd.R_slice HO115.out; subst eo12) | ((with_reducible refine gd_ 1 ?_); refine be_ (N:=1) (cs := #[.int .i64 0, .int .i64 0, .slice none 0 0]) (t:=24) ?_; intro gb116 hg w13 hbox hb; have BK116 := A_ (hbox); have GW116 := hs_ HB hg; have GE116 := hs_ HB hg; replace HO115 := A_ (Kd.R_below (ra_ HO115.out) hb); replace HB := bs_ HB hb; clear hb hbox hg; have ⟨hcz14_0,hcz14_1,hcz14_2,hfz14_0,hfz14_1,hfz14_2⟩ := z3_ BK116))
 (try simp only [q_])
 go_cut [2, 3] (fun v2 v3 wc => ∃ (kq : Nat) (x2_4 : Int) (x3_4 : Bool), v2 = .int .i64 x2_4 ∧ v3 = .bool x3_4 ∧ Aside0 (oculuslaw18_alive.j0 kq x2_4 x3_4 2 2 y113 = some r) ∧ Aside0 (kq ≤ k) ∧ Aside0 (Kd.R k26 26 wc w.heap.size (fun _ => True) (.slice Ao12 y113.length co12) y113) ∧ Aside0 (wc.heap[gb116]? = some (.cells #[.int .i64 2, .int .i64 2, (.slice Ao12 y113.length co12)] 24 (0, 0))) ∧ Aside0 (Below w.heap.size w wc))
 case first =>
  have H := HC5.out; clear HC5; obtain ⟨⟨t117, t118, t119⟩, A15, H⟩ := bo_ H; dsimp only at H; obtain ⟨⟨t120, t121⟩, A16, H⟩ := bo_ H; dsimp only at H
  have H' := A_ H
  clear H
  try go_wp2
  have n0_ : Aside0 (Kd.R k26 26 (((w13.setCell ⟨gb116, 0, none⟩ (.int .i64 2)).setCell ⟨gb116, 1, none⟩ (.int .i64 2)).setCell ⟨gb116, 2, none⟩ (.slice Ao12 y113.length co12)) w.heap.size (fun _ => True) (.slice Ao12 y113.length co12) y113) := ⟨by (with_reducible repeat (first | apply Kd.R_alloc | apply Kd.R_drewN | apply Kd.R_drew)); exact Kd.R_mono (Kd.R_far (p := ⟨gb116, 2, none⟩) (Kd.R_far (p := ⟨gb116, 1, none⟩) (Kd.R_far (p := ⟨gb116, 0, none⟩) (Kd.R_types HO115.out BK116.out (by decide)) (fun _ hk => hk.2) (.int .i64 2)) (fun _ hk => hk.2) (.int .i64 2)) (fun _ hk => hk.2) (.slice Ao12 y113.length co12)) (fun _ hk => trivial)⟩; have n1_ : Aside0 ((((w13.setCell ⟨gb116, 0, none⟩ (.int .i64 2)).setCell ⟨gb116, 1, none⟩ (.int .i64 2)).setCell ⟨gb116, 2, none⟩ (.slice Ao12 y113.length co12)).heap[gb116]? = some (.cells #[.int .i64 2, .int .i64 2, .slice Ao12 y113.length co12] 24 (0, 0))) := ⟨by refine pp_ (cs := #[.int .i64 2, .int .i64 2, .slice none 0 0]) 2 ?_ rfl; refine blk_put (cs := #[.int .i64 2, .int .i64 0, .slice none 0 0]) ?_ 1 _ rfl; refine blk_put (cs := #[.int .i64 0, .int .i64 0, .slice none 0 0]) ?_ 0 _ rfl; exact pkx BK116⟩
  have n2_ : Aside0 (Below w.heap.size w (((w13.setCell ⟨gb116, 0, none⟩ (.int .i64 2)).setCell ⟨gb116, 1, none⟩ (.int .i64 2)).setCell ⟨gb116, 2, none⟩ (.slice Ao12 y113.length co12))) := ⟨bl_⟩; (try clear HO115); (try clear BK116); (try clear HB)
  generalize (((w13.setCell ⟨gb116, 0, none⟩ (.int .i64 2)).setCell ⟨gb116, 1, none⟩ (.int .i64 2)).setCell ⟨gb116, 2, none⟩ (.slice Ao12 y113.length co12)) = w17 at n0_ n1_ n2_ ⊢; have HO115 := n0_; have BK116 := n1_; have HB := n2_; clear n0_ n1_ n2_; (try (rw [drewN_self w17]; generalize hq_ : World.drewN w17 _ = w17; have n0_ : Aside0 (Kd.R k26 26 w17 w.heap.size (fun _ => True) (.slice Ao12 y113.length co12) y113) := ⟨by rw [← hq_]; exact (ra_ HO115.out)⟩; have n1_ : Aside0 (w17.heap[gb116]? = some (.cells #[.int .i64 2, .int .i64 2, .slice Ao12 y113.length co12] 24 (0, 0))) := ⟨by rw [← hq_]; exact (pkx BK116)⟩; have n2_ : Aside0 (Below w.heap.size w w17) := ⟨by rw [← hq_]; exact (pbx HB)⟩; clear HO115 BK116 HB hq_; have HO115 := n0_; have BK116 := n1_; have HB := n2_; clear n0_ n1_ n2_))
  replace HO115 := A_ (Kd.R_drew HO115.out); replace BK116 := A_ (blk_drew BK116.out); replace HB := A_ (below_drew1 HB.out)
  refine start_ (n:=8) (S := fun w' => w'.cell? ⟨gb116, 0, none⟩ = some (.int .i64 2) ∧ w'.cell? ⟨gb116, 1, none⟩ = some (.int .i64 2) ∧ w'.cell? ⟨gb116, 2, none⟩ = some (.slice Ao12 y113.length co12)) (ds := []) #[F,F,F,F,F,F,F,F] (by kernel_rfl) rfl rfl ⟨bc_ BK116 0 rfl, bc_ BK116 1 rfl, bc_ BK116 2 rfl⟩ (fun hHeld => ?_); refine with_tabW oculuslaw18_alive.tab2 oculuslaw18_alive.bits2 (fun HT_ HW_ => ?_)
  generalize w17.drew = w18 at HO115 BK116 HB hHeld ⊢; refine take_ (i:=1) (N:=some 12) (v:=?_) (a':=?_) ⟨m_ 8 2⟩ rfl rfl (tw_ HT_ HW_) (fun _ _ _ h=>h) (Or.inl ⟨rfl, ?_⟩) hHeld ?_ ?_; rotate_left
  ·rintro w' ⟨s0, s1, s2⟩; go_simp; with_reducible rfl
  rotate_left
  ·simp only [q_, i64_w, i32_w]; rfl
  refine one_ (i:=0) (N:=some 11) ⟨m_ 8 3⟩ rfl rfl (oo_ HT_) (by decide) (fun K hK => ?_); refine goes_ Tryz.func13 (by kernel_rfl) rfl #[.string (⟨#[98]⟩ : ByteArray)] (by rfl) rfl rfl ha_ ?_; with_reducible refine (value_Str.calls (⟨#[98]⟩ : ByteArray) t117 t118 t119 _ A15.out).mono ?_; rintro e w19 ⟨rfl, hb⟩; refine ⟨_, rfl, ?_⟩
  replace HO115 := A_ (Kd.R_below (ra_ HO115.out) hb); replace BK116 := bb_ BK116 hb; replace HB := bs_ HB hb
  (try clear hb); (try clear hk); refine hK.out _ _ ⟨bc_ BK116 0 rfl, bc_ BK116 1 rfl, bc_ BK116 2 rfl⟩ (fun hHeld => ?_); clear hK K; refine norm_ (a':=?_) ?_ ?_; rotate_left
  ·show Act.put _ (some 11) _ = _; simp only [q_, i64_w, i32_w]; rfl
  refine one_ (i:=2) (N:=some 13) ⟨m_ 8 7⟩ rfl rfl (oo_ HT_) (by decide) (fun K hK => ?_); refine goes_ Tryz.func17 (by kernel_rfl) rfl #[.agg #[.int .i64 t117, .int .i64 t118, .string t119], .agg #[.int .i64 2, .int .i64 2, .slice Ao12 y113.length co12]] (by rfl) rfl rfl ha_ ?_; with_reducible refine (look_Match.calls k t117 t118 t119 2 2 _ _ y113 t120 t121 _ ?side1 ?side2 A16.out).mono ?_; (case side1 => exact ca_ (Kd.R_reads' HO115.out).2.2); (case side2 => exact (Kd.R_reads' HO115.out).2.1); rintro e w20 ⟨rfl, hb⟩; refine ⟨_, rfl, ?_⟩
  replace HO115 := A_ (Kd.R_below (ra_ HO115.out) hb); replace BK116 := bb_ BK116 hb; replace HB := bs_ HB hb
  (try clear hb); (try clear hk); refine hK.out _ _ ⟨bc_ BK116 0 rfl, bc_ BK116 1 rfl, bc_ BK116 2 rfl⟩ (fun hHeld => ?_); clear hK K; refine norm_ (a':=?_) ?_ ?_; rotate_left
  ·show Act.put _ (some 13) _ = _; simp only [q_, i64_w, i32_w]; rfl
  refine pure_ (i:=3) (N:=some 10) (v:=?_) (a':=?_) ⟨m_ 8 15⟩ rfl rfl (ao_ HT_) (fun _ _ _ h=>h) (Or.inl ⟨rfl, ?_⟩) ?_ ?_; rotate_left
  ·intro w'; go_simp; with_reducible rfl
  rotate_left
  ·simp only [q_, i64_w, i32_w]; rfl
  refine pure_ (i:=4) (N:=some 14) (v:=?_) (a':=?_) ⟨m_ 8 31⟩ rfl rfl (ao_ HT_) (fun _ _ _ h=>h) (Or.inl ⟨rfl, ?_⟩) ?_ ?_; rotate_left
  ·intro w'; go_simp; with_reducible rfl
  rotate_left
  ·simp only [q_, i64_w, i32_w]; rfl
  refine pure_ (i:=5) (N:=some 15) (v:=?_) (a':=?_) ⟨m_ 8 63⟩ rfl rfl (ao_ HT_) (fun _ _ _ h=>h) (Or.inl ⟨rfl, ?_⟩) ?_ ?_; rotate_left
  ·intro w'; go_simp; with_reducible rfl
  rotate_left
  ·simp only [q_, i64_w, i32_w]; rfl
  refine pure_ (i:=6) (N:=some 2) (v:=?_) (a':=?_) ⟨m_ 8 127⟩ rfl rfl (ao_ HT_) (fun _ _ _ h=>h) (Or.inl ⟨rfl, ?_⟩) ?_ ?_; rotate_left
  ·intro w'; go_simp; with_reducible rfl
  rotate_left
  ·simp only [q_, i64_w, i32_w]; rfl
  refine pure_ (i:=7) (N:=some 3) (v:=?_) (a':=?_) ⟨m_ 8 255⟩ rfl rfl (ao_ HT_) (fun _ _ _ h=>h) (Or.inl ⟨rfl, ?_⟩) ?_ ?_; rotate_left
  ·intro w'; go_simp; with_reducible rfl
  rotate_left
  ·simp only [q_, i64_w, i32_w]; rfl
  refine done_ (done_of HT_.out (by kernel_rfl)) ?_
  try go_wp2
  go_meet
  case rel => exact ⟨_, (t120), (t121), (by first | rfl | (simp; done) | (simp [*]; done) | (cases t120 <;> simp; done)), (by first | rfl | (simp; done) | (simp [*]; done) | (cases t121 <;> simp; done)), H', le_, ⟨ra_ HO115.out⟩, ⟨pkx BK116⟩, ⟨pbx HB⟩⟩
 case rest =>
  clear HC5; (try clear c3); (try clear hcz14_0); (try clear hcz14_1); (try clear hcz14_2); (try clear hfz14_0); (try clear hfz14_1); (try clear hfz14_2); obtain ⟨kq, x2_4, x3_4, rfl, rfl, HA, HJ4, HO_117002, BK116, HB⟩ := hcut
  cases kq with
  | zero => exact absurd HA.out (by simp [oculuslaw18_alive.j0])
  | succ kj4 =>
   have H := HA.out; clear HA
   simp only [oculuslaw18_alive.j0] at H
   replace H := ib_ H; rcases H with ⟨rfl,H⟩|⟨rfl,H⟩
   ·by_cases c22 : x2_4 = 3
    ·rw [if_pos c22] at H; have ⟨c22b0,c22b1⟩ := e1_ c22; clear c22; obtain ⟨⟨t122, t123, t124⟩, A23, H⟩ := bo_ H; dsimp only at H; obtain ⟨⟨t125, t126, t127⟩, A24, H⟩ := bo_ H; dsimp only at H; obtain ⟨⟨t128, t129, t130⟩, A25, H⟩ := bo_ H; dsimp only at H
     by_cases c26 : (t125 == t128 && (t126 == t129 && (t127.toList == t130.toList))) = true
     ·rw [if_pos c26] at H
      have c26b0 : (t125 == t128 && (t126 == t129 && (t127.toList == t130.toList))) = true := c26
      (try (have c26b1 : decide (t125 = t128 && (t126 == t129 && (t127.toList == t130.toList))) = true := by simpa using c26)); (try (have c26b2 : (t125 == t128 && (t126 == t129 && (t127.toList == t130.toList))) = true := by simpa using c26))
      clear c26; obtain ⟨⟨t131, t132, t133⟩, A27, H⟩ := bo_ H; dsimp only at H; obtain ⟨⟨t134, t135, t136⟩, A28, H⟩ := bo_ H; dsimp only at H; obtain ⟨⟨t137, t138, t139⟩, A29, H⟩ := bo_ H; dsimp only at H
      by_cases c30 : (t134 == t137 && (t135 == t138 && (t136.toList == t139.toList))) = true
      ·rw [if_pos c30] at H
       have c30b0 : (t134 == t137 && (t135 == t138 && (t136.toList == t139.toList))) = true := c30
       (try (have c30b1 : decide (t134 = t137 && (t135 == t138 && (t136.toList == t139.toList))) = true := by simpa using c30)); (try (have c30b2 : (t134 == t137 && (t135 == t138 && (t136.toList == t139.toList))) = true := by simpa using c30))
       clear c30; obtain ⟨⟨t140, t141, t142⟩, A31, H⟩ := bo_ H; dsimp only at H; obtain ⟨⟨t143, t144, t145⟩, A32, H⟩ := bo_ H; dsimp only at H; obtain ⟨⟨t146, t147, t148⟩, A33, H⟩ := bo_ H; dsimp only at H
       by_cases c34 : (t143 == t146 && (t144 == t147 && (t145.toList == t148.toList))) = true
       ·rw [if_pos c34] at H
        have c34b0 : (t143 == t146 && (t144 == t147 && (t145.toList == t148.toList))) = true := c34
        (try (have c34b1 : decide (t143 = t146 && (t144 == t147 && (t145.toList == t148.toList))) = true := by simpa using c34)); (try (have c34b2 : (t143 == t146 && (t144 == t147 && (t145.toList == t148.toList))) = true := by simpa using c34))
        clear c34; obtain ⟨⟨t149, t150, t151⟩, A35, H⟩ := bo_ H; dsimp only at H; obtain ⟨⟨t152, t153, t154⟩, A36, H⟩ := bo_ H; dsimp only at H; obtain ⟨⟨t155, t156, t157⟩, A37, H⟩ := bo_ H; dsimp only at H
        by_cases c38 : (t152 == t155 && (t153 == t156 && (t154.toList == t157.toList))) = true
        ·rw [if_pos c38] at H
         have c38b0 : (t152 == t155 && (t153 == t156 && (t154.toList == t157.toList))) = true := c38
         (try (have c38b1 : decide (t152 = t155 && (t153 == t156 && (t154.toList == t157.toList))) = true := by simpa using c38)); (try (have c38b2 : (t152 == t155 && (t153 == t156 && (t154.toList == t157.toList))) = true := by simpa using c38))
         clear c38; obtain ⟨⟨t158, t159, t160⟩, A39, H⟩ := bo_ H; dsimp only at H; obtain ⟨⟨t161, t162, t163⟩, A40, H⟩ := bo_ H; dsimp only at H; obtain rfl := Option.some.inj H
         try go_wp2
         (try (rw [drewN_self wc]; generalize hq_ : World.drewN wc _ = wc; have n0_ : Aside0 (Kd.R k26 26 wc w.heap.size (fun _ => True) (.slice Ao12 y113.length co12) y113) := ⟨by rw [← hq_]; exact (ra_ HO_117002.out)⟩; have n1_ : Aside0 (wc.heap[gb116]? = some (.cells #[.int .i64 2, .int .i64 2, .slice Ao12 y113.length co12] 24 (0, 0))) := ⟨by rw [← hq_]; exact (pkx BK116)⟩; have n2_ : Aside0 (Below w.heap.size w wc) := ⟨by rw [← hq_]; exact (pbx HB)⟩; clear HO_117002 BK116 HB hq_; have HO_117002 := n0_; have BK116 := n1_; have HB := n2_; clear n0_ n1_ n2_))
         replace HO_117002 := A_ (Kd.R_drew HO_117002.out); replace BK116 := A_ (blk_drew BK116.out); replace HB := A_ (below_drew1 HB.out)
         refine start_ (n:=41) (S := fun w' => w'.cell? ⟨gb116, 0, none⟩ = some (.int .i64 2) ∧ w'.cell? ⟨gb116, 1, none⟩ = some (.int .i64 2) ∧ w'.cell? ⟨gb116, 2, none⟩ = some (.slice Ao12 y113.length co12)) (ds := []) #[F,F,F,F,F,F,F,F,F,F,F,F,F,F,F,F,F,F,F,F,F,F,F,F,F,F,F,F,F,F,F,F,F,F,F,F,F,F,F,F,F] (by kernel_rfl) rfl rfl ⟨bc_ BK116 0 rfl, bc_ BK116 1 rfl, bc_ BK116 2 rfl⟩ (fun hHeld => ?_); refine with_tabW oculuslaw18_alive.tab3 oculuslaw18_alive.bits3 (fun HT_ HW_ => ?_)
         generalize wc.drew = w41 at HO_117002 BK116 HB hHeld ⊢; refine pure_ (i:=0) (N:=some 16) (v:=?_) (a':=?_) ⟨m_ 41 1⟩ rfl rfl (ao_ HT_) (fun _ _ _ h=>h) (Or.inl ⟨rfl, ?_⟩) ?_ ?_; rotate_left
         ·intro w'; go_simp; with_reducible rfl
         rotate_left
         ·simp only [q_, i64_w, i32_w]; rfl
         refine pure_ (i:=1) (N:=some 17) (v:=?_) (a':=?_) ⟨m_ 41 3⟩ rfl rfl (ao_ HT_) (fun _ _ _ h=>h) (Or.inl ⟨rfl, ?_⟩) ?_ ?_; rotate_left
         ·intro w'; go_simp; with_reducible rfl
         rotate_left
         ·simp only [q_, i64_w, i32_w]; rfl
         refine pure_ (i:=2) (N:=some 18) (v:=?_) (a':=?_) ⟨m_ 41 7⟩ rfl rfl (ao_ HT_) (fun _ _ _ h=>h) (Or.inl ⟨rfl, ?_⟩) ?_ ?_; rotate_left
         ·intro w'; go_simp; with_reducible rfl
         rotate_left
         ·simp only [q_, i64_w, i32_w]; rfl
         refine pure_ (i:=3) (N:=some 19) (v:=?_) (a':=?_) ⟨m_ 41 15⟩ rfl rfl (ao_ HT_) (fun _ _ _ h=>h) (Or.inl ⟨rfl, ?_⟩) ?_ ?_; rotate_left
         ·intro w'; go_simp; with_reducible rfl
         rotate_left
         ·simp only [q_, i64_w, i32_w]; rfl
         refine pure_ (i:=4) (N:=some 20) (v:=?_) (a':=?_) ⟨m_ 41 31⟩ rfl rfl (ao_ HT_) (fun _ _ _ h=>h) (Or.inl ⟨rfl, ?_⟩) ?_ ?_; rotate_left
         ·intro w'; go_simp; with_reducible rfl
         rotate_left
         ·simp only [q_, i64_w, i32_w]; rfl
         refine pure_ (i:=5) (N:=some 21) (v:=?_) (a':=?_) ⟨m_ 41 63⟩ rfl rfl (ao_ HT_) (fun _ _ _ h=>h) (Or.inl ⟨rfl, ?_⟩) ?_ ?_; rotate_left
         ·intro w'; go_simp; with_reducible rfl
         rotate_left
         ·simp only [q_, i64_w, i32_w]; rfl
         refine take_ (i:=7) (N:=some 23) (v:=?_) (a':=?_) ⟨m_ 41 191⟩ rfl rfl (tw_ HT_ HW_) (fun _ _ _ h=>h) (Or.inl ⟨rfl, ?_⟩) hHeld ?_ ?_; rotate_left
         ·rintro w' ⟨s0, s1, s2⟩; go_simp; with_reducible rfl
         rotate_left
         ·simp only [q_, i64_w, i32_w]; rfl
         refine one_ (i:=6) (N:=some 22) ⟨m_ 41 255⟩ rfl rfl (oo_ HT_) (by decide) (fun K hK => ?_); refine goes_ Tryz.func13 (by kernel_rfl) rfl #[.string (⟨#[98]⟩ : ByteArray)] (by rfl) rfl rfl ha_ ?_; with_reducible refine (value_Str.calls (⟨#[98]⟩ : ByteArray) t122 t123 t124 _ A23.out).mono ?_; rintro e w42 ⟨rfl, hb⟩; refine ⟨_, rfl, ?_⟩
         replace HO_117002 := A_ (Kd.R_below (ra_ HO_117002.out) hb); replace BK116 := bb_ BK116 hb; replace HB := bs_ HB hb
         (try clear hb); (try clear hk); refine hK.out _ _ ⟨bc_ BK116 0 rfl, bc_ BK116 1 rfl, bc_ BK116 2 rfl⟩ (fun hHeld => ?_); clear hK K; refine norm_ (a':=?_) ?_ ?_; rotate_left
         ·show Act.put _ (some 22) _ = _; simp only [q_, i64_w, i32_w]; rfl
         refine one_ (i:=8) (N:=some 24) ⟨m_ 41 511⟩ rfl rfl (oo_ HT_) (by decide) (fun K hK => ?_); refine goes_ Tryz.func18 (by kernel_rfl) rfl #[.agg #[.int .i64 t122, .int .i64 t123, .string t124], .agg #[.int .i64 2, .int .i64 2, .slice Ao12 y113.length co12], .int .i64 2] (by rfl) rfl rfl ha_ ?_; with_reducible refine (look_Down.calls kj4 t122 t123 t124 2 2 _ _ y113 2 t125 t126 t127 _ ?side1 ?side2 A24.out).mono ?_; (case side1 => exact ca_ (Kd.R_reads' HO_117002.out).2.2); (case side2 => exact (Kd.R_reads' HO_117002.out).2.1); rintro e w43 ⟨rfl, hb⟩; refine ⟨_, rfl, ?_⟩
         replace HO_117002 := A_ (Kd.R_below (ra_ HO_117002.out) hb); replace BK116 := bb_ BK116 hb; replace HB := bs_ HB hb
         (try clear hb); (try clear hk); refine hK.out _ _ ⟨bc_ BK116 0 rfl, bc_ BK116 1 rfl, bc_ BK116 2 rfl⟩ (fun hHeld => ?_); clear hK K; refine norm_ (a':=?_) ?_ ?_; rotate_left
         ·show Act.put _ (some 24) _ = _; simp only [q_, i64_w, i32_w]; rfl
         refine one_ (i:=9) (N:=some 25) ⟨m_ 41 1023⟩ rfl rfl (oo_ HT_) (by decide) (fun K hK => ?_); refine goes_ Tryz.func16 (by kernel_rfl) rfl #[.int .i64 25000] (by rfl) rfl rfl ha_ ?_; with_reducible refine (value_Num.calls 25000 t128 t129 t130 _ A25.out).mono ?_; rintro e w44 ⟨rfl, hb⟩; refine ⟨_, rfl, ?_⟩
         replace HO_117002 := A_ (Kd.R_below (ra_ HO_117002.out) hb); replace BK116 := bb_ BK116 hb; replace HB := bs_ HB hb
         (try clear hb); (try clear hk); refine hK.out _ _ ⟨bc_ BK116 0 rfl, bc_ BK116 1 rfl, bc_ BK116 2 rfl⟩ (fun hHeld => ?_); clear hK K; refine norm_ (a':=?_) ?_ ?_; rotate_left
         ·show Act.put _ (some 25) _ = _; simp only [q_, i64_w, i32_w]; rfl
         refine pure_ (i:=10) (N:=some 26) (v:=?_) (a':=?_) ⟨m_ 41 2047⟩ rfl rfl (ao_ HT_) (fun _ _ _ h=>h) (Or.inl ⟨rfl, ?_⟩) ?_ ?_; rotate_left
         ·intro w'; go_simp; with_reducible rfl
         rotate_left
         ·simp only [q_, i64_w, i32_w]; rfl
         refine pure_ (i:=11) (N:=some 27) (v:=?_) (a':=?_) ⟨m_ 41 4095⟩ rfl rfl (ao_ HT_) (fun _ _ _ h=>h) (Or.inl ⟨rfl, ?_⟩) ?_ ?_; rotate_left
         ·intro w'; go_simp; with_reducible rfl
         rotate_left
         ·simp only [q_, i64_w, i32_w]; rfl
         refine pure_ (i:=12) (N:=some 28) (v:=?_) (a':=?_) ⟨m_ 41 8191⟩ rfl rfl (ao_ HT_) (fun _ _ _ h=>h) (Or.inl ⟨rfl, ?_⟩) ?_ ?_; rotate_left
         ·intro w'; go_simp; with_reducible rfl
         rotate_left
         ·simp only [q_, i64_w, i32_w]; rfl
         refine take_ (i:=14) (N:=some 30) (v:=?_) (a':=?_) ⟨m_ 41 24575⟩ rfl rfl (tw_ HT_ HW_) (fun _ _ _ h=>h) (Or.inl ⟨rfl, ?_⟩) hHeld ?_ ?_; rotate_left
         ·rintro w' ⟨s0, s1, s2⟩; go_simp; with_reducible rfl
         rotate_left
         ·simp only [q_, i64_w, i32_w]; rfl
         refine one_ (i:=13) (N:=some 29) ⟨m_ 41 32767⟩ rfl rfl (oo_ HT_) (by decide) (fun K hK => ?_); refine goes_ Tryz.func16 (by kernel_rfl) rfl #[.int .i64 10000] (by rfl) rfl rfl ha_ ?_; with_reducible refine (value_Num.calls 10000 t131 t132 t133 _ A27.out).mono ?_; rintro e w45 ⟨rfl, hb⟩; refine ⟨_, rfl, ?_⟩
         replace HO_117002 := A_ (Kd.R_below (ra_ HO_117002.out) hb); replace BK116 := bb_ BK116 hb; replace HB := bs_ HB hb
         (try clear hb); (try clear hk); refine hK.out _ _ ⟨bc_ BK116 0 rfl, bc_ BK116 1 rfl, bc_ BK116 2 rfl⟩ (fun hHeld => ?_); clear hK K; refine norm_ (a':=?_) ?_ ?_; rotate_left
         ·show Act.put _ (some 29) _ = _; simp only [q_, i64_w, i32_w]; rfl
         refine one_ (i:=15) (N:=some 31) ⟨m_ 41 65535⟩ rfl rfl (oo_ HT_) (by decide) (fun K hK => ?_); refine goes_ Tryz.func19 (by kernel_rfl) rfl #[.agg #[.int .i64 t131, .int .i64 t132, .string t133], .agg #[.int .i64 2, .int .i64 2, .slice Ao12 y113.length co12], .int .i64 2] (by rfl) rfl rfl ha_ ?_; with_reducible refine (look_Across.calls kj4 t131 t132 t133 2 2 _ _ y113 2 t134 t135 t136 _ ?side1 ?side2 A28.out).mono ?_; (case side1 => exact ca_ (Kd.R_reads' HO_117002.out).2.2); (case side2 => exact (Kd.R_reads' HO_117002.out).2.1); rintro e w46 ⟨rfl, hb⟩; refine ⟨_, rfl, ?_⟩
         replace HO_117002 := A_ (Kd.R_below (ra_ HO_117002.out) hb); replace BK116 := bb_ BK116 hb; replace HB := bs_ HB hb
         (try clear hb); (try clear hk); refine hK.out _ _ ⟨bc_ BK116 0 rfl, bc_ BK116 1 rfl, bc_ BK116 2 rfl⟩ (fun hHeld => ?_); clear hK K; refine norm_ (a':=?_) ?_ ?_; rotate_left
         ·show Act.put _ (some 31) _ = _; simp only [q_, i64_w, i32_w]; rfl
         refine one_ (i:=16) (N:=some 32) ⟨m_ 41 131071⟩ rfl rfl (oo_ HT_) (by decide) (fun K hK => ?_); refine goes_ Tryz.func16 (by kernel_rfl) rfl #[.int .i64 25000] (by rfl) rfl rfl ha_ ?_; with_reducible refine (value_Num.calls 25000 t137 t138 t139 _ A29.out).mono ?_; rintro e w47 ⟨rfl, hb⟩; refine ⟨_, rfl, ?_⟩
         replace HO_117002 := A_ (Kd.R_below (ra_ HO_117002.out) hb); replace BK116 := bb_ BK116 hb; replace HB := bs_ HB hb
         (try clear hb); (try clear hk); refine hK.out _ _ ⟨bc_ BK116 0 rfl, bc_ BK116 1 rfl, bc_ BK116 2 rfl⟩ (fun hHeld => ?_); clear hK K; refine norm_ (a':=?_) ?_ ?_; rotate_left
         ·show Act.put _ (some 32) _ = _; simp only [q_, i64_w, i32_w]; rfl
         refine pure_ (i:=17) (N:=some 33) (v:=?_) (a':=?_) ⟨m_ 41 262143⟩ rfl rfl (ao_ HT_) (fun _ _ _ h=>h) (Or.inl ⟨rfl, ?_⟩) ?_ ?_; rotate_left
         ·intro w'; go_simp; with_reducible rfl
         rotate_left
         ·simp only [q_, i64_w, i32_w]; rfl
         refine pure_ (i:=18) (N:=some 34) (v:=?_) (a':=?_) ⟨m_ 41 524287⟩ rfl rfl (ao_ HT_) (fun _ _ _ h=>h) (Or.inl ⟨rfl, ?_⟩) ?_ ?_; rotate_left
         ·intro w'; go_simp; with_reducible rfl
         rotate_left
         ·simp only [q_, i64_w, i32_w]; rfl
         refine pure_ (i:=19) (N:=some 35) (v:=?_) (a':=?_) ⟨m_ 41 1048575⟩ rfl rfl (ao_ HT_) (fun _ _ _ h=>h) (Or.inl ⟨rfl, ?_⟩) ?_ ?_; rotate_left
         ·intro w'; go_simp; with_reducible rfl
         rotate_left
         ·simp only [q_, i64_w, i32_w]; rfl
         refine take_ (i:=20) (N:=some 36) (v:=?_) (a':=?_) ⟨m_ 41 2097151⟩ rfl rfl (tw_ HT_ HW_) (fun _ _ _ h=>h) (Or.inl ⟨rfl, ?_⟩) hHeld ?_ ?_; rotate_left
         ·rintro w' ⟨s0, s1, s2⟩; go_simp; with_reducible rfl
         rotate_left
         ·simp only [q_, i64_w, i32_w]; rfl
         refine one_ (i:=21) (N:=some 37) ⟨m_ 41 4194303⟩ rfl rfl (oo_ HT_) (by decide) (fun K hK => ?_); refine goes_ Tryz.func13 (by kernel_rfl) rfl #[.string (⟨#[62, 61, 49]⟩ : ByteArray)] (by rfl) rfl rfl ha_ ?_; with_reducible refine (value_Str.calls (⟨#[62, 61, 49]⟩ : ByteArray) t140 t141 t142 _ A31.out).mono ?_; rintro e w48 ⟨rfl, hb⟩; refine ⟨_, rfl, ?_⟩
         replace HO_117002 := A_ (Kd.R_below (ra_ HO_117002.out) hb); replace BK116 := bb_ BK116 hb; replace HB := bs_ HB hb
         (try clear hb); (try clear hk); refine hK.out _ _ ⟨bc_ BK116 0 rfl, bc_ BK116 1 rfl, bc_ BK116 2 rfl⟩ (fun hHeld => ?_); clear hK K; refine norm_ (a':=?_) ?_ ?_; rotate_left
         ·show Act.put _ (some 37) _ = _; simp only [q_, i64_w, i32_w]; rfl
         refine one_ (i:=22) (N:=some 38) ⟨m_ 41 8388607⟩ rfl rfl (oo_ HT_) (by decide) (fun K hK => ?_); refine goes_ Tryz.func7 (by kernel_rfl) rfl #[.agg #[.int .i64 2, .int .i64 2, .slice Ao12 y113.length co12], .agg #[.int .i64 t140, .int .i64 t141, .string t142]] (by rfl) rfl rfl ha_ ?_; with_reducible refine (look_CountIf.calls kj4 2 2 _ _ y113 t140 t141 t142 t143 t144 t145 _ ?side1 ?side2 A32.out).mono ?_; (case side1 => exact ca_ (Kd.R_reads' HO_117002.out).2.2); (case side2 => exact (Kd.R_reads' HO_117002.out).2.1); rintro e w49 ⟨rfl, hb⟩; refine ⟨_, rfl, ?_⟩
         replace HO_117002 := A_ (Kd.R_below (ra_ HO_117002.out) hb); replace BK116 := bb_ BK116 hb; replace HB := bs_ HB hb
         (try clear hb); (try clear hk); refine hK.out _ _ ⟨bc_ BK116 0 rfl, bc_ BK116 1 rfl, bc_ BK116 2 rfl⟩ (fun hHeld => ?_); clear hK K; refine norm_ (a':=?_) ?_ ?_; rotate_left
         ·show Act.put _ (some 38) _ = _; simp only [q_, i64_w, i32_w]; rfl
         refine one_ (i:=23) (N:=some 39) ⟨m_ 41 16777215⟩ rfl rfl (oo_ HT_) (by decide) (fun K hK => ?_); refine goes_ Tryz.func16 (by kernel_rfl) rfl #[.int .i64 20000] (by rfl) rfl rfl ha_ ?_; with_reducible refine (value_Num.calls 20000 t146 t147 t148 _ A33.out).mono ?_; rintro e w50 ⟨rfl, hb⟩; refine ⟨_, rfl, ?_⟩
         replace HO_117002 := A_ (Kd.R_below (ra_ HO_117002.out) hb); replace BK116 := bb_ BK116 hb; replace HB := bs_ HB hb
         (try clear hb); (try clear hk); refine hK.out _ _ ⟨bc_ BK116 0 rfl, bc_ BK116 1 rfl, bc_ BK116 2 rfl⟩ (fun hHeld => ?_); clear hK K; refine norm_ (a':=?_) ?_ ?_; rotate_left
         ·show Act.put _ (some 39) _ = _; simp only [q_, i64_w, i32_w]; rfl
         refine pure_ (i:=24) (N:=some 40) (v:=?_) (a':=?_) ⟨m_ 41 33554431⟩ rfl rfl (ao_ HT_) (fun _ _ _ h=>h) (Or.inl ⟨rfl, ?_⟩) ?_ ?_; rotate_left
         ·intro w'; go_simp; with_reducible rfl
         rotate_left
         ·simp only [q_, i64_w, i32_w]; rfl
         refine pure_ (i:=25) (N:=some 41) (v:=?_) (a':=?_) ⟨m_ 41 67108863⟩ rfl rfl (ao_ HT_) (fun _ _ _ h=>h) (Or.inl ⟨rfl, ?_⟩) ?_ ?_; rotate_left
         ·intro w'; go_simp; with_reducible rfl
         rotate_left
         ·simp only [q_, i64_w, i32_w]; rfl
         refine pure_ (i:=26) (N:=some 42) (v:=?_) (a':=?_) ⟨m_ 41 134217727⟩ rfl rfl (ao_ HT_) (fun _ _ _ h=>h) (Or.inl ⟨rfl, ?_⟩) ?_ ?_; rotate_left
         ·intro w'; go_simp; with_reducible rfl
         rotate_left
         ·simp only [q_, i64_w, i32_w]; rfl
         refine take_ (i:=27) (N:=some 43) (v:=?_) (a':=?_) ⟨m_ 41 268435455⟩ rfl rfl (tw_ HT_ HW_) (fun _ _ _ h=>h) (Or.inl ⟨rfl, ?_⟩) hHeld ?_ ?_; rotate_left
         ·rintro w' ⟨s0, s1, s2⟩; go_simp; with_reducible rfl
         rotate_left
         ·simp only [q_, i64_w, i32_w]; rfl
         refine one_ (i:=28) (N:=some 44) ⟨m_ 41 536870911⟩ rfl rfl (oo_ HT_) (by decide) (fun K hK => ?_); refine goes_ Tryz.func13 (by kernel_rfl) rfl #[.string (⟨#[60, 50]⟩ : ByteArray)] (by rfl) rfl rfl ha_ ?_; with_reducible refine (value_Str.calls (⟨#[60, 50]⟩ : ByteArray) t149 t150 t151 _ A35.out).mono ?_; rintro e w51 ⟨rfl, hb⟩; refine ⟨_, rfl, ?_⟩
         replace HO_117002 := A_ (Kd.R_below (ra_ HO_117002.out) hb); replace BK116 := bb_ BK116 hb; replace HB := bs_ HB hb
         (try clear hb); (try clear hk); refine hK.out _ _ ⟨bc_ BK116 0 rfl, bc_ BK116 1 rfl, bc_ BK116 2 rfl⟩ (fun hHeld => ?_); clear hK K; refine norm_ (a':=?_) ?_ ?_; rotate_left
         ·show Act.put _ (some 44) _ = _; simp only [q_, i64_w, i32_w]; rfl
         refine one_ (i:=29) (N:=some 45) ⟨m_ 41 1073741823⟩ rfl rfl (oo_ HT_) (by decide) (fun K hK => ?_); refine goes_ Tryz.func9 (by kernel_rfl) rfl #[.agg #[.int .i64 2, .int .i64 2, .slice Ao12 y113.length co12], .agg #[.int .i64 t149, .int .i64 t150, .string t151]] (by rfl) rfl rfl ha_ ?_; with_reducible refine (look_SumIf.calls kj4 2 2 _ _ y113 t149 t150 t151 t152 t153 t154 _ ?side1 ?side2 A36.out).mono ?_; (case side1 => exact ca_ (Kd.R_reads' HO_117002.out).2.2); (case side2 => exact (Kd.R_reads' HO_117002.out).2.1); rintro e w52 ⟨rfl, hb⟩; refine ⟨_, rfl, ?_⟩
         replace HO_117002 := A_ (Kd.R_below (ra_ HO_117002.out) hb); replace BK116 := bb_ BK116 hb; replace HB := bs_ HB hb
         (try clear hb); (try clear hk); refine hK.out _ _ ⟨bc_ BK116 0 rfl, bc_ BK116 1 rfl, bc_ BK116 2 rfl⟩ (fun hHeld => ?_); clear hK K; refine norm_ (a':=?_) ?_ ?_; rotate_left
         ·show Act.put _ (some 45) _ = _; simp only [q_, i64_w, i32_w]; rfl
         refine one_ (i:=30) (N:=some 46) ⟨m_ 41 2147483647⟩ rfl rfl (oo_ HT_) (by decide) (fun K hK => ?_); refine goes_ Tryz.func16 (by kernel_rfl) rfl #[.int .i64 10000] (by rfl) rfl rfl ha_ ?_; with_reducible refine (value_Num.calls 10000 t155 t156 t157 _ A37.out).mono ?_; rintro e w53 ⟨rfl, hb⟩; refine ⟨_, rfl, ?_⟩
         replace HO_117002 := A_ (Kd.R_below (ra_ HO_117002.out) hb); replace BK116 := bb_ BK116 hb; replace HB := bs_ HB hb
         (try clear hb); (try clear hk); refine hK.out _ _ ⟨bc_ BK116 0 rfl, bc_ BK116 1 rfl, bc_ BK116 2 rfl⟩ (fun hHeld => ?_); clear hK K; refine norm_ (a':=?_) ?_ ?_; rotate_left
         ·show Act.put _ (some 46) _ = _; simp only [q_, i64_w, i32_w]; rfl
         refine pure_ (i:=31) (N:=some 47) (v:=?_) (a':=?_) ⟨m_ 41 4294967295⟩ rfl rfl (ao_ HT_) (fun _ _ _ h=>h) (Or.inl ⟨rfl, ?_⟩) ?_ ?_; rotate_left
         ·intro w'; go_simp; with_reducible rfl
         rotate_left
         ·simp only [q_, i64_w, i32_w]; rfl
         refine pure_ (i:=32) (N:=some 48) (v:=?_) (a':=?_) ⟨m_ 41 8589934591⟩ rfl rfl (ao_ HT_) (fun _ _ _ h=>h) (Or.inl ⟨rfl, ?_⟩) ?_ ?_; rotate_left
         ·intro w'; go_simp; with_reducible rfl
         rotate_left
         ·simp only [q_, i64_w, i32_w]; rfl
         refine pure_ (i:=33) (N:=some 49) (v:=?_) (a':=?_) ⟨m_ 41 17179869183⟩ rfl rfl (ao_ HT_) (fun _ _ _ h=>h) (Or.inl ⟨rfl, ?_⟩) ?_ ?_; rotate_left
         ·intro w'; go_simp; with_reducible rfl
         rotate_left
         ·simp only [q_, i64_w, i32_w]; rfl
         refine take_ (i:=34) (N:=some 50) (v:=?_) (a':=?_) ⟨m_ 41 34359738367⟩ rfl rfl (tw_ HT_ HW_) (fun _ _ _ h=>h) (Or.inl ⟨rfl, ?_⟩) hHeld ?_ ?_; rotate_left
         ·rintro w' ⟨s0, s1, s2⟩; go_simp; with_reducible rfl
         rotate_left
         ·simp only [q_, i64_w, i32_w]; rfl
         refine take_ (i:=35) (N:=some 51) (v:=?_) (a':=?_) ⟨m_ 41 68719476735⟩ rfl rfl (tw_ HT_ HW_) (fun _ _ _ h=>h) (Or.inl ⟨rfl, ?_⟩) hHeld ?_ ?_; rotate_left
         ·rintro w' ⟨s0, s1, s2⟩; go_simp; with_reducible rfl
         rotate_left
         ·simp only [q_, i64_w, i32_w]; rfl
         refine one_ (i:=36) (N:=some 52) ⟨m_ 41 137438953471⟩ rfl rfl (oo_ HT_) (by decide) (fun K hK => ?_); refine goes_ Tryz.func20 (by kernel_rfl) rfl #[.agg #[.int .i64 2, .int .i64 2, .slice Ao12 y113.length co12], .agg #[.int .i64 2, .int .i64 2, .slice Ao12 y113.length co12]] (by rfl) rfl rfl ha_ ?_; with_reducible refine (look_Products.calls kj4 2 2 (fun k_ => some k_ = (.slice Ao12 y113.length co12 : Value).ownBlock) _ _ y113 2 2 (fun k_ => some k_ = (.slice Ao12 y113.length co12 : Value).ownBlock) _ _ y113 t158 t159 t160 _ ?side1 ?side2 A39.out).mono ?_; (case side1 => exact Kd.R_V (Kd.R_tight rfl (Kd.R_types (HO_117002.out) BK116.out (by decide)))); (case side2 => exact Kd.R_V (Kd.R_tight rfl (Kd.R_types (HO_117002.out) BK116.out (by decide)))); rintro e w54 ⟨rfl, hb⟩; refine ⟨_, rfl, ?_⟩
         replace HO_117002 := A_ (Kd.R_below (ra_ HO_117002.out) hb); replace BK116 := bb_ BK116 hb; replace HB := bs_ HB hb
         (try clear hb); (try clear hk); refine hK.out _ _ ⟨bc_ BK116 0 rfl, bc_ BK116 1 rfl, bc_ BK116 2 rfl⟩ (fun hHeld => ?_); clear hK K; refine norm_ (a':=?_) ?_ ?_; rotate_left
         ·show Act.put _ (some 52) _ = _; simp only [q_, i64_w, i32_w]; rfl
         refine one_ (i:=37) (N:=some 53) ⟨m_ 41 274877906943⟩ rfl rfl (oo_ HT_) (by decide) (fun K hK => ?_); refine goes_ Tryz.func16 (by kernel_rfl) rfl #[.int .i64 72500] (by rfl) rfl rfl ha_ ?_; with_reducible refine (value_Num.calls 72500 t161 t162 t163 _ A40.out).mono ?_; rintro e w55 ⟨rfl, hb⟩; refine ⟨_, rfl, ?_⟩
         replace HO_117002 := A_ (Kd.R_below (ra_ HO_117002.out) hb); replace BK116 := bb_ BK116 hb; replace HB := bs_ HB hb
         (try clear hb); (try clear hk); refine hK.out _ _ ⟨bc_ BK116 0 rfl, bc_ BK116 1 rfl, bc_ BK116 2 rfl⟩ (fun hHeld => ?_); clear hK K; refine norm_ (a':=?_) ?_ ?_; rotate_left
         ·show Act.put _ (some 53) _ = _; simp only [q_, i64_w, i32_w]; rfl
         refine pure_ (i:=38) (N:=some 54) (v:=?_) (a':=?_) ⟨m_ 41 549755813887⟩ rfl rfl (ao_ HT_) (fun _ _ _ h=>h) (Or.inl ⟨rfl, ?_⟩) ?_ ?_; rotate_left
         ·intro w'; go_simp; with_reducible rfl
         rotate_left
         ·simp only [q_, i64_w, i32_w]; rfl
         refine pure_ (i:=39) (N:=some 55) (v:=?_) (a':=?_) ⟨m_ 41 1099511627775⟩ rfl rfl (ao_ HT_) (fun _ _ _ h=>h) (Or.inl ⟨rfl, ?_⟩) ?_ ?_; rotate_left
         ·intro w'; go_simp; with_reducible rfl
         rotate_left
         ·simp only [q_, i64_w, i32_w]; rfl
         refine pure_ (i:=40) (N:=some 0) (v:=?_) (a':=?_) ⟨m_ 41 2199023255551⟩ rfl rfl (ao_ HT_) (fun _ _ _ h=>h) (Or.inl ⟨rfl, ?_⟩) ?_ ?_; rotate_left
         ·intro w'; go_simp; with_reducible rfl
         rotate_left
         ·simp only [q_, i64_w, i32_w]; rfl
         refine done_ (done_of HT_.out (by kernel_rfl)) ?_
         try go_wp2
         go_ret
         exact fi_ (pbx HB)
        ·rw [if_neg c38] at H
         have c38b0 : (t152 == t155 && (t153 == t156 && (t154.toList == t157.toList))) = false := by simpa using c38
         (try (have c38b1 : decide (t152 = t155 && (t153 == t156 && (t154.toList == t157.toList))) = false := by simpa using c38)); (try (have c38b2 : (t152 == t155 && (t153 == t156 && (t154.toList == t157.toList))) = false := by simpa using c38)); (try (have c38b3 : ¬ (t152 = t155 && (t153 == t156 && (t154.toList == t157.toList))) := by simpa using c38)); clear c38
         exact absurd H (by simp)
       ·rw [if_neg c34] at H
        have c34b0 : (t143 == t146 && (t144 == t147 && (t145.toList == t148.toList))) = false := by simpa using c34
        (try (have c34b1 : decide (t143 = t146 && (t144 == t147 && (t145.toList == t148.toList))) = false := by simpa using c34)); (try (have c34b2 : (t143 == t146 && (t144 == t147 && (t145.toList == t148.toList))) = false := by simpa using c34)); (try (have c34b3 : ¬ (t143 = t146 && (t144 == t147 && (t145.toList == t148.toList))) := by simpa using c34)); clear c34
        exact absurd H (by simp)
      ·rw [if_neg c30] at H
       have c30b0 : (t134 == t137 && (t135 == t138 && (t136.toList == t139.toList))) = false := by simpa using c30
       (try (have c30b1 : decide (t134 = t137 && (t135 == t138 && (t136.toList == t139.toList))) = false := by simpa using c30)); (try (have c30b2 : (t134 == t137 && (t135 == t138 && (t136.toList == t139.toList))) = false := by simpa using c30)); (try (have c30b3 : ¬ (t134 = t137 && (t135 == t138 && (t136.toList == t139.toList))) := by simpa using c30)); clear c30
       exact absurd H (by simp)
     ·rw [if_neg c26] at H
      have c26b0 : (t125 == t128 && (t126 == t129 && (t127.toList == t130.toList))) = false := by simpa using c26
      (try (have c26b1 : decide (t125 = t128 && (t126 == t129 && (t127.toList == t130.toList))) = false := by simpa using c26)); (try (have c26b2 : (t125 == t128 && (t126 == t129 && (t127.toList == t130.toList))) = false := by simpa using c26)); (try (have c26b3 : ¬ (t125 = t128 && (t126 == t129 && (t127.toList == t130.toList))) := by simpa using c26)); clear c26
      exact absurd H (by simp)
    ·rw [if_neg c22] at H; have ⟨c22b0,c22b1⟩ := e0_ c22
     exact absurd H (by simp)
   ·exact absurd H (by simp)

end Go.Proofs.YtejkoenlfcghbaaGreat.X
namespace Go.Proofs.YtejkoenlfcghbaaGreat.X
open Go.RowKit Go.Proofs.YtejkoenlfcghbaaGreatW.PrintWords Go.Proofs.YtejkoenlfcghbaaGreatW.PrintLast Go.Proofs.YtejkoenlfcghbaaGreatW.PrintMore
attribute [local go_sem] max2_int min2_int max_two min_two max_three min_three max_four min_four
set_option linter.unusedVariables false
set_option linter.unusedSimpArgs false
def oculusref12_Bad.f (a0 : Int) : Option (Int × Int × ByteArray) := if a0 < 1 then (some (4, 2, (⟨#[]⟩ : ByteArray))) else (if a0 > 7 then (some (4, 2, (⟨#[]⟩ : ByteArray))) else (some (4, a0, (⟨#[]⟩ : ByteArray))))
theorem oculusref12_Bad.calls (a0 : Int) (r1 : Int) (r2 : Int) (r3 : ByteArray) (w : World) (h : oculusref12_Bad.f a0 = some (r1, r2, r3)) :
  Calls Tryz.prog 42 #[.int .i64 a0] w fun e w' => e = .returned (.agg #[.int .i64 r1, .int .i64 r2, .string r3]) ∧ Below w.heap.size w w' := by
 have hu26 := Tryz.underlying26; have HB := A_ (Below.refl w.heap.size w)
 have H : (if a0 < 1 then (some (4, 2, (⟨#[]⟩ : ByteArray))) else (if a0 > 7 then (some (4, 2, (⟨#[]⟩ : ByteArray))) else (some (4, a0, (⟨#[]⟩ : ByteArray))))) = some (r1, r2, r3) := h
 clear h
 by_cases c2 : a0 < 1
 ·rw [if_pos c2] at H; have c2b0 := decide_eq_true c2; clear c2
  simp only [Option.some.injEq, Prod.mk.injEq] at H
  obtain ⟨rfl, rfl, rfl⟩ := H
  go_enter Tryz.func42, Tryz.ntmps42
  go_wp2_with (first | ((with_reducible refine gd_ 2 ?_); refine be_ (N:=2) (cs := #[.int .i64 0, .int .i64 0, .string (⟨#[]⟩ : ByteArray)]) (t:=26) ?_; intro g1 hg w3 hbox hb; have B1 := A_ (hbox); have GW101 := hs_ HB hg; have GE101 := hs_ HB hg; replace HB := bs_ HB hb; clear hb hbox hg; have ⟨hcz4_0,hcz4_1,hcz4_2,hfz4_0,hfz4_1,hfz4_2⟩ := z3_ B1))
  refine bodyPost_ret (results_cell_row rfl _ _ g1 26 #[.int .i64 4, .int .i64 2, .string (⟨#[]⟩ : ByteArray)] (0, 0) _ rfl (by (iterate 3 apply pp_); exact pkx B1; all_goals rfl) Tryz.underlying26 rfl (by kernel_rfl)) rfl ?_
  exact fi_ bl_
 ·rw [if_neg c2] at H; have c2b0 := decide_eq_false c2; clear c2
  by_cases c5 : a0 > 7
  ·rw [if_pos c5] at H; have c5b0 := decide_eq_true c5; clear c5
   simp only [Option.some.injEq, Prod.mk.injEq] at H
   obtain ⟨rfl, rfl, rfl⟩ := H
   go_enter Tryz.func42, Tryz.ntmps42
   go_wp2_with (first | ((with_reducible refine gd_ 2 ?_); refine be_ (N:=2) (cs := #[.int .i64 0, .int .i64 0, .string (⟨#[]⟩ : ByteArray)]) (t:=26) ?_; intro g1 hg w6 hbox hb; have B1 := A_ (hbox); have GW101 := hs_ HB hg; have GE101 := hs_ HB hg; replace HB := bs_ HB hb; clear hb hbox hg; have ⟨hcz7_0,hcz7_1,hcz7_2,hfz7_0,hfz7_1,hfz7_2⟩ := z3_ B1))
   refine bodyPost_ret (results_cell_row rfl _ _ g1 26 #[.int .i64 4, .int .i64 2, .string (⟨#[]⟩ : ByteArray)] (0, 0) _ rfl (by (iterate 3 apply pp_); exact pkx B1; all_goals rfl) Tryz.underlying26 rfl (by kernel_rfl)) rfl ?_
   exact fi_ bl_
  ·rw [if_neg c5] at H; have c5b0 := decide_eq_false c5; clear c5
   simp only [Option.some.injEq, Prod.mk.injEq] at H
   obtain ⟨rfl, rfl, rfl⟩ := H
   go_enter Tryz.func42, Tryz.ntmps42
   go_wp2_with (first | ((with_reducible refine gd_ 2 ?_); refine be_ (N:=2) (cs := #[.int .i64 0, .int .i64 0, .string (⟨#[]⟩ : ByteArray)]) (t:=26) ?_; intro g1 hg w8 hbox hb; have B1 := A_ (hbox); have GW101 := hs_ HB hg; have GE101 := hs_ HB hg; replace HB := bs_ HB hb; clear hb hbox hg; have ⟨hcz9_0,hcz9_1,hcz9_2,hfz9_0,hfz9_1,hfz9_2⟩ := z3_ B1))
   refine bodyPost_ret (results_cell_row rfl _ _ g1 26 #[.int .i64 4, .int .i64 a0, .string (⟨#[]⟩ : ByteArray)] (0, 0) _ rfl (by (iterate 3 apply pp_); exact pkx B1; all_goals rfl) Tryz.underlying26 rfl (by kernel_rfl)) rfl ?_
   exact fi_ bl_

def oculusref12_Num.f (a0 : Int) : Option (Int × Int × ByteArray) := (oculusref08_May.f a0).bind fun t102 => (if t102 = true then (some (1, a0, (⟨#[]⟩ : ByteArray))) else ((oculusref12_Bad.f 4).bind fun bt103 => (some (bt103.1, bt103.2.1, bt103.2.2))))
theorem oculusref12_Num.calls (a0 : Int) (r1 : Int) (r2 : Int) (r3 : ByteArray) (w : World) (h : oculusref12_Num.f a0 = some (r1, r2, r3)) :
  Calls Tryz.prog 24 #[.int .i64 a0] w fun e w' => e = .returned (.agg #[.int .i64 r1, .int .i64 r2, .string r3]) ∧ Below w.heap.size w w' := by
 have hu26 := Tryz.underlying26; have HB := A_ (Below.refl w.heap.size w)
 have H : ((oculusref08_May.f a0).bind fun t102 => (if t102 = true then (some (1, a0, (⟨#[]⟩ : ByteArray))) else ((oculusref12_Bad.f 4).bind fun bt103 => (some (bt103.1, bt103.2.1, bt103.2.2))))) = some (r1, r2, r3) := h
 clear h; obtain ⟨t102, A2, H⟩ := bo_ H
 replace H := ib_ H; rcases H with ⟨rfl,H⟩|⟨rfl,H⟩
 ·simp only [Option.some.injEq, Prod.mk.injEq] at H
  obtain ⟨rfl, rfl, rfl⟩ := H
  go_enter Tryz.func24, Tryz.ntmps24
  go_wp2_with (first | ((with_reducible refine gd_ 2 ?_); refine be_ (N:=2) (cs := #[.int .i64 0, .int .i64 0, .string (⟨#[]⟩ : ByteArray)]) (t:=26) ?_; intro g1 hg w4 hbox hb; have B1 := A_ (hbox); have GW101 := hs_ HB hg; have GE101 := hs_ HB hg; replace HB := bs_ HB hb; clear hb hbox hg) | ((with_reducible refine gate_callee (f:=15) rfl ?_); refine gL_ (some 4) rfl rfl Tryz.func15 rfl #[.int .i64 a0] rfl ?_; (with_reducible refine (oculusref08_May.calls a0 true _ A2.out).mono ?_); rintro e w' ⟨rfl, ⟨nd, rfl⟩⟩; refine ⟨_, rfl, ?_⟩; (try (rw [drewN_self w4]; generalize hq_ : World.drewN w4 _ = w4; have n0_ : Aside0 (w4.heap[g1]? = some (.cells #[.int .i64 0, .int .i64 0, .string (⟨#[]⟩ : ByteArray)] 26 (0, 0))) := ⟨by rw [← hq_]; exact (pkx B1)⟩; have n1_ : Aside0 (Below w.heap.size w w4) := ⟨by rw [← hq_]; exact (pbx HB)⟩; clear B1 HB hq_; have B1 := n0_; have HB := n1_; clear n0_ n1_)); have ⟨hcz5_0,hcz5_1,hcz5_2,hfz5_0,hfz5_1,hfz5_2⟩ := z3_ B1))
  refine bodyPost_ret (results_cell_row rfl _ _ g1 26 #[.int .i64 1, .int .i64 a0, .string (⟨#[]⟩ : ByteArray)] (0, 0) _ rfl (by (iterate 3 apply pp_); exact pkx B1; all_goals rfl) Tryz.underlying26 rfl (by kernel_rfl)) rfl ?_
  exact fi_ bl_
 ·obtain ⟨⟨t103, t104, t105⟩, A6, H⟩ := bo_ H; dsimp only at H
  simp only [Option.some.injEq, Prod.mk.injEq] at H
  obtain ⟨rfl, rfl, rfl⟩ := H
  go_enter Tryz.func24, Tryz.ntmps24
  go_wp2_with (first | ((with_reducible refine gd_ 2 ?_); refine be_ (N:=2) (cs := #[.int .i64 0, .int .i64 0, .string (⟨#[]⟩ : ByteArray)]) (t:=26) ?_; intro g1 hg w7 hbox hb; have B1 := A_ (hbox); have GW101 := hs_ HB hg; have GE101 := hs_ HB hg; replace HB := bs_ HB hb; clear hb hbox hg) | ((with_reducible refine gate_callee (f:=15) rfl ?_); refine gL_ (some 4) rfl rfl Tryz.func15 rfl #[.int .i64 a0] rfl ?_; (with_reducible refine (oculusref08_May.calls a0 false _ A2.out).mono ?_); rintro e w' ⟨rfl, ⟨nd, rfl⟩⟩; refine ⟨_, rfl, ?_⟩; (try (rw [drewN_self w7]; generalize hq_ : World.drewN w7 _ = w7; have n0_ : Aside0 (w7.heap[g1]? = some (.cells #[.int .i64 0, .int .i64 0, .string (⟨#[]⟩ : ByteArray)] 26 (0, 0))) := ⟨by rw [← hq_]; exact (pkx B1)⟩; have n1_ : Aside0 (Below w.heap.size w w7) := ⟨by rw [← hq_]; exact (pbx HB)⟩; clear B1 HB hq_; have B1 := n0_; have HB := n1_; clear n0_ n1_))) | ((with_reducible refine gate_callee (f:=42) rfl ?_); refine gL_ (some 6) rfl rfl Tryz.func42 rfl #[.int .i64 4] rfl ?_; (with_reducible refine (oculusref12_Bad.calls 4 t103 t104 t105 _ A6.out).mono ?_); rintro e w8 ⟨rfl, hb⟩; refine ⟨_, rfl, ?_⟩; replace B1 := bb_ B1 hb; replace HB := bs_ HB hb; have ⟨hcz9_0,hcz9_1,hcz9_2,hfz9_0,hfz9_1,hfz9_2⟩ := z3_ B1))
  refine bodyPost_ret (results_cell_row rfl _ _ g1 26 #[.int .i64 t103, .int .i64 t104, .string t105] (0, 0) _ rfl (by (iterate 3 apply pp_); exact pkx B1; all_goals rfl) Tryz.underlying26 rfl (by kernel_rfl)) rfl ?_
  exact fi_ bl_

def oculusref11_Digit.f (a0 : ByteArray) (a1 : Int) : Option (Bool) := if a1 < (a0.size : Int) then (if 0 ≤ a1 then (if (bt a0 a1) ≥ 48 then (some (decide ((bt a0 a1) ≤ 57))) else (some false)) else (none)) else (some false)
theorem oculusref11_Digit.calls (a0 : ByteArray) (a1 : Int) (r : Bool) (w : World) (h : oculusref11_Digit.f a0 a1 = some r) :
  Calls Tryz.prog 90 #[.string a0, .int .i64 a1] w fun e w' => e = .returned (.bool r) ∧ Drawn0 w w' := by
 have H : (if a1 < (a0.size : Int) then (if 0 ≤ a1 then (if (bt a0 a1) ≥ 48 then (some (decide ((bt a0 a1) ≤ 57))) else (some false)) else (none)) else (some false)) = some r := h
 clear h
 by_cases c3 : a1 < (a0.size : Int)
 ·rw [if_pos c3] at H; have c3b0 := decide_eq_true c3; clear c3
  by_cases c4 : 0 ≤ a1
  ·rw [if_pos c4] at H; have c4b0 := decide_eq_true c4; clear c4
   by_cases c6 : (bt a0 a1) ≥ 48
   ·rw [if_pos c6] at H; have c6b0 := decide_eq_true c6; clear c6; obtain rfl := Option.some.inj H
    have p5 : 0 ≤ (a1 : Int) := of_decide_eq_true as_
    have q5 : a1 < (a0.size : Int) := of_decide_eq_true as_
    have hx5 := bt_at a0 a1; replace p5 := eq_true p5; replace q5 := eq_true q5
    have p7 : 0 ≤ (a1 : Int) := of_decide_eq_true as_
    have q7 : a1 < (a0.size : Int) := of_decide_eq_true as_
    have hx7 := bt_at a0 a1; replace p7 := eq_true p7; replace q7 := eq_true q7
    go_enter Tryz.func90, Tryz.ntmps90
    go_wp2
    go_ret
    exact ⟨by first | rfl | (simp; done) | (simp [*]; done), dr_⟩
   ·rw [if_neg c6] at H; have c6b0 := decide_eq_false c6; clear c6; obtain rfl := Option.some.inj H
    have p5 : 0 ≤ (a1 : Int) := of_decide_eq_true as_
    have q5 : a1 < (a0.size : Int) := of_decide_eq_true as_
    have hx5 := bt_at a0 a1; replace p5 := eq_true p5; replace q5 := eq_true q5
    go_enter Tryz.func90, Tryz.ntmps90
    go_wp2
    go_ret
    exact ⟨by first | rfl | (simp; done) | (simp [*]; done), dr_⟩
  ·rw [if_neg c4] at H
   exact absurd H (by simp)
 ·rw [if_neg c3] at H; have c3b0 := decide_eq_false c3; clear c3; obtain rfl := Option.some.inj H
  go_enter Tryz.func90, Tryz.ntmps90
  go_wp2
  go_ret
  exact ⟨by first | rfl | (simp; done) | (simp [*]; done), dr_⟩

def oculusref08_Abs.f (a0 : Int) : Option (Int) := if a0 < 0 then (some (IntKind.u64.wrap (wrap64 (-a0)))) else (some (IntKind.u64.wrap (a0)))
theorem oculusref08_Abs.calls (a0 : Int) (r : Int) (w : World) (h : oculusref08_Abs.f a0 = some r) :
  Calls Tryz.prog 67 #[.int .i64 a0] w fun e w' => e = .returned (.int .u64 r) ∧ Drawn0 w w' := by
 have H : (if a0 < 0 then (some (IntKind.u64.wrap (wrap64 (-a0)))) else (some (IntKind.u64.wrap (a0)))) = some r := h
 clear h
 by_cases c2 : a0 < 0
 ·rw [if_pos c2] at H; have c2b0 := decide_eq_true c2; clear c2; obtain rfl := Option.some.inj H
  go_enter Tryz.func67, Tryz.ntmps67
  go_wp2
  go_ret
  exact ⟨by first | rfl | (simp; done) | (simp [*]; done), dr_⟩
 ·rw [if_neg c2] at H; have c2b0 := decide_eq_false c2; clear c2; obtain rfl := Option.some.inj H
  go_enter Tryz.func67, Tryz.ntmps67
  go_wp2
  go_ret
  exact ⟨by first | rfl | (simp; done) | (simp [*]; done), dr_⟩

def oculusref08_Divide.l0 : Nat → Int → Int → Int → Int → Int → Int → Bool → Option (Int × Int × Bool)
 | 0, _, _, _, _, _, _, _ => none
 | k + 1, x1, x6, x102000, x102001, x104000, x104001, x104002 => if x6 < 128 then (if x104002 = true then (if (IntKind.u64.wrap ((IntKind.u64.wrap (x104001 * 2)) + (IntKind.u64.wrap (Int.tdiv x102000 9223372036854775808)))) ≥ x1 then (oculusref08_Divide.l0 k x1 (wrap64 (x6 + 1)) (IntKind.u64.wrap ((IntKind.u64.wrap (x102000 * 2)) + (IntKind.u64.wrap (Int.tdiv x102001 9223372036854775808)))) (IntKind.u64.wrap (x102001 * 2)) (IntKind.u64.wrap ((IntKind.u64.wrap (x104000 * 2)) + 1)) (IntKind.u64.wrap ((IntKind.u64.wrap ((IntKind.u64.wrap (x104001 * 2)) + (IntKind.u64.wrap (Int.tdiv x102000 9223372036854775808)))) - x1)) (decide (x104000 < 9223372036854775808))) else (oculusref08_Divide.l0 k x1 (wrap64 (x6 + 1)) (IntKind.u64.wrap ((IntKind.u64.wrap (x102000 * 2)) + (IntKind.u64.wrap (Int.tdiv x102001 9223372036854775808)))) (IntKind.u64.wrap (x102001 * 2)) (IntKind.u64.wrap (x104000 * 2)) (IntKind.u64.wrap ((IntKind.u64.wrap (x104001 * 2)) + (IntKind.u64.wrap (Int.tdiv x102000 9223372036854775808)))) (decide (x104000 < 9223372036854775808)))) else (if (IntKind.u64.wrap ((IntKind.u64.wrap (x104001 * 2)) + (IntKind.u64.wrap (Int.tdiv x102000 9223372036854775808)))) ≥ x1 then (oculusref08_Divide.l0 k x1 (wrap64 (x6 + 1)) (IntKind.u64.wrap ((IntKind.u64.wrap (x102000 * 2)) + (IntKind.u64.wrap (Int.tdiv x102001 9223372036854775808)))) (IntKind.u64.wrap (x102001 * 2)) (IntKind.u64.wrap ((IntKind.u64.wrap (x104000 * 2)) + 1)) (IntKind.u64.wrap ((IntKind.u64.wrap ((IntKind.u64.wrap (x104001 * 2)) + (IntKind.u64.wrap (Int.tdiv x102000 9223372036854775808)))) - x1)) false) else (oculusref08_Divide.l0 k x1 (wrap64 (x6 + 1)) (IntKind.u64.wrap ((IntKind.u64.wrap (x102000 * 2)) + (IntKind.u64.wrap (Int.tdiv x102001 9223372036854775808)))) (IntKind.u64.wrap (x102001 * 2)) (IntKind.u64.wrap (x104000 * 2)) (IntKind.u64.wrap ((IntKind.u64.wrap (x104001 * 2)) + (IntKind.u64.wrap (Int.tdiv x102000 9223372036854775808)))) false))) else (some (x104000, x104001, x104002))
def oculusref08_Divide.f (k : Nat) (a0_0 : Int) (a0_1 : Int) (a1 : Int) : Option (Int × Int × Bool) := oculusref08_Divide.l0 k a1 0 a0_0 a0_1 0 0 true
theorem oculusref08_Divide.calls (k : Nat) (a0_0 : Int) (a0_1 : Int) (a1 : Int) (r1 : Int) (r2 : Int) (r3 : Bool) (w : World) (h : oculusref08_Divide.f k a0_0 a0_1 a1 = some (r1, r2, r3)) :
  Calls Tryz.prog 68 #[.agg #[.int .u64 a0_0, .int .u64 a0_1], .int .u64 a1] w fun e w' => e = .returned (.agg #[.int .u64 r1, .int .u64 r2, .bool r3]) ∧ Below w.heap.size w w' := by
 have hu94 := Tryz.underlying94; have hu91 := Tryz.underlying91; have HB := A_ (Below.refl w.heap.size w)
 have H : (oculusref08_Divide.l0 k a1 0 a0_0 a0_1 0 0 true) = some (r1, r2, r3) := h
 clear h
 have H' := A_ H
 clear H
 go_enter Tryz.func68, Tryz.ntmps68
 go_wp2_with (first | ((with_reducible refine gd_ 2 ?_); refine be_ (N:=2) (cs := #[.int .u64 a0_0, .int .u64 a0_1]) (t:=94) ?_; intro g1 hg w3 hbox hb; have B1 := A_ (hbox); have GW101 := hs_ HB hg; have GE101 := hs_ HB hg; replace HB := bs_ HB hb; clear hb hbox hg) | ((with_reducible refine gd_ 4 ?_); refine be_ (N:=4) (cs := #[.int .u64 0, .int .u64 0, .bool false]) (t:=91) ?_; intro g2 hg w4 hbox hb; have B2 := A_ (hbox); have GW102 := hs_ HB hg; have GE102 := hs_ HB hg; have N12 := hl_ B1 hg; have N21 := hr_ B1 hg; replace B1 := bb_ B1 hb; replace HB := bs_ HB hb; clear hb hbox hg) | ((with_reducible refine gd_ 5 ?_); refine be_ (N:=5) (cs := #[.int .u64 0, .int .u64 0, .bool false]) (t:=91) ?_; intro g3 hg w5 hbox hb; have B3 := A_ (hbox); have GW103 := hs_ HB hg; have GE103 := hs_ HB hg; have N13 := hl_ B1 hg; have N31 := hr_ B1 hg; have N23 := hl_ B2 hg; have N32 := hr_ B2 hg; replace B1 := bb_ B1 hb; replace B2 := bb_ B2 hb; replace HB := bs_ HB hb; clear hb hbox hg; have hnb6 := N31.out; have hnc6 := N13.out; have hnb7 := N32.out; have hnc7 := N23.out; have ⟨hcz8_0,hcz8_1,hcz8_2,hfz8_0,hfz8_1,hfz8_2⟩ := z3_ B3))
 go_loopg [6] k (fun kq v6 w' => ∃ (x6_1 : Int) (x102000_1 : Int) (x102001_1 : Int) (x104000_1 : Int) (x104001_1 : Int) (x104002_1 : Bool), v6 = .int .i64 x6_1 ∧ Aside0 (oculusref08_Divide.l0 kq a1 x6_1 x102000_1 x102001_1 x104000_1 x104001_1 x104002_1 = some (r1, r2, r3)) ∧ Aside0 (kq ≤ k) ∧ Aside0 (w'.heap[g1]? = some (.cells #[.int .u64 x102000_1, .int .u64 x102001_1] 94 (0, 0))) ∧ Aside0 (w'.heap[g2]? = some (.cells #[.int .u64 0, .int .u64 0, .bool false] 91 (0, 0))) ∧ Aside0 (w'.heap[g3]? = some (.cells #[.int .u64 x104000_1, .int .u64 x104001_1, .bool x104002_1] 91 (0, 0))) ∧ Aside0 (Below w.heap.size w w'))
 case atStart => exact ⟨(0), (a0_0), (a0_1), (0), (0), (true), sq_, H', ⟨Nat.le_refl _⟩, ⟨by (iterate 3 refine pf_ ?_ N13.out); exact pkx B1⟩, ⟨by (iterate 3 refine pf_ ?_ N23.out); exact pkx B2⟩, ⟨by refine pp_ (cs := #[.int .u64 0, .int .u64 0, .bool false]) 2 ?_ rfl; refine blk_put (cs := #[.int .u64 0, .int .u64 0, .bool false]) ?_ 1 _ rfl; refine blk_put (cs := #[.int .u64 0, .int .u64 0, .bool false]) ?_ 0 _ rfl; exact pkx B3⟩, ⟨bl_⟩⟩
 case round =>
  clear H'; (try clear hcz8_0); (try clear hcz8_1); (try clear hcz8_2); (try clear hfz8_0); (try clear hfz8_1); (try clear hfz8_2); obtain ⟨x6_1, x102000_1, x102001_1, x104000_1, x104001_1, x104002_1, rfl, HA, HK1, B1, B2, B3, HB⟩ := hrel
  cases gk with
  | zero => exact absurd HA.out (by simp [oculusref08_Divide.l0])
  | succ k1 =>
   have H := HA.out; clear HA
   simp only [oculusref08_Divide.l0] at H
   by_cases c9 : x6_1 < 128
   ·rw [if_pos c9] at H; have c9b0 := decide_eq_true c9; clear c9
    replace H := ib_ H; rcases H with ⟨rfl,H⟩|⟨rfl,H⟩
    ·by_cases c11 : (IntKind.u64.wrap ((IntKind.u64.wrap (x104001_1 * 2)) + (IntKind.u64.wrap (Int.tdiv x102000_1 9223372036854775808)))) ≥ a1
     ·rw [if_pos c11] at H; have c11b0 := decide_eq_true c11; clear c11
      have H' := A_ H
      clear H; have hnb12 := N12.out; have hnc12 := N21.out; have hnb13 := N13.out; have hnc13 := N31.out
      have ⟨hcz14_0,hcz14_1,hfz14_0,hfz14_1⟩ := z2_ B1; have hnb15 := N32.out; have hnc15 := N23.out
      have ⟨hcz16_0,hcz16_1,hcz16_2,hfz16_0,hfz16_1,hfz16_2⟩ := z3_ B3
      go_wp2
      go_roundg k1
      case measure => have := HK1.out; omega
      case rel => exact ⟨(wrap64 (x6_1 + 1)), (IntKind.u64.wrap ((IntKind.u64.wrap (x102000_1 * 2)) + (IntKind.u64.wrap (Int.tdiv x102001_1 9223372036854775808)))), (IntKind.u64.wrap (x102001_1 * 2)), (IntKind.u64.wrap ((IntKind.u64.wrap (x104000_1 * 2)) + 1)), (IntKind.u64.wrap ((IntKind.u64.wrap ((IntKind.u64.wrap (x104001_1 * 2)) + (IntKind.u64.wrap (Int.tdiv x102000_1 9223372036854775808)))) - a1)), (decide (x104000_1 < 9223372036854775808)), sq_, H', ⟨by have := HK1.out; omega⟩, ⟨by (iterate 5 refine pf_ ?_ N13.out); refine pp_ (cs := #[.int .u64 (IntKind.u64.wrap ((IntKind.u64.wrap (x102000_1 * 2)) + (IntKind.u64.wrap (Int.tdiv x102001_1 9223372036854775808)))), .int .u64 x102001_1]) 1 ?_ rfl; refine blk_put (cs := #[.int .u64 x102000_1, .int .u64 x102001_1]) ?_ 0 _ rfl; exact pkx B1⟩, ⟨by (iterate 5 refine pf_ ?_ N23.out); (iterate 2 refine pf_ ?_ N21.out); exact pkx B2⟩, ⟨by refine pp_ (cs := #[.int .u64 (IntKind.u64.wrap (x104000_1 * 2)), .int .u64 (IntKind.u64.wrap ((IntKind.u64.wrap ((IntKind.u64.wrap (x104001_1 * 2)) + (IntKind.u64.wrap (Int.tdiv x102000_1 9223372036854775808)))) - a1)), .bool (decide (x104000_1 < 9223372036854775808))]) 0 ?_ rfl; refine blk_put (cs := #[.int .u64 (IntKind.u64.wrap (x104000_1 * 2)), .int .u64 (IntKind.u64.wrap ((IntKind.u64.wrap (x104001_1 * 2)) + (IntKind.u64.wrap (Int.tdiv x102000_1 9223372036854775808)))), .bool (decide (x104000_1 < 9223372036854775808))]) ?_ 1 _ rfl; refine blk_put (cs := #[.int .u64 (IntKind.u64.wrap (x104000_1 * 2)), .int .u64 x104001_1, .bool (decide (x104000_1 < 9223372036854775808))]) ?_ 1 _ rfl; refine blk_put (cs := #[.int .u64 x104000_1, .int .u64 x104001_1, .bool (decide (x104000_1 < 9223372036854775808))]) ?_ 0 _ rfl; refine blk_put (cs := #[.int .u64 x104000_1, .int .u64 x104001_1, .bool true]) ?_ 2 _ rfl; (iterate 2 refine pf_ ?_ N31.out); exact pkx B3⟩, ⟨bl_⟩⟩
     ·rw [if_neg c11] at H; have c11b0 := decide_eq_false c11; clear c11
      have H' := A_ H
      clear H; have hnb17 := N12.out; have hnc17 := N21.out; have hnb18 := N13.out; have hnc18 := N31.out
      have ⟨hcz19_0,hcz19_1,hfz19_0,hfz19_1⟩ := z2_ B1; have hnb20 := N32.out; have hnc20 := N23.out
      have ⟨hcz21_0,hcz21_1,hcz21_2,hfz21_0,hfz21_1,hfz21_2⟩ := z3_ B3
      go_wp2
      go_roundg k1
      case measure => have := HK1.out; omega
      case rel => exact ⟨(wrap64 (x6_1 + 1)), (IntKind.u64.wrap ((IntKind.u64.wrap (x102000_1 * 2)) + (IntKind.u64.wrap (Int.tdiv x102001_1 9223372036854775808)))), (IntKind.u64.wrap (x102001_1 * 2)), (IntKind.u64.wrap (x104000_1 * 2)), (IntKind.u64.wrap ((IntKind.u64.wrap (x104001_1 * 2)) + (IntKind.u64.wrap (Int.tdiv x102000_1 9223372036854775808)))), (decide (x104000_1 < 9223372036854775808)), sq_, H', ⟨by have := HK1.out; omega⟩, ⟨by (iterate 3 refine pf_ ?_ N13.out); refine pp_ (cs := #[.int .u64 (IntKind.u64.wrap ((IntKind.u64.wrap (x102000_1 * 2)) + (IntKind.u64.wrap (Int.tdiv x102001_1 9223372036854775808)))), .int .u64 x102001_1]) 1 ?_ rfl; refine blk_put (cs := #[.int .u64 x102000_1, .int .u64 x102001_1]) ?_ 0 _ rfl; exact pkx B1⟩, ⟨by (iterate 3 refine pf_ ?_ N23.out); (iterate 2 refine pf_ ?_ N21.out); exact pkx B2⟩, ⟨by refine pp_ (cs := #[.int .u64 (IntKind.u64.wrap (x104000_1 * 2)), .int .u64 x104001_1, .bool (decide (x104000_1 < 9223372036854775808))]) 1 ?_ rfl; refine blk_put (cs := #[.int .u64 x104000_1, .int .u64 x104001_1, .bool (decide (x104000_1 < 9223372036854775808))]) ?_ 0 _ rfl; refine blk_put (cs := #[.int .u64 x104000_1, .int .u64 x104001_1, .bool true]) ?_ 2 _ rfl; (iterate 2 refine pf_ ?_ N31.out); exact pkx B3⟩, ⟨bl_⟩⟩
    ·by_cases c22 : (IntKind.u64.wrap ((IntKind.u64.wrap (x104001_1 * 2)) + (IntKind.u64.wrap (Int.tdiv x102000_1 9223372036854775808)))) ≥ a1
     ·rw [if_pos c22] at H; have c22b0 := decide_eq_true c22; clear c22
      have H' := A_ H
      clear H; have hnb23 := N12.out; have hnc23 := N21.out; have hnb24 := N13.out; have hnc24 := N31.out
      have ⟨hcz25_0,hcz25_1,hfz25_0,hfz25_1⟩ := z2_ B1; have hnb26 := N32.out; have hnc26 := N23.out
      have ⟨hcz27_0,hcz27_1,hcz27_2,hfz27_0,hfz27_1,hfz27_2⟩ := z3_ B3
      go_wp2
      go_roundg k1
      case measure => have := HK1.out; omega
      case rel => exact ⟨(wrap64 (x6_1 + 1)), (IntKind.u64.wrap ((IntKind.u64.wrap (x102000_1 * 2)) + (IntKind.u64.wrap (Int.tdiv x102001_1 9223372036854775808)))), (IntKind.u64.wrap (x102001_1 * 2)), (IntKind.u64.wrap ((IntKind.u64.wrap (x104000_1 * 2)) + 1)), (IntKind.u64.wrap ((IntKind.u64.wrap ((IntKind.u64.wrap (x104001_1 * 2)) + (IntKind.u64.wrap (Int.tdiv x102000_1 9223372036854775808)))) - a1)), (false), sq_, H', ⟨by have := HK1.out; omega⟩, ⟨by (iterate 5 refine pf_ ?_ N13.out); refine pp_ (cs := #[.int .u64 (IntKind.u64.wrap ((IntKind.u64.wrap (x102000_1 * 2)) + (IntKind.u64.wrap (Int.tdiv x102001_1 9223372036854775808)))), .int .u64 x102001_1]) 1 ?_ rfl; refine blk_put (cs := #[.int .u64 x102000_1, .int .u64 x102001_1]) ?_ 0 _ rfl; exact pkx B1⟩, ⟨by (iterate 5 refine pf_ ?_ N23.out); (iterate 2 refine pf_ ?_ N21.out); exact pkx B2⟩, ⟨by refine pp_ (cs := #[.int .u64 (IntKind.u64.wrap (x104000_1 * 2)), .int .u64 (IntKind.u64.wrap ((IntKind.u64.wrap ((IntKind.u64.wrap (x104001_1 * 2)) + (IntKind.u64.wrap (Int.tdiv x102000_1 9223372036854775808)))) - a1)), .bool false]) 0 ?_ rfl; refine blk_put (cs := #[.int .u64 (IntKind.u64.wrap (x104000_1 * 2)), .int .u64 (IntKind.u64.wrap ((IntKind.u64.wrap (x104001_1 * 2)) + (IntKind.u64.wrap (Int.tdiv x102000_1 9223372036854775808)))), .bool false]) ?_ 1 _ rfl; refine blk_put (cs := #[.int .u64 (IntKind.u64.wrap (x104000_1 * 2)), .int .u64 x104001_1, .bool false]) ?_ 1 _ rfl; refine blk_put (cs := #[.int .u64 x104000_1, .int .u64 x104001_1, .bool false]) ?_ 0 _ rfl; refine blk_put (cs := #[.int .u64 x104000_1, .int .u64 x104001_1, .bool false]) ?_ 2 _ rfl; (iterate 2 refine pf_ ?_ N31.out); exact pkx B3⟩, ⟨bl_⟩⟩
     ·rw [if_neg c22] at H; have c22b0 := decide_eq_false c22; clear c22
      have H' := A_ H
      clear H; have hnb28 := N12.out; have hnc28 := N21.out; have hnb29 := N13.out; have hnc29 := N31.out
      have ⟨hcz30_0,hcz30_1,hfz30_0,hfz30_1⟩ := z2_ B1; have hnb31 := N32.out; have hnc31 := N23.out
      have ⟨hcz32_0,hcz32_1,hcz32_2,hfz32_0,hfz32_1,hfz32_2⟩ := z3_ B3
      go_wp2
      go_roundg k1
      case measure => have := HK1.out; omega
      case rel => exact ⟨(wrap64 (x6_1 + 1)), (IntKind.u64.wrap ((IntKind.u64.wrap (x102000_1 * 2)) + (IntKind.u64.wrap (Int.tdiv x102001_1 9223372036854775808)))), (IntKind.u64.wrap (x102001_1 * 2)), (IntKind.u64.wrap (x104000_1 * 2)), (IntKind.u64.wrap ((IntKind.u64.wrap (x104001_1 * 2)) + (IntKind.u64.wrap (Int.tdiv x102000_1 9223372036854775808)))), (false), sq_, H', ⟨by have := HK1.out; omega⟩, ⟨by (iterate 3 refine pf_ ?_ N13.out); refine pp_ (cs := #[.int .u64 (IntKind.u64.wrap ((IntKind.u64.wrap (x102000_1 * 2)) + (IntKind.u64.wrap (Int.tdiv x102001_1 9223372036854775808)))), .int .u64 x102001_1]) 1 ?_ rfl; refine blk_put (cs := #[.int .u64 x102000_1, .int .u64 x102001_1]) ?_ 0 _ rfl; exact pkx B1⟩, ⟨by (iterate 3 refine pf_ ?_ N23.out); (iterate 2 refine pf_ ?_ N21.out); exact pkx B2⟩, ⟨by refine pp_ (cs := #[.int .u64 (IntKind.u64.wrap (x104000_1 * 2)), .int .u64 x104001_1, .bool false]) 1 ?_ rfl; refine blk_put (cs := #[.int .u64 x104000_1, .int .u64 x104001_1, .bool false]) ?_ 0 _ rfl; refine blk_put (cs := #[.int .u64 x104000_1, .int .u64 x104001_1, .bool false]) ?_ 2 _ rfl; (iterate 2 refine pf_ ?_ N31.out); exact pkx B3⟩, ⟨bl_⟩⟩
   ·rw [if_neg c9] at H; have c9b0 := decide_eq_false c9; clear c9
    simp only [Option.some.injEq, Prod.mk.injEq] at H
    obtain ⟨rfl, rfl, rfl⟩ := H; have hnb33 := N31.out; have hnc33 := N13.out; have hnb34 := N32.out; have hnc34 := N23.out
    have ⟨hcz35_0,hcz35_1,hcz35_2,hfz35_0,hfz35_1,hfz35_2⟩ := z3_ B3; have hnb36 := N21.out; have hnc36 := N12.out
    have ⟨hcz37_0,hcz37_1,hcz37_2,hfz37_0,hfz37_1,hfz37_2⟩ := z3_ B2
    go_wp2
    refine bodyPost_ret (results_cell_row rfl _ _ g2 91 #[.int .u64 x104000_1, .int .u64 x104001_1, .bool x104002_1] (0, 0) _ rfl (by refine pp_ (cs := #[.int .u64 x104000_1, .int .u64 x104001_1, .bool false]) 2 ?_ rfl; refine blk_put (cs := #[.int .u64 x104000_1, .int .u64 0, .bool false]) ?_ 1 _ rfl; refine blk_put (cs := #[.int .u64 0, .int .u64 0, .bool false]) ?_ 0 _ rfl; exact pkx B2) Tryz.underlying91 rfl (by kernel_rfl)) rfl ?_
    exact fi_ bl_

def oculusref08_Times.f (a0 : Int) (a1 : Int) : Option (Int × Int) := some (IntKind.u64.wrap ((IntKind.u64.wrap ((IntKind.u64.wrap ((IntKind.u64.wrap (Int.tdiv a0 4294967296)) * (IntKind.u64.wrap (Int.tdiv a1 4294967296)))) + (IntKind.u64.wrap (Int.tdiv (IntKind.u64.wrap ((IntKind.u64.wrap ((IntKind.u64.wrap (Int.tdiv a0 4294967296)) * (Int.tmod a1 4294967296))) + (IntKind.u64.wrap (Int.tdiv (IntKind.u64.wrap ((Int.tmod a0 4294967296) * (Int.tmod a1 4294967296))) 4294967296)))) 4294967296)))) + (IntKind.u64.wrap (Int.tdiv (IntKind.u64.wrap ((IntKind.u64.wrap ((Int.tmod a0 4294967296) * (IntKind.u64.wrap (Int.tdiv a1 4294967296)))) + (Int.tmod (IntKind.u64.wrap ((IntKind.u64.wrap ((IntKind.u64.wrap (Int.tdiv a0 4294967296)) * (Int.tmod a1 4294967296))) + (IntKind.u64.wrap (Int.tdiv (IntKind.u64.wrap ((Int.tmod a0 4294967296) * (Int.tmod a1 4294967296))) 4294967296)))) 4294967296))) 4294967296))), IntKind.u64.wrap ((IntKind.u64.wrap ((Int.tmod (IntKind.u64.wrap ((IntKind.u64.wrap ((Int.tmod a0 4294967296) * (IntKind.u64.wrap (Int.tdiv a1 4294967296)))) + (Int.tmod (IntKind.u64.wrap ((IntKind.u64.wrap ((IntKind.u64.wrap (Int.tdiv a0 4294967296)) * (Int.tmod a1 4294967296))) + (IntKind.u64.wrap (Int.tdiv (IntKind.u64.wrap ((Int.tmod a0 4294967296) * (Int.tmod a1 4294967296))) 4294967296)))) 4294967296))) 4294967296) * 4294967296)) + (Int.tmod (IntKind.u64.wrap ((Int.tmod a0 4294967296) * (Int.tmod a1 4294967296))) 4294967296)))
def oculusref08_Times.T2 : Bool × List (List Nat × List Nat) := (true, [([], []), ([], []), ([0, 1], [0, 1]), ([], []), ([], []), ([3, 4], [3, 4]), ([2, 5], [2, 5]), ([6, 0, 1, 2, 3, 4, 5, 6], [6])])
def oculusref08_Times.B2 : List Nat := [0, 0, 3, 0, 0, 24, 63, 127]
theorem oculusref08_Times.tab2 : rtab .any (opsOf Tryz.f69 2) = oculusref08_Times.T2 := by kernel_rfl
theorem oculusref08_Times.bits2 : waitsOk oculusref08_Times.T2.2 oculusref08_Times.B2 = true := by kernel_rfl
def oculusref08_Times.T3 : Bool × List (List Nat × List Nat) := (true, [([], []), ([], []), ([0, 1], [0, 1]), ([], []), ([], []), ([3, 4], [3, 4]), ([2, 5], [2, 5]), ([], []), ([], []), ([7, 8], [7, 8]), ([6, 9], [6, 9]), ([10, 0, 1, 2, 3, 4, 5, 6, 7, 8, 9, 10], [10])])
def oculusref08_Times.B3 : List Nat := [0, 0, 3, 0, 0, 24, 63, 0, 0, 384, 1023, 2047]
theorem oculusref08_Times.tab3 : rtab .any (opsOf Tryz.f69 3) = oculusref08_Times.T3 := by kernel_rfl
theorem oculusref08_Times.bits3 : waitsOk oculusref08_Times.T3.2 oculusref08_Times.B3 = true := by kernel_rfl
def oculusref08_Times.T4 : Bool × List (List Nat × List Nat) := (true, [([], []), ([], []), ([0, 1], [0, 1]), ([], []), ([], []), ([3, 4], [3, 4]), ([2, 5], [2, 5]), ([], []), ([], []), ([7, 8], [7, 8]), ([6, 9], [6, 9]), ([10, 0, 1, 2, 3, 4, 5, 6, 7, 8, 9, 10], [10])])
def oculusref08_Times.B4 : List Nat := [0, 0, 3, 0, 0, 24, 63, 0, 0, 384, 1023, 2047]
theorem oculusref08_Times.tab4 : rtab .any (opsOf Tryz.f69 4) = oculusref08_Times.T4 := by kernel_rfl
theorem oculusref08_Times.bits4 : waitsOk oculusref08_Times.T4.2 oculusref08_Times.B4 = true := by kernel_rfl
def oculusref08_Times.T5 : Bool × List (List Nat × List Nat) := (true, [([], []), ([], []), ([0, 1], [0, 1]), ([], []), ([], []), ([3, 4], [3, 4]), ([2, 5], [2, 5]), ([], []), ([], []), ([7, 8], [7, 8]), ([6, 9], [6, 9]), ([], []), ([], []), ([11, 12], [11, 12]), ([10, 13], [10, 13]), ([], []), ([], []), ([15, 16], [15, 16]), ([], []), ([17, 18], [17, 18]), ([], []), ([], []), ([20, 21], [20, 21]), ([19, 22], [19, 22]), ([14, 23], [14, 23]), ([24, 0, 1, 2, 3, 4, 5, 6, 7, 8, 9, 10, 11, 12, 13, 14, 15, 16, 17, 18, 19, 20, 21, 22, 23, 24], [24])])
def oculusref08_Times.B5 : List Nat := [0, 0, 3, 0, 0, 24, 63, 0, 0, 384, 1023, 0, 0, 6144, 16383, 0, 0, 98304, 0, 491520, 0, 0, 3145728, 8355840, 16777215, 33554431]
theorem oculusref08_Times.tab5 : rtab .any (opsOf Tryz.f69 5) = oculusref08_Times.T5 := by kernel_rfl
theorem oculusref08_Times.bits5 : waitsOk oculusref08_Times.T5.2 oculusref08_Times.B5 = true := by kernel_rfl
theorem oculusref08_Times.calls (a0 : Int) (a1 : Int) (r1 : Int) (r2 : Int) (w : World) (h : oculusref08_Times.f a0 a1 = some (r1, r2)) :
  Calls Tryz.prog 69 #[.int .u64 a0, .int .u64 a1] w fun e w' => e = .returned (.agg #[.int .u64 r1, .int .u64 r2]) ∧ Below w.heap.size w w' := by
 have hu94 := Tryz.underlying94; have HB := A_ (Below.refl w.heap.size w)
 have H : (some (IntKind.u64.wrap ((IntKind.u64.wrap ((IntKind.u64.wrap ((IntKind.u64.wrap (Int.tdiv a0 4294967296)) * (IntKind.u64.wrap (Int.tdiv a1 4294967296)))) + (IntKind.u64.wrap (Int.tdiv (IntKind.u64.wrap ((IntKind.u64.wrap ((IntKind.u64.wrap (Int.tdiv a0 4294967296)) * (Int.tmod a1 4294967296))) + (IntKind.u64.wrap (Int.tdiv (IntKind.u64.wrap ((Int.tmod a0 4294967296) * (Int.tmod a1 4294967296))) 4294967296)))) 4294967296)))) + (IntKind.u64.wrap (Int.tdiv (IntKind.u64.wrap ((IntKind.u64.wrap ((Int.tmod a0 4294967296) * (IntKind.u64.wrap (Int.tdiv a1 4294967296)))) + (Int.tmod (IntKind.u64.wrap ((IntKind.u64.wrap ((IntKind.u64.wrap (Int.tdiv a0 4294967296)) * (Int.tmod a1 4294967296))) + (IntKind.u64.wrap (Int.tdiv (IntKind.u64.wrap ((Int.tmod a0 4294967296) * (Int.tmod a1 4294967296))) 4294967296)))) 4294967296))) 4294967296))), IntKind.u64.wrap ((IntKind.u64.wrap ((Int.tmod (IntKind.u64.wrap ((IntKind.u64.wrap ((Int.tmod a0 4294967296) * (IntKind.u64.wrap (Int.tdiv a1 4294967296)))) + (Int.tmod (IntKind.u64.wrap ((IntKind.u64.wrap ((IntKind.u64.wrap (Int.tdiv a0 4294967296)) * (Int.tmod a1 4294967296))) + (IntKind.u64.wrap (Int.tdiv (IntKind.u64.wrap ((Int.tmod a0 4294967296) * (Int.tmod a1 4294967296))) 4294967296)))) 4294967296))) 4294967296) * 4294967296)) + (Int.tmod (IntKind.u64.wrap ((Int.tmod a0 4294967296) * (Int.tmod a1 4294967296))) 4294967296)))) = some (r1, r2) := h
 clear h
 simp only [Option.some.injEq, Prod.mk.injEq] at H
 obtain ⟨rfl, rfl⟩ := H
 go_enter Tryz.func69, Tryz.ntmps69
 try go_wp2_with (first | ((with_reducible refine gd_ 4 ?_); refine be_ (N:=4) (cs := #[.int .u64 0, .int .u64 0]) (t:=94) ?_; intro g1 hg w3 hbox hb; have B1 := A_ (hbox); have GW101 := hs_ HB hg; have GE101 := hs_ HB hg; replace HB := bs_ HB hb; clear hb hbox hg))
 (try (rw [drewN_self w3]; generalize hq_ : World.drewN w3 _ = w3; have n0_ : Aside0 (w3.heap[g1]? = some (.cells #[.int .u64 0, .int .u64 0] 94 (0, 0))) := ⟨by rw [← hq_]; exact (pkx B1)⟩; have n1_ : Aside0 (Below w.heap.size w w3) := ⟨by rw [← hq_]; exact (pbx HB)⟩; clear B1 HB hq_; have B1 := n0_; have HB := n1_; clear n0_ n1_))
 replace B1 := A_ (blk_drew B1.out); replace HB := A_ (below_drew1 HB.out)
 refine start_ (n:=8) (S := fun w' => True) (ds := []) #[F,F,F,F,F,F,F,F] (by kernel_rfl) rfl rfl trivial (fun hHeld => ?_); refine with_tabW oculusref08_Times.tab2 oculusref08_Times.bits2 (fun HT_ HW_ => ?_)
 generalize w3.drew = w4 at B1 HB hHeld ⊢; refine pure_ (i:=0) (N:=some 9) (v:=?_) (a':=?_) ⟨m_ 8 1⟩ rfl rfl (ao_ HT_) (fun _ _ _ h=>h) (Or.inl ⟨rfl, ?_⟩) ?_ ?_; rotate_left
 ·intro w'; go_simp; with_reducible rfl
 rotate_left
 ·simp only [q_, i64_w, i32_w]; rfl
 refine pure_ (i:=1) (N:=some 10) (v:=?_) (a':=?_) ⟨m_ 8 3⟩ rfl rfl (ao_ HT_) (fun _ _ _ h=>h) (Or.inl ⟨rfl, ?_⟩) ?_ ?_; rotate_left
 ·intro w'; go_simp; with_reducible rfl
 rotate_left
 ·simp only [q_, i64_w, i32_w]; rfl
 refine pure_ (i:=2) (N:=some 11) (v:=?_) (a':=?_) ⟨m_ 8 7⟩ rfl rfl (ao_ HT_) (fun _ _ _ h=>h) (Or.inl ⟨rfl, ?_⟩) ?_ ?_; rotate_left
 ·intro w'; go_simp; with_reducible rfl
 rotate_left
 ·simp only [q_, i64_w, i32_w]; rfl
 refine pure_ (i:=3) (N:=some 12) (v:=?_) (a':=?_) ⟨m_ 8 15⟩ rfl rfl (ao_ HT_) (fun _ _ _ h=>h) (Or.inl ⟨rfl, ?_⟩) ?_ ?_; rotate_left
 ·intro w'; go_simp; with_reducible rfl
 rotate_left
 ·simp only [q_, i64_w, i32_w]; rfl
 refine pure_ (i:=4) (N:=some 13) (v:=?_) (a':=?_) ⟨m_ 8 31⟩ rfl rfl (ao_ HT_) (fun _ _ _ h=>h) (Or.inl ⟨rfl, ?_⟩) ?_ ?_; rotate_left
 ·intro w'; go_simp; with_reducible rfl
 rotate_left
 ·simp only [q_, i64_w, i32_w]; rfl
 refine pure_ (i:=5) (N:=some 14) (v:=?_) (a':=?_) ⟨m_ 8 63⟩ rfl rfl (ao_ HT_) (fun _ _ _ h=>h) (Or.inl ⟨rfl, ?_⟩) ?_ ?_; rotate_left
 ·intro w'; go_simp; with_reducible rfl
 rotate_left
 ·simp only [q_, i64_w, i32_w]; rfl
 refine pure_ (i:=6) (N:=some 15) (v:=?_) (a':=?_) ⟨m_ 8 127⟩ rfl rfl (ao_ HT_) (fun _ _ _ h=>h) (Or.inl ⟨rfl, ?_⟩) ?_ ?_; rotate_left
 ·intro w'; go_simp; with_reducible rfl
 rotate_left
 ·simp only [q_, i64_w, i32_w]; rfl
 refine pure_ (i:=7) (N:=some 6) (v:=?_) (a':=?_) ⟨m_ 8 255⟩ rfl rfl (ao_ HT_) (fun _ _ _ h=>h) (Or.inl ⟨rfl, ?_⟩) ?_ ?_; rotate_left
 ·intro w'; go_simp; with_reducible rfl
 rotate_left
 ·simp only [q_, i64_w, i32_w]; rfl
 refine done_ (done_of HT_.out (by kernel_rfl)) ?_
 try go_wp2
 (try (rw [drewN_self w4]; generalize hq_ : World.drewN w4 _ = w4; have n0_ : Aside0 (w4.heap[g1]? = some (.cells #[.int .u64 0, .int .u64 0] 94 (0, 0))) := ⟨by rw [← hq_]; exact (pkx B1)⟩; have n1_ : Aside0 (Below w.heap.size w w4) := ⟨by rw [← hq_]; exact (pbx HB)⟩; clear B1 HB hq_; have B1 := n0_; have HB := n1_; clear n0_ n1_))
 replace B1 := A_ (blk_drew B1.out); replace HB := A_ (below_drew1 HB.out)
 refine start_ (n:=12) (S := fun w' => True) (ds := []) #[F,F,F,F,F,F,F,F,F,F,F,F] (by kernel_rfl) rfl rfl trivial (fun hHeld => ?_); refine with_tabW oculusref08_Times.tab3 oculusref08_Times.bits3 (fun HT_ HW_ => ?_)
 generalize w4.drew = w5 at B1 HB hHeld ⊢; refine pure_ (i:=0) (N:=some 16) (v:=?_) (a':=?_) ⟨m_ 12 1⟩ rfl rfl (ao_ HT_) (fun _ _ _ h=>h) (Or.inl ⟨rfl, ?_⟩) ?_ ?_; rotate_left
 ·intro w'; go_simp; with_reducible rfl
 rotate_left
 ·simp only [q_, i64_w, i32_w]; rfl
 refine pure_ (i:=1) (N:=some 17) (v:=?_) (a':=?_) ⟨m_ 12 3⟩ rfl rfl (ao_ HT_) (fun _ _ _ h=>h) (Or.inl ⟨rfl, ?_⟩) ?_ ?_; rotate_left
 ·intro w'; go_simp; with_reducible rfl
 rotate_left
 ·simp only [q_, i64_w, i32_w]; rfl
 refine pure_ (i:=2) (N:=some 18) (v:=?_) (a':=?_) ⟨m_ 12 7⟩ rfl rfl (ao_ HT_) (fun _ _ _ h=>h) (Or.inl ⟨rfl, ?_⟩) ?_ ?_; rotate_left
 ·intro w'; go_simp; with_reducible rfl
 rotate_left
 ·simp only [q_, i64_w, i32_w]; rfl
 refine pure_ (i:=3) (N:=some 19) (v:=?_) (a':=?_) ⟨m_ 12 15⟩ rfl rfl (ao_ HT_) (fun _ _ _ h=>h) (Or.inl ⟨rfl, ?_⟩) ?_ ?_; rotate_left
 ·intro w'; go_simp; with_reducible rfl
 rotate_left
 ·simp only [q_, i64_w, i32_w]; rfl
 refine pure_ (i:=4) (N:=some 20) (v:=?_) (a':=?_) ⟨m_ 12 31⟩ rfl rfl (ao_ HT_) (fun _ _ _ h=>h) (Or.inl ⟨rfl, ?_⟩) ?_ ?_; rotate_left
 ·intro w'; go_simp; with_reducible rfl
 rotate_left
 ·simp only [q_, i64_w, i32_w]; rfl
 refine pure_ (i:=5) (N:=some 21) (v:=?_) (a':=?_) ⟨m_ 12 63⟩ rfl rfl (ao_ HT_) (fun _ _ _ h=>h) (Or.inl ⟨rfl, ?_⟩) ?_ ?_; rotate_left
 ·intro w'; go_simp; with_reducible rfl
 rotate_left
 ·simp only [q_, i64_w, i32_w]; rfl
 refine pure_ (i:=6) (N:=some 22) (v:=?_) (a':=?_) ⟨m_ 12 127⟩ rfl rfl (ao_ HT_) (fun _ _ _ h=>h) (Or.inl ⟨rfl, ?_⟩) ?_ ?_; rotate_left
 ·intro w'; go_simp; with_reducible rfl
 rotate_left
 ·simp only [q_, i64_w, i32_w]; rfl
 refine pure_ (i:=7) (N:=some 23) (v:=?_) (a':=?_) ⟨m_ 12 255⟩ rfl rfl (ao_ HT_) (fun _ _ _ h=>h) (Or.inl ⟨rfl, ?_⟩) ?_ ?_; rotate_left
 ·intro w'; go_simp; with_reducible rfl
 rotate_left
 ·simp only [q_, i64_w, i32_w]; rfl
 refine pure_ (i:=8) (N:=some 24) (v:=?_) (a':=?_) ⟨m_ 12 511⟩ rfl rfl (ao_ HT_) (fun _ _ _ h=>h) (Or.inl ⟨rfl, ?_⟩) ?_ ?_; rotate_left
 ·intro w'; go_simp; with_reducible rfl
 rotate_left
 ·simp only [q_, i64_w, i32_w]; rfl
 refine pure_ (i:=9) (N:=some 25) (v:=?_) (a':=?_) ⟨m_ 12 1023⟩ rfl rfl (ao_ HT_) (fun _ _ _ h=>h) (Or.inl ⟨rfl, ?_⟩) ?_ ?_; rotate_left
 ·intro w'; go_simp; with_reducible rfl
 rotate_left
 ·simp only [q_, i64_w, i32_w]; rfl
 refine pure_ (i:=10) (N:=some 26) (v:=?_) (a':=?_) ⟨m_ 12 2047⟩ rfl rfl (ao_ HT_) (fun _ _ _ h=>h) (Or.inl ⟨rfl, ?_⟩) ?_ ?_; rotate_left
 ·intro w'; go_simp; with_reducible rfl
 rotate_left
 ·simp only [q_, i64_w, i32_w]; rfl
 refine pure_ (i:=11) (N:=some 7) (v:=?_) (a':=?_) ⟨m_ 12 4095⟩ rfl rfl (ao_ HT_) (fun _ _ _ h=>h) (Or.inl ⟨rfl, ?_⟩) ?_ ?_; rotate_left
 ·intro w'; go_simp; with_reducible rfl
 rotate_left
 ·simp only [q_, i64_w, i32_w]; rfl
 refine done_ (done_of HT_.out (by kernel_rfl)) ?_
 try go_wp2
 (try (rw [drewN_self w5]; generalize hq_ : World.drewN w5 _ = w5; have n0_ : Aside0 (w5.heap[g1]? = some (.cells #[.int .u64 0, .int .u64 0] 94 (0, 0))) := ⟨by rw [← hq_]; exact (pkx B1)⟩; have n1_ : Aside0 (Below w.heap.size w w5) := ⟨by rw [← hq_]; exact (pbx HB)⟩; clear B1 HB hq_; have B1 := n0_; have HB := n1_; clear n0_ n1_))
 replace B1 := A_ (blk_drew B1.out); replace HB := A_ (below_drew1 HB.out)
 refine start_ (n:=12) (S := fun w' => True) (ds := []) #[F,F,F,F,F,F,F,F,F,F,F,F] (by kernel_rfl) rfl rfl trivial (fun hHeld => ?_); refine with_tabW oculusref08_Times.tab4 oculusref08_Times.bits4 (fun HT_ HW_ => ?_)
 generalize w5.drew = w6 at B1 HB hHeld ⊢; refine pure_ (i:=0) (N:=some 27) (v:=?_) (a':=?_) ⟨m_ 12 1⟩ rfl rfl (ao_ HT_) (fun _ _ _ h=>h) (Or.inl ⟨rfl, ?_⟩) ?_ ?_; rotate_left
 ·intro w'; go_simp; with_reducible rfl
 rotate_left
 ·simp only [q_, i64_w, i32_w]; rfl
 refine pure_ (i:=1) (N:=some 28) (v:=?_) (a':=?_) ⟨m_ 12 3⟩ rfl rfl (ao_ HT_) (fun _ _ _ h=>h) (Or.inl ⟨rfl, ?_⟩) ?_ ?_; rotate_left
 ·intro w'; go_simp; with_reducible rfl
 rotate_left
 ·simp only [q_, i64_w, i32_w]; rfl
 refine pure_ (i:=2) (N:=some 29) (v:=?_) (a':=?_) ⟨m_ 12 7⟩ rfl rfl (ao_ HT_) (fun _ _ _ h=>h) (Or.inl ⟨rfl, ?_⟩) ?_ ?_; rotate_left
 ·intro w'; go_simp; with_reducible rfl
 rotate_left
 ·simp only [q_, i64_w, i32_w]; rfl
 refine pure_ (i:=3) (N:=some 30) (v:=?_) (a':=?_) ⟨m_ 12 15⟩ rfl rfl (ao_ HT_) (fun _ _ _ h=>h) (Or.inl ⟨rfl, ?_⟩) ?_ ?_; rotate_left
 ·intro w'; go_simp; with_reducible rfl
 rotate_left
 ·simp only [q_, i64_w, i32_w]; rfl
 refine pure_ (i:=4) (N:=some 31) (v:=?_) (a':=?_) ⟨m_ 12 31⟩ rfl rfl (ao_ HT_) (fun _ _ _ h=>h) (Or.inl ⟨rfl, ?_⟩) ?_ ?_; rotate_left
 ·intro w'; go_simp; with_reducible rfl
 rotate_left
 ·simp only [q_, i64_w, i32_w]; rfl
 refine pure_ (i:=5) (N:=some 32) (v:=?_) (a':=?_) ⟨m_ 12 63⟩ rfl rfl (ao_ HT_) (fun _ _ _ h=>h) (Or.inl ⟨rfl, ?_⟩) ?_ ?_; rotate_left
 ·intro w'; go_simp; with_reducible rfl
 rotate_left
 ·simp only [q_, i64_w, i32_w]; rfl
 refine pure_ (i:=6) (N:=some 33) (v:=?_) (a':=?_) ⟨m_ 12 127⟩ rfl rfl (ao_ HT_) (fun _ _ _ h=>h) (Or.inl ⟨rfl, ?_⟩) ?_ ?_; rotate_left
 ·intro w'; go_simp; with_reducible rfl
 rotate_left
 ·simp only [q_, i64_w, i32_w]; rfl
 refine pure_ (i:=7) (N:=some 34) (v:=?_) (a':=?_) ⟨m_ 12 255⟩ rfl rfl (ao_ HT_) (fun _ _ _ h=>h) (Or.inl ⟨rfl, ?_⟩) ?_ ?_; rotate_left
 ·intro w'; go_simp; with_reducible rfl
 rotate_left
 ·simp only [q_, i64_w, i32_w]; rfl
 refine pure_ (i:=8) (N:=some 35) (v:=?_) (a':=?_) ⟨m_ 12 511⟩ rfl rfl (ao_ HT_) (fun _ _ _ h=>h) (Or.inl ⟨rfl, ?_⟩) ?_ ?_; rotate_left
 ·intro w'; go_simp; with_reducible rfl
 rotate_left
 ·simp only [q_, i64_w, i32_w]; rfl
 refine pure_ (i:=9) (N:=some 36) (v:=?_) (a':=?_) ⟨m_ 12 1023⟩ rfl rfl (ao_ HT_) (fun _ _ _ h=>h) (Or.inl ⟨rfl, ?_⟩) ?_ ?_; rotate_left
 ·intro w'; go_simp; with_reducible rfl
 rotate_left
 ·simp only [q_, i64_w, i32_w]; rfl
 refine pure_ (i:=10) (N:=some 37) (v:=?_) (a':=?_) ⟨m_ 12 2047⟩ rfl rfl (ao_ HT_) (fun _ _ _ h=>h) (Or.inl ⟨rfl, ?_⟩) ?_ ?_; rotate_left
 ·intro w'; go_simp; with_reducible rfl
 rotate_left
 ·simp only [q_, i64_w, i32_w]; rfl
 refine pure_ (i:=11) (N:=some 8) (v:=?_) (a':=?_) ⟨m_ 12 4095⟩ rfl rfl (ao_ HT_) (fun _ _ _ h=>h) (Or.inl ⟨rfl, ?_⟩) ?_ ?_; rotate_left
 ·intro w'; go_simp; with_reducible rfl
 rotate_left
 ·simp only [q_, i64_w, i32_w]; rfl
 refine done_ (done_of HT_.out (by kernel_rfl)) ?_
 try go_wp2
 (try (rw [drewN_self w6]; generalize hq_ : World.drewN w6 _ = w6; have n0_ : Aside0 (w6.heap[g1]? = some (.cells #[.int .u64 0, .int .u64 0] 94 (0, 0))) := ⟨by rw [← hq_]; exact (pkx B1)⟩; have n1_ : Aside0 (Below w.heap.size w w6) := ⟨by rw [← hq_]; exact (pbx HB)⟩; clear B1 HB hq_; have B1 := n0_; have HB := n1_; clear n0_ n1_))
 replace B1 := A_ (blk_drew B1.out); replace HB := A_ (below_drew1 HB.out)
 refine start_ (n:=26) (S := fun w' => True) (ds := []) #[F,F,F,F,F,F,F,F,F,F,F,F,F,F,F,F,F,F,F,F,F,F,F,F,F,F] (by kernel_rfl) rfl rfl trivial (fun hHeld => ?_); refine with_tabW oculusref08_Times.tab5 oculusref08_Times.bits5 (fun HT_ HW_ => ?_)
 generalize w6.drew = w7 at B1 HB hHeld ⊢; refine pure_ (i:=0) (N:=some 38) (v:=?_) (a':=?_) ⟨m_ 26 1⟩ rfl rfl (ao_ HT_) (fun _ _ _ h=>h) (Or.inl ⟨rfl, ?_⟩) ?_ ?_; rotate_left
 ·intro w'; go_simp; with_reducible rfl
 rotate_left
 ·simp only [q_, i64_w, i32_w]; rfl
 refine pure_ (i:=1) (N:=some 39) (v:=?_) (a':=?_) ⟨m_ 26 3⟩ rfl rfl (ao_ HT_) (fun _ _ _ h=>h) (Or.inl ⟨rfl, ?_⟩) ?_ ?_; rotate_left
 ·intro w'; go_simp; with_reducible rfl
 rotate_left
 ·simp only [q_, i64_w, i32_w]; rfl
 refine pure_ (i:=2) (N:=some 40) (v:=?_) (a':=?_) ⟨m_ 26 7⟩ rfl rfl (ao_ HT_) (fun _ _ _ h=>h) (Or.inl ⟨rfl, ?_⟩) ?_ ?_; rotate_left
 ·intro w'; go_simp; with_reducible rfl
 rotate_left
 ·simp only [q_, i64_w, i32_w]; rfl
 refine pure_ (i:=3) (N:=some 41) (v:=?_) (a':=?_) ⟨m_ 26 15⟩ rfl rfl (ao_ HT_) (fun _ _ _ h=>h) (Or.inl ⟨rfl, ?_⟩) ?_ ?_; rotate_left
 ·intro w'; go_simp; with_reducible rfl
 rotate_left
 ·simp only [q_, i64_w, i32_w]; rfl
 refine pure_ (i:=4) (N:=some 42) (v:=?_) (a':=?_) ⟨m_ 26 31⟩ rfl rfl (ao_ HT_) (fun _ _ _ h=>h) (Or.inl ⟨rfl, ?_⟩) ?_ ?_; rotate_left
 ·intro w'; go_simp; with_reducible rfl
 rotate_left
 ·simp only [q_, i64_w, i32_w]; rfl
 refine pure_ (i:=5) (N:=some 43) (v:=?_) (a':=?_) ⟨m_ 26 63⟩ rfl rfl (ao_ HT_) (fun _ _ _ h=>h) (Or.inl ⟨rfl, ?_⟩) ?_ ?_; rotate_left
 ·intro w'; go_simp; with_reducible rfl
 rotate_left
 ·simp only [q_, i64_w, i32_w]; rfl
 refine pure_ (i:=6) (N:=some 44) (v:=?_) (a':=?_) ⟨m_ 26 127⟩ rfl rfl (ao_ HT_) (fun _ _ _ h=>h) (Or.inl ⟨rfl, ?_⟩) ?_ ?_; rotate_left
 ·intro w'; go_simp; with_reducible rfl
 rotate_left
 ·simp only [q_, i64_w, i32_w]; rfl
 refine pure_ (i:=7) (N:=some 45) (v:=?_) (a':=?_) ⟨m_ 26 255⟩ rfl rfl (ao_ HT_) (fun _ _ _ h=>h) (Or.inl ⟨rfl, ?_⟩) ?_ ?_; rotate_left
 ·intro w'; go_simp; with_reducible rfl
 rotate_left
 ·simp only [q_, i64_w, i32_w]; rfl
 refine pure_ (i:=8) (N:=some 46) (v:=?_) (a':=?_) ⟨m_ 26 511⟩ rfl rfl (ao_ HT_) (fun _ _ _ h=>h) (Or.inl ⟨rfl, ?_⟩) ?_ ?_; rotate_left
 ·intro w'; go_simp; with_reducible rfl
 rotate_left
 ·simp only [q_, i64_w, i32_w]; rfl
 refine pure_ (i:=9) (N:=some 47) (v:=?_) (a':=?_) ⟨m_ 26 1023⟩ rfl rfl (ao_ HT_) (fun _ _ _ h=>h) (Or.inl ⟨rfl, ?_⟩) ?_ ?_; rotate_left
 ·intro w'; go_simp; with_reducible rfl
 rotate_left
 ·simp only [q_, i64_w, i32_w]; rfl
 refine pure_ (i:=10) (N:=some 48) (v:=?_) (a':=?_) ⟨m_ 26 2047⟩ rfl rfl (ao_ HT_) (fun _ _ _ h=>h) (Or.inl ⟨rfl, ?_⟩) ?_ ?_; rotate_left
 ·intro w'; go_simp; with_reducible rfl
 rotate_left
 ·simp only [q_, i64_w, i32_w]; rfl
 refine pure_ (i:=11) (N:=some 49) (v:=?_) (a':=?_) ⟨m_ 26 4095⟩ rfl rfl (ao_ HT_) (fun _ _ _ h=>h) (Or.inl ⟨rfl, ?_⟩) ?_ ?_; rotate_left
 ·intro w'; go_simp; with_reducible rfl
 rotate_left
 ·simp only [q_, i64_w, i32_w]; rfl
 refine pure_ (i:=12) (N:=some 50) (v:=?_) (a':=?_) ⟨m_ 26 8191⟩ rfl rfl (ao_ HT_) (fun _ _ _ h=>h) (Or.inl ⟨rfl, ?_⟩) ?_ ?_; rotate_left
 ·intro w'; go_simp; with_reducible rfl
 rotate_left
 ·simp only [q_, i64_w, i32_w]; rfl
 refine pure_ (i:=13) (N:=some 51) (v:=?_) (a':=?_) ⟨m_ 26 16383⟩ rfl rfl (ao_ HT_) (fun _ _ _ h=>h) (Or.inl ⟨rfl, ?_⟩) ?_ ?_; rotate_left
 ·intro w'; go_simp; with_reducible rfl
 rotate_left
 ·simp only [q_, i64_w, i32_w]; rfl
 refine pure_ (i:=14) (N:=some 52) (v:=?_) (a':=?_) ⟨m_ 26 32767⟩ rfl rfl (ao_ HT_) (fun _ _ _ h=>h) (Or.inl ⟨rfl, ?_⟩) ?_ ?_; rotate_left
 ·intro w'; go_simp; with_reducible rfl
 rotate_left
 ·simp only [q_, i64_w, i32_w]; rfl
 refine pure_ (i:=15) (N:=some 53) (v:=?_) (a':=?_) ⟨m_ 26 65535⟩ rfl rfl (ao_ HT_) (fun _ _ _ h=>h) (Or.inl ⟨rfl, ?_⟩) ?_ ?_; rotate_left
 ·intro w'; go_simp; with_reducible rfl
 rotate_left
 ·simp only [q_, i64_w, i32_w]; rfl
 refine pure_ (i:=16) (N:=some 54) (v:=?_) (a':=?_) ⟨m_ 26 131071⟩ rfl rfl (ao_ HT_) (fun _ _ _ h=>h) (Or.inl ⟨rfl, ?_⟩) ?_ ?_; rotate_left
 ·intro w'; go_simp; with_reducible rfl
 rotate_left
 ·simp only [q_, i64_w, i32_w]; rfl
 refine pure_ (i:=17) (N:=some 55) (v:=?_) (a':=?_) ⟨m_ 26 262143⟩ rfl rfl (ao_ HT_) (fun _ _ _ h=>h) (Or.inl ⟨rfl, ?_⟩) ?_ ?_; rotate_left
 ·intro w'; go_simp; with_reducible rfl
 rotate_left
 ·simp only [q_, i64_w, i32_w]; rfl
 refine pure_ (i:=18) (N:=some 56) (v:=?_) (a':=?_) ⟨m_ 26 524287⟩ rfl rfl (ao_ HT_) (fun _ _ _ h=>h) (Or.inl ⟨rfl, ?_⟩) ?_ ?_; rotate_left
 ·intro w'; go_simp; with_reducible rfl
 rotate_left
 ·simp only [q_, i64_w, i32_w]; rfl
 refine pure_ (i:=19) (N:=some 57) (v:=?_) (a':=?_) ⟨m_ 26 1048575⟩ rfl rfl (ao_ HT_) (fun _ _ _ h=>h) (Or.inl ⟨rfl, ?_⟩) ?_ ?_; rotate_left
 ·intro w'; go_simp; with_reducible rfl
 rotate_left
 ·simp only [q_, i64_w, i32_w]; rfl
 refine pure_ (i:=20) (N:=some 58) (v:=?_) (a':=?_) ⟨m_ 26 2097151⟩ rfl rfl (ao_ HT_) (fun _ _ _ h=>h) (Or.inl ⟨rfl, ?_⟩) ?_ ?_; rotate_left
 ·intro w'; go_simp; with_reducible rfl
 rotate_left
 ·simp only [q_, i64_w, i32_w]; rfl
 refine pure_ (i:=21) (N:=some 59) (v:=?_) (a':=?_) ⟨m_ 26 4194303⟩ rfl rfl (ao_ HT_) (fun _ _ _ h=>h) (Or.inl ⟨rfl, ?_⟩) ?_ ?_; rotate_left
 ·intro w'; go_simp; with_reducible rfl
 rotate_left
 ·simp only [q_, i64_w, i32_w]; rfl
 refine pure_ (i:=22) (N:=some 60) (v:=?_) (a':=?_) ⟨m_ 26 8388607⟩ rfl rfl (ao_ HT_) (fun _ _ _ h=>h) (Or.inl ⟨rfl, ?_⟩) ?_ ?_; rotate_left
 ·intro w'; go_simp; with_reducible rfl
 rotate_left
 ·simp only [q_, i64_w, i32_w]; rfl
 refine pure_ (i:=23) (N:=some 61) (v:=?_) (a':=?_) ⟨m_ 26 16777215⟩ rfl rfl (ao_ HT_) (fun _ _ _ h=>h) (Or.inl ⟨rfl, ?_⟩) ?_ ?_; rotate_left
 ·intro w'; go_simp; with_reducible rfl
 rotate_left
 ·simp only [q_, i64_w, i32_w]; rfl
 refine pure_ (i:=24) (N:=some 62) (v:=?_) (a':=?_) ⟨m_ 26 33554431⟩ rfl rfl (ao_ HT_) (fun _ _ _ h=>h) (Or.inl ⟨rfl, ?_⟩) ?_ ?_; rotate_left
 ·intro w'; go_simp; with_reducible rfl
 rotate_left
 ·simp only [q_, i64_w, i32_w]; rfl
 refine one_ (i:=25) (N:=none) ⟨m_ 26 67108863⟩ rfl rfl (oo_ HT_) (by decide) (fun K hK => ?_)
 have hs8 : w7.cell? ⟨g1, 0, none⟩ = some (.int .u64 0) := bc_ B1 0 rfl
 have hfs8 := blk_frozen B1.out 0
 have hs9 : w7.cell? ⟨g1, 1, none⟩ = some (.int .u64 0) := bc_ B1 1 rfl
 have hfs9 := blk_frozen B1.out 1
 refine skip_ (w1 := ?_) (by rfl) rfl ?_ ?_
 rotate_left
 ·go_simp; rfl
 refine hK.out _ _ trivial (fun hHeld => ?_); clear hK K
 refine done_ (done_of HT_.out (by kernel_rfl)) ?_
 try go_wp2
 refine bodyPost_ret (results_cell_row rfl _ _ g1 94 #[.int .u64 (IntKind.u64.wrap ((IntKind.u64.wrap ((IntKind.u64.wrap ((IntKind.u64.wrap (Int.tdiv a0 4294967296)) * (IntKind.u64.wrap (Int.tdiv a1 4294967296)))) + (IntKind.u64.wrap (Int.tdiv (IntKind.u64.wrap ((IntKind.u64.wrap ((IntKind.u64.wrap (Int.tdiv a0 4294967296)) * (Int.tmod a1 4294967296))) + (IntKind.u64.wrap (Int.tdiv (IntKind.u64.wrap ((Int.tmod a0 4294967296) * (Int.tmod a1 4294967296))) 4294967296)))) 4294967296)))) + (IntKind.u64.wrap (Int.tdiv (IntKind.u64.wrap ((IntKind.u64.wrap ((Int.tmod a0 4294967296) * (IntKind.u64.wrap (Int.tdiv a1 4294967296)))) + (Int.tmod (IntKind.u64.wrap ((IntKind.u64.wrap ((IntKind.u64.wrap (Int.tdiv a0 4294967296)) * (Int.tmod a1 4294967296))) + (IntKind.u64.wrap (Int.tdiv (IntKind.u64.wrap ((Int.tmod a0 4294967296) * (Int.tmod a1 4294967296))) 4294967296)))) 4294967296))) 4294967296)))), .int .u64 (IntKind.u64.wrap ((IntKind.u64.wrap ((Int.tmod (IntKind.u64.wrap ((IntKind.u64.wrap ((Int.tmod a0 4294967296) * (IntKind.u64.wrap (Int.tdiv a1 4294967296)))) + (Int.tmod (IntKind.u64.wrap ((IntKind.u64.wrap ((IntKind.u64.wrap (Int.tdiv a0 4294967296)) * (Int.tmod a1 4294967296))) + (IntKind.u64.wrap (Int.tdiv (IntKind.u64.wrap ((Int.tmod a0 4294967296) * (Int.tmod a1 4294967296))) 4294967296)))) 4294967296))) 4294967296) * 4294967296)) + (Int.tmod (IntKind.u64.wrap ((Int.tmod a0 4294967296) * (Int.tmod a1 4294967296))) 4294967296)))] (0, 0) _ rfl (by refine pp_ (cs := #[.int .u64 (IntKind.u64.wrap ((IntKind.u64.wrap ((IntKind.u64.wrap ((IntKind.u64.wrap (Int.tdiv a0 4294967296)) * (IntKind.u64.wrap (Int.tdiv a1 4294967296)))) + (IntKind.u64.wrap (Int.tdiv (IntKind.u64.wrap ((IntKind.u64.wrap ((IntKind.u64.wrap (Int.tdiv a0 4294967296)) * (Int.tmod a1 4294967296))) + (IntKind.u64.wrap (Int.tdiv (IntKind.u64.wrap ((Int.tmod a0 4294967296) * (Int.tmod a1 4294967296))) 4294967296)))) 4294967296)))) + (IntKind.u64.wrap (Int.tdiv (IntKind.u64.wrap ((IntKind.u64.wrap ((Int.tmod a0 4294967296) * (IntKind.u64.wrap (Int.tdiv a1 4294967296)))) + (Int.tmod (IntKind.u64.wrap ((IntKind.u64.wrap ((IntKind.u64.wrap (Int.tdiv a0 4294967296)) * (Int.tmod a1 4294967296))) + (IntKind.u64.wrap (Int.tdiv (IntKind.u64.wrap ((Int.tmod a0 4294967296) * (Int.tmod a1 4294967296))) 4294967296)))) 4294967296))) 4294967296)))), .int .u64 0]) 1 ?_ rfl; refine blk_put (cs := #[.int .u64 0, .int .u64 0]) ?_ 0 _ rfl; exact pkx B1) Tryz.underlying94 rfl (by kernel_rfl)) rfl ?_
 exact fi_ bl_

mutual
def oculusref08_Scaled.j0 : Nat → Int → Int → Int → Bool → Option (Int × Bool)
 | 0, _, _, _, _ => none
 | k + 1, x0, x1, x2, x27 => if x27 = true then (some (0, false)) else ((oculusref08_Abs.f x2).bind fun t105 => ((oculusref08_Abs.f x0).bind fun t106 => ((oculusref08_Abs.f x1).bind fun t107 => ((oculusref08_Times.f t106 t107).bind fun bt108 => ((oculusref08_Divide.f k bt108.1 bt108.2 t105).bind fun bt110 => (if bt110.2.2 = true then (oculusref08_Scaled.j1 k x0 x1 x2 t105 (decide (bt110.1 > 9223372036854775807)) bt110.1 bt110.2.1 bt110.2.2) else (oculusref08_Scaled.j1 k x0 x1 x2 t105 true bt110.1 bt110.2.1 bt110.2.2)))))))
def oculusref08_Scaled.j1 : Nat → Int → Int → Int → Int → Bool → Int → Int → Bool → Option (Int × Bool)
 | 0, _, _, _, _, _, _, _, _ => none
 | k + 1, x0, x1, x2, x7, x45, x114000, x114001, x114002 => if x45 = true then (some (0, false)) else (if (IntKind.u64.wrap (x7 - x114001)) ≤ x114001 then (oculusref08_Scaled.j2 k x0 x1 x2 (IntKind.u64.wrap (x114000 + 1))) else (oculusref08_Scaled.j2 k x0 x1 x2 x114000))
def oculusref08_Scaled.j2 : Nat → Int → Int → Int → Int → Option (Int × Bool)
 | 0, _, _, _, _ => none
 | k + 1, x0, x1, x2, x9 => if x9 > 9223372036854775807 then (some (0, false)) else (if ((decide (x0 < 0)) != (decide (x1 < 0))) = true then (if x2 < 0 then (some (wrap64 (-(wrap64 (-(wrap64 (x9))))), true)) else (some (wrap64 (-(wrap64 (x9))), true))) else (if x2 < 0 then (some (wrap64 (-(wrap64 (x9))), true)) else (some (wrap64 (x9), true))))
end
def oculusref08_Scaled.f (k : Nat) (a0 : Int) (a1 : Int) (a2 : Int) : Option (Int × Bool) := (oculusref08_May.f a0).bind fun t102 => (if t102 = true then ((oculusref08_May.f a1).bind fun t103 => (if t103 = true then ((oculusref08_May.f a2).bind fun t104 => (if t104 = true then (oculusref08_Scaled.j0 k a0 a1 a2 (a2 == 0)) else (oculusref08_Scaled.j0 k a0 a1 a2 true))) else (oculusref08_Scaled.j0 k a0 a1 a2 true))) else (oculusref08_Scaled.j0 k a0 a1 a2 true))
theorem oculusref08_Scaled.calls (k : Nat) (a0 : Int) (a1 : Int) (a2 : Int) (r1 : Int) (r2 : Bool) (w : World) (h : oculusref08_Scaled.f k a0 a1 a2 = some (r1, r2)) :
  Calls Tryz.prog 52 #[.int .i64 a0, .int .i64 a1, .int .i64 a2] w fun e w' => e = .returned (.agg #[.int .i64 r1, .bool r2]) ∧ Below w.heap.size w w' := by
 have hu71 := Tryz.underlying71; have hu91 := Tryz.underlying91; have HB := A_ (Below.refl w.heap.size w)
 have H : ((oculusref08_May.f a0).bind fun t102 => (if t102 = true then ((oculusref08_May.f a1).bind fun t103 => (if t103 = true then ((oculusref08_May.f a2).bind fun t104 => (if t104 = true then (oculusref08_Scaled.j0 k a0 a1 a2 (a2 == 0)) else (oculusref08_Scaled.j0 k a0 a1 a2 true))) else (oculusref08_Scaled.j0 k a0 a1 a2 true))) else (oculusref08_Scaled.j0 k a0 a1 a2 true))) = some (r1, r2) := h
 clear h; have HC4 := A_ H; clear H
 go_enter Tryz.func52, Tryz.ntmps52
 go_upto_region 1 with (first | ((with_reducible refine gd_ 6 ?_); refine be_ (N:=6) (cs := #[.int .i64 0, .bool false]) (t:=71) ?_; intro g1 hg w5 hbox hb; have B1 := A_ (hbox); have GW101 := hs_ HB hg; have GE101 := hs_ HB hg; replace HB := bs_ HB hb; clear hb hbox hg))
 (try simp only [q_])
 go_cut [27] (fun v27 wc => ∃ (kq : Nat) (x27_3 : Bool), v27 = .bool x27_3 ∧ Aside0 (oculusref08_Scaled.j0 kq a0 a1 a2 x27_3 = some (r1, r2)) ∧ Aside0 (kq ≤ k) ∧ Aside0 (wc.heap[g1]? = some (.cells #[.int .i64 0, .bool false] 71 (0, 0))) ∧ Aside0 (Below w.heap.size w wc))
 case first =>
  have H := HC4.out; clear HC4; obtain ⟨t102, A6, H⟩ := bo_ H
  replace H := ib_ H; rcases H with ⟨rfl,H⟩|⟨rfl,H⟩
  ·obtain ⟨t103, A8, H⟩ := bo_ H
   replace H := ib_ H; rcases H with ⟨rfl,H⟩|⟨rfl,H⟩
   ·obtain ⟨t104, A10, H⟩ := bo_ H
    replace H := ib_ H; rcases H with ⟨rfl,H⟩|⟨rfl,H⟩
    ·have H' := A_ H
     clear H
     go_wp2_with (first | ((with_reducible refine gate_callee (f:=15) rfl ?_); refine gL_ (some 12) rfl rfl Tryz.func15 rfl #[.int .i64 a0] rfl ?_; (with_reducible refine (oculusref08_May.calls a0 true _ A6.out).mono ?_); rintro e w' ⟨rfl, ⟨nd, rfl⟩⟩; refine ⟨_, rfl, ?_⟩) | (go_at_call 15; (with_reducible refine (oculusref08_May.calls a1 true _ A8.out).mono ?_); rintro e w' ⟨rfl, ⟨nd, rfl⟩⟩) | (go_at_call 15; (with_reducible refine (oculusref08_May.calls a2 true _ A10.out).mono ?_); rintro e w' ⟨rfl, ⟨nd, rfl⟩⟩))
     go_meet
     case rel => exact ⟨_, ((a2 == 0)), sq_, H', le_, ⟨pkx B1⟩, ⟨pbx HB⟩⟩
    ·have H' := A_ H
     clear H
     go_wp2_with (first | ((with_reducible refine gate_callee (f:=15) rfl ?_); refine gL_ (some 12) rfl rfl Tryz.func15 rfl #[.int .i64 a0] rfl ?_; (with_reducible refine (oculusref08_May.calls a0 true _ A6.out).mono ?_); rintro e w' ⟨rfl, ⟨nd, rfl⟩⟩; refine ⟨_, rfl, ?_⟩) | (go_at_call 15; (with_reducible refine (oculusref08_May.calls a1 true _ A8.out).mono ?_); rintro e w' ⟨rfl, ⟨nd, rfl⟩⟩) | (go_at_call 15; (with_reducible refine (oculusref08_May.calls a2 false _ A10.out).mono ?_); rintro e w' ⟨rfl, ⟨nd, rfl⟩⟩))
     go_meet
     case rel => exact ⟨_, (true), sq_, H', le_, ⟨pkx B1⟩, ⟨pbx HB⟩⟩
   ·have H' := A_ H
    clear H
    go_wp2_with (first | ((with_reducible refine gate_callee (f:=15) rfl ?_); refine gL_ (some 12) rfl rfl Tryz.func15 rfl #[.int .i64 a0] rfl ?_; (with_reducible refine (oculusref08_May.calls a0 true _ A6.out).mono ?_); rintro e w' ⟨rfl, ⟨nd, rfl⟩⟩; refine ⟨_, rfl, ?_⟩) | (go_at_call 15; (with_reducible refine (oculusref08_May.calls a1 false _ A8.out).mono ?_); rintro e w' ⟨rfl, ⟨nd, rfl⟩⟩))
    go_meet
    case rel => exact ⟨_, (true), sq_, H', le_, ⟨pkx B1⟩, ⟨pbx HB⟩⟩
  ·have H' := A_ H
   clear H
   go_wp2_with (first | ((with_reducible refine gate_callee (f:=15) rfl ?_); refine gL_ (some 12) rfl rfl Tryz.func15 rfl #[.int .i64 a0] rfl ?_; (with_reducible refine (oculusref08_May.calls a0 false _ A6.out).mono ?_); rintro e w' ⟨rfl, ⟨nd, rfl⟩⟩; refine ⟨_, rfl, ?_⟩))
   go_meet
   case rel => exact ⟨_, (true), sq_, H', le_, ⟨pkx B1⟩, ⟨pbx HB⟩⟩
 case rest =>
  clear HC4; obtain ⟨kq, x27_3, rfl, HA, HJ3, B1, HB⟩ := hcut
  cases kq with
  | zero => exact absurd HA.out (by simp [oculusref08_Scaled.j0])
  | succ kj3 =>
   have H := HA.out; clear HA
   simp only [oculusref08_Scaled.j0] at H
   replace H := ib_ H; rcases H with ⟨rfl,H⟩|⟨rfl,H⟩
   ·simp only [Option.some.injEq, Prod.mk.injEq] at H
    obtain ⟨rfl, rfl⟩ := H
    have ⟨hcz13_0,hcz13_1,hfz13_0,hfz13_1⟩ := z2_ B1
    go_wp2
    refine bodyPost_ret (results_cell_row rfl _ _ g1 71 #[.int .i64 0, .bool false] (0, 0) _ rfl (by refine pp_ (cs := #[.int .i64 0, .bool false]) 1 ?_ rfl; refine blk_put (cs := #[.int .i64 0, .bool false]) ?_ 0 _ rfl; exact pkx B1) Tryz.underlying71 rfl (by kernel_rfl)) rfl ?_
    exact fi_ bl_
   ·obtain ⟨t105, A14, H⟩ := bo_ H; obtain ⟨t106, A15, H⟩ := bo_ H; obtain ⟨t107, A16, H⟩ := bo_ H; obtain ⟨⟨t108, t109⟩, A17, H⟩ := bo_ H; dsimp only at H; obtain ⟨⟨t110, t111, t112⟩, A18, H⟩ := bo_ H; dsimp only at H; have HC19 := A_ H; clear H
    go_upto_region 5 with (first | ((with_reducible refine gate_callee (f:=67) rfl ?_); refine gL_ (some 30) rfl rfl Tryz.func67 rfl #[.int .i64 a2] rfl ?_; (with_reducible refine (oculusref08_Abs.calls a2 t105 _ A14.out).mono ?_); rintro e w' ⟨rfl, ⟨nd, rfl⟩⟩; refine ⟨_, rfl, ?_⟩; (try (rw [drewN_self wc]; generalize hq_ : World.drewN wc _ = wc; have n0_ : Aside0 (wc.heap[g1]? = some (.cells #[.int .i64 0, .bool false] 71 (0, 0))) := ⟨by rw [← hq_]; exact (pkx B1)⟩; have n1_ : Aside0 (Below w.heap.size w wc) := ⟨by rw [← hq_]; exact (pbx HB)⟩; clear B1 HB hq_; have B1 := n0_; have HB := n1_; clear n0_ n1_))) | ((with_reducible refine gate_callee (f:=67) rfl ?_); refine gL_ (some 32) rfl rfl Tryz.func67 rfl #[.int .i64 a0] rfl ?_; (with_reducible refine (oculusref08_Abs.calls a0 t106 _ A15.out).mono ?_); rintro e w' ⟨rfl, ⟨nd, rfl⟩⟩; refine ⟨_, rfl, ?_⟩; (try (rw [drewN_self wc]; generalize hq_ : World.drewN wc _ = wc; have n0_ : Aside0 (wc.heap[g1]? = some (.cells #[.int .i64 0, .bool false] 71 (0, 0))) := ⟨by rw [← hq_]; exact (pkx B1)⟩; have n1_ : Aside0 (Below w.heap.size w wc) := ⟨by rw [← hq_]; exact (pbx HB)⟩; clear B1 HB hq_; have B1 := n0_; have HB := n1_; clear n0_ n1_))) | ((with_reducible refine gate_callee (f:=67) rfl ?_); refine gL_ (some 34) rfl rfl Tryz.func67 rfl #[.int .i64 a1] rfl ?_; (with_reducible refine (oculusref08_Abs.calls a1 t107 _ A16.out).mono ?_); rintro e w' ⟨rfl, ⟨nd, rfl⟩⟩; refine ⟨_, rfl, ?_⟩; (try (rw [drewN_self wc]; generalize hq_ : World.drewN wc _ = wc; have n0_ : Aside0 (wc.heap[g1]? = some (.cells #[.int .i64 0, .bool false] 71 (0, 0))) := ⟨by rw [← hq_]; exact (pkx B1)⟩; have n1_ : Aside0 (Below w.heap.size w wc) := ⟨by rw [← hq_]; exact (pbx HB)⟩; clear B1 HB hq_; have B1 := n0_; have HB := n1_; clear n0_ n1_))) | ((with_reducible refine gate_callee (f:=69) rfl ?_); refine gL_ (some 35) rfl rfl Tryz.func69 rfl #[.int .u64 t106, .int .u64 t107] rfl ?_; (with_reducible refine (oculusref08_Times.calls t106 t107 t108 t109 _ A17.out).mono ?_); rintro e w20 ⟨rfl, hb⟩; refine ⟨_, rfl, ?_⟩; replace B1 := bb_ B1 hb; replace HB := bs_ HB hb; (try clear hb); ) | ((with_reducible refine gate_callee (f:=68) rfl ?_); refine gL_ (some 37) rfl rfl Tryz.func68 rfl #[.agg #[.int .u64 t108, .int .u64 t109], .int .u64 t105] rfl ?_; (with_reducible refine (oculusref08_Divide.calls kj3 t108 t109 t105 t110 t111 t112 _ A18.out).mono ?_); rintro e w21 ⟨rfl, hb⟩; refine ⟨_, rfl, ?_⟩; replace B1 := bb_ B1 hb; replace HB := bs_ HB hb; (try clear hb); ) | ((with_reducible refine gd_ 8 ?_); refine be_ (N:=8) (cs := #[.int .u64 0, .int .u64 0, .bool false]) (t:=91) ?_; intro gb113 hg w22 hbox hb; have BK113 := A_ (hbox); have GW113 := hs_ HB hg; have GE113 := hs_ HB hg; have NB101_113 := hl_ B1 hg; have NB113_101 := hr_ B1 hg; replace B1 := bb_ B1 hb; replace HB := bs_ HB hb; clear hb hbox hg; have hnb23 := NB113_101.out; have hnc23 := NB101_113.out; have ⟨hcz24_0,hcz24_1,hcz24_2,hfz24_0,hfz24_1,hfz24_2⟩ := z3_ BK113))
    (try simp only [q_])
    go_cut [45] (fun v45 wc => ∃ (kq : Nat) (x45_18 : Bool), v45 = .bool x45_18 ∧ Aside0 (oculusref08_Scaled.j1 kq a0 a1 a2 t105 x45_18 t110 t111 t112 = some (r1, r2)) ∧ Aside0 (kq ≤ kj3) ∧ Aside0 (wc.heap[g1]? = some (.cells #[.int .i64 0, .bool false] 71 (0, 0))) ∧ Aside0 (wc.heap[gb113]? = some (.cells #[.int .u64 t110, .int .u64 t111, .bool t112] 91 (0, 0))) ∧ Aside0 (Below w.heap.size w wc))
    case first =>
     have H := HC19.out; clear HC19
     replace H := ib_ H; rcases H with ⟨rfl,H⟩|⟨rfl,H⟩
     ·have H' := A_ H
      clear H; have hnb26 := NB113_101.out; have hnc26 := NB101_113.out
      have ⟨hcz27_0,hcz27_1,hcz27_2,hfz27_0,hfz27_1,hfz27_2⟩ := z3_ BK113
      go_wp2
      go_meet
      case rel => exact ⟨_, (decide (t110 > 9223372036854775807)), (by first | rfl | (simp; done) | (simp [*]; done) | (cases t110 <;> simp; done)), H', ⟨by have := HJ3.out; first | omega | exact Nat.le_refl _⟩, ⟨by (iterate 3 refine pf_ ?_ NB101_113.out); exact pkx B1⟩, ⟨by refine pp_ (cs := #[.int .u64 t110, .int .u64 t111, .bool false]) 2 ?_ rfl; refine blk_put (cs := #[.int .u64 t110, .int .u64 0, .bool false]) ?_ 1 _ rfl; refine blk_put (cs := #[.int .u64 0, .int .u64 0, .bool false]) ?_ 0 _ rfl; exact pkx BK113⟩, ⟨bl_⟩⟩
     ·have H' := A_ H
      clear H; have hnb28 := NB113_101.out; have hnc28 := NB101_113.out
      have ⟨hcz29_0,hcz29_1,hcz29_2,hfz29_0,hfz29_1,hfz29_2⟩ := z3_ BK113
      go_wp2
      go_meet
      case rel => exact ⟨_, (true), sq_, H', ⟨by have := HJ3.out; first | omega | exact Nat.le_refl _⟩, ⟨by (iterate 3 refine pf_ ?_ NB101_113.out); exact pkx B1⟩, ⟨by refine pp_ (cs := #[.int .u64 t110, .int .u64 t111, .bool false]) 2 ?_ rfl; refine blk_put (cs := #[.int .u64 t110, .int .u64 0, .bool false]) ?_ 1 _ rfl; refine blk_put (cs := #[.int .u64 0, .int .u64 0, .bool false]) ?_ 0 _ rfl; exact pkx BK113⟩, ⟨bl_⟩⟩
    case rest =>
     clear HC19; (try clear c12); (try clear hcz24_0); (try clear hcz24_1); (try clear hcz24_2); (try clear hfz24_0); (try clear hfz24_1); (try clear hfz24_2); obtain ⟨kq, x45_18, rfl, HA, HJ18, B1, BK113, HB⟩ := hcut
     cases kq with
     | zero => exact absurd HA.out (by simp [oculusref08_Scaled.j1])
     | succ kj18 =>
      have H := HA.out; clear HA
      simp only [oculusref08_Scaled.j1] at H
      replace H := ib_ H; rcases H with ⟨rfl,H⟩|⟨rfl,H⟩
      ·simp only [Option.some.injEq, Prod.mk.injEq] at H
       obtain ⟨rfl, rfl⟩ := H; have hnb31 := NB101_113.out; have hnc31 := NB113_101.out
       have ⟨hcz32_0,hcz32_1,hfz32_0,hfz32_1⟩ := z2_ B1
       go_wp2
       refine bodyPost_ret (results_cell_row rfl _ _ g1 71 #[.int .i64 0, .bool false] (0, 0) _ rfl (by refine pp_ (cs := #[.int .i64 0, .bool false]) 1 ?_ rfl; refine blk_put (cs := #[.int .i64 0, .bool false]) ?_ 0 _ rfl; exact pkx B1) Tryz.underlying71 rfl (by kernel_rfl)) rfl ?_
       exact fi_ bl_
      ·have HC33 := A_ H; clear H; have hnb34 := NB113_101.out; have hnc34 := NB101_113.out
       have ⟨hcz35_0,hcz35_1,hcz35_2,hfz35_0,hfz35_1,hfz35_2⟩ := z3_ BK113
       go_upto_if 55 with (fail)
       go_cut [9] (fun v9 wc => ∃ (kq : Nat) (x9_32 : Int), v9 = .int .u64 x9_32 ∧ Aside0 (oculusref08_Scaled.j2 kq a0 a1 a2 x9_32 = some (r1, r2)) ∧ Aside0 (kq ≤ kj18) ∧ Aside0 (wc.heap[g1]? = some (.cells #[.int .i64 0, .bool false] 71 (0, 0))) ∧ Aside0 (wc.heap[gb113]? = some (.cells #[.int .u64 t110, .int .u64 t111, .bool t112] 91 (0, 0))) ∧ Aside0 (Below w.heap.size w wc))
       case first =>
        have H := HC33.out; clear HC33
        by_cases c36 : (IntKind.u64.wrap (t105 - t111)) ≤ t111
        ·rw [if_pos c36] at H; have c36b0 := decide_eq_true c36; clear c36; (first | rw [c36b0] | (simp only [i64_w, i32_w]; rw [c36b0]) | skip)
         have H' := A_ H
         clear H
         go_wp2
         go_meet
         case rel => exact ⟨_, (IntKind.u64.wrap (t110 + 1)), (by first | rfl | (simp; done) | (simp [*]; done) | (cases t110 <;> simp; done)), H', ⟨by have := HJ3.out; have := HJ18.out; first | omega | exact Nat.le_refl _⟩, ⟨pkx B1⟩, ⟨pkx BK113⟩, ⟨pbx HB⟩⟩
        ·rw [if_neg c36] at H; have c36b0 := decide_eq_false c36; clear c36; (first | rw [c36b0] | (simp only [i64_w, i32_w]; rw [c36b0]) | skip)
         have H' := A_ H
         clear H
         go_wp2
         go_meet
         case rel => exact ⟨_, (t110), (by first | rfl | (simp; done) | (simp [*]; done) | (cases t110 <;> simp; done)), H', ⟨by have := HJ3.out; have := HJ18.out; first | omega | exact Nat.le_refl _⟩, ⟨pkx B1⟩, ⟨pkx BK113⟩, ⟨pbx HB⟩⟩
       case rest =>
        clear HC33; (try clear c12); (try clear c30); (try clear hcz24_0); (try clear hcz24_1); (try clear hcz24_2); (try clear hcz35_0); (try clear hcz35_1); (try clear hcz35_2); (try clear hfz24_0); (try clear hfz24_1); (try clear hfz24_2)
        (try clear hfz35_0); (try clear hfz35_1); (try clear hfz35_2); obtain ⟨kq, x9_32, rfl, HA, HJ32, B1, BK113, HB⟩ := hcut
        cases kq with
        | zero => exact absurd HA.out (by simp [oculusref08_Scaled.j2])
        | succ kj32 =>
         have H := HA.out; clear HA
         simp only [oculusref08_Scaled.j2] at H
         by_cases c37 : x9_32 > 9223372036854775807
         ·rw [if_pos c37] at H; have c37b0 := decide_eq_true c37; clear c37
          simp only [Option.some.injEq, Prod.mk.injEq] at H
          obtain ⟨rfl, rfl⟩ := H; have hnb38 := NB101_113.out; have hnc38 := NB113_101.out
          have ⟨hcz39_0,hcz39_1,hfz39_0,hfz39_1⟩ := z2_ B1
          go_wp2
          refine bodyPost_ret (results_cell_row rfl _ _ g1 71 #[.int .i64 0, .bool false] (0, 0) _ rfl (by refine pp_ (cs := #[.int .i64 0, .bool false]) 1 ?_ rfl; refine blk_put (cs := #[.int .i64 0, .bool false]) ?_ 0 _ rfl; exact pkx B1) Tryz.underlying71 rfl (by kernel_rfl)) rfl ?_
          exact fi_ bl_
         ·rw [if_neg c37] at H; have c37b0 := decide_eq_false c37; clear c37
          by_cases c40 : ((decide (a0 < 0)) != (decide (a1 < 0))) = true
          ·rw [if_pos c40] at H
           have c40b0 : ((decide (a0 < 0)) != (decide (a1 < 0))) = true := c40
           (try (have c40b1 : decide ((decide (a0 < 0)) = (decide (a1 < 0))) = false := by simpa using c40)); (try (have c40b2 : ((decide (a0 < 0)) == (decide (a1 < 0))) = false := by simpa using c40)); (try (have c40b3 : ¬ ((decide (a0 < 0)) = (decide (a1 < 0))) := by simpa using c40)); clear c40
           by_cases c41 : a2 < 0
           ·rw [if_pos c41] at H; have c41b0 := decide_eq_true c41; clear c41
            simp only [Option.some.injEq, Prod.mk.injEq] at H
            obtain ⟨rfl, rfl⟩ := H; have hnb42 := NB101_113.out; have hnc42 := NB113_101.out
            have ⟨hcz43_0,hcz43_1,hfz43_0,hfz43_1⟩ := z2_ B1
            go_wp2
            refine bodyPost_ret (results_cell_row rfl _ _ g1 71 #[.int .i64 (wrap64 (-(wrap64 (-(wrap64 (x9_32)))))), .bool true] (0, 0) _ rfl (by refine pp_ (cs := #[.int .i64 (wrap64 (-(wrap64 (-(wrap64 (x9_32)))))), .bool false]) 1 ?_ rfl; refine blk_put (cs := #[.int .i64 0, .bool false]) ?_ 0 _ rfl; exact pkx B1) Tryz.underlying71 rfl (by kernel_rfl)) rfl ?_
            exact fi_ bl_
           ·rw [if_neg c41] at H; have c41b0 := decide_eq_false c41; clear c41
            simp only [Option.some.injEq, Prod.mk.injEq] at H
            obtain ⟨rfl, rfl⟩ := H; have hnb44 := NB101_113.out; have hnc44 := NB113_101.out
            have ⟨hcz45_0,hcz45_1,hfz45_0,hfz45_1⟩ := z2_ B1
            go_wp2
            refine bodyPost_ret (results_cell_row rfl _ _ g1 71 #[.int .i64 (wrap64 (-(wrap64 (x9_32)))), .bool true] (0, 0) _ rfl (by refine pp_ (cs := #[.int .i64 (wrap64 (-(wrap64 (x9_32)))), .bool false]) 1 ?_ rfl; refine blk_put (cs := #[.int .i64 0, .bool false]) ?_ 0 _ rfl; exact pkx B1) Tryz.underlying71 rfl (by kernel_rfl)) rfl ?_
            exact fi_ bl_
          ·rw [if_neg c40] at H
           have c40b0 : ((decide (a0 < 0)) != (decide (a1 < 0))) = false := by simpa using c40
           (try (have c40b1 : decide ((decide (a0 < 0)) = (decide (a1 < 0))) = true := by simpa using c40)); (try (have c40b2 : ((decide (a0 < 0)) == (decide (a1 < 0))) = true := by simpa using c40)); clear c40
           by_cases c46 : a2 < 0
           ·rw [if_pos c46] at H; have c46b0 := decide_eq_true c46; clear c46
            simp only [Option.some.injEq, Prod.mk.injEq] at H
            obtain ⟨rfl, rfl⟩ := H; have hnb47 := NB101_113.out; have hnc47 := NB113_101.out
            have ⟨hcz48_0,hcz48_1,hfz48_0,hfz48_1⟩ := z2_ B1
            go_wp2
            refine bodyPost_ret (results_cell_row rfl _ _ g1 71 #[.int .i64 (wrap64 (-(wrap64 (x9_32)))), .bool true] (0, 0) _ rfl (by refine pp_ (cs := #[.int .i64 (wrap64 (-(wrap64 (x9_32)))), .bool false]) 1 ?_ rfl; refine blk_put (cs := #[.int .i64 0, .bool false]) ?_ 0 _ rfl; exact pkx B1) Tryz.underlying71 rfl (by kernel_rfl)) rfl ?_
            exact fi_ bl_
           ·rw [if_neg c46] at H; have c46b0 := decide_eq_false c46; clear c46
            simp only [Option.some.injEq, Prod.mk.injEq] at H
            obtain ⟨rfl, rfl⟩ := H; have hnb49 := NB101_113.out; have hnc49 := NB113_101.out
            have ⟨hcz50_0,hcz50_1,hfz50_0,hfz50_1⟩ := z2_ B1
            go_wp2
            refine bodyPost_ret (results_cell_row rfl _ _ g1 71 #[.int .i64 (wrap64 (x9_32)), .bool true] (0, 0) _ rfl (by refine pp_ (cs := #[.int .i64 (wrap64 (x9_32)), .bool false]) 1 ?_ rfl; refine blk_put (cs := #[.int .i64 0, .bool false]) ?_ 0 _ rfl; exact pkx B1) Tryz.underlying71 rfl (by kernel_rfl)) rfl ?_
            exact fi_ bl_

def oculusref08_Add.j0 : Nat → Int → Int → Bool → Option (Int × Bool)
 | 0, _, _, _ => none
 | k + 1, x0, x1, x32 => if x32 = true then (some (0, false)) else (some (wrap64 (x0 + x1), true))
def oculusref08_Add.f (k : Nat) (a0 : Int) (a1 : Int) : Option (Int × Bool) := (oculusref08_May.f a0).bind fun t102 => (if t102 = true then ((oculusref08_May.f a1).bind fun t103 => (if t103 = true then (if a1 > 0 then (if a0 > (wrap64 (9223372036854775807 - a1)) then (oculusref08_Add.j0 k a0 a1 true) else (if a1 < 0 then (oculusref08_Add.j0 k a0 a1 (decide (a0 < (wrap64 ((-9223372036854775807) - a1))))) else (oculusref08_Add.j0 k a0 a1 false))) else (if a1 < 0 then (oculusref08_Add.j0 k a0 a1 (decide (a0 < (wrap64 ((-9223372036854775807) - a1))))) else (oculusref08_Add.j0 k a0 a1 false))) else (oculusref08_Add.j0 k a0 a1 true))) else (oculusref08_Add.j0 k a0 a1 true))
theorem oculusref08_Add.calls (k : Nat) (a0 : Int) (a1 : Int) (r1 : Int) (r2 : Bool) (w : World) (h : oculusref08_Add.f k a0 a1 = some (r1, r2)) :
  Calls Tryz.prog 81 #[.int .i64 a0, .int .i64 a1] w fun e w' => e = .returned (.agg #[.int .i64 r1, .bool r2]) ∧ Below w.heap.size w w' := by
 have hu71 := Tryz.underlying71; have HB := A_ (Below.refl w.heap.size w)
 have H : ((oculusref08_May.f a0).bind fun t102 => (if t102 = true then ((oculusref08_May.f a1).bind fun t103 => (if t103 = true then (if a1 > 0 then (if a0 > (wrap64 (9223372036854775807 - a1)) then (oculusref08_Add.j0 k a0 a1 true) else (if a1 < 0 then (oculusref08_Add.j0 k a0 a1 (decide (a0 < (wrap64 ((-9223372036854775807) - a1))))) else (oculusref08_Add.j0 k a0 a1 false))) else (if a1 < 0 then (oculusref08_Add.j0 k a0 a1 (decide (a0 < (wrap64 ((-9223372036854775807) - a1))))) else (oculusref08_Add.j0 k a0 a1 false))) else (oculusref08_Add.j0 k a0 a1 true))) else (oculusref08_Add.j0 k a0 a1 true))) = some (r1, r2) := h
 clear h; have HC3 := A_ H; clear H
 go_enter Tryz.func81, Tryz.ntmps81
 go_upto_region 1 with (first | ((with_reducible refine gd_ 4 ?_); refine be_ (N:=4) (cs := #[.int .i64 0, .bool false]) (t:=71) ?_; intro g1 hg w4 hbox hb; have B1 := A_ (hbox); have GW101 := hs_ HB hg; have GE101 := hs_ HB hg; replace HB := bs_ HB hb; clear hb hbox hg))
 (try simp only [q_])
 go_cut [32] (fun v32 wc => ∃ (kq : Nat) (x32_2 : Bool), v32 = .bool x32_2 ∧ Aside0 (oculusref08_Add.j0 kq a0 a1 x32_2 = some (r1, r2)) ∧ Aside0 (kq ≤ k) ∧ Aside0 (wc.heap[g1]? = some (.cells #[.int .i64 0, .bool false] 71 (0, 0))) ∧ Aside0 (Below w.heap.size w wc))
 case first =>
  have H := HC3.out; clear HC3; obtain ⟨t102, A5, H⟩ := bo_ H
  replace H := ib_ H; rcases H with ⟨rfl,H⟩|⟨rfl,H⟩
  ·obtain ⟨t103, A7, H⟩ := bo_ H
   replace H := ib_ H; rcases H with ⟨rfl,H⟩|⟨rfl,H⟩
   ·by_cases c9 : a1 > 0
    ·rw [if_pos c9] at H; have c9b0 := decide_eq_true c9; clear c9; (first | rw [c9b0] | (simp only [i64_w, i32_w]; rw [c9b0]) | skip)
     by_cases c10 : a0 > (wrap64 (9223372036854775807 - a1))
     ·rw [if_pos c10] at H; have c10b0 := decide_eq_true c10; clear c10
      have H' := A_ H
      clear H
      go_wp2_with (first | ((with_reducible refine gate_callee (f:=15) rfl ?_); refine gL_ (some 6) rfl rfl Tryz.func15 rfl #[.int .i64 a0] rfl ?_; (with_reducible refine (oculusref08_May.calls a0 true _ A5.out).mono ?_); rintro e w' ⟨rfl, ⟨nd, rfl⟩⟩; refine ⟨_, rfl, ?_⟩) | (go_at_call 15; (with_reducible refine (oculusref08_May.calls a1 true _ A7.out).mono ?_); rintro e w' ⟨rfl, ⟨nd, rfl⟩⟩))
      go_meet
      case rel => exact ⟨_, (true), sq_, H', le_, ⟨pkx B1⟩, ⟨pbx HB⟩⟩
     ·rw [if_neg c10] at H; have c10b0 := decide_eq_false c10; clear c10
      by_cases c11 : a1 < 0
      ·rw [if_pos c11] at H; have c11b0 := decide_eq_true c11; clear c11
       have H' := A_ H
       clear H
       go_wp2_with (first | ((with_reducible refine gate_callee (f:=15) rfl ?_); refine gL_ (some 6) rfl rfl Tryz.func15 rfl #[.int .i64 a0] rfl ?_; (with_reducible refine (oculusref08_May.calls a0 true _ A5.out).mono ?_); rintro e w' ⟨rfl, ⟨nd, rfl⟩⟩; refine ⟨_, rfl, ?_⟩) | (go_at_call 15; (with_reducible refine (oculusref08_May.calls a1 true _ A7.out).mono ?_); rintro e w' ⟨rfl, ⟨nd, rfl⟩⟩))
       go_meet
       case rel => exact ⟨_, (decide (a0 < (wrap64 ((-9223372036854775807) - a1)))), sq_, H', le_, ⟨pkx B1⟩, ⟨pbx HB⟩⟩
      ·rw [if_neg c11] at H; have c11b0 := decide_eq_false c11; clear c11
       have H' := A_ H
       clear H
       go_wp2_with (first | ((with_reducible refine gate_callee (f:=15) rfl ?_); refine gL_ (some 6) rfl rfl Tryz.func15 rfl #[.int .i64 a0] rfl ?_; (with_reducible refine (oculusref08_May.calls a0 true _ A5.out).mono ?_); rintro e w' ⟨rfl, ⟨nd, rfl⟩⟩; refine ⟨_, rfl, ?_⟩) | (go_at_call 15; (with_reducible refine (oculusref08_May.calls a1 true _ A7.out).mono ?_); rintro e w' ⟨rfl, ⟨nd, rfl⟩⟩))
       go_meet
       case rel => exact ⟨_, (false), sq_, H', le_, ⟨pkx B1⟩, ⟨pbx HB⟩⟩
    ·rw [if_neg c9] at H; have c9b0 := decide_eq_false c9; clear c9; (first | rw [c9b0] | (simp only [i64_w, i32_w]; rw [c9b0]) | skip)
     by_cases c12 : a1 < 0
     ·rw [if_pos c12] at H; have c12b0 := decide_eq_true c12; clear c12
      have H' := A_ H
      clear H
      go_wp2_with (first | ((with_reducible refine gate_callee (f:=15) rfl ?_); refine gL_ (some 6) rfl rfl Tryz.func15 rfl #[.int .i64 a0] rfl ?_; (with_reducible refine (oculusref08_May.calls a0 true _ A5.out).mono ?_); rintro e w' ⟨rfl, ⟨nd, rfl⟩⟩; refine ⟨_, rfl, ?_⟩) | (go_at_call 15; (with_reducible refine (oculusref08_May.calls a1 true _ A7.out).mono ?_); rintro e w' ⟨rfl, ⟨nd, rfl⟩⟩))
      go_meet
      case rel => exact ⟨_, (decide (a0 < (wrap64 ((-9223372036854775807) - a1)))), sq_, H', le_, ⟨pkx B1⟩, ⟨pbx HB⟩⟩
     ·rw [if_neg c12] at H; have c12b0 := decide_eq_false c12; clear c12
      have H' := A_ H
      clear H
      go_wp2_with (first | ((with_reducible refine gate_callee (f:=15) rfl ?_); refine gL_ (some 6) rfl rfl Tryz.func15 rfl #[.int .i64 a0] rfl ?_; (with_reducible refine (oculusref08_May.calls a0 true _ A5.out).mono ?_); rintro e w' ⟨rfl, ⟨nd, rfl⟩⟩; refine ⟨_, rfl, ?_⟩) | (go_at_call 15; (with_reducible refine (oculusref08_May.calls a1 true _ A7.out).mono ?_); rintro e w' ⟨rfl, ⟨nd, rfl⟩⟩))
      go_meet
      case rel => exact ⟨_, (false), sq_, H', le_, ⟨pkx B1⟩, ⟨pbx HB⟩⟩
   ·have H' := A_ H
    clear H
    go_wp2_with (first | ((with_reducible refine gate_callee (f:=15) rfl ?_); refine gL_ (some 6) rfl rfl Tryz.func15 rfl #[.int .i64 a0] rfl ?_; (with_reducible refine (oculusref08_May.calls a0 true _ A5.out).mono ?_); rintro e w' ⟨rfl, ⟨nd, rfl⟩⟩; refine ⟨_, rfl, ?_⟩) | (go_at_call 15; (with_reducible refine (oculusref08_May.calls a1 false _ A7.out).mono ?_); rintro e w' ⟨rfl, ⟨nd, rfl⟩⟩))
    go_meet
    case rel => exact ⟨_, (true), sq_, H', le_, ⟨pkx B1⟩, ⟨pbx HB⟩⟩
  ·have H' := A_ H
   clear H
   go_wp2_with (first | ((with_reducible refine gate_callee (f:=15) rfl ?_); refine gL_ (some 6) rfl rfl Tryz.func15 rfl #[.int .i64 a0] rfl ?_; (with_reducible refine (oculusref08_May.calls a0 false _ A5.out).mono ?_); rintro e w' ⟨rfl, ⟨nd, rfl⟩⟩; refine ⟨_, rfl, ?_⟩))
   go_meet
   case rel => exact ⟨_, (true), sq_, H', le_, ⟨pkx B1⟩, ⟨pbx HB⟩⟩
 case rest =>
  clear HC3; obtain ⟨kq, x32_2, rfl, HA, HJ2, B1, HB⟩ := hcut
  cases kq with
  | zero => exact absurd HA.out (by simp [oculusref08_Add.j0])
  | succ kj2 =>
   have H := HA.out; clear HA
   simp only [oculusref08_Add.j0] at H
   replace H := ib_ H; rcases H with ⟨rfl,H⟩|⟨rfl,H⟩
   ·simp only [Option.some.injEq, Prod.mk.injEq] at H
    obtain ⟨rfl, rfl⟩ := H
    have ⟨hcz14_0,hcz14_1,hfz14_0,hfz14_1⟩ := z2_ B1
    go_wp2
    refine bodyPost_ret (results_cell_row rfl _ _ g1 71 #[.int .i64 0, .bool false] (0, 0) _ rfl (by refine pp_ (cs := #[.int .i64 0, .bool false]) 1 ?_ rfl; refine blk_put (cs := #[.int .i64 0, .bool false]) ?_ 0 _ rfl; exact pkx B1) Tryz.underlying71 rfl (by kernel_rfl)) rfl ?_
    exact fi_ bl_
   ·simp only [Option.some.injEq, Prod.mk.injEq] at H
    obtain ⟨rfl, rfl⟩ := H
    have ⟨hcz15_0,hcz15_1,hfz15_0,hfz15_1⟩ := z2_ B1
    go_wp2
    refine bodyPost_ret (results_cell_row rfl _ _ g1 71 #[.int .i64 (wrap64 (a0 + a1)), .bool true] (0, 0) _ rfl (by refine pp_ (cs := #[.int .i64 (wrap64 (a0 + a1)), .bool false]) 1 ?_ rfl; refine blk_put (cs := #[.int .i64 0, .bool false]) ?_ 0 _ rfl; exact pkx B1) Tryz.underlying71 rfl (by kernel_rfl)) rfl ?_
    exact fi_ bl_

def oculusref11_more.f (k : Nat) (a0_0 : Int) (a0_1 : Bool) (a1 : Int) : Option (Int × Bool) := if a0_1 = true then ((oculusref08_Scaled.f k a0_0 10 1).bind fun bt103 => (if bt103.2 = true then ((oculusref08_Add.f k bt103.1 a1).bind fun bt106 => (some (bt106.1, bt106.2))) else (some (bt103.1, bt103.2)))) else (some (a0_0, a0_1))
theorem oculusref11_more.calls (k : Nat) (a0_0 : Int) (a0_1 : Bool) (a1 : Int) (r1 : Int) (r2 : Bool) (w : World) (h : oculusref11_more.f k a0_0 a0_1 a1 = some (r1, r2)) :
  Calls Tryz.prog 91 #[.agg #[.int .i64 a0_0, .bool a0_1], .int .i64 a1] w fun e w' => e = .returned (.agg #[.int .i64 r1, .bool r2]) ∧ Below w.heap.size w w' := by
 have hu71 := Tryz.underlying71; have HB := A_ (Below.refl w.heap.size w)
 have H : (if a0_1 = true then ((oculusref08_Scaled.f k a0_0 10 1).bind fun bt103 => (if bt103.2 = true then ((oculusref08_Add.f k bt103.1 a1).bind fun bt106 => (some (bt106.1, bt106.2))) else (some (bt103.1, bt103.2)))) else (some (a0_0, a0_1))) = some (r1, r2) := h
 clear h
 replace H := ib_ H; rcases H with ⟨rfl,H⟩|⟨rfl,H⟩
 ·obtain ⟨⟨t103, t104⟩, A4, H⟩ := bo_ H; dsimp only at H
  replace H := ib_ H; rcases H with ⟨rfl,H⟩|⟨rfl,H⟩
  ·obtain ⟨⟨t106, t107⟩, A6, H⟩ := bo_ H; dsimp only at H
   simp only [Option.some.injEq, Prod.mk.injEq] at H
   obtain ⟨rfl, rfl⟩ := H
   go_enter Tryz.func91, Tryz.ntmps91
   go_wp2_with (first | ((with_reducible refine gd_ 2 ?_); refine be_ (N:=2) (cs := #[.int .i64 a0_0, .bool true]) (t:=71) ?_; intro g1 hg w7 hbox hb; have B1 := A_ (hbox); have GW101 := hs_ HB hg; have GE101 := hs_ HB hg; replace HB := bs_ HB hb; clear hb hbox hg) | ((with_reducible refine gd_ 4 ?_); refine be_ (N:=4) (cs := #[.int .i64 0, .bool false]) (t:=71) ?_; intro g2 hg w8 hbox hb; have B2 := A_ (hbox); have GW102 := hs_ HB hg; have GE102 := hs_ HB hg; have N12 := hl_ B1 hg; have N21 := hr_ B1 hg; replace B1 := bb_ B1 hb; replace HB := bs_ HB hb; clear hb hbox hg; have hnb9 := N12.out; have hnc9 := N21.out; have ⟨hcz10_0,hcz10_1,hfz10_0,hfz10_1⟩ := z2_ B1) | ((with_reducible refine gate_callee (f:=52) rfl ?_); refine gL_ (some 12) rfl rfl Tryz.func52 rfl #[.int .i64 a0_0, .int .i64 10, .int .i64 1] rfl ?_; (with_reducible refine (oculusref08_Scaled.calls k a0_0 10 1 t103 true _ A4.out).mono ?_); rintro e w11 ⟨rfl, hb⟩; refine ⟨_, rfl, ?_⟩; replace B1 := bb_ B1 hb; replace B2 := bb_ B2 hb; replace HB := bs_ HB hb; ) | ((with_reducible refine gd_ 5 ?_); refine be_ (N:=5) (cs := #[.int .i64 0, .bool false]) (t:=71) ?_; intro g5 hg w12 hbox hb; have B5 := A_ (hbox); have GW105 := hs_ HB hg; have GE105 := hs_ HB hg; have N15 := hl_ B1 hg; have N51 := hr_ B1 hg; have N25 := hl_ B2 hg; have N52 := hr_ B2 hg; replace B1 := bb_ B1 hb; replace B2 := bb_ B2 hb; replace HB := bs_ HB hb; clear hb hbox hg; have hnb13 := N51.out; have hnc13 := N15.out; have hnb14 := N52.out; have hnc14 := N25.out; have ⟨hcz15_0,hcz15_1,hfz15_0,hfz15_1⟩ := z2_ B5) | ((with_reducible refine gate_callee (f:=81) rfl ?_); refine gL_ (some 20) rfl rfl Tryz.func81 rfl #[.int .i64 t103, .int .i64 a1] rfl ?_; (with_reducible refine (oculusref08_Add.calls k t103 a1 t106 t107 _ A6.out).mono ?_); rintro e w16 ⟨rfl, hb⟩; refine ⟨_, rfl, ?_⟩; replace B1 := A_ (blk_below (g:=g1) (o := .cells #[.int .i64 a0_0, .bool true] 71 (0, 0)) (by (iterate 2 refine pf_ ?_ N15.out); exact pkx B1) hb); replace B2 := A_ (blk_below (g:=g2) (o := .cells #[.int .i64 0, .bool false] 71 (0, 0)) (by (iterate 2 refine pf_ ?_ N25.out); exact pkx B2) hb); replace B5 := A_ (blk_below (g:=g5) (o := .cells #[.int .i64 t103, .bool true] 71 (0, 0)) (by refine pp_ (cs := #[.int .i64 t103, .bool false]) 1 ?_ rfl; refine blk_put (cs := #[.int .i64 0, .bool false]) ?_ 0 _ rfl; exact pkx B5) hb); replace HB := A_ (below_step (by repeat (first | (with_reducible first | exact HB.out | apply below_alloc | apply pw_below_drewN | apply below_drew1 | refine below_set ?_ GE101.out | refine below_set ?_ GE102.out | refine below_set ?_ GE105.out) | exact HB.out)) hb); have ⟨hcz17_0,hcz17_1,hfz17_0,hfz17_1⟩ := z2_ B2))
   refine bodyPost_ret (results_cell_row rfl _ _ g2 71 #[.int .i64 t106, .bool t107] (0, 0) _ rfl (by refine pp_ (cs := #[.int .i64 t106, .bool false]) 1 ?_ rfl; refine blk_put (cs := #[.int .i64 0, .bool false]) ?_ 0 _ rfl; exact pkx B2) Tryz.underlying71 rfl (by kernel_rfl)) rfl ?_
   exact fi_ bl_
  ·simp only [Option.some.injEq, Prod.mk.injEq] at H
   obtain ⟨rfl, rfl⟩ := H
   go_enter Tryz.func91, Tryz.ntmps91
   go_wp2_with (first | ((with_reducible refine gd_ 2 ?_); refine be_ (N:=2) (cs := #[.int .i64 a0_0, .bool true]) (t:=71) ?_; intro g1 hg w18 hbox hb; have B1 := A_ (hbox); have GW101 := hs_ HB hg; have GE101 := hs_ HB hg; replace HB := bs_ HB hb; clear hb hbox hg) | ((with_reducible refine gd_ 4 ?_); refine be_ (N:=4) (cs := #[.int .i64 0, .bool false]) (t:=71) ?_; intro g2 hg w19 hbox hb; have B2 := A_ (hbox); have GW102 := hs_ HB hg; have GE102 := hs_ HB hg; have N12 := hl_ B1 hg; have N21 := hr_ B1 hg; replace B1 := bb_ B1 hb; replace HB := bs_ HB hb; clear hb hbox hg; have hnb20 := N12.out; have hnc20 := N21.out; have ⟨hcz21_0,hcz21_1,hfz21_0,hfz21_1⟩ := z2_ B1) | ((with_reducible refine gate_callee (f:=52) rfl ?_); refine gL_ (some 12) rfl rfl Tryz.func52 rfl #[.int .i64 a0_0, .int .i64 10, .int .i64 1] rfl ?_; (with_reducible refine (oculusref08_Scaled.calls k a0_0 10 1 t103 false _ A4.out).mono ?_); rintro e w22 ⟨rfl, hb⟩; refine ⟨_, rfl, ?_⟩; replace B1 := bb_ B1 hb; replace B2 := bb_ B2 hb; replace HB := bs_ HB hb; ) | ((with_reducible refine gd_ 5 ?_); refine be_ (N:=5) (cs := #[.int .i64 0, .bool false]) (t:=71) ?_; intro g5 hg w23 hbox hb; have B5 := A_ (hbox); have GW105 := hs_ HB hg; have GE105 := hs_ HB hg; have N15 := hl_ B1 hg; have N51 := hr_ B1 hg; have N25 := hl_ B2 hg; have N52 := hr_ B2 hg; replace B1 := bb_ B1 hb; replace B2 := bb_ B2 hb; replace HB := bs_ HB hb; clear hb hbox hg; have hnb24 := N51.out; have hnc24 := N15.out; have hnb25 := N52.out; have hnc25 := N25.out; have ⟨hcz26_0,hcz26_1,hfz26_0,hfz26_1⟩ := z2_ B5; have ⟨hcz27_0,hcz27_1,hfz27_0,hfz27_1⟩ := z2_ B2))
   refine bodyPost_ret (results_cell_row rfl _ _ g2 71 #[.int .i64 t103, .bool false] (0, 0) _ rfl (by refine pp_ (cs := #[.int .i64 t103, .bool false]) 1 ?_ rfl; refine blk_put (cs := #[.int .i64 0, .bool false]) ?_ 0 _ rfl; (iterate 2 refine pf_ ?_ N25.out); exact pkx B2) Tryz.underlying71 rfl (by kernel_rfl)) rfl ?_
   exact fi_ bl_
 ·simp only [Option.some.injEq, Prod.mk.injEq] at H
  obtain ⟨rfl, rfl⟩ := H
  go_enter Tryz.func91, Tryz.ntmps91
  go_wp2_with (first | ((with_reducible refine gd_ 2 ?_); refine be_ (N:=2) (cs := #[.int .i64 a0_0, .bool false]) (t:=71) ?_; intro g1 hg w28 hbox hb; have B1 := A_ (hbox); have GW101 := hs_ HB hg; have GE101 := hs_ HB hg; replace HB := bs_ HB hb; clear hb hbox hg) | ((with_reducible refine gd_ 4 ?_); refine be_ (N:=4) (cs := #[.int .i64 0, .bool false]) (t:=71) ?_; intro g2 hg w29 hbox hb; have B2 := A_ (hbox); have GW102 := hs_ HB hg; have GE102 := hs_ HB hg; have N12 := hl_ B1 hg; have N21 := hr_ B1 hg; replace B1 := bb_ B1 hb; replace HB := bs_ HB hb; clear hb hbox hg; have hnb30 := N12.out; have hnc30 := N21.out; have ⟨hcz31_0,hcz31_1,hfz31_0,hfz31_1⟩ := z2_ B1; have ⟨hcz32_0,hcz32_1,hfz32_0,hfz32_1⟩ := z2_ B2))
  refine bodyPost_ret (results_cell_row rfl _ _ g2 71 #[.int .i64 a0_0, .bool false] (0, 0) _ rfl (by refine pp_ (cs := #[.int .i64 a0_0, .bool false]) 1 ?_ rfl; refine blk_put (cs := #[.int .i64 0, .bool false]) ?_ 0 _ rfl; exact pkx B2) Tryz.underlying71 rfl (by kernel_rfl)) rfl ?_
  exact fi_ bl_

mutual
def oculusref11_Read.j0 : Nat → ByteArray → Bool → Option (Int × Bool)
 | 0, _, _ => none
 | k + 1, x0, x3 => if x3 = true then (if 1 ≤ (x0.size : Int) then (oculusref11_Read.j1 k (x0.extract 1 x0.size) x3) else (none)) else (oculusref11_Read.j1 k x0 x3)
def oculusref11_Read.j1 : Nat → ByteArray → Bool → Option (Int × Bool)
 | 0, _, _ => none
 | k + 1, x0, x3 => oculusref11_Read.l0 k x0 x3 (-1) 0 0 true
def oculusref11_Read.l0 : Nat → ByteArray → Bool → Int → Int → Int → Bool → Option (Int × Bool)
 | 0, _, _, _, _, _, _ => none
 | k + 1, x0, x3, x5, x6, x103000, x103001 => if x6 < (x0.size : Int) then (if 0 ≤ x6 then (if (bt x0 x6) = 46 then (if x5 < 0 then (oculusref11_Read.j3 k x0 x3 x5 x6 (decide (x6 > 0)) x103000 x103001) else (oculusref11_Read.j3 k x0 x3 x5 x6 false x103000 x103001)) else (oculusref11_Read.j3 k x0 x3 x5 x6 false x103000 x103001)) else (none)) else (if (x0.size : Int) = 0 then (oculusref11_Read.j6 k x3 x5 true x103000 x103001) else (if x5 = 0 then (oculusref11_Read.j6 k x3 x5 true x103000 x103001) else (oculusref11_Read.j6 k x3 x5 (decide (x5 > 4)) x103000 x103001)))
def oculusref11_Read.j3 : Nat → ByteArray → Bool → Int → Int → Bool → Int → Bool → Option (Int × Bool)
 | 0, _, _, _, _, _, _, _ => none
 | k + 1, x0, x3, x5, x6, x41, x103000, x103001 => if x41 = true then (oculusref11_Read.l0 k x0 x3 0 (wrap64 (x6 + 1)) x103000 x103001) else ((oculusref11_Digit.f x0 x6).bind fun t103 => (oculusref11_Read.j4 k x0 x3 x5 x6 (!t103) x103000 x103001))
def oculusref11_Read.j4 : Nat → ByteArray → Bool → Int → Int → Bool → Int → Bool → Option (Int × Bool)
 | 0, _, _, _, _, _, _, _ => none
 | k + 1, x0, x3, x5, x6, x45, x103000, x103001 => if x45 = true then (some (0, false)) else (if x5 ≥ 0 then (oculusref11_Read.j5 k x0 x3 (wrap64 (x5 + 1)) x6 x103000 x103001) else (oculusref11_Read.j5 k x0 x3 x5 x6 x103000 x103001))
def oculusref11_Read.j5 : Nat → ByteArray → Bool → Int → Int → Int → Bool → Option (Int × Bool)
 | 0, _, _, _, _, _, _ => none
 | k + 1, x0, x3, x5, x6, x103000, x103001 => if 0 ≤ x6 then (if x6 < (x0.size : Int) then ((oculusref11_more.f k x103000 x103001 (wrap64 ((wrap64 (bt x0 x6)) - 48))).bind fun bt104 => (oculusref11_Read.l0 k x0 x3 x5 (wrap64 (x6 + 1)) bt104.1 bt104.2)) else (none)) else (none)
def oculusref11_Read.j6 : Nat → Bool → Int → Bool → Int → Bool → Option (Int × Bool)
 | 0, _, _, _, _, _ => none
 | k + 1, x3, x5, x68, x103000, x103001 => if x68 = true then (some (0, false)) else (oculusref11_Read.l1 k x3 (mx x5 0) x103000 x103001)
def oculusref11_Read.l1 : Nat → Bool → Int → Int → Bool → Option (Int × Bool)
 | 0, _, _, _, _ => none
 | k + 1, x3, x7, x103000, x103001 => if x7 < 4 then ((oculusref11_more.f k x103000 x103001 0).bind fun bt106 => (oculusref11_Read.l1 k x3 (wrap64 (x7 + 1)) bt106.1 bt106.2)) else (if x3 = true then (some (wrap64 (-x103000), x103001)) else (some (x103000, x103001)))
end
def oculusref11_Read.f (k : Nat) (a0 : ByteArray) : Option (Int × Bool) := if (a0.size : Int) > 40 then (some (0, false)) else (if (a0.size : Int) > 0 then (if 0 < (a0.size : Int) then (oculusref11_Read.j0 k a0 ((bt a0 0) == 45)) else (none)) else (oculusref11_Read.j0 k a0 false))
def oculusref11_Read.T17 : Bool × List (List Nat × List Nat) := (true, [([], []), ([], []), ([], []), ([1, 2], [1, 2]), ([3], [3]), ([4], [4]), ([0, 5], [0, 5]), ([6, 6, 0, 1, 2, 3, 4, 5, 6], [6])])
def oculusref11_Read.B17 : List Nat := [0, 0, 0, 6, 14, 30, 63, 127]
theorem oculusref11_Read.tab17 : rtab .any (opsOf Tryz.f77 17) = oculusref11_Read.T17 := by kernel_rfl
theorem oculusref11_Read.bits17 : waitsOk oculusref11_Read.T17.2 oculusref11_Read.B17 = true := by kernel_rfl
theorem oculusref11_Read.calls (k : Nat) (a0 : ByteArray) (r1 : Int) (r2 : Bool) (w : World) (h : oculusref11_Read.f k a0 = some (r1, r2)) :
  Calls Tryz.prog 77 #[.string a0] w fun e w' => e = .returned (.agg #[.int .i64 r1, .bool r2]) ∧ Below w.heap.size w w' := by
 have hu71 := Tryz.underlying71; have HB := A_ (Below.refl w.heap.size w)
 have H : (if (a0.size : Int) > 40 then (some (0, false)) else (if (a0.size : Int) > 0 then (if 0 < (a0.size : Int) then (oculusref11_Read.j0 k a0 ((bt a0 0) == 45)) else (none)) else (oculusref11_Read.j0 k a0 false))) = some (r1, r2) := h
 clear h
 by_cases c2 : (a0.size : Int) > 40
 ·rw [if_pos c2] at H; have c2b0 := decide_eq_true c2; have c2b1 : decide (40 < a0.size) = true := decide_eq_true (by omega); clear c2
  simp only [Option.some.injEq, Prod.mk.injEq] at H
  obtain ⟨rfl, rfl⟩ := H
  go_enter Tryz.func77, Tryz.ntmps77
  go_wp2_with (first | ((with_reducible refine gd_ 2 ?_); refine be_ (N:=2) (cs := #[.int .i64 0, .bool false]) (t:=71) ?_; intro g1 hg w3 hbox hb; have B1 := A_ (hbox); have GW101 := hs_ HB hg; have GE101 := hs_ HB hg; replace HB := bs_ HB hb; clear hb hbox hg; have ⟨hcz4_0,hcz4_1,hfz4_0,hfz4_1⟩ := z2_ B1))
  refine bodyPost_ret (results_cell_row rfl _ _ g1 71 #[.int .i64 0, .bool false] (0, 0) _ rfl (by refine pp_ (cs := #[.int .i64 0, .bool false]) 1 ?_ rfl; refine blk_put (cs := #[.int .i64 0, .bool false]) ?_ 0 _ rfl; exact pkx B1) Tryz.underlying71 rfl (by kernel_rfl)) rfl ?_
  exact fi_ bl_
 ·rw [if_neg c2] at H; have c2b0 := decide_eq_false c2; have c2b1 : decide (40 < a0.size) = false := decide_eq_false (by omega); clear c2; have HC5 := A_ H; clear H
  go_enter Tryz.func77, Tryz.ntmps77
  go_upto_region 3 with (first | ((with_reducible refine gd_ 2 ?_); refine be_ (N:=2) (cs := #[.int .i64 0, .bool false]) (t:=71) ?_; intro g1 hg w6 hbox hb; have B1 := A_ (hbox); have GW101 := hs_ HB hg; have GE101 := hs_ HB hg; replace HB := bs_ HB hb; clear hb hbox hg))
  (try simp only [q_])
  go_cut [3] (fun v3 wc => ∃ (kq : Nat) (x3_4 : Bool), v3 = .bool x3_4 ∧ Aside0 (oculusref11_Read.j0 kq a0 x3_4 = some (r1, r2)) ∧ Aside0 (kq ≤ k) ∧ Aside0 (wc.heap[g1]? = some (.cells #[.int .i64 0, .bool false] 71 (0, 0))) ∧ Aside0 (Below w.heap.size w wc))
  case first =>
   have H := HC5.out; clear HC5
   by_cases c7 : (a0.size : Int) > 0
   ·rw [if_pos c7] at H; have c7b0 := decide_eq_true c7; have c7b1 : decide (0 < a0.size) = true := decide_eq_true (by omega); clear c7; (first | rw [c7b0] | (simp only [i64_w, i32_w]; rw [c7b0]) | skip)
    by_cases c8 : 0 < (a0.size : Int)
    ·rw [if_pos c8] at H; have c8b0 := decide_eq_true c8; have c8b1 : decide (0 < a0.size) = true := decide_eq_true (by omega); clear c8
     have H' := A_ H
     clear H
     have p9 : 0 ≤ (0 : Int) := (by omega)
     have q9 : 0 < a0.size := (by have : (0 : Int) < (a0.size : Int) := of_decide_eq_true as_; omega)
     have hx9 : ∀ h : 0 < a0.size, ((a0[0]'h).toNat : Int) = bt a0 0 := bt_at a0 0
     clear p9; have qi9 : (0 < (a0.size : Int)) = True := eq_true (of_decide_eq_true as_); replace q9 := eq_true q9
     go_wp2
     go_meet
     case rel => exact ⟨_, (((bt a0 0) == 45)), sq_, H', le_, ⟨pkx B1⟩, ⟨pbx HB⟩⟩
    ·rw [if_neg c8] at H
     exact absurd H (by simp)
   ·rw [if_neg c7] at H; have c7b0 := decide_eq_false c7; have c7b1 : decide (0 < a0.size) = false := decide_eq_false (by omega); clear c7; (first | rw [c7b0] | (simp only [i64_w, i32_w]; rw [c7b0]) | skip)
    have H' := A_ H
    clear H
    go_wp2
    go_meet
    case rel => exact ⟨_, (false), sq_, H', le_, ⟨pkx B1⟩, ⟨pbx HB⟩⟩
  case rest =>
   clear HC5; (try clear c2); (try clear c2b0); (try clear c2b1); obtain ⟨kq, x3_4, rfl, HA, HJ4, B1, HB⟩ := hcut
   cases kq with
   | zero => exact absurd HA.out (by simp [oculusref11_Read.j0])
   | succ kj4 =>
    have H := HA.out; clear HA
    simp only [oculusref11_Read.j0] at H
    have HC10 := A_ H; clear H
    go_upto_if 20 with (fail)
    go_cut [0] (fun v0 wc => ∃ (kq : Nat) (x0_9 : ByteArray), v0 = .string x0_9 ∧ Aside0 (oculusref11_Read.j1 kq x0_9 x3_4 = some (r1, r2)) ∧ Aside0 (kq ≤ kj4) ∧ Aside0 (wc.heap[g1]? = some (.cells #[.int .i64 0, .bool false] 71 (0, 0))) ∧ Aside0 (Below w.heap.size w wc))
    case first =>
     have H := HC10.out; clear HC10
     replace H := ib_ H; rcases H with ⟨rfl,H⟩|⟨rfl,H⟩
     ·by_cases c12 : 1 ≤ (a0.size : Int)
      ·rw [if_pos c12] at H; have c12b0 := eq_true c12; have c12b1 := decide_eq_true c12; clear c12
       have H' := A_ H
       clear H
       go_wp2
       go_meet
       case rel => exact ⟨_, (a0.extract 1 a0.size), sq_, H', ⟨by have := HJ4.out; first | omega | exact Nat.le_refl _⟩, ⟨pkx B1⟩, ⟨pbx HB⟩⟩
      ·rw [if_neg c12] at H
       exact absurd H (by simp)
     ·have H' := A_ H
      clear H
      go_wp2
      go_meet
      case rel => exact ⟨_, (a0), sq_, H', ⟨by have := HJ4.out; first | omega | exact Nat.le_refl _⟩, ⟨pkx B1⟩, ⟨pbx HB⟩⟩
    case rest =>
     clear HC10; (try clear c2); (try clear c2b0); (try clear c2b1); obtain ⟨kq, x0_9, rfl, HA, HJ9, B1, HB⟩ := hcut
     cases kq with
     | zero => exact absurd HA.out (by simp [oculusref11_Read.j1])
     | succ kj9 =>
      have H := HA.out; clear HA
      simp only [oculusref11_Read.j1] at H
      have H' := A_ H
      clear H
      go_wp2_with (first | ((with_reducible refine gd_ 4 ?_); refine be_ (N:=4) (cs := #[.int .i64 0, .bool false]) (t:=71) ?_; intro g2 hg w13 hbox hb; have B2 := A_ (hbox); have GW102 := hs_ HB hg; have GE102 := hs_ HB hg; have N12 := hl_ B1 hg; have N21 := hr_ B1 hg; replace B1 := bb_ B1 hb; replace HB := bs_ HB hb; clear hb hbox hg; have hnb14 := N21.out; have hnc14 := N12.out; have ⟨hcz15_0,hcz15_1,hfz15_0,hfz15_1⟩ := z2_ B2))
      go_loopg [5, 6] kj9 (fun kq v5 v6 w' => ∃ (x5_3 : Int) (x6_3 : Int) (x102000_3 : Int) (x102001_3 : Bool) (x103000_3 : Int) (x103001_3 : Bool), v5 = .int .i64 x5_3 ∧ v6 = .int .i64 x6_3 ∧ Aside0 (oculusref11_Read.l0 kq x0_9 x3_4 x5_3 x6_3 x103000_3 x103001_3 = some (r1, r2)) ∧ Aside0 (kq ≤ kj9) ∧ Aside0 (w'.heap[g1]? = some (.cells #[.int .i64 x102000_3, .bool x102001_3] 71 (0, 0))) ∧ Aside0 (w'.heap[g2]? = some (.cells #[.int .i64 x103000_3, .bool x103001_3] 71 (0, 0))) ∧ Aside0 (Below w.heap.size w w'))
      case atStart => exact ⟨((-1)), (0), (0), (false), (0), (true), sq_, sq_, H', ⟨Nat.le_refl _⟩, ⟨by (iterate 2 refine pf_ ?_ N12.out); exact pkx B1⟩, ⟨by refine pp_ (cs := #[.int .i64 0, .bool false]) 1 ?_ rfl; refine blk_put (cs := #[.int .i64 0, .bool false]) ?_ 0 _ rfl; exact pkx B2⟩, ⟨bl_⟩⟩
      case round =>
       clear H'; (try clear c2); (try clear c2b0); (try clear c2b1); (try clear hcz15_0); (try clear hcz15_1); (try clear hfz15_0); (try clear hfz15_1); obtain ⟨x5_3, x6_3, x102000_3, x102001_3, x103000_3, x103001_3, rfl, rfl, HA, HK3, B1, B2, HB⟩ := hrel
       cases gk with
       | zero => exact absurd HA.out (by simp [oculusref11_Read.l0])
       | succ k3 =>
        have H := HA.out; clear HA
        simp only [oculusref11_Read.l0] at H
        by_cases c16 : x6_3 < (x0_9.size : Int)
        ·rw [if_pos c16] at H; have c16b0 := decide_eq_true c16; clear c16; have HC17 := A_ H; clear H
         go_upto_region 11 with (fail)
         go_cut [41] (fun v41 wc => ∃ (kq : Nat) (x41_16 : Bool), v41 = .bool x41_16 ∧ Aside0 (oculusref11_Read.j3 kq x0_9 x3_4 x5_3 x6_3 x41_16 x103000_3 x103001_3 = some (r1, r2)) ∧ Aside0 (kq ≤ k3) ∧ Aside0 (wc.heap[g1]? = some (.cells #[.int .i64 x102000_3, .bool x102001_3] 71 (0, 0))) ∧ Aside0 (wc.heap[g2]? = some (.cells #[.int .i64 x103000_3, .bool x103001_3] 71 (0, 0))) ∧ Aside0 (Below w.heap.size w wc))
         case first =>
          have H := HC17.out; clear HC17
          by_cases c18 : 0 ≤ x6_3
          ·rw [if_pos c18] at H; have c18b0 := decide_eq_true c18; clear c18; (first | rw [c18b0] | (simp only [i64_w, i32_w]; rw [c18b0]) | skip)
           by_cases c20 : (bt x0_9 x6_3) = 46
           ·rw [if_pos c20] at H; have ⟨c20b0,c20b1⟩ := e1_ c20; clear c20
            by_cases c21 : x5_3 < 0
            ·rw [if_pos c21] at H; have c21b0 := decide_eq_true c21; clear c21
             have H' := A_ H
             clear H
             have p19 : 0 ≤ (x6_3 : Int) := of_decide_eq_true as_
             have q19 : x6_3 < (x0_9.size : Int) := of_decide_eq_true as_
             have hx19 := bt_at x0_9 x6_3; replace p19 := eq_true p19; replace q19 := eq_true q19
             go_wp2
             go_meet
             case rel => exact ⟨_, (decide (x6_3 > 0)), sq_, H', ⟨by have := HJ4.out; have := HJ9.out; have := HK3.out; first | omega | exact Nat.le_refl _⟩, ⟨pkx B1⟩, ⟨pkx B2⟩, ⟨pbx HB⟩⟩
            ·rw [if_neg c21] at H; have c21b0 := decide_eq_false c21; clear c21
             have H' := A_ H
             clear H
             have p19 : 0 ≤ (x6_3 : Int) := of_decide_eq_true as_
             have q19 : x6_3 < (x0_9.size : Int) := of_decide_eq_true as_
             have hx19 := bt_at x0_9 x6_3; replace p19 := eq_true p19; replace q19 := eq_true q19
             go_wp2
             go_meet
             case rel => exact ⟨_, (false), sq_, H', ⟨by have := HJ4.out; have := HJ9.out; have := HK3.out; first | omega | exact Nat.le_refl _⟩, ⟨pkx B1⟩, ⟨pkx B2⟩, ⟨pbx HB⟩⟩
           ·rw [if_neg c20] at H; have ⟨c20b0,c20b1⟩ := e0_ c20
            have H' := A_ H
            clear H
            have p19 : 0 ≤ (x6_3 : Int) := of_decide_eq_true as_
            have q19 : x6_3 < (x0_9.size : Int) := of_decide_eq_true as_
            have hx19 := bt_at x0_9 x6_3; replace p19 := eq_true p19; replace q19 := eq_true q19
            go_wp2
            go_meet
            case rel => exact ⟨_, (false), sq_, H', ⟨by have := HJ4.out; have := HJ9.out; have := HK3.out; first | omega | exact Nat.le_refl _⟩, ⟨pkx B1⟩, ⟨pkx B2⟩, ⟨pbx HB⟩⟩
          ·rw [if_neg c18] at H
           exact absurd H (by simp)
         case rest =>
          clear HC17; (try clear c2); (try clear c2b0); (try clear c2b1); (try clear c16); (try clear c16b0); (try clear hcz15_0); (try clear hcz15_1); (try clear hfz15_0); (try clear hfz15_1); obtain ⟨kq, x41_16, rfl, HA, HJ16, B1, B2, HB⟩ := hcut
          cases kq with
          | zero => exact absurd HA.out (by simp [oculusref11_Read.j3])
          | succ kj16 =>
           have H := HA.out; clear HA
           simp only [oculusref11_Read.j3] at H
           replace H := ib_ H; rcases H with ⟨rfl,H⟩|⟨rfl,H⟩
           ·have H' := A_ H
            clear H
            go_wp2
            go_roundg kj16
            case measure => have := HJ4.out; have := HJ9.out; have := HK3.out; have := HJ16.out; omega
            case rel => exact ⟨(0), (wrap64 (x6_3 + 1)), (x102000_3), (x102001_3), (x103000_3), (x103001_3), sq_, sq_, H', ⟨by have := HJ4.out; have := HJ9.out; have := HK3.out; have := HJ16.out; omega⟩, ⟨pkx B1⟩, ⟨pkx B2⟩, ⟨pbx HB⟩⟩
           ·have HC23 := A_ H; clear H
            go_upto_region 13 with (fail)
            go_cut [45] (fun v45 wc => ∃ (kq : Nat) (x45_22 : Bool), v45 = .bool x45_22 ∧ Aside0 (oculusref11_Read.j4 kq x0_9 x3_4 x5_3 x6_3 x45_22 x103000_3 x103001_3 = some (r1, r2)) ∧ Aside0 (kq ≤ kj16) ∧ Aside0 (wc.heap[g1]? = some (.cells #[.int .i64 x102000_3, .bool x102001_3] 71 (0, 0))) ∧ Aside0 (wc.heap[g2]? = some (.cells #[.int .i64 x103000_3, .bool x103001_3] 71 (0, 0))) ∧ Aside0 (Below w.heap.size w wc))
            case first =>
             have H := HC23.out; clear HC23; obtain ⟨t103, A24, H⟩ := bo_ H
             have H' := A_ H
             clear H
             go_wp2_with (first | ((with_reducible refine gate_callee (f:=90) rfl ?_); refine gL_ (some 44) rfl rfl Tryz.func90 rfl #[.string x0_9, .int .i64 x6_3] rfl ?_; (with_reducible refine (oculusref11_Digit.calls x0_9 x6_3 t103 _ A24.out).mono ?_); rintro e w' ⟨rfl, ⟨nd, rfl⟩⟩; refine ⟨_, rfl, ?_⟩))
             go_meet
             case rel => exact ⟨_, (!t103), (by first | rfl | (simp; done) | (simp [*]; done) | (cases t103 <;> simp; done)), H', ⟨by have := HJ4.out; have := HJ9.out; have := HK3.out; have := HJ16.out; first | omega | exact Nat.le_refl _⟩, ⟨pkx B1⟩, ⟨pkx B2⟩, ⟨pbx HB⟩⟩
            case rest =>
             clear HC23; (try clear c2); (try clear c2b0); (try clear c2b1); (try clear c16); (try clear c16b0); (try clear c22); (try clear hcz15_0); (try clear hcz15_1); (try clear hfz15_0); (try clear hfz15_1)
             obtain ⟨kq, x45_22, rfl, HA, HJ22, B1, B2, HB⟩ := hcut
             cases kq with
             | zero => exact absurd HA.out (by simp [oculusref11_Read.j4])
             | succ kj22 =>
              have H := HA.out; clear HA
              simp only [oculusref11_Read.j4] at H
              replace H := ib_ H; rcases H with ⟨rfl,H⟩|⟨rfl,H⟩
              ·simp only [Option.some.injEq, Prod.mk.injEq] at H
               obtain ⟨rfl, rfl⟩ := H; have hnb26 := N12.out; have hnc26 := N21.out
               have ⟨hcz27_0,hcz27_1,hfz27_0,hfz27_1⟩ := z2_ B1
               go_wp2
               refine bodyPost_ret (results_cell_row rfl _ _ g1 71 #[.int .i64 0, .bool false] (0, 0) _ rfl (by refine pp_ (cs := #[.int .i64 0, .bool x102001_3]) 1 ?_ rfl; refine blk_put (cs := #[.int .i64 x102000_3, .bool x102001_3]) ?_ 0 _ rfl; exact pkx B1) Tryz.underlying71 rfl (by kernel_rfl)) rfl ?_
               exact fi_ bl_
              ·have HC28 := A_ H; clear H
               go_upto_if 48 with (fail)
               go_cut [5] (fun v5 wc => ∃ (kq : Nat) (x5_27 : Int), v5 = .int .i64 x5_27 ∧ Aside0 (oculusref11_Read.j5 kq x0_9 x3_4 x5_27 x6_3 x103000_3 x103001_3 = some (r1, r2)) ∧ Aside0 (kq ≤ kj22) ∧ Aside0 (wc.heap[g1]? = some (.cells #[.int .i64 x102000_3, .bool x102001_3] 71 (0, 0))) ∧ Aside0 (wc.heap[g2]? = some (.cells #[.int .i64 x103000_3, .bool x103001_3] 71 (0, 0))) ∧ Aside0 (Below w.heap.size w wc))
               case first =>
                have H := HC28.out; clear HC28
                by_cases c29 : x5_3 ≥ 0
                ·rw [if_pos c29] at H; have c29b0 := decide_eq_true c29; clear c29; (first | rw [c29b0] | (simp only [i64_w, i32_w]; rw [c29b0]) | skip)
                 have H' := A_ H
                 clear H
                 go_wp2
                 go_meet
                 case rel => exact ⟨_, (wrap64 (x5_3 + 1)), sq_, H', ⟨by have := HJ4.out; have := HJ9.out; have := HK3.out; have := HJ16.out; have := HJ22.out; first | omega | exact Nat.le_refl _⟩, ⟨pkx B1⟩, ⟨pkx B2⟩, ⟨pbx HB⟩⟩
                ·rw [if_neg c29] at H; have c29b0 := decide_eq_false c29; clear c29; (first | rw [c29b0] | (simp only [i64_w, i32_w]; rw [c29b0]) | skip)
                 have H' := A_ H
                 clear H
                 go_wp2
                 go_meet
                 case rel => exact ⟨_, (x5_3), sq_, H', ⟨by have := HJ4.out; have := HJ9.out; have := HK3.out; have := HJ16.out; have := HJ22.out; first | omega | exact Nat.le_refl _⟩, ⟨pkx B1⟩, ⟨pkx B2⟩, ⟨pbx HB⟩⟩
               case rest =>
                clear HC28; (try clear c2); (try clear c2b0); (try clear c2b1); (try clear c16); (try clear c16b0); (try clear c22); (try clear c25); (try clear hcz15_0); (try clear hcz15_1); (try clear hfz15_0); (try clear hfz15_1)
                obtain ⟨kq, x5_27, rfl, HA, HJ27, B1, B2, HB⟩ := hcut
                cases kq with
                | zero => exact absurd HA.out (by simp [oculusref11_Read.j5])
                | succ kj27 =>
                 have H := HA.out; clear HA
                 simp only [oculusref11_Read.j5] at H
                 by_cases c30 : 0 ≤ x6_3
                 ·rw [if_pos c30] at H; have c30b0 := decide_eq_true c30; clear c30
                  by_cases c31 : x6_3 < (x0_9.size : Int)
                  ·rw [if_pos c31] at H; have c31b0 := decide_eq_true c31; clear c31; obtain ⟨⟨t104, t105⟩, A33, H⟩ := bo_ H; dsimp only at H
                   have H' := A_ H
                   clear H
                   try go_wp2
                   (try (rw [drewN_self wc]; generalize hq_ : World.drewN wc _ = wc; have n0_ : Aside0 (wc.heap[g1]? = some (.cells #[.int .i64 x102000_3, .bool x102001_3] 71 (0, 0))) := ⟨by rw [← hq_]; exact (pkx B1)⟩; have n1_ : Aside0 (wc.heap[g2]? = some (.cells #[.int .i64 x103000_3, .bool x103001_3] 71 (0, 0))) := ⟨by rw [← hq_]; exact (pkx B2)⟩; have n2_ : Aside0 (Below w.heap.size w wc) := ⟨by rw [← hq_]; exact (pbx HB)⟩; clear B1 B2 HB hq_; have B1 := n0_; have B2 := n1_; have HB := n2_; clear n0_ n1_ n2_))
                   replace B1 := A_ (blk_drew B1.out); replace B2 := A_ (blk_drew B2.out); replace HB := A_ (below_drew1 HB.out)
                   have p32 : 0 ≤ (x6_3 : Int) := of_decide_eq_true as_
                   have q32 : x6_3 < (x0_9.size : Int) := of_decide_eq_true as_
                   have hx32 := bt_at x0_9 x6_3; replace p32 := eq_true p32; replace q32 := eq_true q32
                   refine start_ (n:=8) (S := fun w' => w'.cell? ⟨g2, 0, none⟩ = some (.int .i64 x103000_3) ∧ w'.cell? ⟨g2, 1, none⟩ = some (.bool x103001_3)) (ds := [7]) #[F,F,F,F,F,F,F,F] (by kernel_rfl) rfl rfl ⟨bc_ B2 0 rfl, bc_ B2 1 rfl⟩ (fun hHeld => ?_); refine with_tabW oculusref11_Read.tab17 oculusref11_Read.bits17 (fun HT_ HW_ => ?_)
                   generalize wc.drew = w34 at B1 B2 HB hHeld ⊢; refine pure_ (i:=1) (N:=some 52) (v:=?_) (a':=?_) ⟨m_ 8 2⟩ rfl rfl (ao_ HT_) (fun _ _ _ h=>h) (Or.inl ⟨rfl, ?_⟩) ?_ ?_; rotate_left
                   ·intro w'; go_simp; with_reducible rfl
                   rotate_left
                   ·simp only [q_, i64_w, i32_w]; rfl
                   refine pure_ (i:=2) (N:=some 53) (v:=?_) (a':=?_) ⟨m_ 8 6⟩ rfl rfl (ao_ HT_) (fun _ _ _ h=>h) (Or.inl ⟨rfl, ?_⟩) ?_ ?_; rotate_left
                   ·intro w'; go_simp; with_reducible rfl
                   rotate_left
                   ·simp only [q_, i64_w, i32_w]; rfl
                   refine take_ (i:=0) (N:=some 51) (v:=?_) (a':=?_) ⟨m_ 8 7⟩ rfl rfl (tw_ HT_ HW_) (fun _ _ _ h=>h) (Or.inl ⟨rfl, ?_⟩) hHeld ?_ ?_; rotate_left
                   ·rintro w' ⟨s0, s1⟩; go_simp; with_reducible rfl
                   rotate_left
                   ·simp only [q_, i64_w, i32_w]; rfl
                   refine take_ (i:=3) (N:=some 54) (v:=?_) (a':=?_) ⟨m_ 8 15⟩ rfl rfl (tw_ HT_ HW_) (fun _ _ _ h=>h) (Or.inl ⟨rfl, ?_⟩) hHeld ?_ ?_; rotate_left
                   ·rintro w' ⟨s0, s1⟩; go_simp; with_reducible rfl
                   rotate_left
                   ·simp only [q_, i64_w, i32_w]; rfl
                   refine pure_ (i:=4) (N:=some 55) (v:=?_) (a':=?_) ⟨m_ 8 31⟩ rfl rfl (ao_ HT_) (fun _ _ _ h=>h) (Or.inl ⟨rfl, ?_⟩) ?_ ?_; rotate_left
                   ·intro w'; go_simp; with_reducible rfl
                   rotate_left
                   ·simp only [q_, i64_w, i32_w]; rfl
                   refine pure_ (i:=5) (N:=some 56) (v:=?_) (a':=?_) ⟨m_ 8 63⟩ rfl rfl (ao_ HT_) (fun _ _ _ h=>h) (Or.inl ⟨rfl, ?_⟩) ?_ ?_; rotate_left
                   ·intro w'; go_simp; with_reducible rfl
                   rotate_left
                   ·simp only [q_, i64_w, i32_w]; rfl
                   refine one_ (i:=6) (N:=some 57) ⟨m_ 8 127⟩ rfl rfl (oo_ HT_) (by decide) (fun K hK => ?_); refine goes_ Tryz.func91 (by kernel_rfl) rfl #[.agg #[.int .i64 x103000_3, .bool x103001_3], .int .i64 (wrap64 ((wrap64 (bt x0_9 x6_3)) - 48))] (by rfl) rfl rfl ha_ ?_; with_reducible refine (oculusref11_more.calls kj27 x103000_3 x103001_3 (wrap64 ((wrap64 (bt x0_9 x6_3)) - 48)) t104 t105 _ A33.out).mono ?_; rintro e w35 ⟨rfl, hb⟩; refine ⟨_, rfl, ?_⟩
                   replace B1 := bb_ B1 hb; replace B2 := bb_ B2 hb; replace HB := bs_ HB hb; (try clear hb); refine hK.out _ _ ⟨bc_ B2 0 rfl, bc_ B2 1 rfl⟩ (fun hHeld => ?_); clear hK K; refine norm_ (a':=?_) ?_ ?_; rotate_left
                   ·show Act.put _ (some 57) _ = _; simp only [q_, i64_w, i32_w]; rfl
                   refine last_ (i:=7) (N:=none) ⟨m_ 8 255⟩ rfl rfl (oo_ HT_) (by decide) (fun K hK => ?_)
                   have hs36 : w35.cell? ⟨g2, 0, none⟩ = some (.int .i64 x103000_3) := bc_ B2 0 rfl
                   have hfs36 := blk_frozen B2.out 0; have hns36_0 := N12.out; have hms36_0 := N21.out
                   have hs37 : w35.cell? ⟨g2, 1, none⟩ = some (.bool x103001_3) := bc_ B2 1 rfl
                   have hfs37 := blk_frozen B2.out 1; have hns37_0 := N12.out; have hms37_0 := N21.out
                   refine skip_ (w1 := ?_) (by rfl) rfl ?_ ?_
                   rotate_left
                   ·go_simp; rfl
                   refine hK.out _ _ ?_; clear hK K
                   refine done_ (done_of HT_.out (by kernel_rfl)) ?_
                   try go_wp2
                   go_roundg kj27
                   case measure => have := HJ4.out; have := HJ9.out; have := HK3.out; have := HJ16.out; have := HJ22.out; have := HJ27.out; omega
                   case rel => exact ⟨(x5_27), (wrap64 (x6_3 + 1)), (x102000_3), (x102001_3), (t104), (t105), sq_, sq_, H', ⟨by have := HJ4.out; have := HJ9.out; have := HK3.out; have := HJ16.out; have := HJ22.out; have := HJ27.out; omega⟩, ⟨by (iterate 2 refine pf_ ?_ N12.out); exact pkx B1⟩, ⟨by refine pp_ (cs := #[.int .i64 t104, .bool x103001_3]) 1 ?_ rfl; refine blk_put (cs := #[.int .i64 x103000_3, .bool x103001_3]) ?_ 0 _ rfl; exact pkx B2⟩, ⟨bl_⟩⟩
                  ·rw [if_neg c31] at H
                   exact absurd H (by simp)
                 ·rw [if_neg c30] at H
                  exact absurd H (by simp)
        ·rw [if_neg c16] at H; have c16b0 := decide_eq_false c16; clear c16; have HC38 := A_ H; clear H
         go_upto_region 18 with (fail)
         go_cut [68] (fun v68 wc => ∃ (kq : Nat) (x68_37 : Bool), v68 = .bool x68_37 ∧ Aside0 (oculusref11_Read.j6 kq x3_4 x5_3 x68_37 x103000_3 x103001_3 = some (r1, r2)) ∧ Aside0 (kq ≤ k3) ∧ Aside0 (wc.heap[g1]? = some (.cells #[.int .i64 x102000_3, .bool x102001_3] 71 (0, 0))) ∧ Aside0 (wc.heap[g2]? = some (.cells #[.int .i64 x103000_3, .bool x103001_3] 71 (0, 0))) ∧ Aside0 (Below w.heap.size w wc))
         case first =>
          have H := HC38.out; clear HC38
          by_cases c39 : (x0_9.size : Int) = 0
          ·rw [if_pos c39] at H; have ⟨c39b0,c39b1⟩ := e1_ c39; clear c39; (first | rw [c39b0] | (simp only [i64_w, i32_w]; rw [c39b0]) | skip)
           have H' := A_ H
           clear H
           go_wp2
           go_meet
           case rel => exact ⟨_, (true), sq_, H', ⟨by have := HJ4.out; have := HJ9.out; have := HK3.out; first | omega | exact Nat.le_refl _⟩, ⟨pkx B1⟩, ⟨pkx B2⟩, ⟨pbx HB⟩⟩
          ·rw [if_neg c39] at H; have ⟨c39b0,c39b1⟩ := e0_ c39; (first | rw [c39b0] | (simp only [i64_w, i32_w]; rw [c39b0]) | skip)
           by_cases c40 : x5_3 = 0
           ·rw [if_pos c40] at H; have ⟨c40b0,c40b1⟩ := e1_ c40; clear c40
            have H' := A_ H
            clear H
            go_wp2
            go_meet
            case rel => exact ⟨_, (true), sq_, H', ⟨by have := HJ4.out; have := HJ9.out; have := HK3.out; first | omega | exact Nat.le_refl _⟩, ⟨pkx B1⟩, ⟨pkx B2⟩, ⟨pbx HB⟩⟩
           ·rw [if_neg c40] at H; have ⟨c40b0,c40b1⟩ := e0_ c40
            have H' := A_ H
            clear H
            go_wp2
            go_meet
            case rel => exact ⟨_, (decide (x5_3 > 4)), sq_, H', ⟨by have := HJ4.out; have := HJ9.out; have := HK3.out; first | omega | exact Nat.le_refl _⟩, ⟨pkx B1⟩, ⟨pkx B2⟩, ⟨pbx HB⟩⟩
         case rest =>
          clear HC38; (try clear c2); (try clear c2b0); (try clear c2b1); (try clear c16); (try clear c16b0)
          (try clear hcz15_0); (try clear hcz15_1); (try clear hfz15_0); (try clear hfz15_1); obtain ⟨kq, x68_37, rfl, HA, HJ37, B1, B2, HB⟩ := hcut
          cases kq with
          | zero => exact absurd HA.out (by simp [oculusref11_Read.j6])
          | succ kj37 =>
           have H := HA.out; clear HA
           simp only [oculusref11_Read.j6] at H
           replace H := ib_ H; rcases H with ⟨rfl,H⟩|⟨rfl,H⟩
           ·simp only [Option.some.injEq, Prod.mk.injEq] at H
            obtain ⟨rfl, rfl⟩ := H; have hnb42 := N12.out; have hnc42 := N21.out
            have ⟨hcz43_0,hcz43_1,hfz43_0,hfz43_1⟩ := z2_ B1
            go_wp2
            refine bodyPost_ret (results_cell_row rfl _ _ g1 71 #[.int .i64 0, .bool false] (0, 0) _ rfl (by refine pp_ (cs := #[.int .i64 0, .bool x102001_3]) 1 ?_ rfl; refine blk_put (cs := #[.int .i64 x102000_3, .bool x102001_3]) ?_ 0 _ rfl; exact pkx B1) Tryz.underlying71 rfl (by kernel_rfl)) rfl ?_
            exact fi_ bl_
           ·obtain ⟨ji44, hji44⟩ : ∃ j_ : Int, (mx x5_3 0) = j_ := ⟨_, rfl⟩
            replace H : (oculusref11_Read.l1 kj37 x3_4 ji44 x103000_3 x103001_3) = some (r1, r2) := by first | (rw [hji44] at H; exact H) | (simp only [hji44] at H ⊢; exact H)
            have hji44_ : (if x5_3 < 0 then 0 else x5_3) = ji44 := hji44
            have H' := A_ H
            clear H
            go_wp2
            go_loopg [7] kj37 (fun kq v7 w' => ∃ (x7_5 : Int) (x103000_5 : Int) (x103001_5 : Bool), v7 = .int .i64 x7_5 ∧ Aside0 (oculusref11_Read.l1 kq x3_4 x7_5 x103000_5 x103001_5 = some (r1, r2)) ∧ Aside0 (kq ≤ kj37) ∧ Aside0 (w'.heap[g1]? = some (.cells #[.int .i64 x102000_3, .bool x102001_3] 71 (0, 0))) ∧ Aside0 (w'.heap[g2]? = some (.cells #[.int .i64 x103000_5, .bool x103001_5] 71 (0, 0))) ∧ Aside0 (Below w.heap.size w w'))
            case atStart => exact ⟨(ji44), (x103000_3), (x103001_3), (by first | rfl | (simp; done) | (simp only [← hji44] <;> (first | rfl | simp)) | (simp [*]; done)), H', ⟨Nat.le_refl _⟩, ⟨pkx B1⟩, ⟨pkx B2⟩, ⟨pbx HB⟩⟩
            case round =>
             clear H'; (try clear c2); (try clear c2b0); (try clear c2b1); (try clear c16); (try clear c16b0)
             (try clear c41); (try clear hcz15_0); (try clear hcz15_1); (try clear hfz15_0); (try clear hfz15_1); obtain ⟨x7_5, x103000_5, x103001_5, rfl, HA, HK5, B1, B2, HB⟩ := hrel
             cases gk with
             | zero => exact absurd HA.out (by simp [oculusref11_Read.l1])
             | succ k5 =>
              have H := HA.out; clear HA
              simp only [oculusref11_Read.l1] at H
              by_cases c45 : x7_5 < 4
              ·rw [if_pos c45] at H; have c45b0 := decide_eq_true c45; clear c45; obtain ⟨⟨t106, t107⟩, A46, H⟩ := bo_ H; dsimp only at H
               have H' := A_ H
               clear H; have hnb47 := N21.out; have hnc47 := N12.out
               have ⟨hcz48_0,hcz48_1,hfz48_0,hfz48_1⟩ := z2_ B2
               go_wp2_with (first | ((with_reducible refine gate_callee (f:=91) rfl ?_); refine gL_ (some 77) rfl rfl Tryz.func91 rfl #[.agg #[.int .i64 x103000_5, .bool x103001_5], .int .i64 0] rfl ?_; (with_reducible refine (oculusref11_more.calls k5 x103000_5 x103001_5 0 t106 t107 _ A46.out).mono ?_); rintro e w49 ⟨rfl, hb⟩; refine ⟨_, rfl, ?_⟩; replace B1 := bb_ B1 hb; replace B2 := bb_ B2 hb; replace HB := bs_ HB hb; (try clear hb); have ⟨hcz50_0,hcz50_1,hfz50_0,hfz50_1⟩ := z2_ B2))
               go_roundg k5
               case measure => have := HJ4.out; have := HJ9.out; have := HK3.out; have := HJ37.out; have := HK5.out; omega
               case rel => exact ⟨(wrap64 (x7_5 + 1)), (t106), (t107), sq_, H', ⟨by have := HJ4.out; have := HJ9.out; have := HK3.out; have := HJ37.out; have := HK5.out; omega⟩, ⟨by (iterate 2 refine pf_ ?_ N12.out); exact pkx B1⟩, ⟨by refine pp_ (cs := #[.int .i64 t106, .bool x103001_5]) 1 ?_ rfl; refine blk_put (cs := #[.int .i64 x103000_5, .bool x103001_5]) ?_ 0 _ rfl; exact pkx B2⟩, ⟨bl_⟩⟩
              ·rw [if_neg c45] at H; have c45b0 := decide_eq_false c45; clear c45
               replace H := ib_ H; rcases H with ⟨rfl,H⟩|⟨rfl,H⟩
               ·simp only [Option.some.injEq, Prod.mk.injEq] at H
                obtain ⟨rfl, rfl⟩ := H; have hnb52 := N21.out; have hnc52 := N12.out
                have ⟨hcz53_0,hcz53_1,hfz53_0,hfz53_1⟩ := z2_ B2
                have ⟨hcz54_0,hcz54_1,hfz54_0,hfz54_1⟩ := z2_ B1
                go_wp2
                refine bodyPost_ret (results_cell_row rfl _ _ g1 71 #[.int .i64 (wrap64 (-x103000_5)), .bool x103001_5] (0, 0) _ rfl (by refine pp_ (cs := #[.int .i64 (wrap64 (-x103000_5)), .bool x102001_3]) 1 ?_ rfl; refine blk_put (cs := #[.int .i64 x102000_3, .bool x102001_3]) ?_ 0 _ rfl; refine pf_ ?_ N12.out; exact pkx B1) Tryz.underlying71 rfl (by kernel_rfl)) rfl ?_
                exact ⟨by first | rfl | (simp [errW_none, errW_some] <;> rfl) | (simp only [← hji44]; first | rfl | (simp [errW_none, errW_some] <;> rfl)) | (simp [*, errW_none, errW_some] <;> rfl), by repeat (first | (with_reducible first | exact HB.out | apply below_alloc | apply pw_below_drewN | apply below_drew1 | refine below_set ?_ GE101.out | refine below_set ?_ GE102.out) | exact HB.out)⟩
               ·simp only [Option.some.injEq, Prod.mk.injEq] at H
                obtain ⟨rfl, rfl⟩ := H; have hnb55 := N21.out; have hnc55 := N12.out
                have ⟨hcz56_0,hcz56_1,hfz56_0,hfz56_1⟩ := z2_ B2
                have ⟨hcz57_0,hcz57_1,hfz57_0,hfz57_1⟩ := z2_ B1
                go_wp2
                refine bodyPost_ret (results_cell_row rfl _ _ g1 71 #[.int .i64 x103000_5, .bool x103001_5] (0, 0) _ rfl (by refine pp_ (cs := #[.int .i64 x103000_5, .bool x102001_3]) 1 ?_ rfl; refine blk_put (cs := #[.int .i64 x102000_3, .bool x102001_3]) ?_ 0 _ rfl; exact pkx B1) Tryz.underlying71 rfl (by kernel_rfl)) rfl ?_
                exact ⟨by first | rfl | (simp [errW_none, errW_some] <;> rfl) | (simp only [← hji44]; first | rfl | (simp [errW_none, errW_some] <;> rfl)) | (simp [*, errW_none, errW_some] <;> rfl), by repeat (first | (with_reducible first | exact HB.out | apply below_alloc | apply pw_below_drewN | apply below_drew1 | refine below_set ?_ GE101.out | refine below_set ?_ GE102.out) | exact HB.out)⟩

def oculusref12_Bool.f (a0 : Bool) : Option (Int × Int × ByteArray) := if a0 = true then (some (3, 1, (⟨#[]⟩ : ByteArray))) else (some (3, 0, (⟨#[]⟩ : ByteArray)))
theorem oculusref12_Bool.calls (a0 : Bool) (r1 : Int) (r2 : Int) (r3 : ByteArray) (w : World) (h : oculusref12_Bool.f a0 = some (r1, r2, r3)) :
  Calls Tryz.prog 78 #[.bool a0] w fun e w' => e = .returned (.agg #[.int .i64 r1, .int .i64 r2, .string r3]) ∧ Below w.heap.size w w' := by
 have hu26 := Tryz.underlying26; have HB := A_ (Below.refl w.heap.size w)
 have H : (if a0 = true then (some (3, 1, (⟨#[]⟩ : ByteArray))) else (some (3, 0, (⟨#[]⟩ : ByteArray)))) = some (r1, r2, r3) := h
 clear h
 replace H := ib_ H; rcases H with ⟨rfl,H⟩|⟨rfl,H⟩
 ·simp only [Option.some.injEq, Prod.mk.injEq] at H
  obtain ⟨rfl, rfl, rfl⟩ := H
  go_enter Tryz.func78, Tryz.ntmps78
  go_wp2_with (first | ((with_reducible refine gd_ 2 ?_); refine be_ (N:=2) (cs := #[.int .i64 0, .int .i64 0, .string (⟨#[]⟩ : ByteArray)]) (t:=26) ?_; intro g1 hg w3 hbox hb; have B1 := A_ (hbox); have GW101 := hs_ HB hg; have GE101 := hs_ HB hg; replace HB := bs_ HB hb; clear hb hbox hg; have ⟨hcz4_0,hcz4_1,hcz4_2,hfz4_0,hfz4_1,hfz4_2⟩ := z3_ B1))
  refine bodyPost_ret (results_cell_row rfl _ _ g1 26 #[.int .i64 3, .int .i64 1, .string (⟨#[]⟩ : ByteArray)] (0, 0) _ rfl (by (iterate 3 apply pp_); exact pkx B1; all_goals rfl) Tryz.underlying26 rfl (by kernel_rfl)) rfl ?_
  exact fi_ bl_
 ·simp only [Option.some.injEq, Prod.mk.injEq] at H
  obtain ⟨rfl, rfl, rfl⟩ := H
  go_enter Tryz.func78, Tryz.ntmps78
  go_wp2_with (first | ((with_reducible refine gd_ 2 ?_); refine be_ (N:=2) (cs := #[.int .i64 0, .int .i64 0, .string (⟨#[]⟩ : ByteArray)]) (t:=26) ?_; intro g1 hg w5 hbox hb; have B1 := A_ (hbox); have GW101 := hs_ HB hg; have GE101 := hs_ HB hg; replace HB := bs_ HB hb; clear hb hbox hg; have ⟨hcz6_0,hcz6_1,hcz6_2,hfz6_0,hfz6_1,hfz6_2⟩ := z3_ B1))
  refine bodyPost_ret (results_cell_row rfl _ _ g1 26 #[.int .i64 3, .int .i64 0, .string (⟨#[]⟩ : ByteArray)] (0, 0) _ rfl (by (iterate 3 apply pp_); exact pkx B1; all_goals rfl) Tryz.underlying26 rfl (by kernel_rfl)) rfl ?_
  exact fi_ bl_

def oculusref12_Str.f (a0 : ByteArray) : Option (Int × Int × ByteArray) := if (a0.size : Int) > 256 then ((oculusref12_Bad.f 2).bind fun bt102 => (some (bt102.1, bt102.2.1, bt102.2.2))) else (some (2, 0, a0))
theorem oculusref12_Str.calls (a0 : ByteArray) (r1 : Int) (r2 : Int) (r3 : ByteArray) (w : World) (h : oculusref12_Str.f a0 = some (r1, r2, r3)) :
  Calls Tryz.prog 79 #[.string a0] w fun e w' => e = .returned (.agg #[.int .i64 r1, .int .i64 r2, .string r3]) ∧ Below w.heap.size w w' := by
 have hu26 := Tryz.underlying26; have HB := A_ (Below.refl w.heap.size w)
 have H : (if (a0.size : Int) > 256 then ((oculusref12_Bad.f 2).bind fun bt102 => (some (bt102.1, bt102.2.1, bt102.2.2))) else (some (2, 0, a0))) = some (r1, r2, r3) := h
 clear h
 by_cases c2 : (a0.size : Int) > 256
 ·rw [if_pos c2] at H; have c2b0 := decide_eq_true c2; have c2b1 : decide (256 < a0.size) = true := decide_eq_true (by omega); clear c2; obtain ⟨⟨t102, t103, t104⟩, A3, H⟩ := bo_ H; dsimp only at H
  simp only [Option.some.injEq, Prod.mk.injEq] at H
  obtain ⟨rfl, rfl, rfl⟩ := H
  go_enter Tryz.func79, Tryz.ntmps79
  go_wp2_with (first | ((with_reducible refine gd_ 2 ?_); refine be_ (N:=2) (cs := #[.int .i64 0, .int .i64 0, .string (⟨#[]⟩ : ByteArray)]) (t:=26) ?_; intro g1 hg w4 hbox hb; have B1 := A_ (hbox); have GW101 := hs_ HB hg; have GE101 := hs_ HB hg; replace HB := bs_ HB hb; clear hb hbox hg) | ((with_reducible refine gate_callee (f:=42) rfl ?_); refine gL_ (some 6) rfl rfl Tryz.func42 rfl #[.int .i64 2] rfl ?_; (with_reducible refine (oculusref12_Bad.calls 2 t102 t103 t104 _ A3.out).mono ?_); rintro e w5 ⟨rfl, hb⟩; refine ⟨_, rfl, ?_⟩; replace B1 := bb_ B1 hb; replace HB := bs_ HB hb; have ⟨hcz6_0,hcz6_1,hcz6_2,hfz6_0,hfz6_1,hfz6_2⟩ := z3_ B1))
  refine bodyPost_ret (results_cell_row rfl _ _ g1 26 #[.int .i64 t102, .int .i64 t103, .string t104] (0, 0) _ rfl (by (iterate 3 apply pp_); exact pkx B1; all_goals rfl) Tryz.underlying26 rfl (by kernel_rfl)) rfl ?_
  exact fi_ bl_
 ·rw [if_neg c2] at H; have c2b0 := decide_eq_false c2; have c2b1 : decide (256 < a0.size) = false := decide_eq_false (by omega); clear c2
  simp only [Option.some.injEq, Prod.mk.injEq] at H
  obtain ⟨rfl, rfl, rfl⟩ := H
  go_enter Tryz.func79, Tryz.ntmps79
  go_wp2_with (first | ((with_reducible refine gd_ 2 ?_); refine be_ (N:=2) (cs := #[.int .i64 0, .int .i64 0, .string (⟨#[]⟩ : ByteArray)]) (t:=26) ?_; intro g1 hg w7 hbox hb; have B1 := A_ (hbox); have GW101 := hs_ HB hg; have GE101 := hs_ HB hg; replace HB := bs_ HB hb; clear hb hbox hg; have ⟨hcz8_0,hcz8_1,hcz8_2,hfz8_0,hfz8_1,hfz8_2⟩ := z3_ B1))
  refine bodyPost_ret (results_cell_row rfl _ _ g1 26 #[.int .i64 2, .int .i64 0, .string a0] (0, 0) _ rfl (by (iterate 3 apply pp_); exact pkx B1; all_goals rfl) Tryz.underlying26 rfl (by kernel_rfl)) rfl ?_
  exact fi_ bl_

def oculusref17_read.j0 : Nat → ByteArray → Bool → Option (Int × Int × ByteArray)
 | 0, _, _ => none
 | k + 1, x0, x16 => if x16 = true then ((oculusref12_Bool.f (x0.toList == ([84, 82, 85, 69] : List UInt8))).bind fun bt108 => (some (bt108.1, bt108.2.1, bt108.2.2))) else ((oculusref12_Str.f x0).bind fun bt111 => (some (bt111.1, bt111.2.1, bt111.2.2)))
def oculusref17_read.f (k : Nat) (a0 : ByteArray) : Option (Int × Int × ByteArray) := (oculusref11_Read.f k a0).bind fun bt102 => (if bt102.2 = true then ((oculusref12_Num.f bt102.1).bind fun bt105 => (some (bt105.1, bt105.2.1, bt105.2.2))) else (if a0.toList = ([84, 82, 85, 69] : List UInt8) then (oculusref17_read.j0 k a0 true) else (oculusref17_read.j0 k a0 (a0.toList == ([70, 65, 76, 83, 69] : List UInt8)))))
theorem oculusref17_read.calls (k : Nat) (a0 : ByteArray) (r1 : Int) (r2 : Int) (r3 : ByteArray) (w : World) (h : oculusref17_read.f k a0 = some (r1, r2, r3)) :
  Calls Tryz.prog 63 #[.string a0] w fun e w' => e = .returned (.agg #[.int .i64 r1, .int .i64 r2, .string r3]) ∧ Below w.heap.size w w' := by
 have hu26 := Tryz.underlying26; have hu71 := Tryz.underlying71; have HB := A_ (Below.refl w.heap.size w)
 have H : ((oculusref11_Read.f k a0).bind fun bt102 => (if bt102.2 = true then ((oculusref12_Num.f bt102.1).bind fun bt105 => (some (bt105.1, bt105.2.1, bt105.2.2))) else (if a0.toList = ([84, 82, 85, 69] : List UInt8) then (oculusref17_read.j0 k a0 true) else (oculusref17_read.j0 k a0 (a0.toList == ([70, 65, 76, 83, 69] : List UInt8)))))) = some (r1, r2, r3) := h
 clear h; obtain ⟨⟨t102, t103⟩, A2, H⟩ := bo_ H; dsimp only at H
 replace H := ib_ H; rcases H with ⟨rfl,H⟩|⟨rfl,H⟩
 ·obtain ⟨⟨t105, t106, t107⟩, A4, H⟩ := bo_ H; dsimp only at H
  simp only [Option.some.injEq, Prod.mk.injEq] at H
  obtain ⟨rfl, rfl, rfl⟩ := H
  go_enter Tryz.func63, Tryz.ntmps63
  go_wp2_with (first | ((with_reducible refine gd_ 2 ?_); refine be_ (N:=2) (cs := #[.int .i64 0, .int .i64 0, .string (⟨#[]⟩ : ByteArray)]) (t:=26) ?_; intro g1 hg w5 hbox hb; have B1 := A_ (hbox); have GW101 := hs_ HB hg; have GE101 := hs_ HB hg; replace HB := bs_ HB hb; clear hb hbox hg) | ((with_reducible refine gate_callee (f:=77) rfl ?_); refine gL_ (some 5) rfl rfl Tryz.func77 rfl #[.string a0] rfl ?_; (with_reducible refine (oculusref11_Read.calls k a0 t102 true _ A2.out).mono ?_); rintro e w6 ⟨rfl, hb⟩; refine ⟨_, rfl, ?_⟩; replace B1 := bb_ B1 hb; replace HB := bs_ HB hb; ) | ((with_reducible refine gd_ 3 ?_); refine be_ (N:=3) (cs := #[.int .i64 0, .bool false]) (t:=71) ?_; intro g4 hg w7 hbox hb; have B4 := A_ (hbox); have GW104 := hs_ HB hg; have GE104 := hs_ HB hg; have N14 := hl_ B1 hg; have N41 := hr_ B1 hg; replace B1 := bb_ B1 hb; replace HB := bs_ HB hb; clear hb hbox hg; have hnb8 := N41.out; have hnc8 := N14.out; have ⟨hcz9_0,hcz9_1,hfz9_0,hfz9_1⟩ := z2_ B4) | ((with_reducible refine gate_callee (f:=24) rfl ?_); refine gL_ (some 10) rfl rfl Tryz.func24 rfl #[.int .i64 t102] rfl ?_; (with_reducible refine (oculusref12_Num.calls t102 t105 t106 t107 _ A4.out).mono ?_); rintro e w10 ⟨rfl, hb⟩; refine ⟨_, rfl, ?_⟩; replace B1 := A_ (blk_below (g:=g1) (o := .cells #[.int .i64 0, .int .i64 0, .string (⟨#[]⟩ : ByteArray)] 26 (0, 0)) (by (iterate 2 refine pf_ ?_ N14.out); exact pkx B1) hb); replace B4 := A_ (blk_below (g:=g4) (o := .cells #[.int .i64 t102, .bool true] 71 (0, 0)) (by refine pp_ (cs := #[.int .i64 t102, .bool false]) 1 ?_ rfl; refine blk_put (cs := #[.int .i64 0, .bool false]) ?_ 0 _ rfl; exact pkx B4) hb); replace HB := A_ (below_step (by repeat (first | (with_reducible first | exact HB.out | apply below_alloc | apply pw_below_drewN | apply below_drew1 | refine below_set ?_ GE101.out | refine below_set ?_ GE104.out) | exact HB.out)) hb); have ⟨hcz11_0,hcz11_1,hcz11_2,hfz11_0,hfz11_1,hfz11_2⟩ := z3_ B1))
  refine bodyPost_ret (results_cell_row rfl _ _ g1 26 #[.int .i64 t105, .int .i64 t106, .string t107] (0, 0) _ rfl (by (iterate 3 apply pp_); exact pkx B1; all_goals rfl) Tryz.underlying26 rfl (by kernel_rfl)) rfl ?_
  exact fi_ bl_
 ·have HC12 := A_ H; clear H
  go_enter Tryz.func63, Tryz.ntmps63
  go_upto_region 4 with (first | ((with_reducible refine gd_ 2 ?_); refine be_ (N:=2) (cs := #[.int .i64 0, .int .i64 0, .string (⟨#[]⟩ : ByteArray)]) (t:=26) ?_; intro g1 hg w13 hbox hb; have B1 := A_ (hbox); have GW101 := hs_ HB hg; have GE101 := hs_ HB hg; replace HB := bs_ HB hb; clear hb hbox hg) | ((with_reducible refine gate_callee (f:=77) rfl ?_); refine gL_ (some 5) rfl rfl Tryz.func77 rfl #[.string a0] rfl ?_; (with_reducible refine (oculusref11_Read.calls k a0 t102 false _ A2.out).mono ?_); rintro e w14 ⟨rfl, hb⟩; refine ⟨_, rfl, ?_⟩; replace B1 := bb_ B1 hb; replace HB := bs_ HB hb; ) | ((with_reducible refine gd_ 3 ?_); refine be_ (N:=3) (cs := #[.int .i64 0, .bool false]) (t:=71) ?_; intro g4 hg w15 hbox hb; have B4 := A_ (hbox); have GW104 := hs_ HB hg; have GE104 := hs_ HB hg; have N14 := hl_ B1 hg; have N41 := hr_ B1 hg; replace B1 := bb_ B1 hb; replace HB := bs_ HB hb; clear hb hbox hg; have hnb16 := N41.out; have hnc16 := N14.out; have ⟨hcz17_0,hcz17_1,hfz17_0,hfz17_1⟩ := z2_ B4))
  (try simp only [q_])
  go_cut [16] (fun v16 wc => ∃ (kq : Nat) (x16_11 : Bool), v16 = .bool x16_11 ∧ Aside0 (oculusref17_read.j0 kq a0 x16_11 = some (r1, r2, r3)) ∧ Aside0 (kq ≤ k) ∧ Aside0 (wc.heap[g1]? = some (.cells #[.int .i64 0, .int .i64 0, .string (⟨#[]⟩ : ByteArray)] 26 (0, 0))) ∧ Aside0 (wc.heap[g4]? = some (.cells #[.int .i64 t102, .bool false] 71 (0, 0))) ∧ Aside0 (Below w.heap.size w wc))
  case first =>
   have H := HC12.out; clear HC12
   by_cases c18 : a0.toList = ([84, 82, 85, 69] : List UInt8)
   ·rw [if_pos c18] at H; have ⟨c18b0,c18b1⟩ := e1_ c18; clear c18; (first | rw [c18b0] | (simp only [i64_w, i32_w]; rw [c18b0]) | skip)
    have H' := A_ H
    clear H
    go_wp2
    go_meet
    case rel => exact ⟨_, (true), sq_, H', le_, ⟨by (iterate 2 refine pf_ ?_ N14.out); exact pkx B1⟩, ⟨by refine pp_ (cs := #[.int .i64 t102, .bool false]) 1 ?_ rfl; refine blk_put (cs := #[.int .i64 0, .bool false]) ?_ 0 _ rfl; exact pkx B4⟩, ⟨bl_⟩⟩
   ·rw [if_neg c18] at H; have ⟨c18b0,c18b1⟩ := e0_ c18; (first | rw [c18b0] | (simp only [i64_w, i32_w]; rw [c18b0]) | skip)
    have H' := A_ H
    clear H
    go_wp2
    go_meet
    case rel => exact ⟨_, ((a0.toList == ([70, 65, 76, 83, 69] : List UInt8))), sq_, H', le_, ⟨by (iterate 2 refine pf_ ?_ N14.out); exact pkx B1⟩, ⟨by refine pp_ (cs := #[.int .i64 t102, .bool false]) 1 ?_ rfl; refine blk_put (cs := #[.int .i64 0, .bool false]) ?_ 0 _ rfl; exact pkx B4⟩, ⟨bl_⟩⟩
  case rest =>
   clear HC12; (try clear c3); (try clear hcz17_0); (try clear hcz17_1); (try clear hfz17_0); (try clear hfz17_1); obtain ⟨kq, x16_11, rfl, HA, HJ11, B1, B4, HB⟩ := hcut
   cases kq with
   | zero => exact absurd HA.out (by simp [oculusref17_read.j0])
   | succ kj11 =>
    have H := HA.out; clear HA
    simp only [oculusref17_read.j0] at H
    replace H := ib_ H; rcases H with ⟨rfl,H⟩|⟨rfl,H⟩
    ·obtain ⟨⟨t108, t109, t110⟩, A20, H⟩ := bo_ H; dsimp only at H
     simp only [Option.some.injEq, Prod.mk.injEq] at H
     obtain ⟨rfl, rfl, rfl⟩ := H
     go_wp2_with (first | ((with_reducible refine gate_callee (f:=78) rfl ?_); refine gL_ (some 19) rfl rfl Tryz.func78 rfl #[.bool (a0.toList == ([84, 82, 85, 69] : List UInt8))] rfl ?_; (with_reducible refine (oculusref12_Bool.calls (a0.toList == ([84, 82, 85, 69] : List UInt8)) t108 t109 t110 _ A20.out).mono ?_); rintro e w21 ⟨rfl, hb⟩; refine ⟨_, rfl, ?_⟩; replace B1 := bb_ B1 hb; replace B4 := bb_ B4 hb; replace HB := bs_ HB hb; (try clear hb); have hnb22 := N14.out; have hnc22 := N41.out; have ⟨hcz23_0,hcz23_1,hcz23_2,hfz23_0,hfz23_1,hfz23_2⟩ := z3_ B1))
     refine bodyPost_ret (results_cell_row rfl _ _ g1 26 #[.int .i64 t108, .int .i64 t109, .string t110] (0, 0) _ rfl (by (iterate 3 apply pp_); exact pkx B1; all_goals rfl) Tryz.underlying26 rfl (by kernel_rfl)) rfl ?_
     exact fi_ bl_
    ·obtain ⟨⟨t111, t112, t113⟩, A24, H⟩ := bo_ H; dsimp only at H
     simp only [Option.some.injEq, Prod.mk.injEq] at H
     obtain ⟨rfl, rfl, rfl⟩ := H
     go_wp2_with (first | ((with_reducible refine gate_callee (f:=79) rfl ?_); refine gL_ (some 21) rfl rfl Tryz.func79 rfl #[.string a0] rfl ?_; (with_reducible refine (oculusref12_Str.calls a0 t111 t112 t113 _ A24.out).mono ?_); rintro e w25 ⟨rfl, hb⟩; refine ⟨_, rfl, ?_⟩; replace B1 := bb_ B1 hb; replace B4 := bb_ B4 hb; replace HB := bs_ HB hb; (try clear hb); have hnb26 := N14.out; have hnc26 := N41.out; have ⟨hcz27_0,hcz27_1,hcz27_2,hfz27_0,hfz27_1,hfz27_2⟩ := z3_ B1))
     refine bodyPost_ret (results_cell_row rfl _ _ g1 26 #[.int .i64 t111, .int .i64 t112, .string t113] (0, 0) _ rfl (by (iterate 3 apply pp_); exact pkx B1; all_goals rfl) Tryz.underlying26 rfl (by kernel_rfl)) rfl ?_
     exact fi_ bl_

end Go.Proofs.YtejkoenlfcghbaaGreat.X
