/- Contracts of the functions that the law LookAcross reaches, and what they answer (a session's own texts, joined; part 6). -/
import Derived.Test.YtejkoenlfcghbaaBLookAcross5
namespace Go.Proofs.Ytejkoenlfcghbaa.X
open Go.RowKit Go.Proofs.YtejkoenlfcghbaaW.PrintWords Go.Proofs.YtejkoenlfcghbaaW.PrintLast Go.Proofs.YtejkoenlfcghbaaW.PrintMore
attribute [local go_sem] max2_int min2_int max_two min_two max_three min_three max_four min_four
set_option linter.unusedVariables false
set_option linter.unusedSimpArgs false
attribute [local go_sem high] eqA26
def oculuslaw18_alive.j0 : Nat → Int → Bool → Int → Int → List (S26) → Option (Bool)
 | 0, _, _, _, _, _ => none
 | k + 1, x2, x3, x117000, x117001, x117002 => if x3 = true then (if x2 = 3 then ((value_Str.f (⟨#[98]⟩ : ByteArray)).bind fun bt122 => ((look_Down.f k bt122.1 bt122.2.1 bt122.2.2 x117000 x117001 x117002 2).bind fun bt125 => ((value_Num.f 25000).bind fun bt128 => (if (bt125.1 == bt128.1 && (bt125.2.1 == bt128.2.1 && (bt125.2.2.toList == bt128.2.2.toList))) = true then ((value_Num.f 10000).bind fun bt131 => ((look_Across.f k bt131.1 bt131.2.1 bt131.2.2 x117000 x117001 x117002 2).bind fun bt134 => ((value_Num.f 25000).bind fun bt137 => (if (bt134.1 == bt137.1 && (bt134.2.1 == bt137.2.1 && (bt134.2.2.toList == bt137.2.2.toList))) = true then ((value_Str.f (⟨#[62, 61, 49]⟩ : ByteArray)).bind fun bt140 => ((look_CountIf.f k x117000 x117001 x117002 bt140.1 bt140.2.1 bt140.2.2).bind fun bt143 => ((value_Num.f 20000).bind fun bt146 => (if (bt143.1 == bt146.1 && (bt143.2.1 == bt146.2.1 && (bt143.2.2.toList == bt146.2.2.toList))) = true then ((value_Str.f (⟨#[60, 50]⟩ : ByteArray)).bind fun bt149 => ((look_SumIf.f k x117000 x117001 x117002 bt149.1 bt149.2.1 bt149.2.2).bind fun bt152 => ((value_Num.f 10000).bind fun bt155 => (if (bt152.1 == bt155.1 && (bt152.2.1 == bt155.2.1 && (bt152.2.2.toList == bt155.2.2.toList))) = true then ((look_Products.f k x117000 x117001 x117002 x117000 x117001 x117002).bind fun bt158 => ((value_Num.f 72500).bind fun bt161 => (some (bt158.1 == bt161.1 && (bt158.2.1 == bt161.2.1 && (bt158.2.2.toList == bt161.2.2.toList)))))) else (none))))) else (none))))) else (none))))) else (none))))) else (none)) else (none)
def oculuslaw18_alive.f (k : Nat)  : Option (Bool) := (value_Str.f (⟨#[97]⟩ : ByteArray)).bind fun bt101 => ((value_Num.f 10000).bind fun bt104 => ((value_Str.f (⟨#[98]⟩ : ByteArray)).bind fun bt107 => ((value_Num.f 25000).bind fun bt110 => ((some (([(⟨bt101.1, bt101.2.1, bt101.2.2⟩ : S26), (⟨bt104.1, bt104.2.1, bt104.2.2⟩ : S26), (⟨bt107.1, bt107.2.1, bt107.2.2⟩ : S26), (⟨bt110.1, bt110.2.1, bt110.2.2⟩ : S26)] : List (S26)) : List (S26))).bind fun y113 => ((value_Str.f (⟨#[98]⟩ : ByteArray)).bind fun bt117 => ((look_Match.f k bt117.1 bt117.2.1 bt117.2.2 2 2 y113).bind fun bt120 => (oculuslaw18_alive.j0 k bt120.1 bt120.2 2 2 y113)))))))
theorem oculuslaw18_alive.mono_l : ∀ k, (∀ y0 y1 y2 y3 y4, LeO (oculuslaw18_alive.j0 k y0 y1 y2 y3 y4) (oculuslaw18_alive.j0 (k + 1) y0 y1 y2 y3 y4))
 | 0 => fun _ _ _ _ _ r h => by simp [oculuslaw18_alive.j0] at h
 | k + 1 => by
  have ih0 := oculuslaw18_alive.mono_l k
  ·intro y0 y1 y2 y3 y4
   unfold oculuslaw18_alive.j0
   repeat' first
   | (with_reducible exact ih0 _ _ _ _ _)
   | (with_reducible exact look_Across.mono _ _ _ _ _ _ _ _)
   | (with_reducible exact look_CountIf.mono _ _ _ _ _ _ _)
   | (with_reducible exact look_Down.mono _ _ _ _ _ _ _ _)
   | (with_reducible exact look_Match.mono _ _ _ _ _ _ _)
   | (with_reducible exact look_Products.mono _ _ _ _ _ _ _)
   | (with_reducible exact look_SumIf.mono _ _ _ _ _ _ _)
   | (with_reducible exact LeO.refl _)
   | (with_reducible exact LeO.none _)
   | (with_reducible refine LeO.ite ?_ ?_)
   | (with_reducible refine LeO.bind ?_ (fun _ => ?_))
theorem oculuslaw18_alive.mono : ∀ k, LeO (oculuslaw18_alive.f k ) (oculuslaw18_alive.f (k + 1) ) := by
 intro  k; have ih0 := oculuslaw18_alive.mono_l k
 unfold oculuslaw18_alive.f
 repeat' first
   | (with_reducible exact ih0 _ _ _ _ _)
   | (with_reducible exact look_Across.mono _ _ _ _ _ _ _ _)
   | (with_reducible exact look_CountIf.mono _ _ _ _ _ _ _)
   | (with_reducible exact look_Down.mono _ _ _ _ _ _ _ _)
   | (with_reducible exact look_Match.mono _ _ _ _ _ _ _)
   | (with_reducible exact look_Products.mono _ _ _ _ _ _ _)
   | (with_reducible exact look_SumIf.mono _ _ _ _ _ _ _)
   | (with_reducible exact LeO.refl _)
   | (with_reducible exact LeO.none _)
   | (with_reducible refine LeO.ite ?_ ?_)
   | (with_reducible refine LeO.bind ?_ (fun _ => ?_))
def oculuslaw18_alive.T2 : Bool × List (List Nat × List Nat) := (true, [([], []), ([], []), ([0, 1, 0], [0, 1]), ([2], [2]), ([3], [3]), ([3], [3]), ([4, 2, 0, 1, 2, 3, 4], [4]), ([5, 6, 0, 1, 2, 3, 4, 5, 6], [5])])
def oculuslaw18_alive.B2 : List Nat := [0, 0, 3, 7, 15, 15, 31, 127]
theorem oculuslaw18_alive.tab2 : rtab .any (opsOf Try.f7 2) = oculuslaw18_alive.T2 := by kernel_rfl
theorem oculuslaw18_alive.bits2 : waitsOk oculuslaw18_alive.T2.2 oculuslaw18_alive.B2 = true := by kernel_rfl
def oculuslaw18_alive.T3 : Bool × List (List Nat × List Nat) := (true, [([], []), ([0], [0]), ([1], [1]), ([2, 1], [1, 2]), ([1, 3], [1, 3]), ([4, 1], [4]), ([5, 5], [5]), ([5], [5]), ([6, 7, 6, 5], [5, 6, 7]), ([8, 5], [5]), ([8, 9, 5], [5, 8, 9]), ([5, 10], [5, 10]), ([11, 9], [11]), ([12, 12], [12]), ([12], [12]), ([13, 14, 13, 12], [12, 13, 14]), ([15, 12], [12]), ([15, 16, 12], [12, 15, 16]), ([12, 17], [12, 17]), ([18, 16], [18]), ([19], [19]), ([19, 19], [19]), ([20, 21, 21, 19], [19, 20, 21]), ([22, 19], [19]), ([22, 23, 19], [19, 22, 23]), ([19, 24], [19, 24]), ([25, 23], [25]), ([26], [26]), ([26, 26], [26]), ([27, 28, 28, 26], [26, 27, 28]), ([29, 26], [26]), ([29, 30, 26], [26, 29, 30]), ([26, 31], [26, 31]), ([32, 30], [32]), ([33], [33]), ([33], [33]), ([34, 35, 33, 33], [33, 34, 35]), ([36, 33], [33]), ([36, 37, 33], [33, 36, 37]), ([33, 38], [33, 38]), ([39, 37, 0, 1, 2, 3, 4, 5, 6, 7, 8, 9, 10, 11, 12, 13, 14, 15, 16, 17, 18, 19, 20, 21, 22, 23, 24, 25, 26, 27, 28, 29, 30, 31, 32, 33, 34, 35, 36, 37, 38, 39], [39])])
def oculuslaw18_alive.B3 : List Nat := [0, 1, 3, 7, 15, 31, 63, 63, 255, 511, 1023, 2047, 4095, 8191, 8191, 32767, 65535, 131071, 262143, 524287, 1048575, 1048575, 4194303, 8388607, 16777215, 33554431, 67108863, 134217727, 134217727, 536870911, 1073741823, 2147483647, 4294967295, 8589934591, 17179869183, 17179869183, 68719476735, 137438953471, 274877906943, 549755813887, 1099511627775]
theorem oculuslaw18_alive.tab3 : rtab .any (opsOf Try.f7 3) = oculuslaw18_alive.T3 := by kernel_rfl
theorem oculuslaw18_alive.bits3 : waitsOk oculuslaw18_alive.T3.2 oculuslaw18_alive.B3 = true := by kernel_rfl
set_option maxHeartbeats 8000000 in
set_option maxRecDepth 100000 in
theorem oculuslaw18_alive.calls (k : Nat)  (r : Bool) (w : World) (h : oculuslaw18_alive.f k  = some r) :
  Calls Try.prog 7 #[] w fun e w' => e = .returned (.bool r) ∧ Below w.heap.size w w' := by
 have hu24 := Try.underlying24; have HB := Aside0.mk (Below.refl w.heap.size w)
 have H : ((value_Str.f (⟨#[97]⟩ : ByteArray)).bind fun bt101 => ((value_Num.f 10000).bind fun bt104 => ((value_Str.f (⟨#[98]⟩ : ByteArray)).bind fun bt107 => ((value_Num.f 25000).bind fun bt110 => ((some (([(⟨bt101.1, bt101.2.1, bt101.2.2⟩ : S26), (⟨bt104.1, bt104.2.1, bt104.2.2⟩ : S26), (⟨bt107.1, bt107.2.1, bt107.2.2⟩ : S26), (⟨bt110.1, bt110.2.1, bt110.2.2⟩ : S26)] : List (S26)) : List (S26))).bind fun y113 => ((value_Str.f (⟨#[98]⟩ : ByteArray)).bind fun bt117 => ((look_Match.f k bt117.1 bt117.2.1 bt117.2.2 2 2 y113).bind fun bt120 => (oculuslaw18_alive.j0 k bt120.1 bt120.2 2 2 y113)))))))) = some r := h
 clear h; replace H := Option.bind_eq_some_iff.mp H; obtain ⟨⟨t101, t102, t103⟩, A10, H⟩ := H
 replace H : ((value_Num.f 10000).bind fun bt104 => ((value_Str.f (⟨#[98]⟩ : ByteArray)).bind fun bt107 => ((value_Num.f 25000).bind fun bt110 => ((some (([(⟨t101, t102, t103⟩ : S26), (⟨bt104.1, bt104.2.1, bt104.2.2⟩ : S26), (⟨bt107.1, bt107.2.1, bt107.2.2⟩ : S26), (⟨bt110.1, bt110.2.1, bt110.2.2⟩ : S26)] : List (S26)) : List (S26))).bind fun y113 => ((value_Str.f (⟨#[98]⟩ : ByteArray)).bind fun bt117 => ((look_Match.f k bt117.1 bt117.2.1 bt117.2.2 2 2 y113).bind fun bt120 => (oculuslaw18_alive.j0 k bt120.1 bt120.2 2 2 y113))))))) = some r := H
 have A1 := Aside0.mk A10; clear A10; replace H := Option.bind_eq_some_iff.mp H; obtain ⟨⟨t104, t105, t106⟩, A20, H⟩ := H
 replace H : ((value_Str.f (⟨#[98]⟩ : ByteArray)).bind fun bt107 => ((value_Num.f 25000).bind fun bt110 => ((some (([(⟨t101, t102, t103⟩ : S26), (⟨t104, t105, t106⟩ : S26), (⟨bt107.1, bt107.2.1, bt107.2.2⟩ : S26), (⟨bt110.1, bt110.2.1, bt110.2.2⟩ : S26)] : List (S26)) : List (S26))).bind fun y113 => ((value_Str.f (⟨#[98]⟩ : ByteArray)).bind fun bt117 => ((look_Match.f k bt117.1 bt117.2.1 bt117.2.2 2 2 y113).bind fun bt120 => (oculuslaw18_alive.j0 k bt120.1 bt120.2 2 2 y113)))))) = some r := H
 have A2 := Aside0.mk A20; clear A20; replace H := Option.bind_eq_some_iff.mp H; obtain ⟨⟨t107, t108, t109⟩, A30, H⟩ := H
 replace H : ((value_Num.f 25000).bind fun bt110 => ((some (([(⟨t101, t102, t103⟩ : S26), (⟨t104, t105, t106⟩ : S26), (⟨t107, t108, t109⟩ : S26), (⟨bt110.1, bt110.2.1, bt110.2.2⟩ : S26)] : List (S26)) : List (S26))).bind fun y113 => ((value_Str.f (⟨#[98]⟩ : ByteArray)).bind fun bt117 => ((look_Match.f k bt117.1 bt117.2.1 bt117.2.2 2 2 y113).bind fun bt120 => (oculuslaw18_alive.j0 k bt120.1 bt120.2 2 2 y113))))) = some r := H
 have A3 := Aside0.mk A30; clear A30; replace H := Option.bind_eq_some_iff.mp H; obtain ⟨⟨t110, t111, t112⟩, A40, H⟩ := H
 replace H : ((some (([(⟨t101, t102, t103⟩ : S26), (⟨t104, t105, t106⟩ : S26), (⟨t107, t108, t109⟩ : S26), (⟨t110, t111, t112⟩ : S26)] : List (S26)) : List (S26))).bind fun y113 => ((value_Str.f (⟨#[98]⟩ : ByteArray)).bind fun bt117 => ((look_Match.f k bt117.1 bt117.2.1 bt117.2.2 2 2 y113).bind fun bt120 => (oculuslaw18_alive.j0 k bt120.1 bt120.2 2 2 y113)))) = some r := H
 have A4 := Aside0.mk A40; clear A40; obtain ⟨y113, hy113⟩ : ∃ y_ : List (S26), y_ = (([(⟨t101, t102, t103⟩ : S26), (⟨t104, t105, t106⟩ : S26), (⟨t107, t108, t109⟩ : S26), (⟨t110, t111, t112⟩ : S26)] : List (S26))) := ⟨_, rfl⟩
 replace H : ((value_Str.f (⟨#[98]⟩ : ByteArray)).bind fun bt117 => ((look_Match.f k bt117.1 bt117.2.1 bt117.2.2 2 2 y113).bind fun bt120 => (oculuslaw18_alive.j0 k bt120.1 bt120.2 2 2 y113))) = some r := by first | (rw [hy113]; with_reducible exact H) | (have H2_ := (Option.bind_some _ _).symm.trans H; rw [hy113]; with_reducible exact H2_) | (have H2_ := (Option.bind_some _ _).symm.trans H; with_reducible exact H2_) | with_reducible exact H | (rw [hy113]; exact H) | exact H
 have Ny113 := Aside0.mk hy113; clear hy113; have HC5 := Aside0.mk H; clear H
 go_enter Try.func7, Try.ntmps7
 go_upto_region 2 with (first | ((with_reducible refine gate_callee (f:=20) rfl ?_); refine gL_ (some 4) rfl rfl Try.func20 rfl #[.string (⟨#[97]⟩ : ByteArray)] rfl ?_; (with_reducible refine (value_Str.calls (⟨#[97]⟩ : ByteArray) t101 t102 t103 _ A1.out).mono ?_); rintro e w6 ⟨rfl, hb⟩; refine ⟨_, rfl, ?_⟩; replace HB := bs_ HB hb; (try clear hb); (try clear hb2); (try clear hk); (try clear hi)) | ((with_reducible refine gate_callee (f:=21) rfl ?_); refine gL_ (some 5) rfl rfl Try.func21 rfl #[.int .i64 10000] rfl ?_; (with_reducible refine (value_Num.calls 10000 t104 t105 t106 _ A2.out).mono ?_); rintro e w7 ⟨rfl, hb⟩; refine ⟨_, rfl, ?_⟩; replace HB := bs_ HB hb; (try clear hb); (try clear hb2); (try clear hk); (try clear hi)) | ((with_reducible refine gate_callee (f:=20) rfl ?_); refine gL_ (some 6) rfl rfl Try.func20 rfl #[.string (⟨#[98]⟩ : ByteArray)] rfl ?_; (with_reducible refine (value_Str.calls (⟨#[98]⟩ : ByteArray) t107 t108 t109 _ A3.out).mono ?_); rintro e w8 ⟨rfl, hb⟩; refine ⟨_, rfl, ?_⟩; replace HB := bs_ HB hb; (try clear hb); (try clear hb2); (try clear hk); (try clear hi)) | ((with_reducible refine gate_callee (f:=21) rfl ?_); refine gL_ (some 7) rfl rfl Try.func21 rfl #[.int .i64 25000] rfl ?_; (with_reducible refine (value_Num.calls 25000 t110 t111 t112 _ A4.out).mono ?_); rintro e w9 ⟨rfl, hb⟩; refine ⟨_, rfl, ?_⟩; replace HB := bs_ HB hb; (try clear hb); (try clear hb2); (try clear hk); (try clear hi)) | ((with_reducible refine gate_dst (N:=8) rfl ?_); refine Kd.R_lit k26 _ 26 ?hg (N:=8) ?hd (xs := ([(⟨t101, t102, t103⟩ : S26), (⟨t104, t105, t106⟩ : S26), (⟨t107, t108, t109⟩ : S26), (⟨t110, t111, t112⟩ : S26)] : List (S26))) (inner := [.int .i64 t101, .int .i64 t102, .string t103, .int .i64 t104, .int .i64 t105, .string t106, .int .i64 t107, .int .i64 t108, .string t109, .int .i64 t110, .int .i64 t111, .string t112]) (ok := fun _ => True) (okp := fun _ => True) ?hr ?hp (fun _ hk => hk) trivial (Below.refl _ _) (Nat.le_refl _) (by simp) ?_; (case hd => rfl); (case hg => rfl); (case hr => first | (go_simp; done) | (go_simp; rfl)); (case hp => exact (Reps.c3 (show Kd.M k26 _ _ _ (⟨t101, t102, t103⟩ : S26) [.int .i64 t101, .int .i64 t102, .string t103] from (k26_mkM _ _ _ (⟨t101, t102, t103⟩ : S26) )) (Reps.c3 (show Kd.M k26 _ _ _ (⟨t104, t105, t106⟩ : S26) [.int .i64 t104, .int .i64 t105, .string t106] from (k26_mkM _ _ _ (⟨t104, t105, t106⟩ : S26) )) (Reps.c3 (show Kd.M k26 _ _ _ (⟨t107, t108, t109⟩ : S26) [.int .i64 t107, .int .i64 t108, .string t109] from (k26_mkM _ _ _ (⟨t107, t108, t109⟩ : S26) )) (Reps.c3 (show Kd.M k26 _ _ _ (⟨t110, t111, t112⟩ : S26) [.int .i64 t110, .int .i64 t111, .string t112] from (k26_mkM _ _ _ (⟨t110, t111, t112⟩ : S26) )) (Reps.none _ _)))))); intro v114 w10 ho11 hb hg_ hnew_; clear hg_ hnew_; (first | rw [← Ny113.out] at ho11 | (simp only [Int.reduceToNat] at ho11; rw [← Ny113.out] at ho11)); have HO115 := Aside0.mk (Kd.R_lower ho11 (below_size (pbx HB))); replace HB := bs_ HB hb; clear hb ho11; obtain ⟨Ao12, co12, eo12⟩ := Kd.R_slice HO115.out; subst eo12) | ((with_reducible refine gate_dst (N:=1) rfl ?_); refine be_ (N:=1) (cs := #[.int .i64 0, .int .i64 0, .slice none 0 0]) (t:=24) ?_; intro gb116 hg w13 hbox hb; have BK116 := Aside0.mk (hbox); have GW116 := hs_ HB hg; have GE116 := hs_ HB hg; replace HO115 := Aside0.mk (Kd.R_below (by (with_reducible repeat (first | apply Kd.R_alloc | apply Kd.R_drewN | apply Kd.R_drew)); exact HO115.out) hb); replace HB := bs_ HB hb; clear hb hbox hg; have hcz14_0 : w13.cell? ⟨gb116, 0, none⟩ = some (.int .i64 0) := bc_ BK116 0 rfl; have hcz14_1 : w13.cell? ⟨gb116, 1, none⟩ = some (.int .i64 0) := bc_ BK116 1 rfl; have hcz14_2 : w13.cell? ⟨gb116, 2, none⟩ = some (.slice none 0 0) := bc_ BK116 2 rfl; have hfz14_0 := blk_frozen BK116.out 0; have hfz14_1 := blk_frozen BK116.out 1; have hfz14_2 := blk_frozen BK116.out 2))
 (try simp only [q_])
 go_cut [2, 3] (fun v2 v3 wc => ∃ (kq : Nat) (x2_4 : Int) (x3_4 : Bool), v2 = .int .i64 x2_4 ∧ v3 = .bool x3_4 ∧ Aside0 (oculuslaw18_alive.j0 kq x2_4 x3_4 2 2 y113 = some r) ∧ Aside0 (kq ≤ k) ∧ Aside0 (Kd.R k26 26 wc w.heap.size (fun _ => True) (.slice Ao12 y113.length co12) y113) ∧ Aside0 (wc.heap[gb116]? = some (.cells #[.int .i64 2, .int .i64 2, (.slice Ao12 y113.length co12)] 24 (0, 0))) ∧ Aside0 (Below w.heap.size w wc))
 case first =>
  have H := HC5.out; clear HC5; replace H := Option.bind_eq_some_iff.mp H; obtain ⟨⟨t117, t118, t119⟩, A150, H⟩ := H
  replace H : ((look_Match.f k t117 t118 t119 2 2 y113).bind fun bt120 => (oculuslaw18_alive.j0 k bt120.1 bt120.2 2 2 y113)) = some r := H
  have A15 := Aside0.mk A150; clear A150; replace H := Option.bind_eq_some_iff.mp H; obtain ⟨⟨t120, t121⟩, A160, H⟩ := H
  replace H : (oculuslaw18_alive.j0 k t120 t121 2 2 y113) = some r := H
  have A16 := Aside0.mk A160; clear A160
  have H' := Aside0.mk H
  clear H
  try go_wp2
  have n0_ : Aside0 (Kd.R k26 26 (((w13.setCell ⟨gb116, 0, none⟩ (.int .i64 2)).setCell ⟨gb116, 1, none⟩ (.int .i64 2)).setCell ⟨gb116, 2, none⟩ (.slice Ao12 y113.length co12)) w.heap.size (fun _ => True) (.slice Ao12 y113.length co12) y113) := ⟨by (with_reducible repeat (first | apply Kd.R_alloc | apply Kd.R_drewN | apply Kd.R_drew)); exact Kd.R_mono (Kd.R_far (p := ⟨gb116, 2, none⟩) (Kd.R_far (p := ⟨gb116, 1, none⟩) (Kd.R_far (p := ⟨gb116, 0, none⟩) (Kd.R_types HO115.out BK116.out (by decide)) (fun _ hk => hk.2) (.int .i64 2)) (fun _ hk => hk.2) (.int .i64 2)) (fun _ hk => hk.2) (.slice Ao12 y113.length co12)) (fun _ hk => trivial)⟩; have n1_ : Aside0 ((((w13.setCell ⟨gb116, 0, none⟩ (.int .i64 2)).setCell ⟨gb116, 1, none⟩ (.int .i64 2)).setCell ⟨gb116, 2, none⟩ (.slice Ao12 y113.length co12)).heap[gb116]? = some (.cells #[.int .i64 2, .int .i64 2, .slice Ao12 y113.length co12] 24 (0, 0))) := ⟨by refine pp_ (cs := #[.int .i64 2, .int .i64 2, .slice none 0 0]) 2 ?_ rfl; refine blk_put (cs := #[.int .i64 2, .int .i64 0, .slice none 0 0]) ?_ 1 _ rfl; refine blk_put (cs := #[.int .i64 0, .int .i64 0, .slice none 0 0]) ?_ 0 _ rfl; exact pkx BK116⟩
  have n2_ : Aside0 (Below w.heap.size w (((w13.setCell ⟨gb116, 0, none⟩ (.int .i64 2)).setCell ⟨gb116, 1, none⟩ (.int .i64 2)).setCell ⟨gb116, 2, none⟩ (.slice Ao12 y113.length co12))) := ⟨by repeat (first | (with_reducible first | exact HB.out | apply below_alloc | apply pw_below_drewN | apply below_drew1 | refine below_set ?_ GE116.out) | exact HB.out)⟩; (try clear HO115); (try clear BK116); (try clear HB)
  generalize (((w13.setCell ⟨gb116, 0, none⟩ (.int .i64 2)).setCell ⟨gb116, 1, none⟩ (.int .i64 2)).setCell ⟨gb116, 2, none⟩ (.slice Ao12 y113.length co12)) = w17 at n0_ n1_ n2_ ⊢; have HO115 := n0_; have BK116 := n1_; have HB := n2_; clear n0_ n1_ n2_; (try (rw [drewN_self w17]; generalize hq_ : World.drewN w17 _ = w17; have n0_ : Aside0 (Kd.R k26 26 w17 w.heap.size (fun _ => True) (.slice Ao12 y113.length co12) y113) := ⟨by rw [← hq_]; exact (by (with_reducible repeat (first | apply Kd.R_alloc | apply Kd.R_drewN | apply Kd.R_drew)); exact HO115.out)⟩; have n1_ : Aside0 (w17.heap[gb116]? = some (.cells #[.int .i64 2, .int .i64 2, .slice Ao12 y113.length co12] 24 (0, 0))) := ⟨by rw [← hq_]; exact (pkx BK116)⟩; have n2_ : Aside0 (Below w.heap.size w w17) := ⟨by rw [← hq_]; exact (pbx HB)⟩; clear HO115 BK116 HB hq_; have HO115 := n0_; have BK116 := n1_; have HB := n2_; clear n0_ n1_ n2_))
  replace HO115 := Aside0.mk (Kd.R_drew HO115.out); replace BK116 := Aside0.mk (blk_drew BK116.out); replace HB := Aside0.mk (below_drew1 HB.out)
  refine start_ (n:=8) (S := fun w' => w'.cell? ⟨gb116, 0, none⟩ = some (.int .i64 2) ∧ w'.cell? ⟨gb116, 1, none⟩ = some (.int .i64 2) ∧ w'.cell? ⟨gb116, 2, none⟩ = some (.slice Ao12 y113.length co12)) (ds := []) #[F,F,F,F,F,F,F,F] (by kernel_rfl) rfl rfl ⟨bc_ BK116 0 rfl, bc_ BK116 1 rfl, bc_ BK116 2 rfl⟩ (fun hHeld => ?_); refine with_tabW oculuslaw18_alive.tab2 oculuslaw18_alive.bits2 (fun HT_ HW_ => ?_)
  generalize w17.drew = w18 at HO115 BK116 HB hHeld ⊢; refine take_ (i:=1) (N:=some 12) (v:=?_) (a':=?_) ⟨m_ 8 2⟩ rfl rfl (take_ofW HT_.out HW_.out (by kernel_rfl)) (fun _ _ _ h=>h) (Or.inl ⟨rfl, ?_⟩) hHeld ?_ ?_; rotate_left
  ·rintro w' ⟨s0, s1, s2⟩; go_simp; with_reducible rfl
  rotate_left
  ·simp only [q_, i64_w, i32_w]; rfl
  refine one_ (i:=0) (N:=some 11) ⟨m_ 8 3⟩ rfl rfl (one_of HT_.out (by kernel_rfl)) (by decide) (fun K hK => ?_); refine goes_ Try.func20 (by kernel_rfl) rfl #[.string (⟨#[98]⟩ : ByteArray)] (by rfl) rfl rfl (by (try simp only [List.map_toArray, List.map_cons, List.map_nil]); first | done | rfl | (simp only [List.length_drop, List.length_take]; rfl)) ?_; with_reducible refine (value_Str.calls (⟨#[98]⟩ : ByteArray) t117 t118 t119 _ A15.out).mono ?_; rintro e w19 ⟨rfl, hb⟩; refine ⟨_, rfl, ?_⟩
  replace HO115 := Aside0.mk (Kd.R_below (by (with_reducible repeat (first | apply Kd.R_alloc | apply Kd.R_drewN | apply Kd.R_drew)); exact HO115.out) hb); replace BK116 := bb_ BK116 hb; replace HB := bs_ HB hb
  (try clear hb); (try clear hb2); (try clear hk); (try clear hi); refine hK.out _ _ ⟨bc_ BK116 0 rfl, bc_ BK116 1 rfl, bc_ BK116 2 rfl⟩ (fun hHeld => ?_); clear hK K; refine norm_ (a':=?_) ?_ ?_; rotate_left
  ·show Act.put _ (some 11) _ = _; simp only [q_, i64_w, i32_w]; rfl
  refine one_ (i:=2) (N:=some 13) ⟨m_ 8 7⟩ rfl rfl (one_of HT_.out (by kernel_rfl)) (by decide) (fun K hK => ?_); refine goes_ Try.func17 (by kernel_rfl) rfl #[.agg #[.int .i64 t117, .int .i64 t118, .string t119], .agg #[.int .i64 2, .int .i64 2, .slice Ao12 y113.length co12]] (by rfl) rfl rfl (by (try simp only [List.map_toArray, List.map_cons, List.map_nil]); first | done | rfl | (simp only [List.length_drop, List.length_take]; rfl)) ?_; with_reducible refine (look_Match.calls k t117 t118 t119 2 2 _ _ y113 t120 t121 _ ?side1 ?side2 A16.out).mono ?_; (case side1 => repeat (first | exact (Kd.R_reads' HO115.out).2.2 | (with_reducible refine Kd.C_alloc ?_ _) | (with_reducible refine Kd.C_drewN ?_ _) | (with_reducible refine Kd.C_drew ?_))); (case side2 => exact (Kd.R_reads' HO115.out).2.1); rintro e w20 ⟨rfl, hb⟩; refine ⟨_, rfl, ?_⟩
  replace HO115 := Aside0.mk (Kd.R_below (by (with_reducible repeat (first | apply Kd.R_alloc | apply Kd.R_drewN | apply Kd.R_drew)); exact HO115.out) hb); replace BK116 := bb_ BK116 hb; replace HB := bs_ HB hb
  (try clear hb); (try clear hb2); (try clear hk); (try clear hi); refine hK.out _ _ ⟨bc_ BK116 0 rfl, bc_ BK116 1 rfl, bc_ BK116 2 rfl⟩ (fun hHeld => ?_); clear hK K; refine norm_ (a':=?_) ?_ ?_; rotate_left
  ·show Act.put _ (some 13) _ = _; simp only [q_, i64_w, i32_w]; rfl
  refine pure_ (i:=3) (N:=some 10) (v:=?_) (a':=?_) ⟨m_ 8 15⟩ rfl rfl (any_of HT_.out (by kernel_rfl)) (fun _ _ _ h=>h) (Or.inl ⟨rfl, ?_⟩) ?_ ?_; rotate_left
  ·intro w'; go_simp; with_reducible rfl
  rotate_left
  ·simp only [q_, i64_w, i32_w]; rfl
  refine pure_ (i:=4) (N:=some 14) (v:=?_) (a':=?_) ⟨m_ 8 31⟩ rfl rfl (any_of HT_.out (by kernel_rfl)) (fun _ _ _ h=>h) (Or.inl ⟨rfl, ?_⟩) ?_ ?_; rotate_left
  ·intro w'; go_simp; with_reducible rfl
  rotate_left
  ·simp only [q_, i64_w, i32_w]; rfl
  refine pure_ (i:=5) (N:=some 15) (v:=?_) (a':=?_) ⟨m_ 8 63⟩ rfl rfl (any_of HT_.out (by kernel_rfl)) (fun _ _ _ h=>h) (Or.inl ⟨rfl, ?_⟩) ?_ ?_; rotate_left
  ·intro w'; go_simp; with_reducible rfl
  rotate_left
  ·simp only [q_, i64_w, i32_w]; rfl
  refine pure_ (i:=6) (N:=some 2) (v:=?_) (a':=?_) ⟨m_ 8 127⟩ rfl rfl (any_of HT_.out (by kernel_rfl)) (fun _ _ _ h=>h) (Or.inl ⟨rfl, ?_⟩) ?_ ?_; rotate_left
  ·intro w'; go_simp; with_reducible rfl
  rotate_left
  ·simp only [q_, i64_w, i32_w]; rfl
  refine pure_ (i:=7) (N:=some 3) (v:=?_) (a':=?_) ⟨m_ 8 255⟩ rfl rfl (any_of HT_.out (by kernel_rfl)) (fun _ _ _ h=>h) (Or.inl ⟨rfl, ?_⟩) ?_ ?_; rotate_left
  ·intro w'; go_simp; with_reducible rfl
  rotate_left
  ·simp only [q_, i64_w, i32_w]; rfl
  refine done_ (done_of HT_.out (by kernel_rfl)) ?_
  try go_wp2
  go_meet
  case rel => exact ⟨_, (t120), (t121), (by first | rfl | (simp; done) | (simp [*]; done) | (cases t120 <;> simp; done)), (by first | rfl | (simp; done) | (simp [*]; done) | (cases t121 <;> simp; done)), H', ⟨by first | omega | exact Nat.le_refl _⟩, ⟨by (with_reducible repeat (first | apply Kd.R_alloc | apply Kd.R_drewN | apply Kd.R_drew)); exact HO115.out⟩, ⟨pkx BK116⟩, ⟨pbx HB⟩⟩
 case rest =>
  clear HC5; (try clear c1); (try clear c2); (try clear p2); (try clear c3); (try clear c7); (try clear c17); (try clear c20); (try clear hcz14_0); (try clear hcz14_1); (try clear hcz14_2); (try clear hfz14_0); (try clear hfz14_1); (try clear hfz14_2); obtain ⟨kq, x2_4, x3_4, rfl, rfl, HA, HJ4, HO_117002, BK116, HB⟩ := hcut
  cases kq with
  | zero => exact absurd HA.out (by simp [oculuslaw18_alive.j0])
  | succ kj4 =>
   have H := HA.out; clear HA
   simp only [oculuslaw18_alive.j0] at H
   by_cases c21 : x3_4 = true
   ·subst c21
    have H1 : (if x2_4 = 3 then ((value_Str.f (⟨#[98]⟩ : ByteArray)).bind fun bt122 => ((look_Down.f kj4 bt122.1 bt122.2.1 bt122.2.2 2 2 y113 2).bind fun bt125 => ((value_Num.f 25000).bind fun bt128 => (if (bt125.1 == bt128.1 && (bt125.2.1 == bt128.2.1 && (bt125.2.2.toList == bt128.2.2.toList))) = true then ((value_Num.f 10000).bind fun bt131 => ((look_Across.f kj4 bt131.1 bt131.2.1 bt131.2.2 2 2 y113 2).bind fun bt134 => ((value_Num.f 25000).bind fun bt137 => (if (bt134.1 == bt137.1 && (bt134.2.1 == bt137.2.1 && (bt134.2.2.toList == bt137.2.2.toList))) = true then ((value_Str.f (⟨#[62, 61, 49]⟩ : ByteArray)).bind fun bt140 => ((look_CountIf.f kj4 2 2 y113 bt140.1 bt140.2.1 bt140.2.2).bind fun bt143 => ((value_Num.f 20000).bind fun bt146 => (if (bt143.1 == bt146.1 && (bt143.2.1 == bt146.2.1 && (bt143.2.2.toList == bt146.2.2.toList))) = true then ((value_Str.f (⟨#[60, 50]⟩ : ByteArray)).bind fun bt149 => ((look_SumIf.f kj4 2 2 y113 bt149.1 bt149.2.1 bt149.2.2).bind fun bt152 => ((value_Num.f 10000).bind fun bt155 => (if (bt152.1 == bt155.1 && (bt152.2.1 == bt155.2.1 && (bt152.2.2.toList == bt155.2.2.toList))) = true then ((look_Products.f kj4 2 2 y113 2 2 y113).bind fun bt158 => ((value_Num.f 72500).bind fun bt161 => (some (bt158.1 == bt161.1 && (bt158.2.1 == bt161.2.1 && (bt158.2.2.toList == bt161.2.2.toList)))))) else (none))))) else (none))))) else (none))))) else (none))))) else (none)) = some r := by rw [if_pos rfl] at H; exact H
    clear H; have H := H1; clear H1
    by_cases c22 : x2_4 = 3
    ·rw [if_pos c22] at H; have c22b0 : (x2_4 == 3) = true := beq_iff_eq.mpr c22; have c22b1 : (x2_4 != 3) = false := bne_eq_false_iff_eq.mpr c22; clear c22; replace H := Option.bind_eq_some_iff.mp H; obtain ⟨⟨t122, t123, t124⟩, A230, H⟩ := H
     replace H : ((look_Down.f kj4 t122 t123 t124 2 2 y113 2).bind fun bt125 => ((value_Num.f 25000).bind fun bt128 => (if (bt125.1 == bt128.1 && (bt125.2.1 == bt128.2.1 && (bt125.2.2.toList == bt128.2.2.toList))) = true then ((value_Num.f 10000).bind fun bt131 => ((look_Across.f kj4 bt131.1 bt131.2.1 bt131.2.2 2 2 y113 2).bind fun bt134 => ((value_Num.f 25000).bind fun bt137 => (if (bt134.1 == bt137.1 && (bt134.2.1 == bt137.2.1 && (bt134.2.2.toList == bt137.2.2.toList))) = true then ((value_Str.f (⟨#[62, 61, 49]⟩ : ByteArray)).bind fun bt140 => ((look_CountIf.f kj4 2 2 y113 bt140.1 bt140.2.1 bt140.2.2).bind fun bt143 => ((value_Num.f 20000).bind fun bt146 => (if (bt143.1 == bt146.1 && (bt143.2.1 == bt146.2.1 && (bt143.2.2.toList == bt146.2.2.toList))) = true then ((value_Str.f (⟨#[60, 50]⟩ : ByteArray)).bind fun bt149 => ((look_SumIf.f kj4 2 2 y113 bt149.1 bt149.2.1 bt149.2.2).bind fun bt152 => ((value_Num.f 10000).bind fun bt155 => (if (bt152.1 == bt155.1 && (bt152.2.1 == bt155.2.1 && (bt152.2.2.toList == bt155.2.2.toList))) = true then ((look_Products.f kj4 2 2 y113 2 2 y113).bind fun bt158 => ((value_Num.f 72500).bind fun bt161 => (some (bt158.1 == bt161.1 && (bt158.2.1 == bt161.2.1 && (bt158.2.2.toList == bt161.2.2.toList)))))) else (none))))) else (none))))) else (none))))) else (none)))) = some r := H
     have A23 := Aside0.mk A230; clear A230; replace H := Option.bind_eq_some_iff.mp H; obtain ⟨⟨t125, t126, t127⟩, A240, H⟩ := H
     replace H : ((value_Num.f 25000).bind fun bt128 => (if (t125 == bt128.1 && (t126 == bt128.2.1 && (t127.toList == bt128.2.2.toList))) = true then ((value_Num.f 10000).bind fun bt131 => ((look_Across.f kj4 bt131.1 bt131.2.1 bt131.2.2 2 2 y113 2).bind fun bt134 => ((value_Num.f 25000).bind fun bt137 => (if (bt134.1 == bt137.1 && (bt134.2.1 == bt137.2.1 && (bt134.2.2.toList == bt137.2.2.toList))) = true then ((value_Str.f (⟨#[62, 61, 49]⟩ : ByteArray)).bind fun bt140 => ((look_CountIf.f kj4 2 2 y113 bt140.1 bt140.2.1 bt140.2.2).bind fun bt143 => ((value_Num.f 20000).bind fun bt146 => (if (bt143.1 == bt146.1 && (bt143.2.1 == bt146.2.1 && (bt143.2.2.toList == bt146.2.2.toList))) = true then ((value_Str.f (⟨#[60, 50]⟩ : ByteArray)).bind fun bt149 => ((look_SumIf.f kj4 2 2 y113 bt149.1 bt149.2.1 bt149.2.2).bind fun bt152 => ((value_Num.f 10000).bind fun bt155 => (if (bt152.1 == bt155.1 && (bt152.2.1 == bt155.2.1 && (bt152.2.2.toList == bt155.2.2.toList))) = true then ((look_Products.f kj4 2 2 y113 2 2 y113).bind fun bt158 => ((value_Num.f 72500).bind fun bt161 => (some (bt158.1 == bt161.1 && (bt158.2.1 == bt161.2.1 && (bt158.2.2.toList == bt161.2.2.toList)))))) else (none))))) else (none))))) else (none))))) else (none))) = some r := H
     have A24 := Aside0.mk A240; clear A240; replace H := Option.bind_eq_some_iff.mp H; obtain ⟨⟨t128, t129, t130⟩, A250, H⟩ := H
     replace H : (if (t125 == t128 && (t126 == t129 && (t127.toList == t130.toList))) = true then ((value_Num.f 10000).bind fun bt131 => ((look_Across.f kj4 bt131.1 bt131.2.1 bt131.2.2 2 2 y113 2).bind fun bt134 => ((value_Num.f 25000).bind fun bt137 => (if (bt134.1 == bt137.1 && (bt134.2.1 == bt137.2.1 && (bt134.2.2.toList == bt137.2.2.toList))) = true then ((value_Str.f (⟨#[62, 61, 49]⟩ : ByteArray)).bind fun bt140 => ((look_CountIf.f kj4 2 2 y113 bt140.1 bt140.2.1 bt140.2.2).bind fun bt143 => ((value_Num.f 20000).bind fun bt146 => (if (bt143.1 == bt146.1 && (bt143.2.1 == bt146.2.1 && (bt143.2.2.toList == bt146.2.2.toList))) = true then ((value_Str.f (⟨#[60, 50]⟩ : ByteArray)).bind fun bt149 => ((look_SumIf.f kj4 2 2 y113 bt149.1 bt149.2.1 bt149.2.2).bind fun bt152 => ((value_Num.f 10000).bind fun bt155 => (if (bt152.1 == bt155.1 && (bt152.2.1 == bt155.2.1 && (bt152.2.2.toList == bt155.2.2.toList))) = true then ((look_Products.f kj4 2 2 y113 2 2 y113).bind fun bt158 => ((value_Num.f 72500).bind fun bt161 => (some (bt158.1 == bt161.1 && (bt158.2.1 == bt161.2.1 && (bt158.2.2.toList == bt161.2.2.toList)))))) else (none))))) else (none))))) else (none))))) else (none)) = some r := H
     have A25 := Aside0.mk A250; clear A250
     by_cases c26 : (t125 == t128 && (t126 == t129 && (t127.toList == t130.toList))) = true
     ·rw [if_pos c26] at H
      have c26b0 : (t125 == t128 && (t126 == t129 && (t127.toList == t130.toList))) = true := c26
      (try (have c26b1 : decide (t125 = t128 && (t126 == t129 && (t127.toList == t130.toList))) = true := by simpa using c26)); (try (have c26b2 : (t125 == t128 && (t126 == t129 && (t127.toList == t130.toList))) = true := by simpa using c26))
      clear c26; replace H := Option.bind_eq_some_iff.mp H; obtain ⟨⟨t131, t132, t133⟩, A270, H⟩ := H
      replace H : ((look_Across.f kj4 t131 t132 t133 2 2 y113 2).bind fun bt134 => ((value_Num.f 25000).bind fun bt137 => (if (bt134.1 == bt137.1 && (bt134.2.1 == bt137.2.1 && (bt134.2.2.toList == bt137.2.2.toList))) = true then ((value_Str.f (⟨#[62, 61, 49]⟩ : ByteArray)).bind fun bt140 => ((look_CountIf.f kj4 2 2 y113 bt140.1 bt140.2.1 bt140.2.2).bind fun bt143 => ((value_Num.f 20000).bind fun bt146 => (if (bt143.1 == bt146.1 && (bt143.2.1 == bt146.2.1 && (bt143.2.2.toList == bt146.2.2.toList))) = true then ((value_Str.f (⟨#[60, 50]⟩ : ByteArray)).bind fun bt149 => ((look_SumIf.f kj4 2 2 y113 bt149.1 bt149.2.1 bt149.2.2).bind fun bt152 => ((value_Num.f 10000).bind fun bt155 => (if (bt152.1 == bt155.1 && (bt152.2.1 == bt155.2.1 && (bt152.2.2.toList == bt155.2.2.toList))) = true then ((look_Products.f kj4 2 2 y113 2 2 y113).bind fun bt158 => ((value_Num.f 72500).bind fun bt161 => (some (bt158.1 == bt161.1 && (bt158.2.1 == bt161.2.1 && (bt158.2.2.toList == bt161.2.2.toList)))))) else (none))))) else (none))))) else (none)))) = some r := H
      have A27 := Aside0.mk A270; clear A270; replace H := Option.bind_eq_some_iff.mp H; obtain ⟨⟨t134, t135, t136⟩, A280, H⟩ := H
      replace H : ((value_Num.f 25000).bind fun bt137 => (if (t134 == bt137.1 && (t135 == bt137.2.1 && (t136.toList == bt137.2.2.toList))) = true then ((value_Str.f (⟨#[62, 61, 49]⟩ : ByteArray)).bind fun bt140 => ((look_CountIf.f kj4 2 2 y113 bt140.1 bt140.2.1 bt140.2.2).bind fun bt143 => ((value_Num.f 20000).bind fun bt146 => (if (bt143.1 == bt146.1 && (bt143.2.1 == bt146.2.1 && (bt143.2.2.toList == bt146.2.2.toList))) = true then ((value_Str.f (⟨#[60, 50]⟩ : ByteArray)).bind fun bt149 => ((look_SumIf.f kj4 2 2 y113 bt149.1 bt149.2.1 bt149.2.2).bind fun bt152 => ((value_Num.f 10000).bind fun bt155 => (if (bt152.1 == bt155.1 && (bt152.2.1 == bt155.2.1 && (bt152.2.2.toList == bt155.2.2.toList))) = true then ((look_Products.f kj4 2 2 y113 2 2 y113).bind fun bt158 => ((value_Num.f 72500).bind fun bt161 => (some (bt158.1 == bt161.1 && (bt158.2.1 == bt161.2.1 && (bt158.2.2.toList == bt161.2.2.toList)))))) else (none))))) else (none))))) else (none))) = some r := H
      have A28 := Aside0.mk A280; clear A280; replace H := Option.bind_eq_some_iff.mp H; obtain ⟨⟨t137, t138, t139⟩, A290, H⟩ := H
      replace H : (if (t134 == t137 && (t135 == t138 && (t136.toList == t139.toList))) = true then ((value_Str.f (⟨#[62, 61, 49]⟩ : ByteArray)).bind fun bt140 => ((look_CountIf.f kj4 2 2 y113 bt140.1 bt140.2.1 bt140.2.2).bind fun bt143 => ((value_Num.f 20000).bind fun bt146 => (if (bt143.1 == bt146.1 && (bt143.2.1 == bt146.2.1 && (bt143.2.2.toList == bt146.2.2.toList))) = true then ((value_Str.f (⟨#[60, 50]⟩ : ByteArray)).bind fun bt149 => ((look_SumIf.f kj4 2 2 y113 bt149.1 bt149.2.1 bt149.2.2).bind fun bt152 => ((value_Num.f 10000).bind fun bt155 => (if (bt152.1 == bt155.1 && (bt152.2.1 == bt155.2.1 && (bt152.2.2.toList == bt155.2.2.toList))) = true then ((look_Products.f kj4 2 2 y113 2 2 y113).bind fun bt158 => ((value_Num.f 72500).bind fun bt161 => (some (bt158.1 == bt161.1 && (bt158.2.1 == bt161.2.1 && (bt158.2.2.toList == bt161.2.2.toList)))))) else (none))))) else (none))))) else (none)) = some r := H
      have A29 := Aside0.mk A290; clear A290
      by_cases c30 : (t134 == t137 && (t135 == t138 && (t136.toList == t139.toList))) = true
      ·rw [if_pos c30] at H
       have c30b0 : (t134 == t137 && (t135 == t138 && (t136.toList == t139.toList))) = true := c30
       (try (have c30b1 : decide (t134 = t137 && (t135 == t138 && (t136.toList == t139.toList))) = true := by simpa using c30)); (try (have c30b2 : (t134 == t137 && (t135 == t138 && (t136.toList == t139.toList))) = true := by simpa using c30))
       clear c30; replace H := Option.bind_eq_some_iff.mp H; obtain ⟨⟨t140, t141, t142⟩, A310, H⟩ := H
       replace H : ((look_CountIf.f kj4 2 2 y113 t140 t141 t142).bind fun bt143 => ((value_Num.f 20000).bind fun bt146 => (if (bt143.1 == bt146.1 && (bt143.2.1 == bt146.2.1 && (bt143.2.2.toList == bt146.2.2.toList))) = true then ((value_Str.f (⟨#[60, 50]⟩ : ByteArray)).bind fun bt149 => ((look_SumIf.f kj4 2 2 y113 bt149.1 bt149.2.1 bt149.2.2).bind fun bt152 => ((value_Num.f 10000).bind fun bt155 => (if (bt152.1 == bt155.1 && (bt152.2.1 == bt155.2.1 && (bt152.2.2.toList == bt155.2.2.toList))) = true then ((look_Products.f kj4 2 2 y113 2 2 y113).bind fun bt158 => ((value_Num.f 72500).bind fun bt161 => (some (bt158.1 == bt161.1 && (bt158.2.1 == bt161.2.1 && (bt158.2.2.toList == bt161.2.2.toList)))))) else (none))))) else (none)))) = some r := H
       have A31 := Aside0.mk A310; clear A310; replace H := Option.bind_eq_some_iff.mp H; obtain ⟨⟨t143, t144, t145⟩, A320, H⟩ := H
       replace H : ((value_Num.f 20000).bind fun bt146 => (if (t143 == bt146.1 && (t144 == bt146.2.1 && (t145.toList == bt146.2.2.toList))) = true then ((value_Str.f (⟨#[60, 50]⟩ : ByteArray)).bind fun bt149 => ((look_SumIf.f kj4 2 2 y113 bt149.1 bt149.2.1 bt149.2.2).bind fun bt152 => ((value_Num.f 10000).bind fun bt155 => (if (bt152.1 == bt155.1 && (bt152.2.1 == bt155.2.1 && (bt152.2.2.toList == bt155.2.2.toList))) = true then ((look_Products.f kj4 2 2 y113 2 2 y113).bind fun bt158 => ((value_Num.f 72500).bind fun bt161 => (some (bt158.1 == bt161.1 && (bt158.2.1 == bt161.2.1 && (bt158.2.2.toList == bt161.2.2.toList)))))) else (none))))) else (none))) = some r := H
       have A32 := Aside0.mk A320; clear A320; replace H := Option.bind_eq_some_iff.mp H; obtain ⟨⟨t146, t147, t148⟩, A330, H⟩ := H
       replace H : (if (t143 == t146 && (t144 == t147 && (t145.toList == t148.toList))) = true then ((value_Str.f (⟨#[60, 50]⟩ : ByteArray)).bind fun bt149 => ((look_SumIf.f kj4 2 2 y113 bt149.1 bt149.2.1 bt149.2.2).bind fun bt152 => ((value_Num.f 10000).bind fun bt155 => (if (bt152.1 == bt155.1 && (bt152.2.1 == bt155.2.1 && (bt152.2.2.toList == bt155.2.2.toList))) = true then ((look_Products.f kj4 2 2 y113 2 2 y113).bind fun bt158 => ((value_Num.f 72500).bind fun bt161 => (some (bt158.1 == bt161.1 && (bt158.2.1 == bt161.2.1 && (bt158.2.2.toList == bt161.2.2.toList)))))) else (none))))) else (none)) = some r := H
       have A33 := Aside0.mk A330; clear A330
       by_cases c34 : (t143 == t146 && (t144 == t147 && (t145.toList == t148.toList))) = true
       ·rw [if_pos c34] at H
        have c34b0 : (t143 == t146 && (t144 == t147 && (t145.toList == t148.toList))) = true := c34
        (try (have c34b1 : decide (t143 = t146 && (t144 == t147 && (t145.toList == t148.toList))) = true := by simpa using c34)); (try (have c34b2 : (t143 == t146 && (t144 == t147 && (t145.toList == t148.toList))) = true := by simpa using c34))
        clear c34; replace H := Option.bind_eq_some_iff.mp H; obtain ⟨⟨t149, t150, t151⟩, A350, H⟩ := H
        replace H : ((look_SumIf.f kj4 2 2 y113 t149 t150 t151).bind fun bt152 => ((value_Num.f 10000).bind fun bt155 => (if (bt152.1 == bt155.1 && (bt152.2.1 == bt155.2.1 && (bt152.2.2.toList == bt155.2.2.toList))) = true then ((look_Products.f kj4 2 2 y113 2 2 y113).bind fun bt158 => ((value_Num.f 72500).bind fun bt161 => (some (bt158.1 == bt161.1 && (bt158.2.1 == bt161.2.1 && (bt158.2.2.toList == bt161.2.2.toList)))))) else (none)))) = some r := H
        have A35 := Aside0.mk A350; clear A350; replace H := Option.bind_eq_some_iff.mp H; obtain ⟨⟨t152, t153, t154⟩, A360, H⟩ := H
        replace H : ((value_Num.f 10000).bind fun bt155 => (if (t152 == bt155.1 && (t153 == bt155.2.1 && (t154.toList == bt155.2.2.toList))) = true then ((look_Products.f kj4 2 2 y113 2 2 y113).bind fun bt158 => ((value_Num.f 72500).bind fun bt161 => (some (bt158.1 == bt161.1 && (bt158.2.1 == bt161.2.1 && (bt158.2.2.toList == bt161.2.2.toList)))))) else (none))) = some r := H
        have A36 := Aside0.mk A360; clear A360; replace H := Option.bind_eq_some_iff.mp H; obtain ⟨⟨t155, t156, t157⟩, A370, H⟩ := H
        replace H : (if (t152 == t155 && (t153 == t156 && (t154.toList == t157.toList))) = true then ((look_Products.f kj4 2 2 y113 2 2 y113).bind fun bt158 => ((value_Num.f 72500).bind fun bt161 => (some (bt158.1 == bt161.1 && (bt158.2.1 == bt161.2.1 && (bt158.2.2.toList == bt161.2.2.toList)))))) else (none)) = some r := H
        have A37 := Aside0.mk A370; clear A370
        by_cases c38 : (t152 == t155 && (t153 == t156 && (t154.toList == t157.toList))) = true
        ·rw [if_pos c38] at H
         have c38b0 : (t152 == t155 && (t153 == t156 && (t154.toList == t157.toList))) = true := c38
         (try (have c38b1 : decide (t152 = t155 && (t153 == t156 && (t154.toList == t157.toList))) = true := by simpa using c38)); (try (have c38b2 : (t152 == t155 && (t153 == t156 && (t154.toList == t157.toList))) = true := by simpa using c38))
         clear c38; replace H := Option.bind_eq_some_iff.mp H; obtain ⟨⟨t158, t159, t160⟩, A390, H⟩ := H
         replace H : ((value_Num.f 72500).bind fun bt161 => (some (t158 == bt161.1 && (t159 == bt161.2.1 && (t160.toList == bt161.2.2.toList))))) = some r := H
         have A39 := Aside0.mk A390; clear A390; replace H := Option.bind_eq_some_iff.mp H; obtain ⟨⟨t161, t162, t163⟩, A400, H⟩ := H
         replace H : (some (t158 == t161 && (t159 == t162 && (t160.toList == t163.toList)))) = some r := H
         have A40 := Aside0.mk A400; clear A400; obtain rfl := Option.some.inj H
         try go_wp2
         (try (rw [drewN_self wc]; generalize hq_ : World.drewN wc _ = wc; have n0_ : Aside0 (Kd.R k26 26 wc w.heap.size (fun _ => True) (.slice Ao12 y113.length co12) y113) := ⟨by rw [← hq_]; exact (by (with_reducible repeat (first | apply Kd.R_alloc | apply Kd.R_drewN | apply Kd.R_drew)); exact HO_117002.out)⟩; have n1_ : Aside0 (wc.heap[gb116]? = some (.cells #[.int .i64 2, .int .i64 2, .slice Ao12 y113.length co12] 24 (0, 0))) := ⟨by rw [← hq_]; exact (pkx BK116)⟩; have n2_ : Aside0 (Below w.heap.size w wc) := ⟨by rw [← hq_]; exact (pbx HB)⟩; clear HO_117002 BK116 HB hq_; have HO_117002 := n0_; have BK116 := n1_; have HB := n2_; clear n0_ n1_ n2_))
         replace HO_117002 := Aside0.mk (Kd.R_drew HO_117002.out); replace BK116 := Aside0.mk (blk_drew BK116.out); replace HB := Aside0.mk (below_drew1 HB.out)
         refine start_ (n:=41) (S := fun w' => w'.cell? ⟨gb116, 0, none⟩ = some (.int .i64 2) ∧ w'.cell? ⟨gb116, 1, none⟩ = some (.int .i64 2) ∧ w'.cell? ⟨gb116, 2, none⟩ = some (.slice Ao12 y113.length co12)) (ds := []) #[F,F,F,F,F,F,F,F,F,F,F,F,F,F,F,F,F,F,F,F,F,F,F,F,F,F,F,F,F,F,F,F,F,F,F,F,F,F,F,F,F] (by kernel_rfl) rfl rfl ⟨bc_ BK116 0 rfl, bc_ BK116 1 rfl, bc_ BK116 2 rfl⟩ (fun hHeld => ?_); refine with_tabW oculuslaw18_alive.tab3 oculuslaw18_alive.bits3 (fun HT_ HW_ => ?_)
         generalize wc.drew = w41 at HO_117002 BK116 HB hHeld ⊢; refine pure_ (i:=0) (N:=some 16) (v:=?_) (a':=?_) ⟨m_ 41 1⟩ rfl rfl (any_of HT_.out (by kernel_rfl)) (fun _ _ _ h=>h) (Or.inl ⟨rfl, ?_⟩) ?_ ?_; rotate_left
         ·intro w'; go_simp; with_reducible rfl
         rotate_left
         ·simp only [q_, i64_w, i32_w]; rfl
         refine pure_ (i:=1) (N:=some 17) (v:=?_) (a':=?_) ⟨m_ 41 3⟩ rfl rfl (any_of HT_.out (by kernel_rfl)) (fun _ _ _ h=>h) (Or.inl ⟨rfl, ?_⟩) ?_ ?_; rotate_left
         ·intro w'; go_simp; with_reducible rfl
         rotate_left
         ·simp only [q_, i64_w, i32_w]; rfl
         refine pure_ (i:=2) (N:=some 18) (v:=?_) (a':=?_) ⟨m_ 41 7⟩ rfl rfl (any_of HT_.out (by kernel_rfl)) (fun _ _ _ h=>h) (Or.inl ⟨rfl, ?_⟩) ?_ ?_; rotate_left
         ·intro w'; go_simp; with_reducible rfl
         rotate_left
         ·simp only [q_, i64_w, i32_w]; rfl
         refine pure_ (i:=3) (N:=some 19) (v:=?_) (a':=?_) ⟨m_ 41 15⟩ rfl rfl (any_of HT_.out (by kernel_rfl)) (fun _ _ _ h=>h) (Or.inl ⟨rfl, ?_⟩) ?_ ?_; rotate_left
         ·intro w'; go_simp; with_reducible rfl
         rotate_left
         ·simp only [q_, i64_w, i32_w]; rfl
         refine pure_ (i:=4) (N:=some 20) (v:=?_) (a':=?_) ⟨m_ 41 31⟩ rfl rfl (any_of HT_.out (by kernel_rfl)) (fun _ _ _ h=>h) (Or.inl ⟨rfl, ?_⟩) ?_ ?_; rotate_left
         ·intro w'; go_simp; with_reducible rfl
         rotate_left
         ·simp only [q_, i64_w, i32_w]; rfl
         refine pure_ (i:=5) (N:=some 21) (v:=?_) (a':=?_) ⟨m_ 41 63⟩ rfl rfl (any_of HT_.out (by kernel_rfl)) (fun _ _ _ h=>h) (Or.inl ⟨rfl, ?_⟩) ?_ ?_; rotate_left
         ·intro w'; go_simp; with_reducible rfl
         rotate_left
         ·simp only [q_, i64_w, i32_w]; rfl
         refine take_ (i:=7) (N:=some 23) (v:=?_) (a':=?_) ⟨m_ 41 191⟩ rfl rfl (take_ofW HT_.out HW_.out (by kernel_rfl)) (fun _ _ _ h=>h) (Or.inl ⟨rfl, ?_⟩) hHeld ?_ ?_; rotate_left
         ·rintro w' ⟨s0, s1, s2⟩; go_simp; with_reducible rfl
         rotate_left
         ·simp only [q_, i64_w, i32_w]; rfl
         refine one_ (i:=6) (N:=some 22) ⟨m_ 41 255⟩ rfl rfl (one_of HT_.out (by kernel_rfl)) (by decide) (fun K hK => ?_); refine goes_ Try.func20 (by kernel_rfl) rfl #[.string (⟨#[98]⟩ : ByteArray)] (by rfl) rfl rfl (by (try simp only [List.map_toArray, List.map_cons, List.map_nil]); first | done | rfl | (simp only [List.length_drop, List.length_take]; rfl)) ?_; with_reducible refine (value_Str.calls (⟨#[98]⟩ : ByteArray) t122 t123 t124 _ A23.out).mono ?_; rintro e w42 ⟨rfl, hb⟩; refine ⟨_, rfl, ?_⟩
         replace HO_117002 := Aside0.mk (Kd.R_below (by (with_reducible repeat (first | apply Kd.R_alloc | apply Kd.R_drewN | apply Kd.R_drew)); exact HO_117002.out) hb); replace BK116 := bb_ BK116 hb; replace HB := bs_ HB hb
         (try clear hb); (try clear hb2); (try clear hk); (try clear hi); refine hK.out _ _ ⟨bc_ BK116 0 rfl, bc_ BK116 1 rfl, bc_ BK116 2 rfl⟩ (fun hHeld => ?_); clear hK K; refine norm_ (a':=?_) ?_ ?_; rotate_left
         ·show Act.put _ (some 22) _ = _; simp only [q_, i64_w, i32_w]; rfl
         refine one_ (i:=8) (N:=some 24) ⟨m_ 41 511⟩ rfl rfl (one_of HT_.out (by kernel_rfl)) (by decide) (fun K hK => ?_); refine goes_ Try.func9 (by kernel_rfl) rfl #[.agg #[.int .i64 t122, .int .i64 t123, .string t124], .agg #[.int .i64 2, .int .i64 2, .slice Ao12 y113.length co12], .int .i64 2] (by rfl) rfl rfl (by (try simp only [List.map_toArray, List.map_cons, List.map_nil]); first | done | rfl | (simp only [List.length_drop, List.length_take]; rfl)) ?_; with_reducible refine (look_Down.calls kj4 t122 t123 t124 2 2 _ _ y113 2 t125 t126 t127 _ ?side1 ?side2 A24.out).mono ?_; (case side1 => repeat (first | exact (Kd.R_reads' HO_117002.out).2.2 | (with_reducible refine Kd.C_alloc ?_ _) | (with_reducible refine Kd.C_drewN ?_ _) | (with_reducible refine Kd.C_drew ?_))); (case side2 => exact (Kd.R_reads' HO_117002.out).2.1); rintro e w43 ⟨rfl, hb⟩; refine ⟨_, rfl, ?_⟩
         replace HO_117002 := Aside0.mk (Kd.R_below (by (with_reducible repeat (first | apply Kd.R_alloc | apply Kd.R_drewN | apply Kd.R_drew)); exact HO_117002.out) hb); replace BK116 := bb_ BK116 hb; replace HB := bs_ HB hb
         (try clear hb); (try clear hb2); (try clear hk); (try clear hi); refine hK.out _ _ ⟨bc_ BK116 0 rfl, bc_ BK116 1 rfl, bc_ BK116 2 rfl⟩ (fun hHeld => ?_); clear hK K; refine norm_ (a':=?_) ?_ ?_; rotate_left
         ·show Act.put _ (some 24) _ = _; simp only [q_, i64_w, i32_w]; rfl
         refine one_ (i:=9) (N:=some 25) ⟨m_ 41 1023⟩ rfl rfl (one_of HT_.out (by kernel_rfl)) (by decide) (fun K hK => ?_); refine goes_ Try.func21 (by kernel_rfl) rfl #[.int .i64 25000] (by rfl) rfl rfl (by (try simp only [List.map_toArray, List.map_cons, List.map_nil]); first | done | rfl | (simp only [List.length_drop, List.length_take]; rfl)) ?_; with_reducible refine (value_Num.calls 25000 t128 t129 t130 _ A25.out).mono ?_; rintro e w44 ⟨rfl, hb⟩; refine ⟨_, rfl, ?_⟩
         replace HO_117002 := Aside0.mk (Kd.R_below (by (with_reducible repeat (first | apply Kd.R_alloc | apply Kd.R_drewN | apply Kd.R_drew)); exact HO_117002.out) hb); replace BK116 := bb_ BK116 hb; replace HB := bs_ HB hb
         (try clear hb); (try clear hb2); (try clear hk); (try clear hi); refine hK.out _ _ ⟨bc_ BK116 0 rfl, bc_ BK116 1 rfl, bc_ BK116 2 rfl⟩ (fun hHeld => ?_); clear hK K; refine norm_ (a':=?_) ?_ ?_; rotate_left
         ·show Act.put _ (some 25) _ = _; simp only [q_, i64_w, i32_w]; rfl
         refine pure_ (i:=10) (N:=some 26) (v:=?_) (a':=?_) ⟨m_ 41 2047⟩ rfl rfl (any_of HT_.out (by kernel_rfl)) (fun _ _ _ h=>h) (Or.inl ⟨rfl, ?_⟩) ?_ ?_; rotate_left
         ·intro w'; go_simp; with_reducible rfl
         rotate_left
         ·simp only [q_, i64_w, i32_w]; rfl
         refine pure_ (i:=11) (N:=some 27) (v:=?_) (a':=?_) ⟨m_ 41 4095⟩ rfl rfl (any_of HT_.out (by kernel_rfl)) (fun _ _ _ h=>h) (Or.inl ⟨rfl, ?_⟩) ?_ ?_; rotate_left
         ·intro w'; go_simp; with_reducible rfl
         rotate_left
         ·simp only [q_, i64_w, i32_w]; rfl
         refine pure_ (i:=12) (N:=some 28) (v:=?_) (a':=?_) ⟨m_ 41 8191⟩ rfl rfl (any_of HT_.out (by kernel_rfl)) (fun _ _ _ h=>h) (Or.inl ⟨rfl, ?_⟩) ?_ ?_; rotate_left
         ·intro w'; go_simp; with_reducible rfl
         rotate_left
         ·simp only [q_, i64_w, i32_w]; rfl
         refine take_ (i:=14) (N:=some 30) (v:=?_) (a':=?_) ⟨m_ 41 24575⟩ rfl rfl (take_ofW HT_.out HW_.out (by kernel_rfl)) (fun _ _ _ h=>h) (Or.inl ⟨rfl, ?_⟩) hHeld ?_ ?_; rotate_left
         ·rintro w' ⟨s0, s1, s2⟩; go_simp; with_reducible rfl
         rotate_left
         ·simp only [q_, i64_w, i32_w]; rfl
         refine one_ (i:=13) (N:=some 29) ⟨m_ 41 32767⟩ rfl rfl (one_of HT_.out (by kernel_rfl)) (by decide) (fun K hK => ?_); refine goes_ Try.func21 (by kernel_rfl) rfl #[.int .i64 10000] (by rfl) rfl rfl (by (try simp only [List.map_toArray, List.map_cons, List.map_nil]); first | done | rfl | (simp only [List.length_drop, List.length_take]; rfl)) ?_; with_reducible refine (value_Num.calls 10000 t131 t132 t133 _ A27.out).mono ?_; rintro e w45 ⟨rfl, hb⟩; refine ⟨_, rfl, ?_⟩
         replace HO_117002 := Aside0.mk (Kd.R_below (by (with_reducible repeat (first | apply Kd.R_alloc | apply Kd.R_drewN | apply Kd.R_drew)); exact HO_117002.out) hb); replace BK116 := bb_ BK116 hb; replace HB := bs_ HB hb
         (try clear hb); (try clear hb2); (try clear hk); (try clear hi); refine hK.out _ _ ⟨bc_ BK116 0 rfl, bc_ BK116 1 rfl, bc_ BK116 2 rfl⟩ (fun hHeld => ?_); clear hK K; refine norm_ (a':=?_) ?_ ?_; rotate_left
         ·show Act.put _ (some 29) _ = _; simp only [q_, i64_w, i32_w]; rfl
         refine one_ (i:=15) (N:=some 31) ⟨m_ 41 65535⟩ rfl rfl (one_of HT_.out (by kernel_rfl)) (by decide) (fun K hK => ?_); refine goes_ Try.func10 (by kernel_rfl) rfl #[.agg #[.int .i64 t131, .int .i64 t132, .string t133], .agg #[.int .i64 2, .int .i64 2, .slice Ao12 y113.length co12], .int .i64 2] (by rfl) rfl rfl (by (try simp only [List.map_toArray, List.map_cons, List.map_nil]); first | done | rfl | (simp only [List.length_drop, List.length_take]; rfl)) ?_; with_reducible refine (look_Across.calls kj4 t131 t132 t133 2 2 _ _ y113 2 t134 t135 t136 _ ?side1 ?side2 A28.out).mono ?_; (case side1 => repeat (first | exact (Kd.R_reads' HO_117002.out).2.2 | (with_reducible refine Kd.C_alloc ?_ _) | (with_reducible refine Kd.C_drewN ?_ _) | (with_reducible refine Kd.C_drew ?_))); (case side2 => exact (Kd.R_reads' HO_117002.out).2.1); rintro e w46 ⟨rfl, hb⟩; refine ⟨_, rfl, ?_⟩
         replace HO_117002 := Aside0.mk (Kd.R_below (by (with_reducible repeat (first | apply Kd.R_alloc | apply Kd.R_drewN | apply Kd.R_drew)); exact HO_117002.out) hb); replace BK116 := bb_ BK116 hb; replace HB := bs_ HB hb
         (try clear hb); (try clear hb2); (try clear hk); (try clear hi); refine hK.out _ _ ⟨bc_ BK116 0 rfl, bc_ BK116 1 rfl, bc_ BK116 2 rfl⟩ (fun hHeld => ?_); clear hK K; refine norm_ (a':=?_) ?_ ?_; rotate_left
         ·show Act.put _ (some 31) _ = _; simp only [q_, i64_w, i32_w]; rfl
         refine one_ (i:=16) (N:=some 32) ⟨m_ 41 131071⟩ rfl rfl (one_of HT_.out (by kernel_rfl)) (by decide) (fun K hK => ?_); refine goes_ Try.func21 (by kernel_rfl) rfl #[.int .i64 25000] (by rfl) rfl rfl (by (try simp only [List.map_toArray, List.map_cons, List.map_nil]); first | done | rfl | (simp only [List.length_drop, List.length_take]; rfl)) ?_; with_reducible refine (value_Num.calls 25000 t137 t138 t139 _ A29.out).mono ?_; rintro e w47 ⟨rfl, hb⟩; refine ⟨_, rfl, ?_⟩
         replace HO_117002 := Aside0.mk (Kd.R_below (by (with_reducible repeat (first | apply Kd.R_alloc | apply Kd.R_drewN | apply Kd.R_drew)); exact HO_117002.out) hb); replace BK116 := bb_ BK116 hb; replace HB := bs_ HB hb
         (try clear hb); (try clear hb2); (try clear hk); (try clear hi); refine hK.out _ _ ⟨bc_ BK116 0 rfl, bc_ BK116 1 rfl, bc_ BK116 2 rfl⟩ (fun hHeld => ?_); clear hK K; refine norm_ (a':=?_) ?_ ?_; rotate_left
         ·show Act.put _ (some 32) _ = _; simp only [q_, i64_w, i32_w]; rfl
         refine pure_ (i:=17) (N:=some 33) (v:=?_) (a':=?_) ⟨m_ 41 262143⟩ rfl rfl (any_of HT_.out (by kernel_rfl)) (fun _ _ _ h=>h) (Or.inl ⟨rfl, ?_⟩) ?_ ?_; rotate_left
         ·intro w'; go_simp; with_reducible rfl
         rotate_left
         ·simp only [q_, i64_w, i32_w]; rfl
         refine pure_ (i:=18) (N:=some 34) (v:=?_) (a':=?_) ⟨m_ 41 524287⟩ rfl rfl (any_of HT_.out (by kernel_rfl)) (fun _ _ _ h=>h) (Or.inl ⟨rfl, ?_⟩) ?_ ?_; rotate_left
         ·intro w'; go_simp; with_reducible rfl
         rotate_left
         ·simp only [q_, i64_w, i32_w]; rfl
         refine pure_ (i:=19) (N:=some 35) (v:=?_) (a':=?_) ⟨m_ 41 1048575⟩ rfl rfl (any_of HT_.out (by kernel_rfl)) (fun _ _ _ h=>h) (Or.inl ⟨rfl, ?_⟩) ?_ ?_; rotate_left
         ·intro w'; go_simp; with_reducible rfl
         rotate_left
         ·simp only [q_, i64_w, i32_w]; rfl
         refine take_ (i:=20) (N:=some 36) (v:=?_) (a':=?_) ⟨m_ 41 2097151⟩ rfl rfl (take_ofW HT_.out HW_.out (by kernel_rfl)) (fun _ _ _ h=>h) (Or.inl ⟨rfl, ?_⟩) hHeld ?_ ?_; rotate_left
         ·rintro w' ⟨s0, s1, s2⟩; go_simp; with_reducible rfl
         rotate_left
         ·simp only [q_, i64_w, i32_w]; rfl
         refine one_ (i:=21) (N:=some 37) ⟨m_ 41 4194303⟩ rfl rfl (one_of HT_.out (by kernel_rfl)) (by decide) (fun K hK => ?_); refine goes_ Try.func20 (by kernel_rfl) rfl #[.string (⟨#[62, 61, 49]⟩ : ByteArray)] (by rfl) rfl rfl (by (try simp only [List.map_toArray, List.map_cons, List.map_nil]); first | done | rfl | (simp only [List.length_drop, List.length_take]; rfl)) ?_; with_reducible refine (value_Str.calls (⟨#[62, 61, 49]⟩ : ByteArray) t140 t141 t142 _ A31.out).mono ?_; rintro e w48 ⟨rfl, hb⟩; refine ⟨_, rfl, ?_⟩
         replace HO_117002 := Aside0.mk (Kd.R_below (by (with_reducible repeat (first | apply Kd.R_alloc | apply Kd.R_drewN | apply Kd.R_drew)); exact HO_117002.out) hb); replace BK116 := bb_ BK116 hb; replace HB := bs_ HB hb
         (try clear hb); (try clear hb2); (try clear hk); (try clear hi); refine hK.out _ _ ⟨bc_ BK116 0 rfl, bc_ BK116 1 rfl, bc_ BK116 2 rfl⟩ (fun hHeld => ?_); clear hK K; refine norm_ (a':=?_) ?_ ?_; rotate_left
         ·show Act.put _ (some 37) _ = _; simp only [q_, i64_w, i32_w]; rfl
         refine one_ (i:=22) (N:=some 38) ⟨m_ 41 8388607⟩ rfl rfl (one_of HT_.out (by kernel_rfl)) (by decide) (fun K hK => ?_); refine goes_ Try.func22 (by kernel_rfl) rfl #[.agg #[.int .i64 2, .int .i64 2, .slice Ao12 y113.length co12], .agg #[.int .i64 t140, .int .i64 t141, .string t142]] (by rfl) rfl rfl (by (try simp only [List.map_toArray, List.map_cons, List.map_nil]); first | done | rfl | (simp only [List.length_drop, List.length_take]; rfl)) ?_; with_reducible refine (look_CountIf.calls kj4 2 2 _ _ y113 t140 t141 t142 t143 t144 t145 _ ?side1 ?side2 A32.out).mono ?_; (case side1 => repeat (first | exact (Kd.R_reads' HO_117002.out).2.2 | (with_reducible refine Kd.C_alloc ?_ _) | (with_reducible refine Kd.C_drewN ?_ _) | (with_reducible refine Kd.C_drew ?_))); (case side2 => exact (Kd.R_reads' HO_117002.out).2.1); rintro e w49 ⟨rfl, hb⟩; refine ⟨_, rfl, ?_⟩
         replace HO_117002 := Aside0.mk (Kd.R_below (by (with_reducible repeat (first | apply Kd.R_alloc | apply Kd.R_drewN | apply Kd.R_drew)); exact HO_117002.out) hb); replace BK116 := bb_ BK116 hb; replace HB := bs_ HB hb
         (try clear hb); (try clear hb2); (try clear hk); (try clear hi); refine hK.out _ _ ⟨bc_ BK116 0 rfl, bc_ BK116 1 rfl, bc_ BK116 2 rfl⟩ (fun hHeld => ?_); clear hK K; refine norm_ (a':=?_) ?_ ?_; rotate_left
         ·show Act.put _ (some 38) _ = _; simp only [q_, i64_w, i32_w]; rfl
         refine one_ (i:=23) (N:=some 39) ⟨m_ 41 16777215⟩ rfl rfl (one_of HT_.out (by kernel_rfl)) (by decide) (fun K hK => ?_); refine goes_ Try.func21 (by kernel_rfl) rfl #[.int .i64 20000] (by rfl) rfl rfl (by (try simp only [List.map_toArray, List.map_cons, List.map_nil]); first | done | rfl | (simp only [List.length_drop, List.length_take]; rfl)) ?_; with_reducible refine (value_Num.calls 20000 t146 t147 t148 _ A33.out).mono ?_; rintro e w50 ⟨rfl, hb⟩; refine ⟨_, rfl, ?_⟩
         replace HO_117002 := Aside0.mk (Kd.R_below (by (with_reducible repeat (first | apply Kd.R_alloc | apply Kd.R_drewN | apply Kd.R_drew)); exact HO_117002.out) hb); replace BK116 := bb_ BK116 hb; replace HB := bs_ HB hb
         (try clear hb); (try clear hb2); (try clear hk); (try clear hi); refine hK.out _ _ ⟨bc_ BK116 0 rfl, bc_ BK116 1 rfl, bc_ BK116 2 rfl⟩ (fun hHeld => ?_); clear hK K; refine norm_ (a':=?_) ?_ ?_; rotate_left
         ·show Act.put _ (some 39) _ = _; simp only [q_, i64_w, i32_w]; rfl
         refine pure_ (i:=24) (N:=some 40) (v:=?_) (a':=?_) ⟨m_ 41 33554431⟩ rfl rfl (any_of HT_.out (by kernel_rfl)) (fun _ _ _ h=>h) (Or.inl ⟨rfl, ?_⟩) ?_ ?_; rotate_left
         ·intro w'; go_simp; with_reducible rfl
         rotate_left
         ·simp only [q_, i64_w, i32_w]; rfl
         refine pure_ (i:=25) (N:=some 41) (v:=?_) (a':=?_) ⟨m_ 41 67108863⟩ rfl rfl (any_of HT_.out (by kernel_rfl)) (fun _ _ _ h=>h) (Or.inl ⟨rfl, ?_⟩) ?_ ?_; rotate_left
         ·intro w'; go_simp; with_reducible rfl
         rotate_left
         ·simp only [q_, i64_w, i32_w]; rfl
         refine pure_ (i:=26) (N:=some 42) (v:=?_) (a':=?_) ⟨m_ 41 134217727⟩ rfl rfl (any_of HT_.out (by kernel_rfl)) (fun _ _ _ h=>h) (Or.inl ⟨rfl, ?_⟩) ?_ ?_; rotate_left
         ·intro w'; go_simp; with_reducible rfl
         rotate_left
         ·simp only [q_, i64_w, i32_w]; rfl
         refine take_ (i:=27) (N:=some 43) (v:=?_) (a':=?_) ⟨m_ 41 268435455⟩ rfl rfl (take_ofW HT_.out HW_.out (by kernel_rfl)) (fun _ _ _ h=>h) (Or.inl ⟨rfl, ?_⟩) hHeld ?_ ?_; rotate_left
         ·rintro w' ⟨s0, s1, s2⟩; go_simp; with_reducible rfl
         rotate_left
         ·simp only [q_, i64_w, i32_w]; rfl
         refine one_ (i:=28) (N:=some 44) ⟨m_ 41 536870911⟩ rfl rfl (one_of HT_.out (by kernel_rfl)) (by decide) (fun K hK => ?_); refine goes_ Try.func20 (by kernel_rfl) rfl #[.string (⟨#[60, 50]⟩ : ByteArray)] (by rfl) rfl rfl (by (try simp only [List.map_toArray, List.map_cons, List.map_nil]); first | done | rfl | (simp only [List.length_drop, List.length_take]; rfl)) ?_; with_reducible refine (value_Str.calls (⟨#[60, 50]⟩ : ByteArray) t149 t150 t151 _ A35.out).mono ?_; rintro e w51 ⟨rfl, hb⟩; refine ⟨_, rfl, ?_⟩
         replace HO_117002 := Aside0.mk (Kd.R_below (by (with_reducible repeat (first | apply Kd.R_alloc | apply Kd.R_drewN | apply Kd.R_drew)); exact HO_117002.out) hb); replace BK116 := bb_ BK116 hb; replace HB := bs_ HB hb
         (try clear hb); (try clear hb2); (try clear hk); (try clear hi); refine hK.out _ _ ⟨bc_ BK116 0 rfl, bc_ BK116 1 rfl, bc_ BK116 2 rfl⟩ (fun hHeld => ?_); clear hK K; refine norm_ (a':=?_) ?_ ?_; rotate_left
         ·show Act.put _ (some 44) _ = _; simp only [q_, i64_w, i32_w]; rfl
         refine one_ (i:=29) (N:=some 45) ⟨m_ 41 1073741823⟩ rfl rfl (one_of HT_.out (by kernel_rfl)) (by decide) (fun K hK => ?_); refine goes_ Try.func23 (by kernel_rfl) rfl #[.agg #[.int .i64 2, .int .i64 2, .slice Ao12 y113.length co12], .agg #[.int .i64 t149, .int .i64 t150, .string t151]] (by rfl) rfl rfl (by (try simp only [List.map_toArray, List.map_cons, List.map_nil]); first | done | rfl | (simp only [List.length_drop, List.length_take]; rfl)) ?_; with_reducible refine (look_SumIf.calls kj4 2 2 _ _ y113 t149 t150 t151 t152 t153 t154 _ ?side1 ?side2 A36.out).mono ?_; (case side1 => repeat (first | exact (Kd.R_reads' HO_117002.out).2.2 | (with_reducible refine Kd.C_alloc ?_ _) | (with_reducible refine Kd.C_drewN ?_ _) | (with_reducible refine Kd.C_drew ?_))); (case side2 => exact (Kd.R_reads' HO_117002.out).2.1); rintro e w52 ⟨rfl, hb⟩; refine ⟨_, rfl, ?_⟩
         replace HO_117002 := Aside0.mk (Kd.R_below (by (with_reducible repeat (first | apply Kd.R_alloc | apply Kd.R_drewN | apply Kd.R_drew)); exact HO_117002.out) hb); replace BK116 := bb_ BK116 hb; replace HB := bs_ HB hb
         (try clear hb); (try clear hb2); (try clear hk); (try clear hi); refine hK.out _ _ ⟨bc_ BK116 0 rfl, bc_ BK116 1 rfl, bc_ BK116 2 rfl⟩ (fun hHeld => ?_); clear hK K; refine norm_ (a':=?_) ?_ ?_; rotate_left
         ·show Act.put _ (some 45) _ = _; simp only [q_, i64_w, i32_w]; rfl
         refine one_ (i:=30) (N:=some 46) ⟨m_ 41 2147483647⟩ rfl rfl (one_of HT_.out (by kernel_rfl)) (by decide) (fun K hK => ?_); refine goes_ Try.func21 (by kernel_rfl) rfl #[.int .i64 10000] (by rfl) rfl rfl (by (try simp only [List.map_toArray, List.map_cons, List.map_nil]); first | done | rfl | (simp only [List.length_drop, List.length_take]; rfl)) ?_; with_reducible refine (value_Num.calls 10000 t155 t156 t157 _ A37.out).mono ?_; rintro e w53 ⟨rfl, hb⟩; refine ⟨_, rfl, ?_⟩
         replace HO_117002 := Aside0.mk (Kd.R_below (by (with_reducible repeat (first | apply Kd.R_alloc | apply Kd.R_drewN | apply Kd.R_drew)); exact HO_117002.out) hb); replace BK116 := bb_ BK116 hb; replace HB := bs_ HB hb
         (try clear hb); (try clear hb2); (try clear hk); (try clear hi); refine hK.out _ _ ⟨bc_ BK116 0 rfl, bc_ BK116 1 rfl, bc_ BK116 2 rfl⟩ (fun hHeld => ?_); clear hK K; refine norm_ (a':=?_) ?_ ?_; rotate_left
         ·show Act.put _ (some 46) _ = _; simp only [q_, i64_w, i32_w]; rfl
         refine pure_ (i:=31) (N:=some 47) (v:=?_) (a':=?_) ⟨m_ 41 4294967295⟩ rfl rfl (any_of HT_.out (by kernel_rfl)) (fun _ _ _ h=>h) (Or.inl ⟨rfl, ?_⟩) ?_ ?_; rotate_left
         ·intro w'; go_simp; with_reducible rfl
         rotate_left
         ·simp only [q_, i64_w, i32_w]; rfl
         refine pure_ (i:=32) (N:=some 48) (v:=?_) (a':=?_) ⟨m_ 41 8589934591⟩ rfl rfl (any_of HT_.out (by kernel_rfl)) (fun _ _ _ h=>h) (Or.inl ⟨rfl, ?_⟩) ?_ ?_; rotate_left
         ·intro w'; go_simp; with_reducible rfl
         rotate_left
         ·simp only [q_, i64_w, i32_w]; rfl
         refine pure_ (i:=33) (N:=some 49) (v:=?_) (a':=?_) ⟨m_ 41 17179869183⟩ rfl rfl (any_of HT_.out (by kernel_rfl)) (fun _ _ _ h=>h) (Or.inl ⟨rfl, ?_⟩) ?_ ?_; rotate_left
         ·intro w'; go_simp; with_reducible rfl
         rotate_left
         ·simp only [q_, i64_w, i32_w]; rfl
         refine take_ (i:=34) (N:=some 50) (v:=?_) (a':=?_) ⟨m_ 41 34359738367⟩ rfl rfl (take_ofW HT_.out HW_.out (by kernel_rfl)) (fun _ _ _ h=>h) (Or.inl ⟨rfl, ?_⟩) hHeld ?_ ?_; rotate_left
         ·rintro w' ⟨s0, s1, s2⟩; go_simp; with_reducible rfl
         rotate_left
         ·simp only [q_, i64_w, i32_w]; rfl
         refine take_ (i:=35) (N:=some 51) (v:=?_) (a':=?_) ⟨m_ 41 68719476735⟩ rfl rfl (take_ofW HT_.out HW_.out (by kernel_rfl)) (fun _ _ _ h=>h) (Or.inl ⟨rfl, ?_⟩) hHeld ?_ ?_; rotate_left
         ·rintro w' ⟨s0, s1, s2⟩; go_simp; with_reducible rfl
         rotate_left
         ·simp only [q_, i64_w, i32_w]; rfl
         refine one_ (i:=36) (N:=some 52) ⟨m_ 41 137438953471⟩ rfl rfl (one_of HT_.out (by kernel_rfl)) (by decide) (fun K hK => ?_); refine goes_ Try.func24 (by kernel_rfl) rfl #[.agg #[.int .i64 2, .int .i64 2, .slice Ao12 y113.length co12], .agg #[.int .i64 2, .int .i64 2, .slice Ao12 y113.length co12]] (by rfl) rfl rfl (by (try simp only [List.map_toArray, List.map_cons, List.map_nil]); first | done | rfl | (simp only [List.length_drop, List.length_take]; rfl)) ?_; with_reducible refine (look_Products.calls kj4 2 2 (fun k_ => some k_ = (.slice Ao12 y113.length co12 : Value).ownBlock) _ _ y113 2 2 (fun k_ => some k_ = (.slice Ao12 y113.length co12 : Value).ownBlock) _ _ y113 t158 t159 t160 _ ?side1 ?side2 A39.out).mono ?_; (case side1 => exact Kd.R_V (Kd.R_tight rfl (Kd.R_types (HO_117002.out) BK116.out (by decide)))); (case side2 => exact Kd.R_V (Kd.R_tight rfl (Kd.R_types (HO_117002.out) BK116.out (by decide)))); rintro e w54 ⟨rfl, hb⟩; refine ⟨_, rfl, ?_⟩
         replace HO_117002 := Aside0.mk (Kd.R_below (by (with_reducible repeat (first | apply Kd.R_alloc | apply Kd.R_drewN | apply Kd.R_drew)); exact HO_117002.out) hb); replace BK116 := bb_ BK116 hb; replace HB := bs_ HB hb
         (try clear hb); (try clear hb2); (try clear hk); (try clear hi); refine hK.out _ _ ⟨bc_ BK116 0 rfl, bc_ BK116 1 rfl, bc_ BK116 2 rfl⟩ (fun hHeld => ?_); clear hK K; refine norm_ (a':=?_) ?_ ?_; rotate_left
         ·show Act.put _ (some 52) _ = _; simp only [q_, i64_w, i32_w]; rfl
         refine one_ (i:=37) (N:=some 53) ⟨m_ 41 274877906943⟩ rfl rfl (one_of HT_.out (by kernel_rfl)) (by decide) (fun K hK => ?_); refine goes_ Try.func21 (by kernel_rfl) rfl #[.int .i64 72500] (by rfl) rfl rfl (by (try simp only [List.map_toArray, List.map_cons, List.map_nil]); first | done | rfl | (simp only [List.length_drop, List.length_take]; rfl)) ?_; with_reducible refine (value_Num.calls 72500 t161 t162 t163 _ A40.out).mono ?_; rintro e w55 ⟨rfl, hb⟩; refine ⟨_, rfl, ?_⟩
         replace HO_117002 := Aside0.mk (Kd.R_below (by (with_reducible repeat (first | apply Kd.R_alloc | apply Kd.R_drewN | apply Kd.R_drew)); exact HO_117002.out) hb); replace BK116 := bb_ BK116 hb; replace HB := bs_ HB hb
         (try clear hb); (try clear hb2); (try clear hk); (try clear hi); refine hK.out _ _ ⟨bc_ BK116 0 rfl, bc_ BK116 1 rfl, bc_ BK116 2 rfl⟩ (fun hHeld => ?_); clear hK K; refine norm_ (a':=?_) ?_ ?_; rotate_left
         ·show Act.put _ (some 53) _ = _; simp only [q_, i64_w, i32_w]; rfl
         refine pure_ (i:=38) (N:=some 54) (v:=?_) (a':=?_) ⟨m_ 41 549755813887⟩ rfl rfl (any_of HT_.out (by kernel_rfl)) (fun _ _ _ h=>h) (Or.inl ⟨rfl, ?_⟩) ?_ ?_; rotate_left
         ·intro w'; go_simp; with_reducible rfl
         rotate_left
         ·simp only [q_, i64_w, i32_w]; rfl
         refine pure_ (i:=39) (N:=some 55) (v:=?_) (a':=?_) ⟨m_ 41 1099511627775⟩ rfl rfl (any_of HT_.out (by kernel_rfl)) (fun _ _ _ h=>h) (Or.inl ⟨rfl, ?_⟩) ?_ ?_; rotate_left
         ·intro w'; go_simp; with_reducible rfl
         rotate_left
         ·simp only [q_, i64_w, i32_w]; rfl
         refine pure_ (i:=40) (N:=some 0) (v:=?_) (a':=?_) ⟨m_ 41 2199023255551⟩ rfl rfl (any_of HT_.out (by kernel_rfl)) (fun _ _ _ h=>h) (Or.inl ⟨rfl, ?_⟩) ?_ ?_; rotate_left
         ·intro w'; go_simp; with_reducible rfl
         rotate_left
         ·simp only [q_, i64_w, i32_w]; rfl
         refine done_ (done_of HT_.out (by kernel_rfl)) ?_
         try go_wp2
         go_ret
         exact ⟨by first | rfl | (simp [errW_none, errW_some] <;> rfl) | (simp [*, errW_none, errW_some] <;> rfl), pbx HB⟩
        ·rw [if_neg c38] at H
         have c38b0 : (t152 == t155 && (t153 == t156 && (t154.toList == t157.toList))) = false := by simpa using c38
         (try (have c38b1 : decide (t152 = t155 && (t153 == t156 && (t154.toList == t157.toList))) = false := by simpa using c38)); (try (have c38b2 : (t152 == t155 && (t153 == t156 && (t154.toList == t157.toList))) = false := by simpa using c38)); (try (have c38b3 : ¬ (t152 = t155 && (t153 == t156 && (t154.toList == t157.toList))) := by simpa using c38)); clear c38
         exact absurd H (by simp)
       ·rw [if_neg c34] at H
        have c34b0 : (t143 == t146 && (t144 == t147 && (t145.toList == t148.toList))) = false := by simpa using c34
        (try (have c34b1 : decide (t143 = t146 && (t144 == t147 && (t145.toList == t148.toList))) = false := by simpa using c34)); (try (have c34b2 : (t143 == t146 && (t144 == t147 && (t145.toList == t148.toList))) = false := by simpa using c34)); (try (have c34b3 : ¬ (t143 = t146 && (t144 == t147 && (t145.toList == t148.toList))) := by simpa using c34)); clear c34
        exact absurd H (by simp)
      ·rw [if_neg c30] at H
       have c30b0 : (t134 == t137 && (t135 == t138 && (t136.toList == t139.toList))) = false := by simpa using c30
       (try (have c30b1 : decide (t134 = t137 && (t135 == t138 && (t136.toList == t139.toList))) = false := by simpa using c30)); (try (have c30b2 : (t134 == t137 && (t135 == t138 && (t136.toList == t139.toList))) = false := by simpa using c30)); (try (have c30b3 : ¬ (t134 = t137 && (t135 == t138 && (t136.toList == t139.toList))) := by simpa using c30)); clear c30
       exact absurd H (by simp)
     ·rw [if_neg c26] at H
      have c26b0 : (t125 == t128 && (t126 == t129 && (t127.toList == t130.toList))) = false := by simpa using c26
      (try (have c26b1 : decide (t125 = t128 && (t126 == t129 && (t127.toList == t130.toList))) = false := by simpa using c26)); (try (have c26b2 : (t125 == t128 && (t126 == t129 && (t127.toList == t130.toList))) = false := by simpa using c26)); (try (have c26b3 : ¬ (t125 = t128 && (t126 == t129 && (t127.toList == t130.toList))) := by simpa using c26)); clear c26
      exact absurd H (by simp)
    ·rw [if_neg c22] at H; have c22b0 : (x2_4 == 3) = false := beq_eq_false_iff_ne.mpr c22; have c22b1 : (x2_4 != 3) = true := bne_iff_ne.mpr c22
     exact absurd H (by simp)
   ·replace c21 := Bool.eq_false_iff.mpr c21; subst c21
    have H1 : (none) = some r := by rw [if_neg (show ¬ (false = true) by decide)] at H; exact H
    clear H; have H := H1; clear H1
    exact absurd H (by simp)

end Go.Proofs.Ytejkoenlfcghbaa.X
namespace Go.Proofs.Ytejkoenlfcghbaa.X
open Go.RowKit Go.Proofs.YtejkoenlfcghbaaW.PrintWords Go.Proofs.YtejkoenlfcghbaaW.PrintLast Go.Proofs.YtejkoenlfcghbaaW.PrintMore
attribute [local go_sem] max2_int min2_int max_two min_two max_three min_three max_four min_four
set_option linter.unusedVariables false
set_option linter.unusedSimpArgs false
def oculusref18_At.f (a0_0 : Int) (a0_1 : Int) (l0_2 : List (S26)) (a1 : Int) (a2 : Int) : Option (Int × Int × ByteArray) := if 0 ≤ (wrap64 ((wrap64 ((wrap64 ((wrap64 (a1 - 1)) * a0_1)) + a2)) - 1)) then (if (wrap64 ((wrap64 ((wrap64 ((wrap64 (a1 - 1)) * a0_1)) + a2)) - 1)) < (l0_2.length : Int) then (some ((rd_T26 l0_2 (wrap64 ((wrap64 ((wrap64 ((wrap64 (a1 - 1)) * a0_1)) + a2)) - 1))).f0, (rd_T26 l0_2 (wrap64 ((wrap64 ((wrap64 ((wrap64 (a1 - 1)) * a0_1)) + a2)) - 1))).f1, (rd_T26 l0_2 (wrap64 ((wrap64 ((wrap64 ((wrap64 (a1 - 1)) * a0_1)) + a2)) - 1))).f2)) else (none)) else (none)
set_option maxHeartbeats 8000000 in
set_option maxRecDepth 100000 in
theorem oculusref18_At.calls (a0_0 : Int) (a0_1 : Int) (A0_2 : Option Addr) (c0_2 : Nat) (l0_2 : List (S26)) (a1 : Int) (a2 : Int) (r1 : Int) (r2 : Int) (r3 : ByteArray) (w : World) (hr0_2 : Kd.C k26 w A0_2 l0_2.length l0_2) (hc0_2 : l0_2.length ≤ c0_2) (h : oculusref18_At.f a0_0 a0_1 l0_2 a1 a2 = some (r1, r2, r3)) :
  Calls Try.prog 8 #[.agg #[.int .i64 a0_0, .int .i64 a0_1, .slice A0_2 l0_2.length c0_2], .int .i64 a1, .int .i64 a2] w fun e w' => e = .returned (.agg #[.int .i64 r1, .int .i64 r2, .string r3]) ∧ Below w.heap.size w w' := by
 have hu24 := Try.underlying24; have hu26 := Try.underlying26; have HR0_2 := Aside0.mk hr0_2; have HC0_2 := Aside0.mk hc0_2; clear hr0_2 hc0_2; have HB := Aside0.mk (Below.refl w.heap.size w)
 have H : (if 0 ≤ (wrap64 ((wrap64 ((wrap64 ((wrap64 (a1 - 1)) * a0_1)) + a2)) - 1)) then (if (wrap64 ((wrap64 ((wrap64 ((wrap64 (a1 - 1)) * a0_1)) + a2)) - 1)) < (l0_2.length : Int) then (some ((rd_T26 l0_2 (wrap64 ((wrap64 ((wrap64 ((wrap64 (a1 - 1)) * a0_1)) + a2)) - 1))).f0, (rd_T26 l0_2 (wrap64 ((wrap64 ((wrap64 ((wrap64 (a1 - 1)) * a0_1)) + a2)) - 1))).f1, (rd_T26 l0_2 (wrap64 ((wrap64 ((wrap64 ((wrap64 (a1 - 1)) * a0_1)) + a2)) - 1))).f2)) else (none)) else (none)) = some (r1, r2, r3) := h
 clear h; obtain ⟨ji4, hji4⟩ : ∃ j_ : Int, (wrap64 ((wrap64 ((wrap64 ((wrap64 (a1 - 1)) * a0_1)) + a2)) - 1)) = j_ := ⟨_, rfl⟩
 replace H : (if 0 ≤ (ji4) then (if (ji4) < (l0_2.length : Int) then (some ((rd_T26 l0_2 (ji4)).f0, (rd_T26 l0_2 (ji4)).f1, (rd_T26 l0_2 (ji4)).f2)) else (none)) else (none)) = some (r1, r2, r3) := by first | (rw [hji4] at H; exact H) | (simp only [hji4] at H ⊢; exact H)
 have hji4w : (IntKind.i64.wrap ((wrap64 ((wrap64 ((wrap64 (a1 - 1)) * a0_1)) + a2)) - 1)) = ji4 := (i64_w _).trans hji4
 by_cases c5 : 0 ≤ (ji4)
 ·rw [if_pos c5] at H; have c5b0 : decide (0 ≤ (ji4)) = true := decide_eq_true c5; clear c5
  by_cases c6 : (ji4) < (l0_2.length : Int)
  ·rw [if_pos c6] at H; have c6b0 : decide ((ji4) < (l0_2.length : Int)) = true := decide_eq_true c6; clear c6
   simp only [Option.some.injEq, Prod.mk.injEq] at H
   obtain ⟨rfl, rfl, rfl⟩ := H
   go_enter Try.func8, Try.ntmps8
   go_wp2_with (first | ((with_reducible refine gate_dst (N:=3) rfl ?_); refine be_ (N:=3) (cs := #[.int .i64 a0_0, .int .i64 a0_1, .slice A0_2 l0_2.length c0_2]) (t:=24) ?_; intro gb101 hg w7 hbox hb; have BK101 := Aside0.mk (hbox); have GW101 := hs_ HB hg; have GE101 := hs_ HB hg; replace HB := bs_ HB hb; clear hb hbox hg) | ((with_reducible refine gate_dst (N:=6) rfl ?_); refine be_ (N:=6) (cs := #[.int .i64 0, .int .i64 0, .string (⟨#[]⟩ : ByteArray)]) (t:=26) ?_; intro gb102 hg w8 hbox hb; have BK102 := Aside0.mk (hbox); have GW102 := hs_ HB hg; have GE102 := hs_ HB hg; have NB101_102 := hl_ BK101 hg; have NB102_101 := hr_ BK101 hg; replace BK101 := bb_ BK101 hb; replace HB := bs_ HB hb; clear hb hbox hg; have hnb9 := NB101_102.out; have hnc9 := NB102_101.out; have hcz10_0 : w8.cell? ⟨gb101, 0, none⟩ = some (.int .i64 a0_0) := bc_ BK101 0 rfl; have hcz10_1 : w8.cell? ⟨gb101, 1, none⟩ = some (.int .i64 a0_1) := bc_ BK101 1 rfl; have hcz10_2 : w8.cell? ⟨gb101, 2, none⟩ = some (.slice A0_2 l0_2.length c0_2) := bc_ BK101 2 rfl; have hfz10_0 := blk_frozen BK101.out 0; have hfz10_1 := blk_frozen BK101.out 1; have hfz10_2 := blk_frozen BK101.out 2; have p103 : 0 ≤ ((ji4) : Int) := of_decide_eq_true (by first | (with_reducible assumption) | assumption); have q103 : (ji4) < (l0_2.length : Int) := of_decide_eq_true (by first | (with_reducible assumption) | assumption); obtain ⟨ad103, e103, hx103_0, hx103_1, hx103_2⟩ := at_T26 HR0_2.out (ji4) p103 q103; cases e103; replace hx103_0 := (HB.out.cell (World.block_lt_of_cell? w _ hx103_0)).trans hx103_0; replace hx103_1 := (HB.out.cell (World.block_lt_of_cell? w _ hx103_1)).trans hx103_1; replace hx103_2 := (HB.out.cell (World.block_lt_of_cell? w _ hx103_2)).trans hx103_2; replace p103 := eq_true p103; replace q103 := eq_true q103; have hcz11_0 : w8.cell? ⟨gb102, 0, none⟩ = some (.int .i64 0) := bc_ BK102 0 rfl; have hcz11_1 : w8.cell? ⟨gb102, 1, none⟩ = some (.int .i64 0) := bc_ BK102 1 rfl; have hcz11_2 : w8.cell? ⟨gb102, 2, none⟩ = some (.string (⟨#[]⟩ : ByteArray)) := bc_ BK102 2 rfl; have hfz11_0 := blk_frozen BK102.out 0; have hfz11_1 := blk_frozen BK102.out 1; have hfz11_2 := blk_frozen BK102.out 2))
   refine bodyPost_ret (results_cell_row rfl _ _ gb102 26 #[.int .i64 ((rd_T26 l0_2 (ji4)).f0), .int .i64 ((rd_T26 l0_2 (ji4)).f1), .string ((rd_T26 l0_2 (ji4)).f2)] (0, 0) _ rfl (by refine pp_ (cs := #[.int .i64 ((rd_T26 l0_2 (ji4)).f0), .int .i64 ((rd_T26 l0_2 (ji4)).f1), .string (⟨#[]⟩ : ByteArray)]) 2 ?_ rfl; refine pp_ (cs := #[.int .i64 ((rd_T26 l0_2 (ji4)).f0), .int .i64 0, .string (⟨#[]⟩ : ByteArray)]) 1 ?_ rfl; refine pp_ (cs := #[.int .i64 0, .int .i64 0, .string (⟨#[]⟩ : ByteArray)]) 0 ?_ rfl; exact pkx BK102) Try.underlying26 rfl (by kernel_rfl)) rfl ?_
   exact ⟨by first | rfl | (simp [errW_none, errW_some] <;> rfl) | (simp only [← hji4]; first | rfl | (simp [errW_none, errW_some] <;> rfl)) | (simp [*, errW_none, errW_some] <;> rfl), by repeat (first | (with_reducible first | exact HB.out | apply below_alloc | apply pw_below_drewN | apply below_drew1 | refine below_set ?_ GE101.out | refine below_set ?_ GE102.out) | exact HB.out)⟩
  ·rw [if_neg c6] at H
   exact absurd H (by simp)
 ·rw [if_neg c5] at H
  exact absurd H (by simp)

def oculusref18_In.f (a0_0 : Int) (a0_1 : Int) (l0_2 : List (S26)) (a1 : Int) (a2 : Int) : Option (Bool) := if a1 ≥ 1 then (if a1 ≤ a0_0 then (if a2 ≥ 1 then (some (decide (a2 ≤ a0_1))) else (some false)) else (some false)) else (some false)
set_option maxHeartbeats 8000000 in
set_option maxRecDepth 100000 in
theorem oculusref18_In.calls (a0_0 : Int) (a0_1 : Int) (A0_2 : Option Addr) (c0_2 : Nat) (l0_2 : List (S26)) (a1 : Int) (a2 : Int) (r : Bool) (w : World) (hr0_2 : Kd.C k26 w A0_2 l0_2.length l0_2) (hc0_2 : l0_2.length ≤ c0_2) (h : oculusref18_In.f a0_0 a0_1 l0_2 a1 a2 = some r) :
  Calls Try.prog 16 #[.agg #[.int .i64 a0_0, .int .i64 a0_1, .slice A0_2 l0_2.length c0_2], .int .i64 a1, .int .i64 a2] w fun e w' => e = .returned (.bool r) ∧ Below w.heap.size w w' := by
 have hu24 := Try.underlying24; have HR0_2 := Aside0.mk hr0_2; have HC0_2 := Aside0.mk hc0_2; clear hr0_2 hc0_2; have HB := Aside0.mk (Below.refl w.heap.size w)
 have H : (if a1 ≥ 1 then (if a1 ≤ a0_0 then (if a2 ≥ 1 then (some (decide (a2 ≤ a0_1))) else (some false)) else (some false)) else (some false)) = some r := h
 clear h
 by_cases c4 : a1 ≥ 1
 ·rw [if_pos c4] at H; have c4b0 : decide (1 ≤ a1) = true := decide_eq_true c4; clear c4
  by_cases c5 : a1 ≤ a0_0
  ·rw [if_pos c5] at H; have c5b0 : decide (a1 ≤ a0_0) = true := decide_eq_true c5; clear c5
   by_cases c6 : a2 ≥ 1
   ·rw [if_pos c6] at H; have c6b0 : decide (1 ≤ a2) = true := decide_eq_true c6; clear c6; obtain rfl := Option.some.inj H
    go_enter Try.func16, Try.ntmps16
    go_wp2_with (first | ((with_reducible refine gate_dst (N:=3) rfl ?_); refine be_ (N:=3) (cs := #[.int .i64 a0_0, .int .i64 a0_1, .slice A0_2 l0_2.length c0_2]) (t:=24) ?_; intro gb101 hg w7 hbox hb; have BK101 := Aside0.mk (hbox); replace HB := bs_ HB hb; clear hb hbox hg; have hcz8_0 : w7.cell? ⟨gb101, 0, none⟩ = some (.int .i64 a0_0) := bc_ BK101 0 rfl; have hcz8_1 : w7.cell? ⟨gb101, 1, none⟩ = some (.int .i64 a0_1) := bc_ BK101 1 rfl; have hcz8_2 : w7.cell? ⟨gb101, 2, none⟩ = some (.slice A0_2 l0_2.length c0_2) := bc_ BK101 2 rfl))
    go_ret
    exact ⟨by first | rfl | (simp [errW_none, errW_some] <;> rfl) | (simp [*, errW_none, errW_some] <;> rfl), pbx HB⟩
   ·rw [if_neg c6] at H; have c6b0 : decide (1 ≤ a2) = false := decide_eq_false c6; clear c6; obtain rfl := Option.some.inj H
    go_enter Try.func16, Try.ntmps16
    go_wp2_with (first | ((with_reducible refine gate_dst (N:=3) rfl ?_); refine be_ (N:=3) (cs := #[.int .i64 a0_0, .int .i64 a0_1, .slice A0_2 l0_2.length c0_2]) (t:=24) ?_; intro gb101 hg w9 hbox hb; have BK101 := Aside0.mk (hbox); replace HB := bs_ HB hb; clear hb hbox hg; have hcz10_0 : w9.cell? ⟨gb101, 0, none⟩ = some (.int .i64 a0_0) := bc_ BK101 0 rfl; have hcz10_1 : w9.cell? ⟨gb101, 1, none⟩ = some (.int .i64 a0_1) := bc_ BK101 1 rfl; have hcz10_2 : w9.cell? ⟨gb101, 2, none⟩ = some (.slice A0_2 l0_2.length c0_2) := bc_ BK101 2 rfl))
    go_ret
    exact ⟨by first | rfl | (simp [errW_none, errW_some] <;> rfl) | (simp [*, errW_none, errW_some] <;> rfl), pbx HB⟩
  ·rw [if_neg c5] at H; have c5b0 : decide (a1 ≤ a0_0) = false := decide_eq_false c5; clear c5; obtain rfl := Option.some.inj H
   go_enter Try.func16, Try.ntmps16
   go_wp2_with (first | ((with_reducible refine gate_dst (N:=3) rfl ?_); refine be_ (N:=3) (cs := #[.int .i64 a0_0, .int .i64 a0_1, .slice A0_2 l0_2.length c0_2]) (t:=24) ?_; intro gb101 hg w11 hbox hb; have BK101 := Aside0.mk (hbox); replace HB := bs_ HB hb; clear hb hbox hg; have hcz12_0 : w11.cell? ⟨gb101, 0, none⟩ = some (.int .i64 a0_0) := bc_ BK101 0 rfl; have hcz12_1 : w11.cell? ⟨gb101, 1, none⟩ = some (.int .i64 a0_1) := bc_ BK101 1 rfl; have hcz12_2 : w11.cell? ⟨gb101, 2, none⟩ = some (.slice A0_2 l0_2.length c0_2) := bc_ BK101 2 rfl))
   go_ret
   exact ⟨by first | rfl | (simp [errW_none, errW_some] <;> rfl) | (simp [*, errW_none, errW_some] <;> rfl), pbx HB⟩
 ·rw [if_neg c4] at H; have c4b0 : decide (1 ≤ a1) = false := decide_eq_false c4; clear c4; obtain rfl := Option.some.inj H
  go_enter Try.func16, Try.ntmps16
  go_wp2_with (first | ((with_reducible refine gate_dst (N:=3) rfl ?_); refine be_ (N:=3) (cs := #[.int .i64 a0_0, .int .i64 a0_1, .slice A0_2 l0_2.length c0_2]) (t:=24) ?_; intro gb101 hg w13 hbox hb; have BK101 := Aside0.mk (hbox); replace HB := bs_ HB hb; clear hb hbox hg))
  go_ret
  exact ⟨by first | rfl | (simp [errW_none, errW_some] <;> rfl) | (simp [*, errW_none, errW_some] <;> rfl), pbx HB⟩

def oculusref12_Bad.f (a0 : Int) : Option (Int × Int × ByteArray) := if a0 < 1 then (some (4, 2, (⟨#[]⟩ : ByteArray))) else (if a0 > 7 then (some (4, 2, (⟨#[]⟩ : ByteArray))) else (some (4, a0, (⟨#[]⟩ : ByteArray))))
set_option maxHeartbeats 8000000 in
set_option maxRecDepth 100000 in
theorem oculusref12_Bad.calls (a0 : Int) (r1 : Int) (r2 : Int) (r3 : ByteArray) (w : World) (h : oculusref12_Bad.f a0 = some (r1, r2, r3)) :
  Calls Try.prog 28 #[.int .i64 a0] w fun e w' => e = .returned (.agg #[.int .i64 r1, .int .i64 r2, .string r3]) ∧ Below w.heap.size w w' := by
 have hu26 := Try.underlying26; have HB := Aside0.mk (Below.refl w.heap.size w)
 have H : (if a0 < 1 then (some (4, 2, (⟨#[]⟩ : ByteArray))) else (if a0 > 7 then (some (4, 2, (⟨#[]⟩ : ByteArray))) else (some (4, a0, (⟨#[]⟩ : ByteArray))))) = some (r1, r2, r3) := h
 clear h
 by_cases c2 : a0 < 1
 ·rw [if_pos c2] at H; have c2b0 : decide (a0 < 1) = true := decide_eq_true c2; clear c2
  simp only [Option.some.injEq, Prod.mk.injEq] at H
  obtain ⟨rfl, rfl, rfl⟩ := H
  go_enter Try.func28, Try.ntmps28
  go_wp2_with (first | ((with_reducible refine gate_dst (N:=2) rfl ?_); refine be_ (N:=2) (cs := #[.int .i64 0, .int .i64 0, .string (⟨#[]⟩ : ByteArray)]) (t:=26) ?_; intro gb101 hg w3 hbox hb; have BK101 := Aside0.mk (hbox); have GW101 := hs_ HB hg; have GE101 := hs_ HB hg; replace HB := bs_ HB hb; clear hb hbox hg; have hcz4_0 : w3.cell? ⟨gb101, 0, none⟩ = some (.int .i64 0) := bc_ BK101 0 rfl; have hcz4_1 : w3.cell? ⟨gb101, 1, none⟩ = some (.int .i64 0) := bc_ BK101 1 rfl; have hcz4_2 : w3.cell? ⟨gb101, 2, none⟩ = some (.string (⟨#[]⟩ : ByteArray)) := bc_ BK101 2 rfl; have hfz4_0 := blk_frozen BK101.out 0; have hfz4_1 := blk_frozen BK101.out 1; have hfz4_2 := blk_frozen BK101.out 2))
  refine bodyPost_ret (results_cell_row rfl _ _ gb101 26 #[.int .i64 4, .int .i64 2, .string (⟨#[]⟩ : ByteArray)] (0, 0) _ rfl (by refine pp_ (cs := #[.int .i64 4, .int .i64 2, .string (⟨#[]⟩ : ByteArray)]) 2 ?_ rfl; refine pp_ (cs := #[.int .i64 4, .int .i64 0, .string (⟨#[]⟩ : ByteArray)]) 1 ?_ rfl; refine pp_ (cs := #[.int .i64 0, .int .i64 0, .string (⟨#[]⟩ : ByteArray)]) 0 ?_ rfl; exact pkx BK101) Try.underlying26 rfl (by kernel_rfl)) rfl ?_
  exact ⟨by first | rfl | (simp [errW_none, errW_some] <;> rfl) | (simp [*, errW_none, errW_some] <;> rfl), by repeat (first | (with_reducible first | exact HB.out | apply below_alloc | apply pw_below_drewN | apply below_drew1 | refine below_set ?_ GE101.out) | exact HB.out)⟩
 ·rw [if_neg c2] at H; have c2b0 : decide (a0 < 1) = false := decide_eq_false c2; clear c2
  by_cases c5 : a0 > 7
  ·rw [if_pos c5] at H; have c5b0 : decide (7 < a0) = true := decide_eq_true c5; clear c5
   simp only [Option.some.injEq, Prod.mk.injEq] at H
   obtain ⟨rfl, rfl, rfl⟩ := H
   go_enter Try.func28, Try.ntmps28
   go_wp2_with (first | ((with_reducible refine gate_dst (N:=2) rfl ?_); refine be_ (N:=2) (cs := #[.int .i64 0, .int .i64 0, .string (⟨#[]⟩ : ByteArray)]) (t:=26) ?_; intro gb101 hg w6 hbox hb; have BK101 := Aside0.mk (hbox); have GW101 := hs_ HB hg; have GE101 := hs_ HB hg; replace HB := bs_ HB hb; clear hb hbox hg; have hcz7_0 : w6.cell? ⟨gb101, 0, none⟩ = some (.int .i64 0) := bc_ BK101 0 rfl; have hcz7_1 : w6.cell? ⟨gb101, 1, none⟩ = some (.int .i64 0) := bc_ BK101 1 rfl; have hcz7_2 : w6.cell? ⟨gb101, 2, none⟩ = some (.string (⟨#[]⟩ : ByteArray)) := bc_ BK101 2 rfl; have hfz7_0 := blk_frozen BK101.out 0; have hfz7_1 := blk_frozen BK101.out 1; have hfz7_2 := blk_frozen BK101.out 2))
   refine bodyPost_ret (results_cell_row rfl _ _ gb101 26 #[.int .i64 4, .int .i64 2, .string (⟨#[]⟩ : ByteArray)] (0, 0) _ rfl (by refine pp_ (cs := #[.int .i64 4, .int .i64 2, .string (⟨#[]⟩ : ByteArray)]) 2 ?_ rfl; refine pp_ (cs := #[.int .i64 4, .int .i64 0, .string (⟨#[]⟩ : ByteArray)]) 1 ?_ rfl; refine pp_ (cs := #[.int .i64 0, .int .i64 0, .string (⟨#[]⟩ : ByteArray)]) 0 ?_ rfl; exact pkx BK101) Try.underlying26 rfl (by kernel_rfl)) rfl ?_
   exact ⟨by first | rfl | (simp [errW_none, errW_some] <;> rfl) | (simp [*, errW_none, errW_some] <;> rfl), by repeat (first | (with_reducible first | exact HB.out | apply below_alloc | apply pw_below_drewN | apply below_drew1 | refine below_set ?_ GE101.out) | exact HB.out)⟩
  ·rw [if_neg c5] at H; have c5b0 : decide (7 < a0) = false := decide_eq_false c5; clear c5
   simp only [Option.some.injEq, Prod.mk.injEq] at H
   obtain ⟨rfl, rfl, rfl⟩ := H
   go_enter Try.func28, Try.ntmps28
   go_wp2_with (first | ((with_reducible refine gate_dst (N:=2) rfl ?_); refine be_ (N:=2) (cs := #[.int .i64 0, .int .i64 0, .string (⟨#[]⟩ : ByteArray)]) (t:=26) ?_; intro gb101 hg w8 hbox hb; have BK101 := Aside0.mk (hbox); have GW101 := hs_ HB hg; have GE101 := hs_ HB hg; replace HB := bs_ HB hb; clear hb hbox hg; have hcz9_0 : w8.cell? ⟨gb101, 0, none⟩ = some (.int .i64 0) := bc_ BK101 0 rfl; have hcz9_1 : w8.cell? ⟨gb101, 1, none⟩ = some (.int .i64 0) := bc_ BK101 1 rfl; have hcz9_2 : w8.cell? ⟨gb101, 2, none⟩ = some (.string (⟨#[]⟩ : ByteArray)) := bc_ BK101 2 rfl; have hfz9_0 := blk_frozen BK101.out 0; have hfz9_1 := blk_frozen BK101.out 1; have hfz9_2 := blk_frozen BK101.out 2))
   refine bodyPost_ret (results_cell_row rfl _ _ gb101 26 #[.int .i64 4, .int .i64 a0, .string (⟨#[]⟩ : ByteArray)] (0, 0) _ rfl (by refine pp_ (cs := #[.int .i64 4, .int .i64 a0, .string (⟨#[]⟩ : ByteArray)]) 2 ?_ rfl; refine pp_ (cs := #[.int .i64 4, .int .i64 0, .string (⟨#[]⟩ : ByteArray)]) 1 ?_ rfl; refine pp_ (cs := #[.int .i64 0, .int .i64 0, .string (⟨#[]⟩ : ByteArray)]) 0 ?_ rfl; exact pkx BK101) Try.underlying26 rfl (by kernel_rfl)) rfl ?_
   exact ⟨by first | rfl | (simp [errW_none, errW_some] <;> rfl) | (simp [*, errW_none, errW_some] <;> rfl), by repeat (first | (with_reducible first | exact HB.out | apply below_alloc | apply pw_below_drewN | apply below_drew1 | refine below_set ?_ GE101.out) | exact HB.out)⟩

mutual
def oculusref12_Less.l0 : Nat → ByteArray → ByteArray → Int → Option (Bool)
 | 0, _, _, _ => none
 | k + 1, x0, x1, x5 => if x5 < (x0.size : Int) then (oculusref12_Less.j1 k x0 x1 x5 (decide (x5 < (x1.size : Int)))) else (oculusref12_Less.j1 k x0 x1 x5 false)
def oculusref12_Less.j1 : Nat → ByteArray → ByteArray → Int → Bool → Option (Bool)
 | 0, _, _, _, _ => none
 | k + 1, x0, x1, x5, x15 => if x15 = true then (if 0 ≤ x5 then (if x5 < (x0.size : Int) then (if x5 < (x1.size : Int) then (if (bt x0 x5) = (bt x1 x5) then (oculusref12_Less.l0 k x0 x1 (wrap64 (x5 + 1))) else (some (decide ((bt x0 x5) < (bt x1 x5))))) else (none)) else (none)) else (none)) else (some (decide ((x0.size : Int) < (x1.size : Int))))
end
def oculusref12_Less.f (k : Nat) (a0 : ByteArray) (a1 : ByteArray) : Option (Bool) := oculusref12_Less.l0 k a0 a1 0
set_option maxHeartbeats 8000000 in
set_option maxRecDepth 100000 in
theorem oculusref12_Less.calls (k : Nat) (a0 : ByteArray) (a1 : ByteArray) (r : Bool) (w : World) (h : oculusref12_Less.f k a0 a1 = some r) :
  Calls Try.prog 59 #[.string a0, .string a1] w fun e w' => e = .returned (.bool r) ∧ Drawn0 w w' := by
 have H : (oculusref12_Less.l0 k a0 a1 0) = some r := h
 clear h
 have H' := Aside0.mk H
 clear H
 go_enter Try.func59, Try.ntmps59
 go_wp2
 repeat (go_quiet (fail); try go_wp2)
 go_loopg [5] k (fun kq v5 w' => ∃ (x5_1 : Int), v5 = .int .i64 x5_1 ∧ Aside0 (oculusref12_Less.l0 kq a0 a1 x5_1 = some r) ∧ Aside0 (kq ≤ k) ∧ Drawn0 w w')
 case atStart => exact ⟨(0), (by first | rfl | (simp; done) | (simp [*]; done)), H', ⟨Nat.le_refl _⟩, by repeat (first | exact Drawn0.refl _ | apply Drawn0.step)⟩
 case round =>
  clear H'; (try clear p2); obtain ⟨x5_1, rfl, HA, HK1, ⟨m1, rfl⟩⟩ := hrel
  cases gk with
  | zero => exact absurd HA.out (by simp [oculusref12_Less.l0])
  | succ k1 =>
   have H := HA.out; clear HA
   simp only [oculusref12_Less.l0] at H
   have HC3 := Aside0.mk H; clear H
   go_upto_region 2 with (fail)
   repeat (go_quiet (fail); go_upto_region 2 with (fail))
   go_cut [15] (fun v15 wc => ∃ (kq : Nat) (x15_2 : Bool), v15 = .bool x15_2 ∧ Aside0 (oculusref12_Less.j1 kq a0 a1 x5_1 x15_2 = some r) ∧ Aside0 (kq ≤ k1) ∧ Drawn0 w wc)
   case first =>
    have H := HC3.out; clear HC3
    by_cases c4 : x5_1 < (a0.size : Int)
    ·rw [if_pos c4] at H; have c4b0 : decide (x5_1 < (a0.size : Int)) = true := decide_eq_true c4; clear c4; (first | rw [c4b0] | (simp only [i64_w, i32_w]; rw [c4b0]) | skip)
     have H' := Aside0.mk H
     clear H
     go_wp2
     repeat (go_quiet (fail); try go_wp2)
     go_meet
     case rel => exact ⟨_, (decide (x5_1 < (a1.size : Int))), (by first | rfl | (simp; done) | (simp [*]; done)), H', ⟨by have := HK1.out; first | omega | exact Nat.le_refl _⟩, by repeat (first | exact Drawn0.refl _ | apply Drawn0.step)⟩
    ·rw [if_neg c4] at H; have c4b0 : decide (x5_1 < (a0.size : Int)) = false := decide_eq_false c4; clear c4; (first | rw [c4b0] | (simp only [i64_w, i32_w]; rw [c4b0]) | skip)
     have H' := Aside0.mk H
     clear H
     go_wp2
     repeat (go_quiet (fail); try go_wp2)
     go_meet
     case rel => exact ⟨_, (false), (by first | rfl | (simp; done) | (simp [*]; done)), H', ⟨by have := HK1.out; first | omega | exact Nat.le_refl _⟩, by repeat (first | exact Drawn0.refl _ | apply Drawn0.step)⟩
   case rest =>
    clear HC3; (try clear p2); (try clear c4); (try clear c4b0); (try clear p2); obtain ⟨kq, x15_2, rfl, HA, HJ2, ⟨mc2, rfl⟩⟩ := hcut
    cases kq with
    | zero => exact absurd HA.out (by simp [oculusref12_Less.j1])
    | succ kj2 =>
     have H := HA.out; clear HA
     simp only [oculusref12_Less.j1] at H
     by_cases c5 : x15_2 = true
     ·subst c5
      have H1 : (if 0 ≤ x5_1 then (if x5_1 < (a0.size : Int) then (if x5_1 < (a1.size : Int) then (if (bt a0 x5_1) = (bt a1 x5_1) then (oculusref12_Less.l0 kj2 a0 a1 (wrap64 (x5_1 + 1))) else (some (decide ((bt a0 x5_1) < (bt a1 x5_1))))) else (none)) else (none)) else (none)) = some r := by rw [if_pos rfl] at H; exact H
      clear H; have H := H1; clear H1
      by_cases c6 : 0 ≤ x5_1
      ·rw [if_pos c6] at H; have c6b0 : decide (0 ≤ x5_1) = true := decide_eq_true c6; clear c6
       by_cases c7 : x5_1 < (a0.size : Int)
       ·rw [if_pos c7] at H; have c7b0 : decide (x5_1 < (a0.size : Int)) = true := decide_eq_true c7; clear c7
        by_cases c9 : x5_1 < (a1.size : Int)
        ·rw [if_pos c9] at H; have c9b0 : decide (x5_1 < (a1.size : Int)) = true := decide_eq_true c9; clear c9
         by_cases c11 : (bt a0 x5_1) = (bt a1 x5_1)
         ·rw [if_pos c11] at H; have c11b0 : ((bt a0 x5_1) == (bt a1 x5_1)) = true := beq_iff_eq.mpr c11; have c11b1 : ((bt a0 x5_1) != (bt a1 x5_1)) = false := bne_eq_false_iff_eq.mpr c11; clear c11
          have H' := Aside0.mk H
          clear H
          have p8 : 0 ≤ (x5_1 : Int) := of_decide_eq_true (by first | (with_reducible assumption) | assumption)
          have q8 : x5_1 < (a0.size : Int) := of_decide_eq_true (by first | (with_reducible assumption) | assumption)
          have hx8 := bt_at a0 x5_1; replace p8 := eq_true p8; replace q8 := eq_true q8
          have p10 : 0 ≤ (x5_1 : Int) := of_decide_eq_true (by first | (with_reducible assumption) | assumption)
          have q10 : x5_1 < (a1.size : Int) := of_decide_eq_true (by first | (with_reducible assumption) | assumption)
          have hx10 := bt_at a1 x5_1; replace p10 := eq_true p10; replace q10 := eq_true q10
          go_wp2
          repeat (go_quiet (fail); try go_wp2)
          go_roundg kj2
          case measure => have := HK1.out; have := HJ2.out; omega
          case rel => exact ⟨(wrap64 (x5_1 + 1)), (by first | rfl | (simp; done) | (simp [*]; done)), H', ⟨by have := HK1.out; have := HJ2.out; omega⟩, by repeat (first | exact Drawn0.refl _ | apply Drawn0.step)⟩
         ·rw [if_neg c11] at H; have c11b0 : ((bt a0 x5_1) == (bt a1 x5_1)) = false := beq_eq_false_iff_ne.mpr c11; have c11b1 : ((bt a0 x5_1) != (bt a1 x5_1)) = true := bne_iff_ne.mpr c11; obtain rfl := Option.some.inj H
          have p8 : 0 ≤ (x5_1 : Int) := of_decide_eq_true (by first | (with_reducible assumption) | assumption)
          have q8 : x5_1 < (a0.size : Int) := of_decide_eq_true (by first | (with_reducible assumption) | assumption)
          have hx8 := bt_at a0 x5_1; replace p8 := eq_true p8; replace q8 := eq_true q8
          have p10 : 0 ≤ (x5_1 : Int) := of_decide_eq_true (by first | (with_reducible assumption) | assumption)
          have q10 : x5_1 < (a1.size : Int) := of_decide_eq_true (by first | (with_reducible assumption) | assumption)
          have hx10 := bt_at a1 x5_1; replace p10 := eq_true p10; replace q10 := eq_true q10
          have p12 : 0 ≤ (x5_1 : Int) := of_decide_eq_true (by first | (with_reducible assumption) | assumption)
          have q12 : x5_1 < (a0.size : Int) := of_decide_eq_true (by first | (with_reducible assumption) | assumption)
          have hx12 := bt_at a0 x5_1; replace p12 := eq_true p12; replace q12 := eq_true q12
          have p13 : 0 ≤ (x5_1 : Int) := of_decide_eq_true (by first | (with_reducible assumption) | assumption)
          have q13 : x5_1 < (a1.size : Int) := of_decide_eq_true (by first | (with_reducible assumption) | assumption)
          have hx13 := bt_at a1 x5_1; replace p13 := eq_true p13; replace q13 := eq_true q13
          go_wp2
          repeat (go_quiet (fail); try go_wp2)
          go_ret
          exact ⟨by first | rfl | (simp; done) | (simp [*]; done), by repeat (first | exact Drawn0.refl _ | apply Drawn0.step)⟩
        ·rw [if_neg c9] at H
         exact absurd H (by simp)
       ·rw [if_neg c7] at H
        exact absurd H (by simp)
      ·rw [if_neg c6] at H
       exact absurd H (by simp)
     ·replace c5 := Bool.eq_false_iff.mpr c5; subst c5
      have H1 : (some (decide ((a0.size : Int) < (a1.size : Int)))) = some r := by rw [if_neg (show ¬ (false = true) by decide)] at H; exact H
      clear H; have H := H1; clear H1; obtain rfl := Option.some.inj H
      go_wp2
      repeat (go_quiet (fail); try go_wp2)
      go_ret
      exact ⟨by first | rfl | (simp; done) | (simp [*]; done), by repeat (first | exact Drawn0.refl _ | apply Drawn0.step)⟩

mutual
def oculusref12_ahead.j0 : Nat → Int → Int → Int → Int → ByteArray → Int → Int → ByteArray → Option (Bool)
 | 0, _, _, _, _, _, _, _, _ => none
 | k + 1, x5, x6, x102000, x102001, x102002, x103000, x103001, x103002 => if x6 = 0 then (oculusref12_ahead.j1 k x5 x5 x102000 x102001 x102002 x103000 x103001 x103002) else (oculusref12_ahead.j1 k x5 x6 x102000 x102001 x102002 x103000 x103001 x103002)
def oculusref12_ahead.j1 : Nat → Int → Int → Int → Int → ByteArray → Int → Int → ByteArray → Option (Bool)
 | 0, _, _, _, _, _, _, _, _ => none
 | k + 1, x5, x6, x102000, x102001, x102002, x103000, x103001, x103002 => if x5 = x6 then (if x102001 < x103001 then (some true) else ((oculusref12_Less.f k x102002 x103002).bind fun t103 => (some t103))) else (some (decide (x5 < x6)))
end
def oculusref12_ahead.f (k : Nat) (a0_0 : Int) (a0_1 : Int) (a0_2 : ByteArray) (a1_0 : Int) (a1_1 : Int) (a1_2 : ByteArray) : Option (Bool) := if a0_0 = 0 then (oculusref12_ahead.j0 k a1_0 a1_0 a0_0 a0_1 a0_2 a1_0 a1_1 a1_2) else (oculusref12_ahead.j0 k a0_0 a1_0 a0_0 a0_1 a0_2 a1_0 a1_1 a1_2)
set_option maxHeartbeats 8000000 in
set_option maxRecDepth 100000 in
theorem oculusref12_ahead.calls (k : Nat) (a0_0 : Int) (a0_1 : Int) (a0_2 : ByteArray) (a1_0 : Int) (a1_1 : Int) (a1_2 : ByteArray) (r : Bool) (w : World) (h : oculusref12_ahead.f k a0_0 a0_1 a0_2 a1_0 a1_1 a1_2 = some r) :
  Calls Try.prog 51 #[.agg #[.int .i64 a0_0, .int .i64 a0_1, .string a0_2], .agg #[.int .i64 a1_0, .int .i64 a1_1, .string a1_2]] w fun e w' => e = .returned (.bool r) ∧ Below w.heap.size w w' := by
 have hu26 := Try.underlying26; have HB := Aside0.mk (Below.refl w.heap.size w)
 have H : (if a0_0 = 0 then (oculusref12_ahead.j0 k a1_0 a1_0 a0_0 a0_1 a0_2 a1_0 a1_1 a1_2) else (oculusref12_ahead.j0 k a0_0 a1_0 a0_0 a0_1 a0_2 a1_0 a1_1 a1_2)) = some r := h
 clear h; have HC3 := Aside0.mk H; clear H
 go_enter Try.func51, Try.ntmps51
 go_upto_if 12 with (first | ((with_reducible refine gate_dst (N:=2) rfl ?_); refine be_ (N:=2) (cs := #[.int .i64 a0_0, .int .i64 a0_1, .string a0_2]) (t:=26) ?_; intro gb101 hg w4 hbox hb; have BK101 := Aside0.mk (hbox); replace HB := bs_ HB hb; clear hb hbox hg) | ((with_reducible refine gate_dst (N:=3) rfl ?_); refine be_ (N:=3) (cs := #[.int .i64 a1_0, .int .i64 a1_1, .string a1_2]) (t:=26) ?_; intro gb102 hg w5 hbox hb; have BK102 := Aside0.mk (hbox); replace BK101 := bb_ BK101 hb; replace HB := bs_ HB hb; clear hb hbox hg; have hcz6_0 : w5.cell? ⟨gb101, 0, none⟩ = some (.int .i64 a0_0) := bc_ BK101 0 rfl; have hcz6_1 : w5.cell? ⟨gb101, 1, none⟩ = some (.int .i64 a0_1) := bc_ BK101 1 rfl; have hcz6_2 : w5.cell? ⟨gb101, 2, none⟩ = some (.string a0_2) := bc_ BK101 2 rfl; have hcz7_0 : w5.cell? ⟨gb102, 0, none⟩ = some (.int .i64 a1_0) := bc_ BK102 0 rfl; have hcz7_1 : w5.cell? ⟨gb102, 1, none⟩ = some (.int .i64 a1_1) := bc_ BK102 1 rfl; have hcz7_2 : w5.cell? ⟨gb102, 2, none⟩ = some (.string a1_2) := bc_ BK102 2 rfl))
 repeat (go_quiet (first | ((with_reducible refine gate_dst (N:=2) rfl ?_); refine be_ (N:=2) (cs := #[.int .i64 a0_0, .int .i64 a0_1, .string a0_2]) (t:=26) ?_; intro gb101 hg w4 hbox hb; have BK101 := Aside0.mk (hbox); replace HB := bs_ HB hb; clear hb hbox hg) | ((with_reducible refine gate_dst (N:=3) rfl ?_); refine be_ (N:=3) (cs := #[.int .i64 a1_0, .int .i64 a1_1, .string a1_2]) (t:=26) ?_; intro gb102 hg w5 hbox hb; have BK102 := Aside0.mk (hbox); replace BK101 := bb_ BK101 hb; replace HB := bs_ HB hb; clear hb hbox hg; have hcz6_0 : w5.cell? ⟨gb101, 0, none⟩ = some (.int .i64 a0_0) := bc_ BK101 0 rfl; have hcz6_1 : w5.cell? ⟨gb101, 1, none⟩ = some (.int .i64 a0_1) := bc_ BK101 1 rfl; have hcz6_2 : w5.cell? ⟨gb101, 2, none⟩ = some (.string a0_2) := bc_ BK101 2 rfl; have hcz7_0 : w5.cell? ⟨gb102, 0, none⟩ = some (.int .i64 a1_0) := bc_ BK102 0 rfl; have hcz7_1 : w5.cell? ⟨gb102, 1, none⟩ = some (.int .i64 a1_1) := bc_ BK102 1 rfl; have hcz7_2 : w5.cell? ⟨gb102, 2, none⟩ = some (.string a1_2) := bc_ BK102 2 rfl)); go_upto_if 12 with (first | ((with_reducible refine gate_dst (N:=2) rfl ?_); refine be_ (N:=2) (cs := #[.int .i64 a0_0, .int .i64 a0_1, .string a0_2]) (t:=26) ?_; intro gb101 hg w4 hbox hb; have BK101 := Aside0.mk (hbox); replace HB := bs_ HB hb; clear hb hbox hg) | ((with_reducible refine gate_dst (N:=3) rfl ?_); refine be_ (N:=3) (cs := #[.int .i64 a1_0, .int .i64 a1_1, .string a1_2]) (t:=26) ?_; intro gb102 hg w5 hbox hb; have BK102 := Aside0.mk (hbox); replace BK101 := bb_ BK101 hb; replace HB := bs_ HB hb; clear hb hbox hg; have hcz6_0 : w5.cell? ⟨gb101, 0, none⟩ = some (.int .i64 a0_0) := bc_ BK101 0 rfl; have hcz6_1 : w5.cell? ⟨gb101, 1, none⟩ = some (.int .i64 a0_1) := bc_ BK101 1 rfl; have hcz6_2 : w5.cell? ⟨gb101, 2, none⟩ = some (.string a0_2) := bc_ BK101 2 rfl; have hcz7_0 : w5.cell? ⟨gb102, 0, none⟩ = some (.int .i64 a1_0) := bc_ BK102 0 rfl; have hcz7_1 : w5.cell? ⟨gb102, 1, none⟩ = some (.int .i64 a1_1) := bc_ BK102 1 rfl; have hcz7_2 : w5.cell? ⟨gb102, 2, none⟩ = some (.string a1_2) := bc_ BK102 2 rfl)))
 (try simp only [q_])
 go_cut [5] (fun v5 wc => ∃ (kq : Nat) (x5_2 : Int), v5 = .int .i64 x5_2 ∧ Aside0 (oculusref12_ahead.j0 kq x5_2 a1_0 a0_0 a0_1 a0_2 a1_0 a1_1 a1_2 = some r) ∧ Aside0 (kq ≤ k) ∧ Aside0 (wc.heap[gb101]? = some (.cells #[.int .i64 a0_0, .int .i64 a0_1, .string a0_2] 26 (0, 0))) ∧ Aside0 (wc.heap[gb102]? = some (.cells #[.int .i64 a1_0, .int .i64 a1_1, .string a1_2] 26 (0, 0))) ∧ Aside0 (Below w.heap.size w wc))
 case first =>
  have H := HC3.out; clear HC3
  by_cases c8 : a0_0 = 0
  ·rw [if_pos c8] at H; have c8b0 : (a0_0 == 0) = true := beq_iff_eq.mpr c8; have c8b1 : (a0_0 != 0) = false := bne_eq_false_iff_eq.mpr c8; clear c8; (first | rw [c8b0] | (simp only [i64_w, i32_w]; rw [c8b0]) | skip)
   have H' := Aside0.mk H
   clear H
   go_wp2
   repeat (go_quiet (fail); try go_wp2)
   go_meet
   case rel => exact ⟨_, (a1_0), (by first | rfl | (simp; done) | (simp [*]; done)), H', ⟨by first | omega | exact Nat.le_refl _⟩, ⟨pkx BK101⟩, ⟨pkx BK102⟩, ⟨pbx HB⟩⟩
  ·rw [if_neg c8] at H; have c8b0 : (a0_0 == 0) = false := beq_eq_false_iff_ne.mpr c8; have c8b1 : (a0_0 != 0) = true := bne_iff_ne.mpr c8; (first | rw [c8b0] | (simp only [i64_w, i32_w]; rw [c8b0]) | skip)
   have H' := Aside0.mk H
   clear H
   go_wp2
   repeat (go_quiet (fail); try go_wp2)
   go_meet
   case rel => exact ⟨_, (a0_0), (by first | rfl | (simp; done) | (simp [*]; done)), H', ⟨by first | omega | exact Nat.le_refl _⟩, ⟨pkx BK101⟩, ⟨pkx BK102⟩, ⟨pbx HB⟩⟩
 case rest =>
  clear HC3; (try clear p2); (try clear c5); (try clear c8); (try clear c8b0); (try clear c8b1); (try clear hcz6_0); (try clear hcz6_1); (try clear hcz6_2); (try clear hcz7_0); (try clear hcz7_1); (try clear hcz7_2); obtain ⟨kq, x5_2, rfl, HA, HJ2, BK101, BK102, HB⟩ := hcut
  cases kq with
  | zero => exact absurd HA.out (by simp [oculusref12_ahead.j0])
  | succ kj2 =>
   have H := HA.out; clear HA
   simp only [oculusref12_ahead.j0] at H
   have HC9 := Aside0.mk H; clear H
   go_upto_if 15 with (fail)
   repeat (go_quiet (fail); go_upto_if 15 with (fail))
   go_cut [6] (fun v6 wc => ∃ (kq : Nat) (x6_8 : Int), v6 = .int .i64 x6_8 ∧ Aside0 (oculusref12_ahead.j1 kq x5_2 x6_8 a0_0 a0_1 a0_2 a1_0 a1_1 a1_2 = some r) ∧ Aside0 (kq ≤ kj2) ∧ Aside0 (wc.heap[gb101]? = some (.cells #[.int .i64 a0_0, .int .i64 a0_1, .string a0_2] 26 (0, 0))) ∧ Aside0 (wc.heap[gb102]? = some (.cells #[.int .i64 a1_0, .int .i64 a1_1, .string a1_2] 26 (0, 0))) ∧ Aside0 (Below w.heap.size w wc))
   case first =>
    have H := HC9.out; clear HC9
    by_cases c10 : a1_0 = 0
    ·rw [if_pos c10] at H; have c10b0 : (a1_0 == 0) = true := beq_iff_eq.mpr c10; have c10b1 : (a1_0 != 0) = false := bne_eq_false_iff_eq.mpr c10; clear c10; (first | rw [c10b0] | (simp only [i64_w, i32_w]; rw [c10b0]) | skip)
     have H' := Aside0.mk H
     clear H
     go_wp2
     repeat (go_quiet (fail); try go_wp2)
     go_meet
     case rel => exact ⟨_, (x5_2), (by first | rfl | (simp; done) | (simp [*]; done)), H', ⟨by have := HJ2.out; first | omega | exact Nat.le_refl _⟩, ⟨pkx BK101⟩, ⟨pkx BK102⟩, ⟨pbx HB⟩⟩
    ·rw [if_neg c10] at H; have c10b0 : (a1_0 == 0) = false := beq_eq_false_iff_ne.mpr c10; have c10b1 : (a1_0 != 0) = true := bne_iff_ne.mpr c10; (first | rw [c10b0] | (simp only [i64_w, i32_w]; rw [c10b0]) | skip)
     have H' := Aside0.mk H
     clear H
     go_wp2
     repeat (go_quiet (fail); try go_wp2)
     go_meet
     case rel => exact ⟨_, (a1_0), (by first | rfl | (simp; done) | (simp [*]; done)), H', ⟨by have := HJ2.out; first | omega | exact Nat.le_refl _⟩, ⟨pkx BK101⟩, ⟨pkx BK102⟩, ⟨pbx HB⟩⟩
   case rest =>
    clear HC9; (try clear c1); (try clear p2); (try clear c5); (try clear c8); (try clear c8b0); (try clear c8b1); (try clear c10); (try clear c10b0); (try clear c10b1); (try clear hcz6_0); (try clear hcz6_1); (try clear hcz6_2); (try clear hcz7_0); (try clear hcz7_1); (try clear hcz7_2); (try clear p2); obtain ⟨kq, x6_8, rfl, HA, HJ8, BK101, BK102, HB⟩ := hcut
    cases kq with
    | zero => exact absurd HA.out (by simp [oculusref12_ahead.j1])
    | succ kj8 =>
     have H := HA.out; clear HA
     simp only [oculusref12_ahead.j1] at H
     by_cases c11 : x5_2 = x6_8
     ·rw [if_pos c11] at H; have c11b0 : (x5_2 == x6_8) = true := beq_iff_eq.mpr c11; have c11b1 : (x5_2 != x6_8) = false := bne_eq_false_iff_eq.mpr c11; clear c11
      by_cases c12 : a0_1 < a1_1
      ·rw [if_pos c12] at H; have c12b0 : decide (a0_1 < a1_1) = true := decide_eq_true c12; clear c12; obtain rfl := Option.some.inj H
       have hcz13_0 : wc.cell? ⟨gb101, 0, none⟩ = some (.int .i64 a0_0) := bc_ BK101 0 rfl
       have hcz13_1 : wc.cell? ⟨gb101, 1, none⟩ = some (.int .i64 a0_1) := bc_ BK101 1 rfl
       have hcz13_2 : wc.cell? ⟨gb101, 2, none⟩ = some (.string a0_2) := bc_ BK101 2 rfl
       have hcz14_0 : wc.cell? ⟨gb102, 0, none⟩ = some (.int .i64 a1_0) := bc_ BK102 0 rfl
       have hcz14_1 : wc.cell? ⟨gb102, 1, none⟩ = some (.int .i64 a1_1) := bc_ BK102 1 rfl
       have hcz14_2 : wc.cell? ⟨gb102, 2, none⟩ = some (.string a1_2) := bc_ BK102 2 rfl
       go_wp2
       repeat (go_quiet (fail); try go_wp2)
       go_ret
       exact ⟨by first | rfl | (simp [errW_none, errW_some] <;> rfl) | (simp [*, errW_none, errW_some] <;> rfl), pbx HB⟩
      ·rw [if_neg c12] at H; have c12b0 : decide (a0_1 < a1_1) = false := decide_eq_false c12; clear c12; replace H := Option.bind_eq_some_iff.mp H; obtain ⟨t103, A150, H⟩ := H
       replace H : (some t103) = some r := H
       have A15 := Aside0.mk A150; clear A150; obtain rfl := Option.some.inj H
       have hcz16_0 : wc.cell? ⟨gb101, 0, none⟩ = some (.int .i64 a0_0) := bc_ BK101 0 rfl
       have hcz16_1 : wc.cell? ⟨gb101, 1, none⟩ = some (.int .i64 a0_1) := bc_ BK101 1 rfl
       have hcz16_2 : wc.cell? ⟨gb101, 2, none⟩ = some (.string a0_2) := bc_ BK101 2 rfl
       have hcz17_0 : wc.cell? ⟨gb102, 0, none⟩ = some (.int .i64 a1_0) := bc_ BK102 0 rfl
       have hcz17_1 : wc.cell? ⟨gb102, 1, none⟩ = some (.int .i64 a1_1) := bc_ BK102 1 rfl
       have hcz17_2 : wc.cell? ⟨gb102, 2, none⟩ = some (.string a1_2) := bc_ BK102 2 rfl
       go_wp2_with (first | (go_at_call 59; (with_reducible refine (oculusref12_Less.calls kj8 a0_2 a1_2 t103 _ A15.out).mono ?_); rintro e w' ⟨rfl, ⟨nd, rfl⟩⟩; (try first | exact ⟨rfl, _, World.drewN_drewN _ _ _⟩ | exact ⟨rfl, _, Eq.trans (World.drewN_drewN _ _ _) (congrArg (World.drewN _) (Nat.add_assoc _ _ _))⟩)))
       repeat (go_quiet (first | (go_at_call 59; (with_reducible refine (oculusref12_Less.calls kj8 a0_2 a1_2 t103 _ A15.out).mono ?_); rintro e w' ⟨rfl, ⟨nd, rfl⟩⟩; (try first | exact ⟨rfl, _, World.drewN_drewN _ _ _⟩ | exact ⟨rfl, _, Eq.trans (World.drewN_drewN _ _ _) (congrArg (World.drewN _) (Nat.add_assoc _ _ _))⟩))); try go_wp2_with (first | (go_at_call 59; (with_reducible refine (oculusref12_Less.calls kj8 a0_2 a1_2 t103 _ A15.out).mono ?_); rintro e w' ⟨rfl, ⟨nd, rfl⟩⟩; (try first | exact ⟨rfl, _, World.drewN_drewN _ _ _⟩ | exact ⟨rfl, _, Eq.trans (World.drewN_drewN _ _ _) (congrArg (World.drewN _) (Nat.add_assoc _ _ _))⟩))))
       go_ret
       exact ⟨by first | rfl | (simp [errW_none, errW_some] <;> rfl) | (simp [*, errW_none, errW_some] <;> rfl), pbx HB⟩
     ·rw [if_neg c11] at H; have c11b0 : (x5_2 == x6_8) = false := beq_eq_false_iff_ne.mpr c11; have c11b1 : (x5_2 != x6_8) = true := bne_iff_ne.mpr c11; obtain rfl := Option.some.inj H
      go_wp2
      repeat (go_quiet (fail); try go_wp2)
      go_ret
      exact ⟨by first | rfl | (simp [errW_none, errW_some] <;> rfl) | (simp [*, errW_none, errW_some] <;> rfl), pbx HB⟩

def oculusref12_Compare.j0 : Nat → Bool → Int → Int → ByteArray → Int → Int → ByteArray → Option (Int)
 | 0, _, _, _, _, _, _, _ => none
 | k + 1, x12, x102000, x102001, x102002, x103000, x103001, x103002 => if x12 = true then (some 0) else ((oculusref12_ahead.f k x102000 x102001 x102002 x103000 x103001 x103002).bind fun t103 => (if t103 = true then (some (-1)) else ((oculusref12_ahead.f k x103000 x103001 x103002 x102000 x102001 x102002).bind fun t104 => (if t104 = true then (some 1) else (some 0)))))
def oculusref12_Compare.f (k : Nat) (a0_0 : Int) (a0_1 : Int) (a0_2 : ByteArray) (a1_0 : Int) (a1_1 : Int) (a1_2 : ByteArray) : Option (Int) := if a0_0 = 4 then (oculusref12_Compare.j0 k true a0_0 a0_1 a0_2 a1_0 a1_1 a1_2) else (oculusref12_Compare.j0 k (a1_0 == 4) a0_0 a0_1 a0_2 a1_0 a1_1 a1_2)
set_option maxHeartbeats 8000000 in
set_option maxRecDepth 100000 in
theorem oculusref12_Compare.calls (k : Nat) (a0_0 : Int) (a0_1 : Int) (a0_2 : ByteArray) (a1_0 : Int) (a1_1 : Int) (a1_2 : ByteArray) (r : Int) (w : World) (h : oculusref12_Compare.f k a0_0 a0_1 a0_2 a1_0 a1_1 a1_2 = some r) :
  Calls Try.prog 41 #[.agg #[.int .i64 a0_0, .int .i64 a0_1, .string a0_2], .agg #[.int .i64 a1_0, .int .i64 a1_1, .string a1_2]] w fun e w' => e = .returned (.int .i64 r) ∧ Below w.heap.size w w' := by
 have hu26 := Try.underlying26; have HB := Aside0.mk (Below.refl w.heap.size w)
 have H : (if a0_0 = 4 then (oculusref12_Compare.j0 k true a0_0 a0_1 a0_2 a1_0 a1_1 a1_2) else (oculusref12_Compare.j0 k (a1_0 == 4) a0_0 a0_1 a0_2 a1_0 a1_1 a1_2)) = some r := h
 clear h; have HC3 := Aside0.mk H; clear H
 go_enter Try.func41, Try.ntmps41
 go_upto_region 1 with (first | ((with_reducible refine gate_dst (N:=2) rfl ?_); refine be_ (N:=2) (cs := #[.int .i64 a0_0, .int .i64 a0_1, .string a0_2]) (t:=26) ?_; intro gb101 hg w4 hbox hb; have BK101 := Aside0.mk (hbox); replace HB := bs_ HB hb; clear hb hbox hg) | ((with_reducible refine gate_dst (N:=3) rfl ?_); refine be_ (N:=3) (cs := #[.int .i64 a1_0, .int .i64 a1_1, .string a1_2]) (t:=26) ?_; intro gb102 hg w5 hbox hb; have BK102 := Aside0.mk (hbox); replace BK101 := bb_ BK101 hb; replace HB := bs_ HB hb; clear hb hbox hg))
 (try simp only [q_])
 go_cut [12] (fun v12 wc => ∃ (kq : Nat) (x12_2 : Bool), v12 = .bool x12_2 ∧ Aside0 (oculusref12_Compare.j0 kq x12_2 a0_0 a0_1 a0_2 a1_0 a1_1 a1_2 = some r) ∧ Aside0 (kq ≤ k) ∧ Aside0 (wc.heap[gb101]? = some (.cells #[.int .i64 a0_0, .int .i64 a0_1, .string a0_2] 26 (0, 0))) ∧ Aside0 (wc.heap[gb102]? = some (.cells #[.int .i64 a1_0, .int .i64 a1_1, .string a1_2] 26 (0, 0))) ∧ Aside0 (Below w.heap.size w wc))
 case first =>
  have H := HC3.out; clear HC3
  by_cases c6 : a0_0 = 4
  ·rw [if_pos c6] at H; have c6b0 : (a0_0 == 4) = true := beq_iff_eq.mpr c6; have c6b1 : (a0_0 != 4) = false := bne_eq_false_iff_eq.mpr c6; clear c6; (first | rw [c6b0] | (simp only [i64_w, i32_w]; rw [c6b0]) | skip)
   have H' := Aside0.mk H
   clear H
   have hcz7_0 : w5.cell? ⟨gb101, 0, none⟩ = some (.int .i64 a0_0) := bc_ BK101 0 rfl
   have hcz7_1 : w5.cell? ⟨gb101, 1, none⟩ = some (.int .i64 a0_1) := bc_ BK101 1 rfl
   have hcz7_2 : w5.cell? ⟨gb101, 2, none⟩ = some (.string a0_2) := bc_ BK101 2 rfl
   go_wp2
   go_meet
   case rel => exact ⟨_, (true), (by first | rfl | (simp; done) | (simp [*]; done)), H', ⟨by first | omega | exact Nat.le_refl _⟩, ⟨pkx BK101⟩, ⟨pkx BK102⟩, ⟨pbx HB⟩⟩
  ·rw [if_neg c6] at H; have c6b0 : (a0_0 == 4) = false := beq_eq_false_iff_ne.mpr c6; have c6b1 : (a0_0 != 4) = true := bne_iff_ne.mpr c6; (first | rw [c6b0] | (simp only [i64_w, i32_w]; rw [c6b0]) | skip)
   have H' := Aside0.mk H
   clear H
   have hcz8_0 : w5.cell? ⟨gb101, 0, none⟩ = some (.int .i64 a0_0) := bc_ BK101 0 rfl
   have hcz8_1 : w5.cell? ⟨gb101, 1, none⟩ = some (.int .i64 a0_1) := bc_ BK101 1 rfl
   have hcz8_2 : w5.cell? ⟨gb101, 2, none⟩ = some (.string a0_2) := bc_ BK101 2 rfl
   have hcz9_0 : w5.cell? ⟨gb102, 0, none⟩ = some (.int .i64 a1_0) := bc_ BK102 0 rfl
   have hcz9_1 : w5.cell? ⟨gb102, 1, none⟩ = some (.int .i64 a1_1) := bc_ BK102 1 rfl
   have hcz9_2 : w5.cell? ⟨gb102, 2, none⟩ = some (.string a1_2) := bc_ BK102 2 rfl
   go_wp2
   go_meet
   case rel => exact ⟨_, ((a1_0 == 4)), (by first | rfl | (simp; done) | (simp [*]; done)), H', ⟨by first | omega | exact Nat.le_refl _⟩, ⟨pkx BK101⟩, ⟨pkx BK102⟩, ⟨pbx HB⟩⟩
 case rest =>
  clear HC3; (try clear p2); (try clear c4); (try clear c6); (try clear c6b0); (try clear c6b1); (try clear hcz7_0); (try clear hcz7_1); (try clear hcz7_2); (try clear hcz8_0); (try clear hcz8_1); (try clear hcz8_2); (try clear hcz9_0); (try clear hcz9_1); (try clear hcz9_2); obtain ⟨kq, x12_2, rfl, HA, HJ2, BK101, BK102, HB⟩ := hcut
  cases kq with
  | zero => exact absurd HA.out (by simp [oculusref12_Compare.j0])
  | succ kj2 =>
   have H := HA.out; clear HA
   simp only [oculusref12_Compare.j0] at H
   by_cases c10 : x12_2 = true
   ·subst c10
    have H1 : (some 0) = some r := by rw [if_pos rfl] at H; exact H
    clear H; have H := H1; clear H1; obtain rfl := Option.some.inj H
    go_wp2
    go_ret
    exact ⟨by first | rfl | (simp [errW_none, errW_some] <;> rfl) | (simp [*, errW_none, errW_some] <;> rfl), pbx HB⟩
   ·replace c10 := Bool.eq_false_iff.mpr c10; subst c10
    have H1 : ((oculusref12_ahead.f kj2 a0_0 a0_1 a0_2 a1_0 a1_1 a1_2).bind fun t103 => (if t103 = true then (some (-1)) else ((oculusref12_ahead.f kj2 a1_0 a1_1 a1_2 a0_0 a0_1 a0_2).bind fun t104 => (if t104 = true then (some 1) else (some 0))))) = some r := by rw [if_neg (show ¬ (false = true) by decide)] at H; exact H
    clear H; have H := H1; clear H1; replace H := Option.bind_eq_some_iff.mp H; obtain ⟨t103, A110, H⟩ := H
    replace H : (if t103 = true then (some (-1)) else ((oculusref12_ahead.f kj2 a1_0 a1_1 a1_2 a0_0 a0_1 a0_2).bind fun t104 => (if t104 = true then (some 1) else (some 0)))) = some r := H
    have A11 := Aside0.mk A110; clear A110
    by_cases c12 : t103 = true
    ·subst c12
     have H1 : (some (-1)) = some r := by rw [if_pos rfl] at H; exact H
     clear H; have H := H1; clear H1; obtain rfl := Option.some.inj H
     have hcz13_0 : wc.cell? ⟨gb101, 0, none⟩ = some (.int .i64 a0_0) := bc_ BK101 0 rfl
     have hcz13_1 : wc.cell? ⟨gb101, 1, none⟩ = some (.int .i64 a0_1) := bc_ BK101 1 rfl
     have hcz13_2 : wc.cell? ⟨gb101, 2, none⟩ = some (.string a0_2) := bc_ BK101 2 rfl
     have hcz14_0 : wc.cell? ⟨gb102, 0, none⟩ = some (.int .i64 a1_0) := bc_ BK102 0 rfl
     have hcz14_1 : wc.cell? ⟨gb102, 1, none⟩ = some (.int .i64 a1_1) := bc_ BK102 1 rfl
     have hcz14_2 : wc.cell? ⟨gb102, 2, none⟩ = some (.string a1_2) := bc_ BK102 2 rfl
     go_wp2_with (first | ((with_reducible refine gate_callee (f:=51) rfl ?_); refine gL_ (some 15) rfl rfl Try.func51 rfl #[.agg #[.int .i64 a0_0, .int .i64 a0_1, .string a0_2], .agg #[.int .i64 a1_0, .int .i64 a1_1, .string a1_2]] rfl ?_; (with_reducible refine (oculusref12_ahead.calls kj2 a0_0 a0_1 a0_2 a1_0 a1_1 a1_2 true _ A11.out).mono ?_); rintro e w15 ⟨rfl, hb⟩; refine ⟨_, rfl, ?_⟩; replace BK101 := bb_ BK101 hb; replace BK102 := bb_ BK102 hb; replace HB := bs_ HB hb; (try clear hb); (try clear hb2); (try clear hk); (try clear hi)))
     go_ret
     exact ⟨by first | rfl | (simp [errW_none, errW_some] <;> rfl) | (simp [*, errW_none, errW_some] <;> rfl), pbx HB⟩
    ·replace c12 := Bool.eq_false_iff.mpr c12; subst c12
     have H1 : ((oculusref12_ahead.f kj2 a1_0 a1_1 a1_2 a0_0 a0_1 a0_2).bind fun t104 => (if t104 = true then (some 1) else (some 0))) = some r := by rw [if_neg (show ¬ (false = true) by decide)] at H; exact H
     clear H; have H := H1; clear H1; replace H := Option.bind_eq_some_iff.mp H; obtain ⟨t104, A160, H⟩ := H
     replace H : (if t104 = true then (some 1) else (some 0)) = some r := H
     have A16 := Aside0.mk A160; clear A160
     by_cases c17 : t104 = true
     ·subst c17
      have H1 : (some 1) = some r := by rw [if_pos rfl] at H; exact H
      clear H; have H := H1; clear H1; obtain rfl := Option.some.inj H
      have hcz18_0 : wc.cell? ⟨gb101, 0, none⟩ = some (.int .i64 a0_0) := bc_ BK101 0 rfl
      have hcz18_1 : wc.cell? ⟨gb101, 1, none⟩ = some (.int .i64 a0_1) := bc_ BK101 1 rfl
      have hcz18_2 : wc.cell? ⟨gb101, 2, none⟩ = some (.string a0_2) := bc_ BK101 2 rfl
      have hcz19_0 : wc.cell? ⟨gb102, 0, none⟩ = some (.int .i64 a1_0) := bc_ BK102 0 rfl
      have hcz19_1 : wc.cell? ⟨gb102, 1, none⟩ = some (.int .i64 a1_1) := bc_ BK102 1 rfl
      have hcz19_2 : wc.cell? ⟨gb102, 2, none⟩ = some (.string a1_2) := bc_ BK102 2 rfl
      go_wp2_with (first | ((with_reducible refine gate_callee (f:=51) rfl ?_); refine gL_ (some 15) rfl rfl Try.func51 rfl #[.agg #[.int .i64 a0_0, .int .i64 a0_1, .string a0_2], .agg #[.int .i64 a1_0, .int .i64 a1_1, .string a1_2]] rfl ?_; (with_reducible refine (oculusref12_ahead.calls kj2 a0_0 a0_1 a0_2 a1_0 a1_1 a1_2 false _ A11.out).mono ?_); rintro e w20 ⟨rfl, hb⟩; refine ⟨_, rfl, ?_⟩; replace BK101 := bb_ BK101 hb; replace BK102 := bb_ BK102 hb; replace HB := bs_ HB hb; (try clear hb); (try clear hb2); (try clear hk); (try clear hi); have hcz21_0 : w20.cell? ⟨gb102, 0, none⟩ = some (.int .i64 a1_0) := bc_ BK102 0 rfl; have hcz21_1 : w20.cell? ⟨gb102, 1, none⟩ = some (.int .i64 a1_1) := bc_ BK102 1 rfl; have hcz21_2 : w20.cell? ⟨gb102, 2, none⟩ = some (.string a1_2) := bc_ BK102 2 rfl; have hcz22_0 : w20.cell? ⟨gb101, 0, none⟩ = some (.int .i64 a0_0) := bc_ BK101 0 rfl; have hcz22_1 : w20.cell? ⟨gb101, 1, none⟩ = some (.int .i64 a0_1) := bc_ BK101 1 rfl; have hcz22_2 : w20.cell? ⟨gb101, 2, none⟩ = some (.string a0_2) := bc_ BK101 2 rfl) | ((with_reducible refine gate_callee (f:=51) rfl ?_); refine gL_ (some 18) rfl rfl Try.func51 rfl #[.agg #[.int .i64 a1_0, .int .i64 a1_1, .string a1_2], .agg #[.int .i64 a0_0, .int .i64 a0_1, .string a0_2]] rfl ?_; (with_reducible refine (oculusref12_ahead.calls kj2 a1_0 a1_1 a1_2 a0_0 a0_1 a0_2 true _ A16.out).mono ?_); rintro e w23 ⟨rfl, hb⟩; refine ⟨_, rfl, ?_⟩; replace BK101 := bb_ BK101 hb; replace BK102 := bb_ BK102 hb; replace HB := bs_ HB hb; (try clear hb); (try clear hb2); (try clear hk); (try clear hi)))
      go_ret
      exact ⟨by first | rfl | (simp [errW_none, errW_some] <;> rfl) | (simp [*, errW_none, errW_some] <;> rfl), pbx HB⟩
     ·replace c17 := Bool.eq_false_iff.mpr c17; subst c17
      have H1 : (some 0) = some r := by rw [if_neg (show ¬ (false = true) by decide)] at H; exact H
      clear H; have H := H1; clear H1; obtain rfl := Option.some.inj H
      have hcz24_0 : wc.cell? ⟨gb101, 0, none⟩ = some (.int .i64 a0_0) := bc_ BK101 0 rfl
      have hcz24_1 : wc.cell? ⟨gb101, 1, none⟩ = some (.int .i64 a0_1) := bc_ BK101 1 rfl
      have hcz24_2 : wc.cell? ⟨gb101, 2, none⟩ = some (.string a0_2) := bc_ BK101 2 rfl
      have hcz25_0 : wc.cell? ⟨gb102, 0, none⟩ = some (.int .i64 a1_0) := bc_ BK102 0 rfl
      have hcz25_1 : wc.cell? ⟨gb102, 1, none⟩ = some (.int .i64 a1_1) := bc_ BK102 1 rfl
      have hcz25_2 : wc.cell? ⟨gb102, 2, none⟩ = some (.string a1_2) := bc_ BK102 2 rfl
      go_wp2_with (first | ((with_reducible refine gate_callee (f:=51) rfl ?_); refine gL_ (some 15) rfl rfl Try.func51 rfl #[.agg #[.int .i64 a0_0, .int .i64 a0_1, .string a0_2], .agg #[.int .i64 a1_0, .int .i64 a1_1, .string a1_2]] rfl ?_; (with_reducible refine (oculusref12_ahead.calls kj2 a0_0 a0_1 a0_2 a1_0 a1_1 a1_2 false _ A11.out).mono ?_); rintro e w26 ⟨rfl, hb⟩; refine ⟨_, rfl, ?_⟩; replace BK101 := bb_ BK101 hb; replace BK102 := bb_ BK102 hb; replace HB := bs_ HB hb; (try clear hb); (try clear hb2); (try clear hk); (try clear hi); have hcz27_0 : w26.cell? ⟨gb102, 0, none⟩ = some (.int .i64 a1_0) := bc_ BK102 0 rfl; have hcz27_1 : w26.cell? ⟨gb102, 1, none⟩ = some (.int .i64 a1_1) := bc_ BK102 1 rfl; have hcz27_2 : w26.cell? ⟨gb102, 2, none⟩ = some (.string a1_2) := bc_ BK102 2 rfl; have hcz28_0 : w26.cell? ⟨gb101, 0, none⟩ = some (.int .i64 a0_0) := bc_ BK101 0 rfl; have hcz28_1 : w26.cell? ⟨gb101, 1, none⟩ = some (.int .i64 a0_1) := bc_ BK101 1 rfl; have hcz28_2 : w26.cell? ⟨gb101, 2, none⟩ = some (.string a0_2) := bc_ BK101 2 rfl) | ((with_reducible refine gate_callee (f:=51) rfl ?_); refine gL_ (some 18) rfl rfl Try.func51 rfl #[.agg #[.int .i64 a1_0, .int .i64 a1_1, .string a1_2], .agg #[.int .i64 a0_0, .int .i64 a0_1, .string a0_2]] rfl ?_; (with_reducible refine (oculusref12_ahead.calls kj2 a1_0 a1_1 a1_2 a0_0 a0_1 a0_2 false _ A16.out).mono ?_); rintro e w29 ⟨rfl, hb⟩; refine ⟨_, rfl, ?_⟩; replace BK101 := bb_ BK101 hb; replace BK102 := bb_ BK102 hb; replace HB := bs_ HB hb; (try clear hb); (try clear hb2); (try clear hk); (try clear hi)))
      go_ret
      exact ⟨by first | rfl | (simp [errW_none, errW_some] <;> rfl) | (simp [*, errW_none, errW_some] <;> rfl), pbx HB⟩

def oculusref18_found.f (k : Nat) (a0_0 : Int) (a0_1 : Int) (a0_2 : ByteArray) (a1_0 : Int) (a1_1 : Int) (a1_2 : ByteArray) : Option (Bool) := if a0_0 = 4 then (some false) else (if a1_0 = 4 then (some false) else ((oculusref12_Compare.f k a0_0 a0_1 a0_2 a1_0 a1_1 a1_2).bind fun t103 => (some (t103 == 0))))
set_option maxHeartbeats 8000000 in
set_option maxRecDepth 100000 in
theorem oculusref18_found.calls (k : Nat) (a0_0 : Int) (a0_1 : Int) (a0_2 : ByteArray) (a1_0 : Int) (a1_1 : Int) (a1_2 : ByteArray) (r : Bool) (w : World) (h : oculusref18_found.f k a0_0 a0_1 a0_2 a1_0 a1_1 a1_2 = some r) :
  Calls Try.prog 29 #[.agg #[.int .i64 a0_0, .int .i64 a0_1, .string a0_2], .agg #[.int .i64 a1_0, .int .i64 a1_1, .string a1_2]] w fun e w' => e = .returned (.bool r) ∧ Below w.heap.size w w' := by
 have hu26 := Try.underlying26; have HB := Aside0.mk (Below.refl w.heap.size w)
 have H : (if a0_0 = 4 then (some false) else (if a1_0 = 4 then (some false) else ((oculusref12_Compare.f k a0_0 a0_1 a0_2 a1_0 a1_1 a1_2).bind fun t103 => (some (t103 == 0))))) = some r := h
 clear h
 by_cases c3 : a0_0 = 4
 ·rw [if_pos c3] at H; have c3b0 : (a0_0 == 4) = true := beq_iff_eq.mpr c3; have c3b1 : (a0_0 != 4) = false := bne_eq_false_iff_eq.mpr c3; clear c3; obtain rfl := Option.some.inj H
  go_enter Try.func29, Try.ntmps29
  go_wp2_with (first | ((with_reducible refine gate_dst (N:=2) rfl ?_); refine be_ (N:=2) (cs := #[.int .i64 a0_0, .int .i64 a0_1, .string a0_2]) (t:=26) ?_; intro gb101 hg w4 hbox hb; have BK101 := Aside0.mk (hbox); replace HB := bs_ HB hb; clear hb hbox hg) | ((with_reducible refine gate_dst (N:=3) rfl ?_); refine be_ (N:=3) (cs := #[.int .i64 a1_0, .int .i64 a1_1, .string a1_2]) (t:=26) ?_; intro gb102 hg w5 hbox hb; have BK102 := Aside0.mk (hbox); replace BK101 := bb_ BK101 hb; replace HB := bs_ HB hb; clear hb hbox hg; have hcz6_0 : w5.cell? ⟨gb101, 0, none⟩ = some (.int .i64 a0_0) := bc_ BK101 0 rfl; have hcz6_1 : w5.cell? ⟨gb101, 1, none⟩ = some (.int .i64 a0_1) := bc_ BK101 1 rfl; have hcz6_2 : w5.cell? ⟨gb101, 2, none⟩ = some (.string a0_2) := bc_ BK101 2 rfl))
  go_ret
  exact ⟨by first | rfl | (simp [errW_none, errW_some] <;> rfl) | (simp [*, errW_none, errW_some] <;> rfl), pbx HB⟩
 ·rw [if_neg c3] at H; have c3b0 : (a0_0 == 4) = false := beq_eq_false_iff_ne.mpr c3; have c3b1 : (a0_0 != 4) = true := bne_iff_ne.mpr c3
  by_cases c7 : a1_0 = 4
  ·rw [if_pos c7] at H; have c7b0 : (a1_0 == 4) = true := beq_iff_eq.mpr c7; have c7b1 : (a1_0 != 4) = false := bne_eq_false_iff_eq.mpr c7; clear c7; obtain rfl := Option.some.inj H
   go_enter Try.func29, Try.ntmps29
   go_wp2_with (first | ((with_reducible refine gate_dst (N:=2) rfl ?_); refine be_ (N:=2) (cs := #[.int .i64 a0_0, .int .i64 a0_1, .string a0_2]) (t:=26) ?_; intro gb101 hg w8 hbox hb; have BK101 := Aside0.mk (hbox); replace HB := bs_ HB hb; clear hb hbox hg) | ((with_reducible refine gate_dst (N:=3) rfl ?_); refine be_ (N:=3) (cs := #[.int .i64 a1_0, .int .i64 a1_1, .string a1_2]) (t:=26) ?_; intro gb102 hg w9 hbox hb; have BK102 := Aside0.mk (hbox); replace BK101 := bb_ BK101 hb; replace HB := bs_ HB hb; clear hb hbox hg; have hcz10_0 : w9.cell? ⟨gb101, 0, none⟩ = some (.int .i64 a0_0) := bc_ BK101 0 rfl; have hcz10_1 : w9.cell? ⟨gb101, 1, none⟩ = some (.int .i64 a0_1) := bc_ BK101 1 rfl; have hcz10_2 : w9.cell? ⟨gb101, 2, none⟩ = some (.string a0_2) := bc_ BK101 2 rfl; have hcz11_0 : w9.cell? ⟨gb102, 0, none⟩ = some (.int .i64 a1_0) := bc_ BK102 0 rfl; have hcz11_1 : w9.cell? ⟨gb102, 1, none⟩ = some (.int .i64 a1_1) := bc_ BK102 1 rfl; have hcz11_2 : w9.cell? ⟨gb102, 2, none⟩ = some (.string a1_2) := bc_ BK102 2 rfl))
   go_ret
   exact ⟨by first | rfl | (simp [errW_none, errW_some] <;> rfl) | (simp [*, errW_none, errW_some] <;> rfl), pbx HB⟩
  ·rw [if_neg c7] at H; have c7b0 : (a1_0 == 4) = false := beq_eq_false_iff_ne.mpr c7; have c7b1 : (a1_0 != 4) = true := bne_iff_ne.mpr c7; replace H := Option.bind_eq_some_iff.mp H; obtain ⟨t103, A120, H⟩ := H
   replace H : (some (t103 == 0)) = some r := H
   have A12 := Aside0.mk A120; clear A120; obtain rfl := Option.some.inj H
   go_enter Try.func29, Try.ntmps29
   go_wp2_with (first | ((with_reducible refine gate_dst (N:=2) rfl ?_); refine be_ (N:=2) (cs := #[.int .i64 a0_0, .int .i64 a0_1, .string a0_2]) (t:=26) ?_; intro gb101 hg w13 hbox hb; have BK101 := Aside0.mk (hbox); replace HB := bs_ HB hb; clear hb hbox hg) | ((with_reducible refine gate_dst (N:=3) rfl ?_); refine be_ (N:=3) (cs := #[.int .i64 a1_0, .int .i64 a1_1, .string a1_2]) (t:=26) ?_; intro gb102 hg w14 hbox hb; have BK102 := Aside0.mk (hbox); replace BK101 := bb_ BK101 hb; replace HB := bs_ HB hb; clear hb hbox hg; have hcz15_0 : w14.cell? ⟨gb101, 0, none⟩ = some (.int .i64 a0_0) := bc_ BK101 0 rfl; have hcz15_1 : w14.cell? ⟨gb101, 1, none⟩ = some (.int .i64 a0_1) := bc_ BK101 1 rfl; have hcz15_2 : w14.cell? ⟨gb101, 2, none⟩ = some (.string a0_2) := bc_ BK101 2 rfl; have hcz16_0 : w14.cell? ⟨gb102, 0, none⟩ = some (.int .i64 a1_0) := bc_ BK102 0 rfl; have hcz16_1 : w14.cell? ⟨gb102, 1, none⟩ = some (.int .i64 a1_1) := bc_ BK102 1 rfl; have hcz16_2 : w14.cell? ⟨gb102, 2, none⟩ = some (.string a1_2) := bc_ BK102 2 rfl) | (go_at_call 41; (with_reducible refine (oculusref12_Compare.calls k a0_0 a0_1 a0_2 a1_0 a1_1 a1_2 t103 _ A12.out).mono ?_); rintro e w17 ⟨rfl, hb⟩; replace BK101 := bb_ BK101 hb; replace BK102 := bb_ BK102 hb; replace HB := bs_ HB hb; (try clear hb); (try clear hb2); (try clear hk); (try clear hi)))
   go_ret
   exact ⟨by first | rfl | (simp [errW_none, errW_some] <;> rfl) | (simp [*, errW_none, errW_some] <;> rfl), pbx HB⟩

mutual
def oculusref18_Down.l0 : Nat → Int → Int → Int → Int → ByteArray → Int → Int → List (S26) → Option (Int × Int × ByteArray)
 | 0, _, _, _, _, _, _, _, _ => none
 | k + 1, x2, x7, x102000, x102001, x102002, x103000, x103001, x103002 => if x7 ≤ x103000 then ((oculusref18_At.f x103000 x103001 x103002 x7 1).bind fun bt111 => ((oculusref18_found.f k x102000 x102001 x102002 bt111.1 bt111.2.1 bt111.2.2).bind fun t114 => (oculusref18_Down.j1 k x2 x7 t114 x102000 x102001 x102002 x103000 x103001 x103002))) else ((oculusref12_Bad.f 5).bind fun bt108 => (some (bt108.1, bt108.2.1, bt108.2.2)))
def oculusref18_Down.j1 : Nat → Int → Int → Bool → Int → Int → ByteArray → Int → Int → List (S26) → Option (Int × Int × ByteArray)
 | 0, _, _, _, _, _, _, _, _, _ => none
 | k + 1, x2, x7, x27, x102000, x102001, x102002, x103000, x103001, x103002 => if x27 = true then ((oculusref18_At.f x103000 x103001 x103002 x7 x2).bind fun bt115 => (some (bt115.1, bt115.2.1, bt115.2.2))) else (oculusref18_Down.l0 k x2 (wrap64 (x7 + 1)) x102000 x102001 x102002 x103000 x103001 x103002)
end
def oculusref18_Down.f (k : Nat) (a0_0 : Int) (a0_1 : Int) (a0_2 : ByteArray) (a1_0 : Int) (a1_1 : Int) (l1_2 : List (S26)) (a2 : Int) : Option (Int × Int × ByteArray) := if a0_0 = 4 then (some (a0_0, a0_1, a0_2)) else ((oculusref18_In.f a1_0 a1_1 l1_2 1 a2).bind fun t104 => (if t104 = true then (oculusref18_Down.l0 k a2 1 a0_0 a0_1 a0_2 a1_0 a1_1 l1_2) else ((oculusref12_Bad.f 3).bind fun bt105 => (some (bt105.1, bt105.2.1, bt105.2.2)))))
set_option maxHeartbeats 8000000 in
set_option maxRecDepth 100000 in
theorem oculusref18_Down.calls (k : Nat) (a0_0 : Int) (a0_1 : Int) (a0_2 : ByteArray) (a1_0 : Int) (a1_1 : Int) (A1_2 : Option Addr) (c1_2 : Nat) (l1_2 : List (S26)) (a2 : Int) (r1 : Int) (r2 : Int) (r3 : ByteArray) (w : World) (hr1_2 : Kd.C k26 w A1_2 l1_2.length l1_2) (hc1_2 : l1_2.length ≤ c1_2) (h : oculusref18_Down.f k a0_0 a0_1 a0_2 a1_0 a1_1 l1_2 a2 = some (r1, r2, r3)) :
  Calls Try.prog 11 #[.agg #[.int .i64 a0_0, .int .i64 a0_1, .string a0_2], .agg #[.int .i64 a1_0, .int .i64 a1_1, .slice A1_2 l1_2.length c1_2], .int .i64 a2] w fun e w' => e = .returned (.agg #[.int .i64 r1, .int .i64 r2, .string r3]) ∧ Below w.heap.size w w' := by
 have hu26 := Try.underlying26; have hu24 := Try.underlying24; have HR1_2 := Aside0.mk hr1_2; have HC1_2 := Aside0.mk hc1_2; clear hr1_2 hc1_2; have HB := Aside0.mk (Below.refl w.heap.size w)
 have H : (if a0_0 = 4 then (some (a0_0, a0_1, a0_2)) else ((oculusref18_In.f a1_0 a1_1 l1_2 1 a2).bind fun t104 => (if t104 = true then (oculusref18_Down.l0 k a2 1 a0_0 a0_1 a0_2 a1_0 a1_1 l1_2) else ((oculusref12_Bad.f 3).bind fun bt105 => (some (bt105.1, bt105.2.1, bt105.2.2)))))) = some (r1, r2, r3) := h
 clear h
 by_cases c4 : a0_0 = 4
 ·rw [if_pos c4] at H; have c4b0 : (a0_0 == 4) = true := beq_iff_eq.mpr c4; have c4b1 : (a0_0 != 4) = false := bne_eq_false_iff_eq.mpr c4; clear c4
  simp only [Option.some.injEq, Prod.mk.injEq] at H
  obtain ⟨rfl, rfl, rfl⟩ := H
  go_enter Try.func11, Try.ntmps11
  go_wp2_with (first | ((with_reducible refine gate_dst (N:=3) rfl ?_); refine be_ (N:=3) (cs := #[.int .i64 a0_0, .int .i64 a0_1, .string a0_2]) (t:=26) ?_; intro gb101 hg w5 hbox hb; have BK101 := Aside0.mk (hbox); have GW101 := hs_ HB hg; have GE101 := hs_ HB hg; replace HB := bs_ HB hb; clear hb hbox hg) | ((with_reducible refine gate_dst (N:=4) rfl ?_); refine be_ (N:=4) (cs := #[.int .i64 a1_0, .int .i64 a1_1, .slice A1_2 l1_2.length c1_2]) (t:=24) ?_; intro gb102 hg w6 hbox hb; have BK102 := Aside0.mk (hbox); have GW102 := hs_ HB hg; have GE102 := hs_ HB hg; have NB101_102 := hl_ BK101 hg; have NB102_101 := hr_ BK101 hg; replace BK101 := bb_ BK101 hb; replace HB := bs_ HB hb; clear hb hbox hg) | ((with_reducible refine gate_dst (N:=6) rfl ?_); refine be_ (N:=6) (cs := #[.int .i64 0, .int .i64 0, .string (⟨#[]⟩ : ByteArray)]) (t:=26) ?_; intro gb103 hg w7 hbox hb; have BK103 := Aside0.mk (hbox); have GW103 := hs_ HB hg; have GE103 := hs_ HB hg; have NB101_103 := hl_ BK101 hg; have NB103_101 := hr_ BK101 hg; have NB102_103 := hl_ BK102 hg; have NB103_102 := hr_ BK102 hg; replace BK101 := bb_ BK101 hb; replace BK102 := bb_ BK102 hb; replace HB := bs_ HB hb; clear hb hbox hg; have hnb8 := NB101_102.out; have hnc8 := NB102_101.out; have hnb9 := NB101_103.out; have hnc9 := NB103_101.out; have hcz10_0 : w7.cell? ⟨gb101, 0, none⟩ = some (.int .i64 a0_0) := bc_ BK101 0 rfl; have hcz10_1 : w7.cell? ⟨gb101, 1, none⟩ = some (.int .i64 a0_1) := bc_ BK101 1 rfl; have hcz10_2 : w7.cell? ⟨gb101, 2, none⟩ = some (.string a0_2) := bc_ BK101 2 rfl; have hfz10_0 := blk_frozen BK101.out 0; have hfz10_1 := blk_frozen BK101.out 1; have hfz10_2 := blk_frozen BK101.out 2; have hnb11 := NB103_102.out; have hnc11 := NB102_103.out; have hcz12_0 : w7.cell? ⟨gb103, 0, none⟩ = some (.int .i64 0) := bc_ BK103 0 rfl; have hcz12_1 : w7.cell? ⟨gb103, 1, none⟩ = some (.int .i64 0) := bc_ BK103 1 rfl; have hcz12_2 : w7.cell? ⟨gb103, 2, none⟩ = some (.string (⟨#[]⟩ : ByteArray)) := bc_ BK103 2 rfl; have hfz12_0 := blk_frozen BK103.out 0; have hfz12_1 := blk_frozen BK103.out 1; have hfz12_2 := blk_frozen BK103.out 2))
  refine bodyPost_ret (results_cell_row rfl _ _ gb103 26 #[.int .i64 a0_0, .int .i64 a0_1, .string a0_2] (0, 0) _ rfl (by refine pp_ (cs := #[.int .i64 a0_0, .int .i64 a0_1, .string (⟨#[]⟩ : ByteArray)]) 2 ?_ rfl; refine pp_ (cs := #[.int .i64 a0_0, .int .i64 0, .string (⟨#[]⟩ : ByteArray)]) 1 ?_ rfl; refine pp_ (cs := #[.int .i64 0, .int .i64 0, .string (⟨#[]⟩ : ByteArray)]) 0 ?_ rfl; exact pkx BK103) Try.underlying26 rfl (by kernel_rfl)) rfl ?_
  exact ⟨by first | rfl | (simp [errW_none, errW_some] <;> rfl) | (simp [*, errW_none, errW_some] <;> rfl), by repeat (first | (with_reducible first | exact HB.out | apply below_alloc | apply pw_below_drewN | apply below_drew1 | refine below_set ?_ GE101.out | refine below_set ?_ GE102.out | refine below_set ?_ GE103.out) | exact HB.out)⟩
 ·rw [if_neg c4] at H; have c4b0 : (a0_0 == 4) = false := beq_eq_false_iff_ne.mpr c4; have c4b1 : (a0_0 != 4) = true := bne_iff_ne.mpr c4; replace H := Option.bind_eq_some_iff.mp H; obtain ⟨t104, A130, H⟩ := H
  replace H : (if t104 = true then (oculusref18_Down.l0 k a2 1 a0_0 a0_1 a0_2 a1_0 a1_1 l1_2) else ((oculusref12_Bad.f 3).bind fun bt105 => (some (bt105.1, bt105.2.1, bt105.2.2)))) = some (r1, r2, r3) := H
  have A13 := Aside0.mk A130; clear A130
  by_cases c14 : t104 = true
  ·subst c14
   have H1 : (oculusref18_Down.l0 k a2 1 a0_0 a0_1 a0_2 a1_0 a1_1 l1_2) = some (r1, r2, r3) := by rw [if_pos rfl] at H; exact H
   clear H; have H := H1; clear H1
   have H' := Aside0.mk H
   clear H
   go_enter Try.func11, Try.ntmps11
   go_wp2_with (first | ((with_reducible refine gate_dst (N:=3) rfl ?_); refine be_ (N:=3) (cs := #[.int .i64 a0_0, .int .i64 a0_1, .string a0_2]) (t:=26) ?_; intro gb101 hg w15 hbox hb; have BK101 := Aside0.mk (hbox); have GW101 := hs_ HB hg; have GE101 := hs_ HB hg; replace HB := bs_ HB hb; clear hb hbox hg) | ((with_reducible refine gate_dst (N:=4) rfl ?_); refine be_ (N:=4) (cs := #[.int .i64 a1_0, .int .i64 a1_1, .slice A1_2 l1_2.length c1_2]) (t:=24) ?_; intro gb102 hg w16 hbox hb; have BK102 := Aside0.mk (hbox); have GW102 := hs_ HB hg; have GE102 := hs_ HB hg; have NB101_102 := hl_ BK101 hg; have NB102_101 := hr_ BK101 hg; replace BK101 := bb_ BK101 hb; replace HB := bs_ HB hb; clear hb hbox hg) | ((with_reducible refine gate_dst (N:=6) rfl ?_); refine be_ (N:=6) (cs := #[.int .i64 0, .int .i64 0, .string (⟨#[]⟩ : ByteArray)]) (t:=26) ?_; intro gb103 hg w17 hbox hb; have BK103 := Aside0.mk (hbox); have GW103 := hs_ HB hg; have GE103 := hs_ HB hg; have NB101_103 := hl_ BK101 hg; have NB103_101 := hr_ BK101 hg; have NB102_103 := hl_ BK102 hg; have NB103_102 := hr_ BK102 hg; replace BK101 := bb_ BK101 hb; replace BK102 := bb_ BK102 hb; replace HB := bs_ HB hb; clear hb hbox hg; have hnb18 := NB101_102.out; have hnc18 := NB102_101.out; have hnb19 := NB101_103.out; have hnc19 := NB103_101.out; have hcz20_0 : w17.cell? ⟨gb101, 0, none⟩ = some (.int .i64 a0_0) := bc_ BK101 0 rfl; have hcz20_1 : w17.cell? ⟨gb101, 1, none⟩ = some (.int .i64 a0_1) := bc_ BK101 1 rfl; have hcz20_2 : w17.cell? ⟨gb101, 2, none⟩ = some (.string a0_2) := bc_ BK101 2 rfl; have hfz20_0 := blk_frozen BK101.out 0; have hfz20_1 := blk_frozen BK101.out 1; have hfz20_2 := blk_frozen BK101.out 2; have hnb21 := NB102_103.out; have hnc21 := NB103_102.out; have hcz22_0 : w17.cell? ⟨gb102, 0, none⟩ = some (.int .i64 a1_0) := bc_ BK102 0 rfl; have hcz22_1 : w17.cell? ⟨gb102, 1, none⟩ = some (.int .i64 a1_1) := bc_ BK102 1 rfl; have hcz22_2 : w17.cell? ⟨gb102, 2, none⟩ = some (.slice A1_2 l1_2.length c1_2) := bc_ BK102 2 rfl; have hfz22_0 := blk_frozen BK102.out 0; have hfz22_1 := blk_frozen BK102.out 1; have hfz22_2 := blk_frozen BK102.out 2) | ((with_reducible refine gate_callee (f:=16) rfl ?_); refine gL_ (some 14) rfl rfl Try.func16 rfl #[.agg #[.int .i64 a1_0, .int .i64 a1_1, .slice A1_2 l1_2.length c1_2], .int .i64 1, .int .i64 a2] rfl ?_; (with_reducible refine (oculusref18_In.calls a1_0 a1_1 _ _ l1_2 1 a2 true _ ?side1 ?side2 A13.out).mono ?_); (case side1 => repeat (first | exact (Kd.C_below HR1_2.out HB.out) | (with_reducible refine Kd.C_alloc ?_ _) | (with_reducible refine Kd.C_drewN ?_ _) | (with_reducible refine Kd.C_drew ?_))); (case side2 => exact HC1_2.out); rintro e w23 ⟨rfl, hb⟩; refine ⟨_, rfl, ?_⟩; replace BK101 := bb_ BK101 hb; replace BK102 := bb_ BK102 hb; replace BK103 := bb_ BK103 hb; replace HB := bs_ HB hb; (try clear hb); (try clear hb2); (try clear hk); (try clear hi)))
   go_loopg [7] k (fun kq v7 w' => ∃ (x7_1 : Int) (x104000_1 : Int) (x104001_1 : Int) (x104002_1 : ByteArray), v7 = .int .i64 x7_1 ∧ Aside0 (oculusref18_Down.l0 kq a2 x7_1 a0_0 a0_1 a0_2 a1_0 a1_1 l1_2 = some (r1, r2, r3)) ∧ Aside0 (kq ≤ k) ∧ Aside0 (w'.heap[gb101]? = some (.cells #[.int .i64 a0_0, .int .i64 a0_1, .string a0_2] 26 (0, 0))) ∧ Aside0 (w'.heap[gb102]? = some (.cells #[.int .i64 a1_0, .int .i64 a1_1, (.slice A1_2 l1_2.length c1_2)] 24 (0, 0))) ∧ Aside0 (w'.heap[gb103]? = some (.cells #[.int .i64 x104000_1, .int .i64 x104001_1, .string x104002_1] 26 (0, 0))) ∧ Aside0 (Below w.heap.size w w'))
   case atStart => exact ⟨(1), (0), (0), ((⟨#[]⟩ : ByteArray)), (by first | rfl | (simp; done) | (simp [*]; done)), H', ⟨Nat.le_refl _⟩, ⟨pkx BK101⟩, ⟨pkx BK102⟩, ⟨pkx BK103⟩, ⟨pbx HB⟩⟩
   case round =>
    clear H'; (try clear c1); (try clear c2); (try clear p2); (try clear c4); (try clear c4b0); (try clear c4b1); (try clear c8); (try clear c9); (try clear c11); (try clear c14); (try clear c16); (try clear c18); (try clear c19); (try clear c21); (try clear hcz10_0); (try clear hcz10_1); (try clear hcz10_2); (try clear hcz12_0); (try clear hcz12_1); (try clear hcz12_2); (try clear hcz20_0); (try clear hcz20_1); (try clear hcz20_2); (try clear hcz22_0); (try clear hcz22_1); (try clear hcz22_2); (try clear hfz10_0); (try clear hfz10_1); (try clear hfz10_2); (try clear hfz12_0); (try clear hfz12_1); (try clear hfz12_2); (try clear hfz20_0); (try clear hfz20_1); (try clear hfz20_2); (try clear hfz22_0); (try clear hfz22_1); (try clear hfz22_2); obtain ⟨x7_1, x104000_1, x104001_1, x104002_1, rfl, HA, HK1, BK101, BK102, BK103, HB⟩ := hrel
    cases gk with
    | zero => exact absurd HA.out (by simp [oculusref18_Down.l0])
    | succ k1 =>
     have H := HA.out; clear HA
     simp only [oculusref18_Down.l0] at H
     by_cases c24 : x7_1 ≤ a1_0
     ·rw [if_pos c24] at H; have c24b0 : decide (x7_1 ≤ a1_0) = true := decide_eq_true c24; clear c24; have HC25 := Aside0.mk H; clear H; have hnb26 := NB102_101.out; have hnc26 := NB101_102.out; have hnb27 := NB102_103.out; have hnc27 := NB103_102.out
      have hcz28_0 : wr.cell? ⟨gb102, 0, none⟩ = some (.int .i64 a1_0) := bc_ BK102 0 rfl
      have hcz28_1 : wr.cell? ⟨gb102, 1, none⟩ = some (.int .i64 a1_1) := bc_ BK102 1 rfl
      have hcz28_2 : wr.cell? ⟨gb102, 2, none⟩ = some (.slice A1_2 l1_2.length c1_2) := bc_ BK102 2 rfl
      have hfz28_0 := blk_frozen BK102.out 0; have hfz28_1 := blk_frozen BK102.out 1; have hfz28_2 := blk_frozen BK102.out 2
      go_upto_region 8 with (fail)
      go_cut [27] (fun v27 wc => ∃ (kq : Nat) (x27_24 : Bool), v27 = .bool x27_24 ∧ Aside0 (oculusref18_Down.j1 kq a2 x7_1 x27_24 a0_0 a0_1 a0_2 a1_0 a1_1 l1_2 = some (r1, r2, r3)) ∧ Aside0 (kq ≤ k1) ∧ Aside0 (wc.heap[gb101]? = some (.cells #[.int .i64 a0_0, .int .i64 a0_1, .string a0_2] 26 (0, 0))) ∧ Aside0 (wc.heap[gb102]? = some (.cells #[.int .i64 a1_0, .int .i64 a1_1, (.slice A1_2 l1_2.length c1_2)] 24 (0, 0))) ∧ Aside0 (wc.heap[gb103]? = some (.cells #[.int .i64 x104000_1, .int .i64 x104001_1, .string x104002_1] 26 (0, 0))) ∧ Aside0 (Below w.heap.size w wc))
      case first =>
       have H := HC25.out; clear HC25; replace H := Option.bind_eq_some_iff.mp H; obtain ⟨⟨t111, t112, t113⟩, A290, H⟩ := H
       replace H : ((oculusref18_found.f k1 a0_0 a0_1 a0_2 t111 t112 t113).bind fun t114 => (oculusref18_Down.j1 k1 a2 x7_1 t114 a0_0 a0_1 a0_2 a1_0 a1_1 l1_2)) = some (r1, r2, r3) := H
       have A29 := Aside0.mk A290; clear A290; replace H := Option.bind_eq_some_iff.mp H; obtain ⟨t114, A300, H⟩ := H
       replace H : (oculusref18_Down.j1 k1 a2 x7_1 t114 a0_0 a0_1 a0_2 a1_0 a1_1 l1_2) = some (r1, r2, r3) := H
       have A30 := Aside0.mk A300; clear A300
       have H' := Aside0.mk H
       clear H
       try go_wp2
       (try (rw [drewN_self wr]; generalize hq_ : World.drewN wr _ = wr; have n0_ : Aside0 (wr.heap[gb101]? = some (.cells #[.int .i64 a0_0, .int .i64 a0_1, .string a0_2] 26 (0, 0))) := ⟨by rw [← hq_]; exact (pkx BK101)⟩; have n1_ : Aside0 (wr.heap[gb102]? = some (.cells #[.int .i64 a1_0, .int .i64 a1_1, .slice A1_2 l1_2.length c1_2] 24 (0, 0))) := ⟨by rw [← hq_]; exact (pkx BK102)⟩; have n2_ : Aside0 (wr.heap[gb103]? = some (.cells #[.int .i64 x104000_1, .int .i64 x104001_1, .string x104002_1] 26 (0, 0))) := ⟨by rw [← hq_]; exact (pkx BK103)⟩; have n3_ : Aside0 (Below w.heap.size w wr) := ⟨by rw [← hq_]; exact (pbx HB)⟩; clear BK101 BK102 BK103 HB hq_; have BK101 := n0_; have BK102 := n1_; have BK103 := n2_; have HB := n3_; clear n0_ n1_ n2_ n3_))
       replace BK101 := Aside0.mk (blk_drew BK101.out); replace BK102 := Aside0.mk (blk_drew BK102.out); replace BK103 := Aside0.mk (blk_drew BK103.out); replace HB := Aside0.mk (below_drew1 HB.out)
       refine start_ (n:=5) (S := fun w' => w'.cell? ⟨gb101, 0, none⟩ = some (.int .i64 a0_0) ∧ w'.cell? ⟨gb101, 1, none⟩ = some (.int .i64 a0_1) ∧ w'.cell? ⟨gb101, 2, none⟩ = some (.string a0_2) ∧ w'.cell? ⟨gb102, 0, none⟩ = some (.int .i64 a1_0) ∧ w'.cell? ⟨gb102, 1, none⟩ = some (.int .i64 a1_1) ∧ w'.cell? ⟨gb102, 2, none⟩ = some (.slice A1_2 l1_2.length c1_2)) (ds := []) #[F,F,F,F,F] (by kernel_rfl) rfl rfl ⟨bc_ BK101 0 rfl, bc_ BK101 1 rfl, bc_ BK101 2 rfl, bc_ BK102 0 rfl, bc_ BK102 1 rfl, bc_ BK102 2 rfl⟩ (fun hHeld => ?_)
       generalize wr.drew = w31 at BK101 BK102 BK103 HB hHeld ⊢; refine pure_ (i:=2) (N:=some 25) (v:=?_) (a':=?_) ⟨m_ 5 4⟩ rfl rfl (by kernel_rfl) (fun _ _ _ h=>h) (Or.inl ⟨rfl, ?_⟩) ?_ ?_; rotate_left
       ·intro w'; go_simp; with_reducible rfl
       rotate_left
       ·simp only [q_, i64_w, i32_w]; rfl
       refine take_ (i:=0) (N:=some 23) (v:=?_) (a':=?_) ⟨m_ 5 5⟩ rfl rfl (by kernel_rfl) (fun _ _ _ h=>h) (Or.inl ⟨rfl, ?_⟩) hHeld ?_ ?_; rotate_left
       ·rintro w' ⟨s0, s1, s2, s3, s4, s5⟩; go_simp; with_reducible rfl
       rotate_left
       ·simp only [q_, i64_w, i32_w]; rfl
       refine take_ (i:=1) (N:=some 24) (v:=?_) (a':=?_) ⟨m_ 5 7⟩ rfl rfl (by kernel_rfl) (fun _ _ _ h=>h) (Or.inl ⟨rfl, ?_⟩) hHeld ?_ ?_; rotate_left
       ·rintro w' ⟨s0, s1, s2, s3, s4, s5⟩; go_simp; with_reducible rfl
       rotate_left
       ·simp only [q_, i64_w, i32_w]; rfl
       refine one_ (i:=3) (N:=some 26) ⟨m_ 5 15⟩ rfl rfl (by kernel_rfl) (by decide) (fun K hK => ?_); refine goes_ Try.func8 (by kernel_rfl) rfl #[.agg #[.int .i64 a1_0, .int .i64 a1_1, .slice A1_2 l1_2.length c1_2], .int .i64 x7_1, .int .i64 1] (by rfl) rfl rfl (by (try simp only [List.map_toArray, List.map_cons, List.map_nil]); first | done | rfl | (simp only [List.length_drop, List.length_take]; rfl)) ?_; with_reducible refine (oculusref18_At.calls a1_0 a1_1 _ _ l1_2 x7_1 1 t111 t112 t113 _ ?side1 ?side2 A29.out).mono ?_; (case side1 => repeat (first | exact (Kd.C_below HR1_2.out HB.out) | (with_reducible refine Kd.C_alloc ?_ _) | (with_reducible refine Kd.C_drewN ?_ _) | (with_reducible refine Kd.C_drew ?_))); (case side2 => exact HC1_2.out); rintro e w32 ⟨rfl, hb⟩; refine ⟨_, rfl, ?_⟩
       replace BK101 := bb_ BK101 hb; replace BK102 := bb_ BK102 hb; replace BK103 := bb_ BK103 hb; replace HB := bs_ HB hb; (try clear hb); (try clear hb2); (try clear hk); (try clear hi); refine hK.out _ _ ⟨bc_ BK101 0 rfl, bc_ BK101 1 rfl, bc_ BK101 2 rfl, bc_ BK102 0 rfl, bc_ BK102 1 rfl, bc_ BK102 2 rfl⟩ (fun hHeld => ?_); clear hK K; refine norm_ (a':=?_) ?_ ?_; rotate_left
       ·show Act.put _ (some 26) _ = _; simp only [q_, i64_w, i32_w]; rfl
       refine one_ (i:=4) (N:=some 27) ⟨m_ 5 31⟩ rfl rfl (by kernel_rfl) (by decide) (fun K hK => ?_); refine goes_ Try.func29 (by kernel_rfl) rfl #[.agg #[.int .i64 a0_0, .int .i64 a0_1, .string a0_2], .agg #[.int .i64 t111, .int .i64 t112, .string t113]] (by rfl) rfl rfl (by (try simp only [List.map_toArray, List.map_cons, List.map_nil]); first | done | rfl | (simp only [List.length_drop, List.length_take]; rfl)) ?_; with_reducible refine (oculusref18_found.calls k1 a0_0 a0_1 a0_2 t111 t112 t113 t114 _ A30.out).mono ?_; rintro e w33 ⟨rfl, hb⟩; refine ⟨_, rfl, ?_⟩
       replace BK101 := bb_ BK101 hb; replace BK102 := bb_ BK102 hb; replace BK103 := bb_ BK103 hb; replace HB := bs_ HB hb; (try clear hb); (try clear hb2); (try clear hk); (try clear hi); refine hK.out _ _ ⟨bc_ BK101 0 rfl, bc_ BK101 1 rfl, bc_ BK101 2 rfl, bc_ BK102 0 rfl, bc_ BK102 1 rfl, bc_ BK102 2 rfl⟩ (fun hHeld => ?_); clear hK K; refine norm_ (a':=?_) ?_ ?_; rotate_left
       ·show Act.put _ (some 27) _ = _; simp only [q_, i64_w, i32_w]; rfl
       refine done_ (by kernel_rfl) ?_
       try go_wp2
       go_meet
       case rel => exact ⟨_, (t114), (by first | rfl | (simp; done) | (simp [*]; done) | (cases t114 <;> simp; done)), H', ⟨by have := HK1.out; first | omega | exact Nat.le_refl _⟩, ⟨pkx BK101⟩, ⟨pkx BK102⟩, ⟨pkx BK103⟩, ⟨pbx HB⟩⟩
      case rest =>
       clear HC25; (try clear c1); (try clear c2); (try clear p2); (try clear c4); (try clear c4b0); (try clear c4b1); (try clear c8); (try clear c9); (try clear c11); (try clear c14); (try clear c16); (try clear c18); (try clear c19); (try clear c21); (try clear c24); (try clear c24b0); (try clear c26); (try clear c27); (try clear c29); (try clear hcz10_0); (try clear hcz10_1); (try clear hcz10_2); (try clear hcz12_0); (try clear hcz12_1); (try clear hcz12_2); (try clear hcz20_0); (try clear hcz20_1); (try clear hcz20_2); (try clear hcz22_0); (try clear hcz22_1); (try clear hcz22_2); (try clear hcz28_0); (try clear hcz28_1); (try clear hcz28_2); (try clear hfz10_0); (try clear hfz10_1); (try clear hfz10_2); (try clear hfz12_0); (try clear hfz12_1); (try clear hfz12_2); (try clear hfz20_0); (try clear hfz20_1); (try clear hfz20_2); (try clear hfz22_0); (try clear hfz22_1); (try clear hfz22_2)
       (try clear hfz28_0); (try clear hfz28_1); (try clear hfz28_2); (try clear p2); obtain ⟨kq, x27_24, rfl, HA, HJ24, BK101, BK102, BK103, HB⟩ := hcut
       cases kq with
       | zero => exact absurd HA.out (by simp [oculusref18_Down.j1])
       | succ kj24 =>
        have H := HA.out; clear HA
        simp only [oculusref18_Down.j1] at H
        by_cases c34 : x27_24 = true
        ·subst c34
         have H1 : ((oculusref18_At.f a1_0 a1_1 l1_2 x7_1 a2).bind fun bt115 => (some (bt115.1, bt115.2.1, bt115.2.2))) = some (r1, r2, r3) := by rw [if_pos rfl] at H; exact H
         clear H; have H := H1; clear H1; replace H := Option.bind_eq_some_iff.mp H; obtain ⟨⟨t115, t116, t117⟩, A350, H⟩ := H
         replace H : (some (t115, t116, t117)) = some (r1, r2, r3) := H
         have A35 := Aside0.mk A350; clear A350
         simp only [Option.some.injEq, Prod.mk.injEq] at H
         obtain ⟨rfl, rfl, rfl⟩ := H; have hnb36 := NB102_101.out; have hnc36 := NB101_102.out; have hnb37 := NB102_103.out; have hnc37 := NB103_102.out
         have hcz38_0 : wc.cell? ⟨gb102, 0, none⟩ = some (.int .i64 a1_0) := bc_ BK102 0 rfl
         have hcz38_1 : wc.cell? ⟨gb102, 1, none⟩ = some (.int .i64 a1_1) := bc_ BK102 1 rfl
         have hcz38_2 : wc.cell? ⟨gb102, 2, none⟩ = some (.slice A1_2 l1_2.length c1_2) := bc_ BK102 2 rfl
         have hfz38_0 := blk_frozen BK102.out 0; have hfz38_1 := blk_frozen BK102.out 1; have hfz38_2 := blk_frozen BK102.out 2
         go_wp2_with (first | ((with_reducible refine gate_callee (f:=8) rfl ?_); refine gL_ (some 31) rfl rfl Try.func8 rfl #[.agg #[.int .i64 a1_0, .int .i64 a1_1, .slice A1_2 l1_2.length c1_2], .int .i64 x7_1, .int .i64 a2] rfl ?_; (with_reducible refine (oculusref18_At.calls a1_0 a1_1 _ _ l1_2 x7_1 a2 t115 t116 t117 _ ?side1 ?side2 A35.out).mono ?_); (case side1 => repeat (first | exact (Kd.C_below HR1_2.out HB.out) | (with_reducible refine Kd.C_alloc ?_ _) | (with_reducible refine Kd.C_drewN ?_ _) | (with_reducible refine Kd.C_drew ?_))); (case side2 => exact HC1_2.out); rintro e w39 ⟨rfl, hb⟩; refine ⟨_, rfl, ?_⟩; replace BK101 := bb_ BK101 hb; replace BK102 := bb_ BK102 hb; replace BK103 := bb_ BK103 hb; replace HB := bs_ HB hb; (try clear hb); (try clear hb2); (try clear hk); (try clear hi); have hnb40 := NB103_101.out; have hnc40 := NB101_103.out; have hcz41_0 : w39.cell? ⟨gb103, 0, none⟩ = some (.int .i64 x104000_1) := bc_ BK103 0 rfl; have hcz41_1 : w39.cell? ⟨gb103, 1, none⟩ = some (.int .i64 x104001_1) := bc_ BK103 1 rfl; have hcz41_2 : w39.cell? ⟨gb103, 2, none⟩ = some (.string x104002_1) := bc_ BK103 2 rfl; have hfz41_0 := blk_frozen BK103.out 0; have hfz41_1 := blk_frozen BK103.out 1; have hfz41_2 := blk_frozen BK103.out 2))
         refine bodyPost_ret (results_cell_row rfl _ _ gb103 26 #[.int .i64 t115, .int .i64 t116, .string t117] (0, 0) _ rfl (by refine pp_ (cs := #[.int .i64 t115, .int .i64 t116, .string x104002_1]) 2 ?_ rfl; refine blk_put (cs := #[.int .i64 t115, .int .i64 x104001_1, .string x104002_1]) ?_ 1 _ rfl; refine blk_put (cs := #[.int .i64 x104000_1, .int .i64 x104001_1, .string x104002_1]) ?_ 0 _ rfl; exact pkx BK103) Try.underlying26 rfl (by kernel_rfl)) rfl ?_
         exact ⟨by first | rfl | (simp [errW_none, errW_some] <;> rfl) | (simp [*, errW_none, errW_some] <;> rfl), by repeat (first | (with_reducible first | exact HB.out | apply below_alloc | apply pw_below_drewN | apply below_drew1 | refine below_set ?_ GE101.out | refine below_set ?_ GE102.out | refine below_set ?_ GE103.out) | exact HB.out)⟩
        ·replace c34 := Bool.eq_false_iff.mpr c34; subst c34
         have H1 : (oculusref18_Down.l0 kj24 a2 (wrap64 (x7_1 + 1)) a0_0 a0_1 a0_2 a1_0 a1_1 l1_2) = some (r1, r2, r3) := by rw [if_neg (show ¬ (false = true) by decide)] at H; exact H
         clear H; have H := H1; clear H1
         have H' := Aside0.mk H
         clear H
         go_wp2
         go_roundg kj24
         case measure => have := HK1.out; have := HJ24.out; omega
         case rel => exact ⟨(wrap64 (x7_1 + 1)), (x104000_1), (x104001_1), (x104002_1), (by first | rfl | (simp; done) | (simp [*]; done)), H', ⟨by have := HK1.out; have := HJ24.out; omega⟩, ⟨pkx BK101⟩, ⟨pkx BK102⟩, ⟨pkx BK103⟩, ⟨pbx HB⟩⟩
     ·rw [if_neg c24] at H; have c24b0 : decide (x7_1 ≤ a1_0) = false := decide_eq_false c24; clear c24; replace H := Option.bind_eq_some_iff.mp H; obtain ⟨⟨t108, t109, t110⟩, A420, H⟩ := H
      replace H : (some (t108, t109, t110)) = some (r1, r2, r3) := H
      have A42 := Aside0.mk A420; clear A420
      simp only [Option.some.injEq, Prod.mk.injEq] at H
      obtain ⟨rfl, rfl, rfl⟩ := H; have hnb43 := NB102_101.out; have hnc43 := NB101_102.out; have hnb44 := NB102_103.out; have hnc44 := NB103_102.out
      have hcz45_0 : wr.cell? ⟨gb102, 0, none⟩ = some (.int .i64 a1_0) := bc_ BK102 0 rfl
      have hcz45_1 : wr.cell? ⟨gb102, 1, none⟩ = some (.int .i64 a1_1) := bc_ BK102 1 rfl
      have hcz45_2 : wr.cell? ⟨gb102, 2, none⟩ = some (.slice A1_2 l1_2.length c1_2) := bc_ BK102 2 rfl
      have hfz45_0 := blk_frozen BK102.out 0; have hfz45_1 := blk_frozen BK102.out 1; have hfz45_2 := blk_frozen BK102.out 2
      go_wp2_with (first | ((with_reducible refine gate_callee (f:=28) rfl ?_); refine gL_ (some 32) rfl rfl Try.func28 rfl #[.int .i64 5] rfl ?_; (with_reducible refine (oculusref12_Bad.calls 5 t108 t109 t110 _ A42.out).mono ?_); rintro e w46 ⟨rfl, hb⟩; refine ⟨_, rfl, ?_⟩; replace BK101 := bb_ BK101 hb; replace BK102 := bb_ BK102 hb; replace BK103 := bb_ BK103 hb; replace HB := bs_ HB hb; (try clear hb); (try clear hb2); (try clear hk); (try clear hi); have hnb47 := NB103_101.out; have hnc47 := NB101_103.out; have hcz48_0 : w46.cell? ⟨gb103, 0, none⟩ = some (.int .i64 x104000_1) := bc_ BK103 0 rfl; have hcz48_1 : w46.cell? ⟨gb103, 1, none⟩ = some (.int .i64 x104001_1) := bc_ BK103 1 rfl; have hcz48_2 : w46.cell? ⟨gb103, 2, none⟩ = some (.string x104002_1) := bc_ BK103 2 rfl; have hfz48_0 := blk_frozen BK103.out 0; have hfz48_1 := blk_frozen BK103.out 1; have hfz48_2 := blk_frozen BK103.out 2))
      refine bodyPost_ret (results_cell_row rfl _ _ gb103 26 #[.int .i64 t108, .int .i64 t109, .string t110] (0, 0) _ rfl (by refine pp_ (cs := #[.int .i64 t108, .int .i64 t109, .string x104002_1]) 2 ?_ rfl; refine blk_put (cs := #[.int .i64 t108, .int .i64 x104001_1, .string x104002_1]) ?_ 1 _ rfl; refine blk_put (cs := #[.int .i64 x104000_1, .int .i64 x104001_1, .string x104002_1]) ?_ 0 _ rfl; exact pkx BK103) Try.underlying26 rfl (by kernel_rfl)) rfl ?_
      exact ⟨by first | rfl | (simp [errW_none, errW_some] <;> rfl) | (simp [*, errW_none, errW_some] <;> rfl), by repeat (first | (with_reducible first | exact HB.out | apply below_alloc | apply pw_below_drewN | apply below_drew1 | refine below_set ?_ GE101.out | refine below_set ?_ GE102.out | refine below_set ?_ GE103.out) | exact HB.out)⟩
  ·replace c14 := Bool.eq_false_iff.mpr c14; subst c14
   have H1 : ((oculusref12_Bad.f 3).bind fun bt105 => (some (bt105.1, bt105.2.1, bt105.2.2))) = some (r1, r2, r3) := by rw [if_neg (show ¬ (false = true) by decide)] at H; exact H
   clear H; have H := H1; clear H1; replace H := Option.bind_eq_some_iff.mp H; obtain ⟨⟨t105, t106, t107⟩, A490, H⟩ := H
   replace H : (some (t105, t106, t107)) = some (r1, r2, r3) := H
   have A49 := Aside0.mk A490; clear A490
   simp only [Option.some.injEq, Prod.mk.injEq] at H
   obtain ⟨rfl, rfl, rfl⟩ := H
   go_enter Try.func11, Try.ntmps11
   go_wp2_with (first | ((with_reducible refine gate_dst (N:=3) rfl ?_); refine be_ (N:=3) (cs := #[.int .i64 a0_0, .int .i64 a0_1, .string a0_2]) (t:=26) ?_; intro gb101 hg w50 hbox hb; have BK101 := Aside0.mk (hbox); have GW101 := hs_ HB hg; have GE101 := hs_ HB hg; replace HB := bs_ HB hb; clear hb hbox hg) | ((with_reducible refine gate_dst (N:=4) rfl ?_); refine be_ (N:=4) (cs := #[.int .i64 a1_0, .int .i64 a1_1, .slice A1_2 l1_2.length c1_2]) (t:=24) ?_; intro gb102 hg w51 hbox hb; have BK102 := Aside0.mk (hbox); have GW102 := hs_ HB hg; have GE102 := hs_ HB hg; have NB101_102 := hl_ BK101 hg; have NB102_101 := hr_ BK101 hg; replace BK101 := bb_ BK101 hb; replace HB := bs_ HB hb; clear hb hbox hg) | ((with_reducible refine gate_dst (N:=6) rfl ?_); refine be_ (N:=6) (cs := #[.int .i64 0, .int .i64 0, .string (⟨#[]⟩ : ByteArray)]) (t:=26) ?_; intro gb103 hg w52 hbox hb; have BK103 := Aside0.mk (hbox); have GW103 := hs_ HB hg; have GE103 := hs_ HB hg; have NB101_103 := hl_ BK101 hg; have NB103_101 := hr_ BK101 hg; have NB102_103 := hl_ BK102 hg; have NB103_102 := hr_ BK102 hg; replace BK101 := bb_ BK101 hb; replace BK102 := bb_ BK102 hb; replace HB := bs_ HB hb; clear hb hbox hg; have hnb53 := NB101_102.out; have hnc53 := NB102_101.out; have hnb54 := NB101_103.out; have hnc54 := NB103_101.out; have hcz55_0 : w52.cell? ⟨gb101, 0, none⟩ = some (.int .i64 a0_0) := bc_ BK101 0 rfl; have hcz55_1 : w52.cell? ⟨gb101, 1, none⟩ = some (.int .i64 a0_1) := bc_ BK101 1 rfl; have hcz55_2 : w52.cell? ⟨gb101, 2, none⟩ = some (.string a0_2) := bc_ BK101 2 rfl; have hfz55_0 := blk_frozen BK101.out 0; have hfz55_1 := blk_frozen BK101.out 1; have hfz55_2 := blk_frozen BK101.out 2; have hnb56 := NB102_103.out; have hnc56 := NB103_102.out; have hcz57_0 : w52.cell? ⟨gb102, 0, none⟩ = some (.int .i64 a1_0) := bc_ BK102 0 rfl; have hcz57_1 : w52.cell? ⟨gb102, 1, none⟩ = some (.int .i64 a1_1) := bc_ BK102 1 rfl; have hcz57_2 : w52.cell? ⟨gb102, 2, none⟩ = some (.slice A1_2 l1_2.length c1_2) := bc_ BK102 2 rfl; have hfz57_0 := blk_frozen BK102.out 0; have hfz57_1 := blk_frozen BK102.out 1; have hfz57_2 := blk_frozen BK102.out 2) | ((with_reducible refine gate_callee (f:=16) rfl ?_); refine gL_ (some 14) rfl rfl Try.func16 rfl #[.agg #[.int .i64 a1_0, .int .i64 a1_1, .slice A1_2 l1_2.length c1_2], .int .i64 1, .int .i64 a2] rfl ?_; (with_reducible refine (oculusref18_In.calls a1_0 a1_1 _ _ l1_2 1 a2 false _ ?side1 ?side2 A13.out).mono ?_); (case side1 => repeat (first | exact (Kd.C_below HR1_2.out HB.out) | (with_reducible refine Kd.C_alloc ?_ _) | (with_reducible refine Kd.C_drewN ?_ _) | (with_reducible refine Kd.C_drew ?_))); (case side2 => exact HC1_2.out); rintro e w58 ⟨rfl, hb⟩; refine ⟨_, rfl, ?_⟩; replace BK101 := bb_ BK101 hb; replace BK102 := bb_ BK102 hb; replace BK103 := bb_ BK103 hb; replace HB := bs_ HB hb; (try clear hb); (try clear hb2); (try clear hk); (try clear hi)) | ((with_reducible refine gate_callee (f:=28) rfl ?_); refine gL_ (some 16) rfl rfl Try.func28 rfl #[.int .i64 3] rfl ?_; (with_reducible refine (oculusref12_Bad.calls 3 t105 t106 t107 _ A49.out).mono ?_); rintro e w59 ⟨rfl, hb⟩; refine ⟨_, rfl, ?_⟩; replace BK101 := bb_ BK101 hb; replace BK102 := bb_ BK102 hb; replace BK103 := bb_ BK103 hb; replace HB := bs_ HB hb; (try clear hb); (try clear hb2); (try clear hk); (try clear hi); have hcz60_0 : w59.cell? ⟨gb103, 0, none⟩ = some (.int .i64 0) := bc_ BK103 0 rfl; have hcz60_1 : w59.cell? ⟨gb103, 1, none⟩ = some (.int .i64 0) := bc_ BK103 1 rfl; have hcz60_2 : w59.cell? ⟨gb103, 2, none⟩ = some (.string (⟨#[]⟩ : ByteArray)) := bc_ BK103 2 rfl; have hfz60_0 := blk_frozen BK103.out 0; have hfz60_1 := blk_frozen BK103.out 1; have hfz60_2 := blk_frozen BK103.out 2))
   refine bodyPost_ret (results_cell_row rfl _ _ gb103 26 #[.int .i64 t105, .int .i64 t106, .string t107] (0, 0) _ rfl (by refine pp_ (cs := #[.int .i64 t105, .int .i64 t106, .string (⟨#[]⟩ : ByteArray)]) 2 ?_ rfl; refine pp_ (cs := #[.int .i64 t105, .int .i64 0, .string (⟨#[]⟩ : ByteArray)]) 1 ?_ rfl; refine pp_ (cs := #[.int .i64 0, .int .i64 0, .string (⟨#[]⟩ : ByteArray)]) 0 ?_ rfl; exact pkx BK103) Try.underlying26 rfl (by kernel_rfl)) rfl ?_
   exact ⟨by first | rfl | (simp [errW_none, errW_some] <;> rfl) | (simp [*, errW_none, errW_some] <;> rfl), by repeat (first | (with_reducible first | exact HB.out | apply below_alloc | apply pw_below_drewN | apply below_drew1 | refine below_set ?_ GE101.out | refine below_set ?_ GE102.out | refine below_set ?_ GE103.out) | exact HB.out)⟩

mutual
def oculusref18_Across.l0 : Nat → Int → Int → Int → Int → ByteArray → Int → Int → List (S26) → Option (Int × Int × ByteArray)
 | 0, _, _, _, _, _, _, _, _ => none
 | k + 1, x2, x7, x102000, x102001, x102002, x103000, x103001, x103002 => if x7 ≤ x103001 then ((oculusref18_At.f x103000 x103001 x103002 1 x7).bind fun bt111 => ((oculusref18_found.f k x102000 x102001 x102002 bt111.1 bt111.2.1 bt111.2.2).bind fun t114 => (oculusref18_Across.j1 k x2 x7 t114 x102000 x102001 x102002 x103000 x103001 x103002))) else ((oculusref12_Bad.f 5).bind fun bt108 => (some (bt108.1, bt108.2.1, bt108.2.2)))
def oculusref18_Across.j1 : Nat → Int → Int → Bool → Int → Int → ByteArray → Int → Int → List (S26) → Option (Int × Int × ByteArray)
 | 0, _, _, _, _, _, _, _, _, _ => none
 | k + 1, x2, x7, x27, x102000, x102001, x102002, x103000, x103001, x103002 => if x27 = true then ((oculusref18_At.f x103000 x103001 x103002 x2 x7).bind fun bt115 => (some (bt115.1, bt115.2.1, bt115.2.2))) else (oculusref18_Across.l0 k x2 (wrap64 (x7 + 1)) x102000 x102001 x102002 x103000 x103001 x103002)
end
def oculusref18_Across.f (k : Nat) (a0_0 : Int) (a0_1 : Int) (a0_2 : ByteArray) (a1_0 : Int) (a1_1 : Int) (l1_2 : List (S26)) (a2 : Int) : Option (Int × Int × ByteArray) := if a0_0 = 4 then (some (a0_0, a0_1, a0_2)) else ((oculusref18_In.f a1_0 a1_1 l1_2 a2 1).bind fun t104 => (if t104 = true then (oculusref18_Across.l0 k a2 1 a0_0 a0_1 a0_2 a1_0 a1_1 l1_2) else ((oculusref12_Bad.f 3).bind fun bt105 => (some (bt105.1, bt105.2.1, bt105.2.2)))))
set_option maxHeartbeats 8000000 in
set_option maxRecDepth 100000 in
theorem oculusref18_Across.calls (k : Nat) (a0_0 : Int) (a0_1 : Int) (a0_2 : ByteArray) (a1_0 : Int) (a1_1 : Int) (A1_2 : Option Addr) (c1_2 : Nat) (l1_2 : List (S26)) (a2 : Int) (r1 : Int) (r2 : Int) (r3 : ByteArray) (w : World) (hr1_2 : Kd.C k26 w A1_2 l1_2.length l1_2) (hc1_2 : l1_2.length ≤ c1_2) (h : oculusref18_Across.f k a0_0 a0_1 a0_2 a1_0 a1_1 l1_2 a2 = some (r1, r2, r3)) :
  Calls Try.prog 12 #[.agg #[.int .i64 a0_0, .int .i64 a0_1, .string a0_2], .agg #[.int .i64 a1_0, .int .i64 a1_1, .slice A1_2 l1_2.length c1_2], .int .i64 a2] w fun e w' => e = .returned (.agg #[.int .i64 r1, .int .i64 r2, .string r3]) ∧ Below w.heap.size w w' := by
 have hu26 := Try.underlying26; have hu24 := Try.underlying24; have HR1_2 := Aside0.mk hr1_2; have HC1_2 := Aside0.mk hc1_2; clear hr1_2 hc1_2; have HB := Aside0.mk (Below.refl w.heap.size w)
 have H : (if a0_0 = 4 then (some (a0_0, a0_1, a0_2)) else ((oculusref18_In.f a1_0 a1_1 l1_2 a2 1).bind fun t104 => (if t104 = true then (oculusref18_Across.l0 k a2 1 a0_0 a0_1 a0_2 a1_0 a1_1 l1_2) else ((oculusref12_Bad.f 3).bind fun bt105 => (some (bt105.1, bt105.2.1, bt105.2.2)))))) = some (r1, r2, r3) := h
 clear h
 by_cases c4 : a0_0 = 4
 ·rw [if_pos c4] at H; have c4b0 : (a0_0 == 4) = true := beq_iff_eq.mpr c4; have c4b1 : (a0_0 != 4) = false := bne_eq_false_iff_eq.mpr c4; clear c4
  simp only [Option.some.injEq, Prod.mk.injEq] at H
  obtain ⟨rfl, rfl, rfl⟩ := H
  go_enter Try.func12, Try.ntmps12
  go_wp2_with (first | ((with_reducible refine gate_dst (N:=3) rfl ?_); refine be_ (N:=3) (cs := #[.int .i64 a0_0, .int .i64 a0_1, .string a0_2]) (t:=26) ?_; intro gb101 hg w5 hbox hb; have BK101 := Aside0.mk (hbox); have GW101 := hs_ HB hg; have GE101 := hs_ HB hg; replace HB := bs_ HB hb; clear hb hbox hg) | ((with_reducible refine gate_dst (N:=4) rfl ?_); refine be_ (N:=4) (cs := #[.int .i64 a1_0, .int .i64 a1_1, .slice A1_2 l1_2.length c1_2]) (t:=24) ?_; intro gb102 hg w6 hbox hb; have BK102 := Aside0.mk (hbox); have GW102 := hs_ HB hg; have GE102 := hs_ HB hg; have NB101_102 := hl_ BK101 hg; have NB102_101 := hr_ BK101 hg; replace BK101 := bb_ BK101 hb; replace HB := bs_ HB hb; clear hb hbox hg) | ((with_reducible refine gate_dst (N:=6) rfl ?_); refine be_ (N:=6) (cs := #[.int .i64 0, .int .i64 0, .string (⟨#[]⟩ : ByteArray)]) (t:=26) ?_; intro gb103 hg w7 hbox hb; have BK103 := Aside0.mk (hbox); have GW103 := hs_ HB hg; have GE103 := hs_ HB hg; have NB101_103 := hl_ BK101 hg; have NB103_101 := hr_ BK101 hg; have NB102_103 := hl_ BK102 hg; have NB103_102 := hr_ BK102 hg; replace BK101 := bb_ BK101 hb; replace BK102 := bb_ BK102 hb; replace HB := bs_ HB hb; clear hb hbox hg; have hnb8 := NB101_102.out; have hnc8 := NB102_101.out; have hnb9 := NB101_103.out; have hnc9 := NB103_101.out; have hcz10_0 : w7.cell? ⟨gb101, 0, none⟩ = some (.int .i64 a0_0) := bc_ BK101 0 rfl; have hcz10_1 : w7.cell? ⟨gb101, 1, none⟩ = some (.int .i64 a0_1) := bc_ BK101 1 rfl; have hcz10_2 : w7.cell? ⟨gb101, 2, none⟩ = some (.string a0_2) := bc_ BK101 2 rfl; have hfz10_0 := blk_frozen BK101.out 0; have hfz10_1 := blk_frozen BK101.out 1; have hfz10_2 := blk_frozen BK101.out 2; have hnb11 := NB103_102.out; have hnc11 := NB102_103.out; have hcz12_0 : w7.cell? ⟨gb103, 0, none⟩ = some (.int .i64 0) := bc_ BK103 0 rfl; have hcz12_1 : w7.cell? ⟨gb103, 1, none⟩ = some (.int .i64 0) := bc_ BK103 1 rfl; have hcz12_2 : w7.cell? ⟨gb103, 2, none⟩ = some (.string (⟨#[]⟩ : ByteArray)) := bc_ BK103 2 rfl; have hfz12_0 := blk_frozen BK103.out 0; have hfz12_1 := blk_frozen BK103.out 1; have hfz12_2 := blk_frozen BK103.out 2))
  refine bodyPost_ret (results_cell_row rfl _ _ gb103 26 #[.int .i64 a0_0, .int .i64 a0_1, .string a0_2] (0, 0) _ rfl (by refine pp_ (cs := #[.int .i64 a0_0, .int .i64 a0_1, .string (⟨#[]⟩ : ByteArray)]) 2 ?_ rfl; refine pp_ (cs := #[.int .i64 a0_0, .int .i64 0, .string (⟨#[]⟩ : ByteArray)]) 1 ?_ rfl; refine pp_ (cs := #[.int .i64 0, .int .i64 0, .string (⟨#[]⟩ : ByteArray)]) 0 ?_ rfl; exact pkx BK103) Try.underlying26 rfl (by kernel_rfl)) rfl ?_
  exact ⟨by first | rfl | (simp [errW_none, errW_some] <;> rfl) | (simp [*, errW_none, errW_some] <;> rfl), by repeat (first | (with_reducible first | exact HB.out | apply below_alloc | apply pw_below_drewN | apply below_drew1 | refine below_set ?_ GE101.out | refine below_set ?_ GE102.out | refine below_set ?_ GE103.out) | exact HB.out)⟩
 ·rw [if_neg c4] at H; have c4b0 : (a0_0 == 4) = false := beq_eq_false_iff_ne.mpr c4; have c4b1 : (a0_0 != 4) = true := bne_iff_ne.mpr c4; replace H := Option.bind_eq_some_iff.mp H; obtain ⟨t104, A130, H⟩ := H
  replace H : (if t104 = true then (oculusref18_Across.l0 k a2 1 a0_0 a0_1 a0_2 a1_0 a1_1 l1_2) else ((oculusref12_Bad.f 3).bind fun bt105 => (some (bt105.1, bt105.2.1, bt105.2.2)))) = some (r1, r2, r3) := H
  have A13 := Aside0.mk A130; clear A130
  by_cases c14 : t104 = true
  ·subst c14
   have H1 : (oculusref18_Across.l0 k a2 1 a0_0 a0_1 a0_2 a1_0 a1_1 l1_2) = some (r1, r2, r3) := by rw [if_pos rfl] at H; exact H
   clear H; have H := H1; clear H1
   have H' := Aside0.mk H
   clear H
   go_enter Try.func12, Try.ntmps12
   go_wp2_with (first | ((with_reducible refine gate_dst (N:=3) rfl ?_); refine be_ (N:=3) (cs := #[.int .i64 a0_0, .int .i64 a0_1, .string a0_2]) (t:=26) ?_; intro gb101 hg w15 hbox hb; have BK101 := Aside0.mk (hbox); have GW101 := hs_ HB hg; have GE101 := hs_ HB hg; replace HB := bs_ HB hb; clear hb hbox hg) | ((with_reducible refine gate_dst (N:=4) rfl ?_); refine be_ (N:=4) (cs := #[.int .i64 a1_0, .int .i64 a1_1, .slice A1_2 l1_2.length c1_2]) (t:=24) ?_; intro gb102 hg w16 hbox hb; have BK102 := Aside0.mk (hbox); have GW102 := hs_ HB hg; have GE102 := hs_ HB hg; have NB101_102 := hl_ BK101 hg; have NB102_101 := hr_ BK101 hg; replace BK101 := bb_ BK101 hb; replace HB := bs_ HB hb; clear hb hbox hg) | ((with_reducible refine gate_dst (N:=6) rfl ?_); refine be_ (N:=6) (cs := #[.int .i64 0, .int .i64 0, .string (⟨#[]⟩ : ByteArray)]) (t:=26) ?_; intro gb103 hg w17 hbox hb; have BK103 := Aside0.mk (hbox); have GW103 := hs_ HB hg; have GE103 := hs_ HB hg; have NB101_103 := hl_ BK101 hg; have NB103_101 := hr_ BK101 hg; have NB102_103 := hl_ BK102 hg; have NB103_102 := hr_ BK102 hg; replace BK101 := bb_ BK101 hb; replace BK102 := bb_ BK102 hb; replace HB := bs_ HB hb; clear hb hbox hg; have hnb18 := NB101_102.out; have hnc18 := NB102_101.out; have hnb19 := NB101_103.out; have hnc19 := NB103_101.out; have hcz20_0 : w17.cell? ⟨gb101, 0, none⟩ = some (.int .i64 a0_0) := bc_ BK101 0 rfl; have hcz20_1 : w17.cell? ⟨gb101, 1, none⟩ = some (.int .i64 a0_1) := bc_ BK101 1 rfl; have hcz20_2 : w17.cell? ⟨gb101, 2, none⟩ = some (.string a0_2) := bc_ BK101 2 rfl; have hfz20_0 := blk_frozen BK101.out 0; have hfz20_1 := blk_frozen BK101.out 1; have hfz20_2 := blk_frozen BK101.out 2; have hnb21 := NB102_103.out; have hnc21 := NB103_102.out; have hcz22_0 : w17.cell? ⟨gb102, 0, none⟩ = some (.int .i64 a1_0) := bc_ BK102 0 rfl; have hcz22_1 : w17.cell? ⟨gb102, 1, none⟩ = some (.int .i64 a1_1) := bc_ BK102 1 rfl; have hcz22_2 : w17.cell? ⟨gb102, 2, none⟩ = some (.slice A1_2 l1_2.length c1_2) := bc_ BK102 2 rfl; have hfz22_0 := blk_frozen BK102.out 0; have hfz22_1 := blk_frozen BK102.out 1; have hfz22_2 := blk_frozen BK102.out 2) | ((with_reducible refine gate_callee (f:=16) rfl ?_); refine gL_ (some 14) rfl rfl Try.func16 rfl #[.agg #[.int .i64 a1_0, .int .i64 a1_1, .slice A1_2 l1_2.length c1_2], .int .i64 a2, .int .i64 1] rfl ?_; (with_reducible refine (oculusref18_In.calls a1_0 a1_1 _ _ l1_2 a2 1 true _ ?side1 ?side2 A13.out).mono ?_); (case side1 => repeat (first | exact (Kd.C_below HR1_2.out HB.out) | (with_reducible refine Kd.C_alloc ?_ _) | (with_reducible refine Kd.C_drewN ?_ _) | (with_reducible refine Kd.C_drew ?_))); (case side2 => exact HC1_2.out); rintro e w23 ⟨rfl, hb⟩; refine ⟨_, rfl, ?_⟩; replace BK101 := bb_ BK101 hb; replace BK102 := bb_ BK102 hb; replace BK103 := bb_ BK103 hb; replace HB := bs_ HB hb; (try clear hb); (try clear hb2); (try clear hk); (try clear hi)))
   go_loopg [7] k (fun kq v7 w' => ∃ (x7_1 : Int) (x104000_1 : Int) (x104001_1 : Int) (x104002_1 : ByteArray), v7 = .int .i64 x7_1 ∧ Aside0 (oculusref18_Across.l0 kq a2 x7_1 a0_0 a0_1 a0_2 a1_0 a1_1 l1_2 = some (r1, r2, r3)) ∧ Aside0 (kq ≤ k) ∧ Aside0 (w'.heap[gb101]? = some (.cells #[.int .i64 a0_0, .int .i64 a0_1, .string a0_2] 26 (0, 0))) ∧ Aside0 (w'.heap[gb102]? = some (.cells #[.int .i64 a1_0, .int .i64 a1_1, (.slice A1_2 l1_2.length c1_2)] 24 (0, 0))) ∧ Aside0 (w'.heap[gb103]? = some (.cells #[.int .i64 x104000_1, .int .i64 x104001_1, .string x104002_1] 26 (0, 0))) ∧ Aside0 (Below w.heap.size w w'))
   case atStart => exact ⟨(1), (0), (0), ((⟨#[]⟩ : ByteArray)), (by first | rfl | (simp; done) | (simp [*]; done)), H', ⟨Nat.le_refl _⟩, ⟨pkx BK101⟩, ⟨pkx BK102⟩, ⟨pkx BK103⟩, ⟨pbx HB⟩⟩
   case round =>
    clear H'; (try clear c1); (try clear c2); (try clear p2); (try clear c4); (try clear c4b0); (try clear c4b1); (try clear c8); (try clear c9); (try clear c11); (try clear c12); (try clear c14); (try clear c16); (try clear c18); (try clear c19); (try clear c21); (try clear hcz10_0); (try clear hcz10_1); (try clear hcz10_2); (try clear hcz12_0); (try clear hcz12_1); (try clear hcz12_2); (try clear hcz20_0); (try clear hcz20_1); (try clear hcz20_2); (try clear hcz22_0); (try clear hcz22_1); (try clear hcz22_2); (try clear hfz10_0); (try clear hfz10_1); (try clear hfz10_2); (try clear hfz12_0); (try clear hfz12_1); (try clear hfz12_2); (try clear hfz20_0); (try clear hfz20_1); (try clear hfz20_2); (try clear hfz22_0); (try clear hfz22_1); (try clear hfz22_2); obtain ⟨x7_1, x104000_1, x104001_1, x104002_1, rfl, HA, HK1, BK101, BK102, BK103, HB⟩ := hrel
    cases gk with
    | zero => exact absurd HA.out (by simp [oculusref18_Across.l0])
    | succ k1 =>
     have H := HA.out; clear HA
     simp only [oculusref18_Across.l0] at H
     by_cases c24 : x7_1 ≤ a1_1
     ·rw [if_pos c24] at H; have c24b0 : decide (x7_1 ≤ a1_1) = true := decide_eq_true c24; clear c24; have HC25 := Aside0.mk H; clear H; have hnb26 := NB102_101.out; have hnc26 := NB101_102.out; have hnb27 := NB102_103.out; have hnc27 := NB103_102.out
      have hcz28_0 : wr.cell? ⟨gb102, 0, none⟩ = some (.int .i64 a1_0) := bc_ BK102 0 rfl
      have hcz28_1 : wr.cell? ⟨gb102, 1, none⟩ = some (.int .i64 a1_1) := bc_ BK102 1 rfl
      have hcz28_2 : wr.cell? ⟨gb102, 2, none⟩ = some (.slice A1_2 l1_2.length c1_2) := bc_ BK102 2 rfl
      have hfz28_0 := blk_frozen BK102.out 0; have hfz28_1 := blk_frozen BK102.out 1; have hfz28_2 := blk_frozen BK102.out 2
      go_upto_region 8 with (fail)
      go_cut [27] (fun v27 wc => ∃ (kq : Nat) (x27_24 : Bool), v27 = .bool x27_24 ∧ Aside0 (oculusref18_Across.j1 kq a2 x7_1 x27_24 a0_0 a0_1 a0_2 a1_0 a1_1 l1_2 = some (r1, r2, r3)) ∧ Aside0 (kq ≤ k1) ∧ Aside0 (wc.heap[gb101]? = some (.cells #[.int .i64 a0_0, .int .i64 a0_1, .string a0_2] 26 (0, 0))) ∧ Aside0 (wc.heap[gb102]? = some (.cells #[.int .i64 a1_0, .int .i64 a1_1, (.slice A1_2 l1_2.length c1_2)] 24 (0, 0))) ∧ Aside0 (wc.heap[gb103]? = some (.cells #[.int .i64 x104000_1, .int .i64 x104001_1, .string x104002_1] 26 (0, 0))) ∧ Aside0 (Below w.heap.size w wc))
      case first =>
       have H := HC25.out; clear HC25; replace H := Option.bind_eq_some_iff.mp H; obtain ⟨⟨t111, t112, t113⟩, A290, H⟩ := H
       replace H : ((oculusref18_found.f k1 a0_0 a0_1 a0_2 t111 t112 t113).bind fun t114 => (oculusref18_Across.j1 k1 a2 x7_1 t114 a0_0 a0_1 a0_2 a1_0 a1_1 l1_2)) = some (r1, r2, r3) := H
       have A29 := Aside0.mk A290; clear A290; replace H := Option.bind_eq_some_iff.mp H; obtain ⟨t114, A300, H⟩ := H
       replace H : (oculusref18_Across.j1 k1 a2 x7_1 t114 a0_0 a0_1 a0_2 a1_0 a1_1 l1_2) = some (r1, r2, r3) := H
       have A30 := Aside0.mk A300; clear A300
       have H' := Aside0.mk H
       clear H
       try go_wp2
       (try (rw [drewN_self wr]; generalize hq_ : World.drewN wr _ = wr; have n0_ : Aside0 (wr.heap[gb101]? = some (.cells #[.int .i64 a0_0, .int .i64 a0_1, .string a0_2] 26 (0, 0))) := ⟨by rw [← hq_]; exact (pkx BK101)⟩; have n1_ : Aside0 (wr.heap[gb102]? = some (.cells #[.int .i64 a1_0, .int .i64 a1_1, .slice A1_2 l1_2.length c1_2] 24 (0, 0))) := ⟨by rw [← hq_]; exact (pkx BK102)⟩; have n2_ : Aside0 (wr.heap[gb103]? = some (.cells #[.int .i64 x104000_1, .int .i64 x104001_1, .string x104002_1] 26 (0, 0))) := ⟨by rw [← hq_]; exact (pkx BK103)⟩; have n3_ : Aside0 (Below w.heap.size w wr) := ⟨by rw [← hq_]; exact (pbx HB)⟩; clear BK101 BK102 BK103 HB hq_; have BK101 := n0_; have BK102 := n1_; have BK103 := n2_; have HB := n3_; clear n0_ n1_ n2_ n3_))
       replace BK101 := Aside0.mk (blk_drew BK101.out); replace BK102 := Aside0.mk (blk_drew BK102.out); replace BK103 := Aside0.mk (blk_drew BK103.out); replace HB := Aside0.mk (below_drew1 HB.out)
       refine start_ (n:=5) (S := fun w' => w'.cell? ⟨gb101, 0, none⟩ = some (.int .i64 a0_0) ∧ w'.cell? ⟨gb101, 1, none⟩ = some (.int .i64 a0_1) ∧ w'.cell? ⟨gb101, 2, none⟩ = some (.string a0_2) ∧ w'.cell? ⟨gb102, 0, none⟩ = some (.int .i64 a1_0) ∧ w'.cell? ⟨gb102, 1, none⟩ = some (.int .i64 a1_1) ∧ w'.cell? ⟨gb102, 2, none⟩ = some (.slice A1_2 l1_2.length c1_2)) (ds := []) #[F,F,F,F,F] (by kernel_rfl) rfl rfl ⟨bc_ BK101 0 rfl, bc_ BK101 1 rfl, bc_ BK101 2 rfl, bc_ BK102 0 rfl, bc_ BK102 1 rfl, bc_ BK102 2 rfl⟩ (fun hHeld => ?_)
       generalize wr.drew = w31 at BK101 BK102 BK103 HB hHeld ⊢; refine pure_ (i:=2) (N:=some 25) (v:=?_) (a':=?_) ⟨m_ 5 4⟩ rfl rfl (by kernel_rfl) (fun _ _ _ h=>h) (Or.inl ⟨rfl, ?_⟩) ?_ ?_; rotate_left
       ·intro w'; go_simp; with_reducible rfl
       rotate_left
       ·simp only [q_, i64_w, i32_w]; rfl
       refine take_ (i:=0) (N:=some 23) (v:=?_) (a':=?_) ⟨m_ 5 5⟩ rfl rfl (by kernel_rfl) (fun _ _ _ h=>h) (Or.inl ⟨rfl, ?_⟩) hHeld ?_ ?_; rotate_left
       ·rintro w' ⟨s0, s1, s2, s3, s4, s5⟩; go_simp; with_reducible rfl
       rotate_left
       ·simp only [q_, i64_w, i32_w]; rfl
       refine take_ (i:=1) (N:=some 24) (v:=?_) (a':=?_) ⟨m_ 5 7⟩ rfl rfl (by kernel_rfl) (fun _ _ _ h=>h) (Or.inl ⟨rfl, ?_⟩) hHeld ?_ ?_; rotate_left
       ·rintro w' ⟨s0, s1, s2, s3, s4, s5⟩; go_simp; with_reducible rfl
       rotate_left
       ·simp only [q_, i64_w, i32_w]; rfl
       refine one_ (i:=3) (N:=some 26) ⟨m_ 5 15⟩ rfl rfl (by kernel_rfl) (by decide) (fun K hK => ?_); refine goes_ Try.func8 (by kernel_rfl) rfl #[.agg #[.int .i64 a1_0, .int .i64 a1_1, .slice A1_2 l1_2.length c1_2], .int .i64 1, .int .i64 x7_1] (by rfl) rfl rfl (by (try simp only [List.map_toArray, List.map_cons, List.map_nil]); first | done | rfl | (simp only [List.length_drop, List.length_take]; rfl)) ?_; with_reducible refine (oculusref18_At.calls a1_0 a1_1 _ _ l1_2 1 x7_1 t111 t112 t113 _ ?side1 ?side2 A29.out).mono ?_; (case side1 => repeat (first | exact (Kd.C_below HR1_2.out HB.out) | (with_reducible refine Kd.C_alloc ?_ _) | (with_reducible refine Kd.C_drewN ?_ _) | (with_reducible refine Kd.C_drew ?_))); (case side2 => exact HC1_2.out); rintro e w32 ⟨rfl, hb⟩; refine ⟨_, rfl, ?_⟩
       replace BK101 := bb_ BK101 hb; replace BK102 := bb_ BK102 hb; replace BK103 := bb_ BK103 hb; replace HB := bs_ HB hb; (try clear hb); (try clear hb2); (try clear hk); (try clear hi); refine hK.out _ _ ⟨bc_ BK101 0 rfl, bc_ BK101 1 rfl, bc_ BK101 2 rfl, bc_ BK102 0 rfl, bc_ BK102 1 rfl, bc_ BK102 2 rfl⟩ (fun hHeld => ?_); clear hK K; refine norm_ (a':=?_) ?_ ?_; rotate_left
       ·show Act.put _ (some 26) _ = _; simp only [q_, i64_w, i32_w]; rfl
       refine one_ (i:=4) (N:=some 27) ⟨m_ 5 31⟩ rfl rfl (by kernel_rfl) (by decide) (fun K hK => ?_); refine goes_ Try.func29 (by kernel_rfl) rfl #[.agg #[.int .i64 a0_0, .int .i64 a0_1, .string a0_2], .agg #[.int .i64 t111, .int .i64 t112, .string t113]] (by rfl) rfl rfl (by (try simp only [List.map_toArray, List.map_cons, List.map_nil]); first | done | rfl | (simp only [List.length_drop, List.length_take]; rfl)) ?_; with_reducible refine (oculusref18_found.calls k1 a0_0 a0_1 a0_2 t111 t112 t113 t114 _ A30.out).mono ?_; rintro e w33 ⟨rfl, hb⟩; refine ⟨_, rfl, ?_⟩
       replace BK101 := bb_ BK101 hb; replace BK102 := bb_ BK102 hb; replace BK103 := bb_ BK103 hb; replace HB := bs_ HB hb; (try clear hb); (try clear hb2); (try clear hk); (try clear hi); refine hK.out _ _ ⟨bc_ BK101 0 rfl, bc_ BK101 1 rfl, bc_ BK101 2 rfl, bc_ BK102 0 rfl, bc_ BK102 1 rfl, bc_ BK102 2 rfl⟩ (fun hHeld => ?_); clear hK K; refine norm_ (a':=?_) ?_ ?_; rotate_left
       ·show Act.put _ (some 27) _ = _; simp only [q_, i64_w, i32_w]; rfl
       refine done_ (by kernel_rfl) ?_
       try go_wp2
       go_meet
       case rel => exact ⟨_, (t114), (by first | rfl | (simp; done) | (simp [*]; done) | (cases t114 <;> simp; done)), H', ⟨by have := HK1.out; first | omega | exact Nat.le_refl _⟩, ⟨pkx BK101⟩, ⟨pkx BK102⟩, ⟨pkx BK103⟩, ⟨pbx HB⟩⟩
      case rest =>
       clear HC25; (try clear c1); (try clear c2); (try clear p2); (try clear c4); (try clear c4b0); (try clear c4b1); (try clear c8); (try clear c9); (try clear c11); (try clear c12); (try clear c14); (try clear c16); (try clear c18); (try clear c19); (try clear c21); (try clear c24); (try clear c24b0); (try clear c26); (try clear c27); (try clear c29); (try clear hcz10_0); (try clear hcz10_1); (try clear hcz10_2); (try clear hcz12_0); (try clear hcz12_1); (try clear hcz12_2); (try clear hcz20_0); (try clear hcz20_1); (try clear hcz20_2); (try clear hcz22_0); (try clear hcz22_1); (try clear hcz22_2); (try clear hcz28_0); (try clear hcz28_1); (try clear hcz28_2); (try clear hfz10_0); (try clear hfz10_1); (try clear hfz10_2); (try clear hfz12_0); (try clear hfz12_1); (try clear hfz12_2); (try clear hfz20_0); (try clear hfz20_1); (try clear hfz20_2); (try clear hfz22_0); (try clear hfz22_1)
       (try clear hfz22_2); (try clear hfz28_0); (try clear hfz28_1); (try clear hfz28_2); (try clear p2); obtain ⟨kq, x27_24, rfl, HA, HJ24, BK101, BK102, BK103, HB⟩ := hcut
       cases kq with
       | zero => exact absurd HA.out (by simp [oculusref18_Across.j1])
       | succ kj24 =>
        have H := HA.out; clear HA
        simp only [oculusref18_Across.j1] at H
        by_cases c34 : x27_24 = true
        ·subst c34
         have H1 : ((oculusref18_At.f a1_0 a1_1 l1_2 a2 x7_1).bind fun bt115 => (some (bt115.1, bt115.2.1, bt115.2.2))) = some (r1, r2, r3) := by rw [if_pos rfl] at H; exact H
         clear H; have H := H1; clear H1; replace H := Option.bind_eq_some_iff.mp H; obtain ⟨⟨t115, t116, t117⟩, A350, H⟩ := H
         replace H : (some (t115, t116, t117)) = some (r1, r2, r3) := H
         have A35 := Aside0.mk A350; clear A350
         simp only [Option.some.injEq, Prod.mk.injEq] at H
         obtain ⟨rfl, rfl, rfl⟩ := H; have hnb36 := NB102_101.out; have hnc36 := NB101_102.out; have hnb37 := NB102_103.out; have hnc37 := NB103_102.out
         have hcz38_0 : wc.cell? ⟨gb102, 0, none⟩ = some (.int .i64 a1_0) := bc_ BK102 0 rfl
         have hcz38_1 : wc.cell? ⟨gb102, 1, none⟩ = some (.int .i64 a1_1) := bc_ BK102 1 rfl
         have hcz38_2 : wc.cell? ⟨gb102, 2, none⟩ = some (.slice A1_2 l1_2.length c1_2) := bc_ BK102 2 rfl
         have hfz38_0 := blk_frozen BK102.out 0; have hfz38_1 := blk_frozen BK102.out 1; have hfz38_2 := blk_frozen BK102.out 2
         go_wp2_with (first | ((with_reducible refine gate_callee (f:=8) rfl ?_); refine gL_ (some 31) rfl rfl Try.func8 rfl #[.agg #[.int .i64 a1_0, .int .i64 a1_1, .slice A1_2 l1_2.length c1_2], .int .i64 a2, .int .i64 x7_1] rfl ?_; (with_reducible refine (oculusref18_At.calls a1_0 a1_1 _ _ l1_2 a2 x7_1 t115 t116 t117 _ ?side1 ?side2 A35.out).mono ?_); (case side1 => repeat (first | exact (Kd.C_below HR1_2.out HB.out) | (with_reducible refine Kd.C_alloc ?_ _) | (with_reducible refine Kd.C_drewN ?_ _) | (with_reducible refine Kd.C_drew ?_))); (case side2 => exact HC1_2.out); rintro e w39 ⟨rfl, hb⟩; refine ⟨_, rfl, ?_⟩; replace BK101 := bb_ BK101 hb; replace BK102 := bb_ BK102 hb; replace BK103 := bb_ BK103 hb; replace HB := bs_ HB hb; (try clear hb); (try clear hb2); (try clear hk); (try clear hi); have hnb40 := NB103_101.out; have hnc40 := NB101_103.out; have hcz41_0 : w39.cell? ⟨gb103, 0, none⟩ = some (.int .i64 x104000_1) := bc_ BK103 0 rfl; have hcz41_1 : w39.cell? ⟨gb103, 1, none⟩ = some (.int .i64 x104001_1) := bc_ BK103 1 rfl; have hcz41_2 : w39.cell? ⟨gb103, 2, none⟩ = some (.string x104002_1) := bc_ BK103 2 rfl; have hfz41_0 := blk_frozen BK103.out 0; have hfz41_1 := blk_frozen BK103.out 1; have hfz41_2 := blk_frozen BK103.out 2))
         refine bodyPost_ret (results_cell_row rfl _ _ gb103 26 #[.int .i64 t115, .int .i64 t116, .string t117] (0, 0) _ rfl (by refine pp_ (cs := #[.int .i64 t115, .int .i64 t116, .string x104002_1]) 2 ?_ rfl; refine blk_put (cs := #[.int .i64 t115, .int .i64 x104001_1, .string x104002_1]) ?_ 1 _ rfl; refine blk_put (cs := #[.int .i64 x104000_1, .int .i64 x104001_1, .string x104002_1]) ?_ 0 _ rfl; exact pkx BK103) Try.underlying26 rfl (by kernel_rfl)) rfl ?_
         exact ⟨by first | rfl | (simp [errW_none, errW_some] <;> rfl) | (simp [*, errW_none, errW_some] <;> rfl), by repeat (first | (with_reducible first | exact HB.out | apply below_alloc | apply pw_below_drewN | apply below_drew1 | refine below_set ?_ GE101.out | refine below_set ?_ GE102.out | refine below_set ?_ GE103.out) | exact HB.out)⟩
        ·replace c34 := Bool.eq_false_iff.mpr c34; subst c34
         have H1 : (oculusref18_Across.l0 kj24 a2 (wrap64 (x7_1 + 1)) a0_0 a0_1 a0_2 a1_0 a1_1 l1_2) = some (r1, r2, r3) := by rw [if_neg (show ¬ (false = true) by decide)] at H; exact H
         clear H; have H := H1; clear H1
         have H' := Aside0.mk H
         clear H
         go_wp2
         go_roundg kj24
         case measure => have := HK1.out; have := HJ24.out; omega
         case rel => exact ⟨(wrap64 (x7_1 + 1)), (x104000_1), (x104001_1), (x104002_1), (by first | rfl | (simp; done) | (simp [*]; done)), H', ⟨by have := HK1.out; have := HJ24.out; omega⟩, ⟨pkx BK101⟩, ⟨pkx BK102⟩, ⟨pkx BK103⟩, ⟨pbx HB⟩⟩
     ·rw [if_neg c24] at H; have c24b0 : decide (x7_1 ≤ a1_1) = false := decide_eq_false c24; clear c24; replace H := Option.bind_eq_some_iff.mp H; obtain ⟨⟨t108, t109, t110⟩, A420, H⟩ := H
      replace H : (some (t108, t109, t110)) = some (r1, r2, r3) := H
      have A42 := Aside0.mk A420; clear A420
      simp only [Option.some.injEq, Prod.mk.injEq] at H
      obtain ⟨rfl, rfl, rfl⟩ := H; have hnb43 := NB102_101.out; have hnc43 := NB101_102.out; have hnb44 := NB102_103.out; have hnc44 := NB103_102.out
      have hcz45_0 : wr.cell? ⟨gb102, 0, none⟩ = some (.int .i64 a1_0) := bc_ BK102 0 rfl
      have hcz45_1 : wr.cell? ⟨gb102, 1, none⟩ = some (.int .i64 a1_1) := bc_ BK102 1 rfl
      have hcz45_2 : wr.cell? ⟨gb102, 2, none⟩ = some (.slice A1_2 l1_2.length c1_2) := bc_ BK102 2 rfl
      have hfz45_0 := blk_frozen BK102.out 0; have hfz45_1 := blk_frozen BK102.out 1; have hfz45_2 := blk_frozen BK102.out 2
      go_wp2_with (first | ((with_reducible refine gate_callee (f:=28) rfl ?_); refine gL_ (some 32) rfl rfl Try.func28 rfl #[.int .i64 5] rfl ?_; (with_reducible refine (oculusref12_Bad.calls 5 t108 t109 t110 _ A42.out).mono ?_); rintro e w46 ⟨rfl, hb⟩; refine ⟨_, rfl, ?_⟩; replace BK101 := bb_ BK101 hb; replace BK102 := bb_ BK102 hb; replace BK103 := bb_ BK103 hb; replace HB := bs_ HB hb; (try clear hb); (try clear hb2); (try clear hk); (try clear hi); have hnb47 := NB103_101.out; have hnc47 := NB101_103.out; have hcz48_0 : w46.cell? ⟨gb103, 0, none⟩ = some (.int .i64 x104000_1) := bc_ BK103 0 rfl; have hcz48_1 : w46.cell? ⟨gb103, 1, none⟩ = some (.int .i64 x104001_1) := bc_ BK103 1 rfl; have hcz48_2 : w46.cell? ⟨gb103, 2, none⟩ = some (.string x104002_1) := bc_ BK103 2 rfl; have hfz48_0 := blk_frozen BK103.out 0; have hfz48_1 := blk_frozen BK103.out 1; have hfz48_2 := blk_frozen BK103.out 2))
      refine bodyPost_ret (results_cell_row rfl _ _ gb103 26 #[.int .i64 t108, .int .i64 t109, .string t110] (0, 0) _ rfl (by refine pp_ (cs := #[.int .i64 t108, .int .i64 t109, .string x104002_1]) 2 ?_ rfl; refine blk_put (cs := #[.int .i64 t108, .int .i64 x104001_1, .string x104002_1]) ?_ 1 _ rfl; refine blk_put (cs := #[.int .i64 x104000_1, .int .i64 x104001_1, .string x104002_1]) ?_ 0 _ rfl; exact pkx BK103) Try.underlying26 rfl (by kernel_rfl)) rfl ?_
      exact ⟨by first | rfl | (simp [errW_none, errW_some] <;> rfl) | (simp [*, errW_none, errW_some] <;> rfl), by repeat (first | (with_reducible first | exact HB.out | apply below_alloc | apply pw_below_drewN | apply below_drew1 | refine below_set ?_ GE101.out | refine below_set ?_ GE102.out | refine below_set ?_ GE103.out) | exact HB.out)⟩
  ·replace c14 := Bool.eq_false_iff.mpr c14; subst c14
   have H1 : ((oculusref12_Bad.f 3).bind fun bt105 => (some (bt105.1, bt105.2.1, bt105.2.2))) = some (r1, r2, r3) := by rw [if_neg (show ¬ (false = true) by decide)] at H; exact H
   clear H; have H := H1; clear H1; replace H := Option.bind_eq_some_iff.mp H; obtain ⟨⟨t105, t106, t107⟩, A490, H⟩ := H
   replace H : (some (t105, t106, t107)) = some (r1, r2, r3) := H
   have A49 := Aside0.mk A490; clear A490
   simp only [Option.some.injEq, Prod.mk.injEq] at H
   obtain ⟨rfl, rfl, rfl⟩ := H
   go_enter Try.func12, Try.ntmps12
   go_wp2_with (first | ((with_reducible refine gate_dst (N:=3) rfl ?_); refine be_ (N:=3) (cs := #[.int .i64 a0_0, .int .i64 a0_1, .string a0_2]) (t:=26) ?_; intro gb101 hg w50 hbox hb; have BK101 := Aside0.mk (hbox); have GW101 := hs_ HB hg; have GE101 := hs_ HB hg; replace HB := bs_ HB hb; clear hb hbox hg) | ((with_reducible refine gate_dst (N:=4) rfl ?_); refine be_ (N:=4) (cs := #[.int .i64 a1_0, .int .i64 a1_1, .slice A1_2 l1_2.length c1_2]) (t:=24) ?_; intro gb102 hg w51 hbox hb; have BK102 := Aside0.mk (hbox); have GW102 := hs_ HB hg; have GE102 := hs_ HB hg; have NB101_102 := hl_ BK101 hg; have NB102_101 := hr_ BK101 hg; replace BK101 := bb_ BK101 hb; replace HB := bs_ HB hb; clear hb hbox hg) | ((with_reducible refine gate_dst (N:=6) rfl ?_); refine be_ (N:=6) (cs := #[.int .i64 0, .int .i64 0, .string (⟨#[]⟩ : ByteArray)]) (t:=26) ?_; intro gb103 hg w52 hbox hb; have BK103 := Aside0.mk (hbox); have GW103 := hs_ HB hg; have GE103 := hs_ HB hg; have NB101_103 := hl_ BK101 hg; have NB103_101 := hr_ BK101 hg; have NB102_103 := hl_ BK102 hg; have NB103_102 := hr_ BK102 hg; replace BK101 := bb_ BK101 hb; replace BK102 := bb_ BK102 hb; replace HB := bs_ HB hb; clear hb hbox hg; have hnb53 := NB101_102.out; have hnc53 := NB102_101.out; have hnb54 := NB101_103.out; have hnc54 := NB103_101.out; have hcz55_0 : w52.cell? ⟨gb101, 0, none⟩ = some (.int .i64 a0_0) := bc_ BK101 0 rfl; have hcz55_1 : w52.cell? ⟨gb101, 1, none⟩ = some (.int .i64 a0_1) := bc_ BK101 1 rfl; have hcz55_2 : w52.cell? ⟨gb101, 2, none⟩ = some (.string a0_2) := bc_ BK101 2 rfl; have hfz55_0 := blk_frozen BK101.out 0; have hfz55_1 := blk_frozen BK101.out 1; have hfz55_2 := blk_frozen BK101.out 2; have hnb56 := NB102_103.out; have hnc56 := NB103_102.out; have hcz57_0 : w52.cell? ⟨gb102, 0, none⟩ = some (.int .i64 a1_0) := bc_ BK102 0 rfl; have hcz57_1 : w52.cell? ⟨gb102, 1, none⟩ = some (.int .i64 a1_1) := bc_ BK102 1 rfl; have hcz57_2 : w52.cell? ⟨gb102, 2, none⟩ = some (.slice A1_2 l1_2.length c1_2) := bc_ BK102 2 rfl; have hfz57_0 := blk_frozen BK102.out 0; have hfz57_1 := blk_frozen BK102.out 1; have hfz57_2 := blk_frozen BK102.out 2) | ((with_reducible refine gate_callee (f:=16) rfl ?_); refine gL_ (some 14) rfl rfl Try.func16 rfl #[.agg #[.int .i64 a1_0, .int .i64 a1_1, .slice A1_2 l1_2.length c1_2], .int .i64 a2, .int .i64 1] rfl ?_; (with_reducible refine (oculusref18_In.calls a1_0 a1_1 _ _ l1_2 a2 1 false _ ?side1 ?side2 A13.out).mono ?_); (case side1 => repeat (first | exact (Kd.C_below HR1_2.out HB.out) | (with_reducible refine Kd.C_alloc ?_ _) | (with_reducible refine Kd.C_drewN ?_ _) | (with_reducible refine Kd.C_drew ?_))); (case side2 => exact HC1_2.out); rintro e w58 ⟨rfl, hb⟩; refine ⟨_, rfl, ?_⟩; replace BK101 := bb_ BK101 hb; replace BK102 := bb_ BK102 hb; replace BK103 := bb_ BK103 hb; replace HB := bs_ HB hb; (try clear hb); (try clear hb2); (try clear hk); (try clear hi)) | ((with_reducible refine gate_callee (f:=28) rfl ?_); refine gL_ (some 16) rfl rfl Try.func28 rfl #[.int .i64 3] rfl ?_; (with_reducible refine (oculusref12_Bad.calls 3 t105 t106 t107 _ A49.out).mono ?_); rintro e w59 ⟨rfl, hb⟩; refine ⟨_, rfl, ?_⟩; replace BK101 := bb_ BK101 hb; replace BK102 := bb_ BK102 hb; replace BK103 := bb_ BK103 hb; replace HB := bs_ HB hb; (try clear hb); (try clear hb2); (try clear hk); (try clear hi); have hcz60_0 : w59.cell? ⟨gb103, 0, none⟩ = some (.int .i64 0) := bc_ BK103 0 rfl; have hcz60_1 : w59.cell? ⟨gb103, 1, none⟩ = some (.int .i64 0) := bc_ BK103 1 rfl; have hcz60_2 : w59.cell? ⟨gb103, 2, none⟩ = some (.string (⟨#[]⟩ : ByteArray)) := bc_ BK103 2 rfl; have hfz60_0 := blk_frozen BK103.out 0; have hfz60_1 := blk_frozen BK103.out 1; have hfz60_2 := blk_frozen BK103.out 2))
   refine bodyPost_ret (results_cell_row rfl _ _ gb103 26 #[.int .i64 t105, .int .i64 t106, .string t107] (0, 0) _ rfl (by refine pp_ (cs := #[.int .i64 t105, .int .i64 t106, .string (⟨#[]⟩ : ByteArray)]) 2 ?_ rfl; refine pp_ (cs := #[.int .i64 t105, .int .i64 0, .string (⟨#[]⟩ : ByteArray)]) 1 ?_ rfl; refine pp_ (cs := #[.int .i64 0, .int .i64 0, .string (⟨#[]⟩ : ByteArray)]) 0 ?_ rfl; exact pkx BK103) Try.underlying26 rfl (by kernel_rfl)) rfl ?_
   exact ⟨by first | rfl | (simp [errW_none, errW_some] <;> rfl) | (simp [*, errW_none, errW_some] <;> rfl), by repeat (first | (with_reducible first | exact HB.out | apply below_alloc | apply pw_below_drewN | apply below_drew1 | refine below_set ?_ GE101.out | refine below_set ?_ GE102.out | refine below_set ?_ GE103.out) | exact HB.out)⟩

end Go.Proofs.Ytejkoenlfcghbaa.X
