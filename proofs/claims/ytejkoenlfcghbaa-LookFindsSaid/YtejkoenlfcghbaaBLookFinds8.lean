/- The law LookFinds: for every input the call returns true, and each argument reads afterwards as it read before: the statement Rows.LookFindsSaid, whole, with no condition of ours. -/
import Derived.Deep.Slices
import Derived.ChangeArms
import Derived.SizedLaws
import Derived.OpenShut
import Derived.Laws.BitsAllLaws
import Derived.Lib.Strings
import Derived.Lib.IndexBytes
import Derived.Test.YtejkoenlfcghbaaRows
import Derived.WalkKit
import Derived.ProofKit
import Derived.ShutString
import Derived.ChangeOld
import Derived.Below
import Derived.Carry
import Derived.Test.YtejkoenlfcghbaaBLookFinds7
namespace Go.Proofs.Ytejkoenlfcghbaa.X
open Go.RowKit Go.Proofs.YtejkoenlfcghbaaW.PrintWords Go.Proofs.YtejkoenlfcghbaaW.PrintLast Go.Proofs.YtejkoenlfcghbaaW.PrintMore
attribute [local go_sem] max2_int min2_int max_two min_two max_three min_three max_four min_four   -- for this text's walks alone
set_option linter.unusedVariables false
set_option linter.unusedSimpArgs false

attribute [local go_sem high] eqA26
/-! ### oculuslaw18_LookFinds: function 4 -/
mutual
def oculuslaw18_LookFinds.j0 : Nat → Bool → Int → Int → List (S26) → Int → Int → ByteArray → Int → Int → Option (Bool)
 | 0, _, _, _, _, _, _, _, _, _ => none
 | k + 1, x28, x102000, x102001, x102002, x103000, x103001, x103002, x104000, x104001 => if x28 = true then ((oculuslaw18_alive.f k).bind fun t109 => (some t109)) else ((look_At.f k x102000 x102001 x102002 x104000 x104001).bind fun bt110 => ((oculusref18_In.f x102000 x102001 x102002 x104000 x104001).bind fun t115 => (if (bt110.2.2.2 != t115) = true then (oculuslaw18_LookFinds.j1 k true x102000 x102001 x102002 x103000 x103001 x103002) else (if bt110.2.2.2 = true then ((oculusref18_At.f x102000 x102001 x102002 x104000 x104001).bind fun bt116 => (if (!(bt110.1 == bt116.1) || (!(bt110.2.1 == bt116.2.1) || (!(bt110.2.2.1.toList == bt116.2.2.toList)))) = true then (oculuslaw18_LookFinds.j1 k true x102000 x102001 x102002 x103000 x103001 x103002) else (oculuslaw18_LookFinds.j1 k false x102000 x102001 x102002 x103000 x103001 x103002))) else (oculuslaw18_LookFinds.j1 k (!(bt110.1 == 0) || (!(bt110.2.1 == 0) || (!(bt110.2.2.1.toList == ([] : List UInt8))))) x102000 x102001 x102002 x103000 x103001 x103002)))))
def oculuslaw18_LookFinds.j1 : Nat → Bool → Int → Int → List (S26) → Int → Int → ByteArray → Option (Bool)
 | 0, _, _, _, _, _, _, _ => none
 | k + 1, x68, x102000, x102001, x102002, x103000, x103001, x103002 => if x68 = true then (none) else ((look_Match.f k x103000 x103001 x103002 x102000 x102001 x102002).bind fun bt119 => ((oculusref18_Match.f k x103000 x103001 x103002 x102000 x102001 x102002).bind fun t121 => (if bt119.1 = t121 then (if (bt119.2 == (decide (bt119.1 > 0))) = true then ((oculuslaw18_alive.f k).bind fun t122 => (some t122)) else (none)) else (none))))
end
def oculuslaw18_LookFinds.f (k : Nat) (a0_0 : Int) (a0_1 : Int) (l0_2 : List (S26)) (a1_0 : Int) (a1_1 : Int) (a1_2 : ByteArray) (a2_0 : Int) (a2_1 : Int) : Option (Bool) := if (l0_2.length : Int) > 1200 then ((oculuslaw18_alive.f k).bind fun t104 => (some t104)) else ((look_May.f k a0_0 a0_1 l0_2).bind fun t105 => ((oculusref18_May.f k a0_0 a0_1 l0_2).bind fun t106 => (if (t105 != t106) = true then (none) else ((oculusref18_May.f k a0_0 a0_1 l0_2).bind fun t107 => (if t107 = true then ((oculusref12_May.f a1_0 a1_1 a1_2).bind fun t108 => (oculuslaw18_LookFinds.j0 k (!t108) a0_0 a0_1 l0_2 a1_0 a1_1 a1_2 a2_0 a2_1)) else (oculuslaw18_LookFinds.j0 k true a0_0 a0_1 l0_2 a1_0 a1_1 a1_2 a2_0 a2_1))))))
def oculuslaw18_LookFinds.T8 : Bool × List (List Nat × List Nat) := (true, [([], []), ([], []), ([], []), ([2], [2]), ([], []), ([4], [4]), ([1, 3, 5], [1, 3, 5]), ([0, 6], [0, 6]), ([7, 6], [7]), ([8], [8]), ([9, 8, 8], [8, 9]), ([10], [10]), ([10], [10]), ([10], [10]), ([13, 10], [10, 13]), ([10], [10]), ([15, 10], [10, 15]), ([12, 14, 16, 10, 10], [10, 12, 14, 16]), ([11, 17, 10], [10, 11, 17]), ([10, 18, 8], [8, 10, 18]), ([8, 19], [8, 19]), ([20, 17], [20]), ([21], [21]), ([22, 21], [21, 22]), ([23, 21, 21], [21, 23]), ([24], [24]), ([24], [24]), ([25, 26, 24], [24, 25, 26]), ([24, 27, 21], [21, 24, 27]), ([21, 28], [21, 28])])
def oculuslaw18_LookFinds.B8 : List Nat := [0, 0, 0, 4, 0, 16, 62, 127, 255, 511, 1023, 2047, 2047, 2047, 10239, 2047, 34815, 129023, 262143, 524287, 1048575, 2097151, 4194303, 8388607, 16777215, 33554431, 33554431, 134217727, 268435455, 536870911]
theorem oculuslaw18_LookFinds.tab8 : rtab .any (opsOf Try.f4 8) = oculuslaw18_LookFinds.T8 := by kernel_rfl
theorem oculuslaw18_LookFinds.bits8 : waitsOk oculuslaw18_LookFinds.T8.2 oculuslaw18_LookFinds.B8 = true := by kernel_rfl
set_option maxHeartbeats 8000000 in
set_option maxRecDepth 100000 in
theorem oculuslaw18_LookFinds.calls (k : Nat) (a0_0 : Int) (a0_1 : Int) (A0_2 : Option Addr) (c0_2 : Nat) (l0_2 : List (S26)) (a1_0 : Int) (a1_1 : Int) (a1_2 : ByteArray) (a2_0 : Int) (a2_1 : Int) (r : Bool) (w : World) (hr0_2 : Kd.C k26 w A0_2 l0_2.length l0_2) (hc0_2 : l0_2.length ≤ c0_2) (h : oculuslaw18_LookFinds.f k a0_0 a0_1 l0_2 a1_0 a1_1 a1_2 a2_0 a2_1 = some r) :
  Calls Try.prog 4 #[.agg #[.int .i64 a0_0, .int .i64 a0_1, .slice A0_2 l0_2.length c0_2], .agg #[.int .i64 a1_0, .int .i64 a1_1, .string a1_2], .agg #[.int .i64 a2_0, .int .i64 a2_1]] w fun e w' => e = .returned (.bool r) ∧ Below w.heap.size w w' := by
 have hu24 := Try.underlying24; have hu26 := Try.underlying26; have hu33 := Try.underlying33; have HR0_2 := Aside0.mk hr0_2; have HC0_2 := Aside0.mk hc0_2; clear hr0_2 hc0_2; have HB := Aside0.mk (Below.refl w.heap.size w)
 have H : (if (l0_2.length : Int) > 1200 then ((oculuslaw18_alive.f k).bind fun t104 => (some t104)) else ((look_May.f k a0_0 a0_1 l0_2).bind fun t105 => ((oculusref18_May.f k a0_0 a0_1 l0_2).bind fun t106 => (if (t105 != t106) = true then (none) else ((oculusref18_May.f k a0_0 a0_1 l0_2).bind fun t107 => (if t107 = true then ((oculusref12_May.f a1_0 a1_1 a1_2).bind fun t108 => (oculuslaw18_LookFinds.j0 k (!t108) a0_0 a0_1 l0_2 a1_0 a1_1 a1_2 a2_0 a2_1)) else (oculuslaw18_LookFinds.j0 k true a0_0 a0_1 l0_2 a1_0 a1_1 a1_2 a2_0 a2_1))))))) = some r := h
 clear h
 by_cases c4 : (l0_2.length : Int) > 1200
 ·rw [if_pos c4] at H; have c4b0 : decide (1200 < (l0_2.length : Int)) = true := decide_eq_true c4; have c4b1 : decide (1200 < l0_2.length) = true := decide_eq_true (by omega); clear c4; replace H := Option.bind_eq_some_iff.mp H; obtain ⟨t104, A50, H⟩ := H
  replace H : (some t104) = some r := H
  have A5 := Aside0.mk A50; clear A50; obtain rfl := Option.some.inj H
  go_enter Try.func4, Try.ntmps4
  go_wp2_with (first | ((with_reducible refine gate_dst (N:=3) rfl ?_); refine box_event ?hg (N:=3) ?hd (cs := #[.int .i64 a0_0, .int .i64 a0_1, .slice A0_2 l0_2.length c0_2]) (t:=24) ?hr ?_; (case hd => rfl); (case hg => rfl); (case hr => first | (go_simp; done) | (go_simp; rfl)); intro gb101 hg w6 hbox hb; have BK101 := Aside0.mk (hbox); have GW101 := hs_ HB hg; have GE101 := hs_ HB hg; replace HB := bs_ HB hb; clear hb hbox hg) | ((with_reducible refine gate_dst (N:=4) rfl ?_); refine box_event ?hg (N:=4) ?hd (cs := #[.int .i64 a1_0, .int .i64 a1_1, .string a1_2]) (t:=26) ?hr ?_; (case hd => rfl); (case hg => rfl); (case hr => first | (go_simp; done) | (go_simp; rfl)); intro gb102 hg w7 hbox hb; have BK102 := Aside0.mk (hbox); have GW102 := hs_ HB hg; have GE102 := hs_ HB hg; have NB101_102 := hl_ BK101 hg; have NB102_101 := hr_ BK101 hg; replace BK101 := bb_ BK101 hb; replace HB := bs_ HB hb; clear hb hbox hg) | ((with_reducible refine gate_dst (N:=5) rfl ?_); refine box_event ?hg (N:=5) ?hd (cs := #[.int .i64 a2_0, .int .i64 a2_1]) (t:=33) ?hr ?_; (case hd => rfl); (case hg => rfl); (case hr => first | (go_simp; done) | (go_simp; rfl)); intro gb103 hg w8 hbox hb; have BK103 := Aside0.mk (hbox); have GW103 := hs_ HB hg; have GE103 := hs_ HB hg; have NB101_103 := hl_ BK101 hg; have NB103_101 := hr_ BK101 hg; have NB102_103 := hl_ BK102 hg; have NB103_102 := hr_ BK102 hg; replace BK101 := bb_ BK101 hb; replace BK102 := bb_ BK102 hb; replace HB := bs_ HB hb; clear hb hbox hg; have hnb9 := NB101_102.out; have hnc9 := NB102_101.out; have hnb10 := NB101_103.out; have hnc10 := NB103_101.out; have hcz11_0 : w8.cell? ⟨gb101, 0, none⟩ = some (.int .i64 a0_0) := bc_ BK101 0 rfl; have hcz11_1 : w8.cell? ⟨gb101, 1, none⟩ = some (.int .i64 a0_1) := bc_ BK101 1 rfl; have hcz11_2 : w8.cell? ⟨gb101, 2, none⟩ = some (.slice A0_2 l0_2.length c0_2) := bc_ BK101 2 rfl; have hfz11_0 := blk_frozen BK101.out 0; have hfz11_1 := blk_frozen BK101.out 1; have hfz11_2 := blk_frozen BK101.out 2) | ((with_reducible refine gate_callee (f:=7) rfl ?_); refine goesL_ (some 15) rfl rfl Try.func7 (by kernel_rfl) rfl #[] rfl (by (try simp only [List.map_toArray, List.map_cons, List.map_nil]); first | done | rfl | (simp only [List.length_drop, List.length_take]; rfl)) ?_; (with_reducible refine (oculuslaw18_alive.calls k  t104 _ A5.out).mono ?_); rintro e w12 ⟨rfl, hb⟩; refine ⟨_, rfl, ?_⟩; replace BK101 := bb_ BK101 hb; replace BK102 := bb_ BK102 hb; replace BK103 := bb_ BK103 hb; replace HB := bs_ HB hb; (try clear hb); (try clear hb2); (try clear hk); (try clear hi)))
  go_ret
  exact ⟨by first | rfl | (simp [errW_none, errW_some] <;> rfl) | (simp [*, errW_none, errW_some] <;> rfl), pbx HB⟩
 ·rw [if_neg c4] at H; have c4b0 : decide (1200 < (l0_2.length : Int)) = false := decide_eq_false c4; have c4b1 : decide (1200 < l0_2.length) = false := decide_eq_false (by omega); clear c4; replace H := Option.bind_eq_some_iff.mp H; obtain ⟨t105, A130, H⟩ := H
  replace H : ((oculusref18_May.f k a0_0 a0_1 l0_2).bind fun t106 => (if (t105 != t106) = true then (none) else ((oculusref18_May.f k a0_0 a0_1 l0_2).bind fun t107 => (if t107 = true then ((oculusref12_May.f a1_0 a1_1 a1_2).bind fun t108 => (oculuslaw18_LookFinds.j0 k (!t108) a0_0 a0_1 l0_2 a1_0 a1_1 a1_2 a2_0 a2_1)) else (oculuslaw18_LookFinds.j0 k true a0_0 a0_1 l0_2 a1_0 a1_1 a1_2 a2_0 a2_1))))) = some r := H
  have A13 := Aside0.mk A130; clear A130; replace H := Option.bind_eq_some_iff.mp H; obtain ⟨t106, A140, H⟩ := H
  replace H : (if (t105 != t106) = true then (none) else ((oculusref18_May.f k a0_0 a0_1 l0_2).bind fun t107 => (if t107 = true then ((oculusref12_May.f a1_0 a1_1 a1_2).bind fun t108 => (oculuslaw18_LookFinds.j0 k (!t108) a0_0 a0_1 l0_2 a1_0 a1_1 a1_2 a2_0 a2_1)) else (oculuslaw18_LookFinds.j0 k true a0_0 a0_1 l0_2 a1_0 a1_1 a1_2 a2_0 a2_1)))) = some r := H
  have A14 := Aside0.mk A140; clear A140
  by_cases c15 : (t105 != t106) = true
  ·rw [if_pos c15] at H
   exact absurd H (by simp)
  ·rw [if_neg c15] at H
   have c15b0 : (t105 != t106) = false := by simpa using c15
   (try (have c15b1 : decide (t105 = t106) = true := by simpa using c15)); (try (have c15b2 : (t105 == t106) = true := by simpa using c15))
   clear c15; have HC16 := Aside0.mk H; clear H
   go_enter Try.func4, Try.ntmps4
   try go_wp2_with (first | ((with_reducible refine gate_dst (N:=3) rfl ?_); refine box_event ?hg (N:=3) ?hd (cs := #[.int .i64 a0_0, .int .i64 a0_1, .slice A0_2 l0_2.length c0_2]) (t:=24) ?hr ?_; (case hd => rfl); (case hg => rfl); (case hr => first | (go_simp; done) | (go_simp; rfl)); intro gb101 hg w17 hbox hb; have BK101 := Aside0.mk (hbox); have GW101 := hs_ HB hg; have GE101 := hs_ HB hg; replace HB := bs_ HB hb; clear hb hbox hg) | ((with_reducible refine gate_dst (N:=4) rfl ?_); refine box_event ?hg (N:=4) ?hd (cs := #[.int .i64 a1_0, .int .i64 a1_1, .string a1_2]) (t:=26) ?hr ?_; (case hd => rfl); (case hg => rfl); (case hr => first | (go_simp; done) | (go_simp; rfl)); intro gb102 hg w18 hbox hb; have BK102 := Aside0.mk (hbox); have GW102 := hs_ HB hg; have GE102 := hs_ HB hg; have NB101_102 := hl_ BK101 hg; have NB102_101 := hr_ BK101 hg; replace BK101 := bb_ BK101 hb; replace HB := bs_ HB hb; clear hb hbox hg) | ((with_reducible refine gate_dst (N:=5) rfl ?_); refine box_event ?hg (N:=5) ?hd (cs := #[.int .i64 a2_0, .int .i64 a2_1]) (t:=33) ?hr ?_; (case hd => rfl); (case hg => rfl); (case hr => first | (go_simp; done) | (go_simp; rfl)); intro gb103 hg w19 hbox hb; have BK103 := Aside0.mk (hbox); have GW103 := hs_ HB hg; have GE103 := hs_ HB hg; have NB101_103 := hl_ BK101 hg; have NB103_101 := hr_ BK101 hg; have NB102_103 := hl_ BK102 hg; have NB103_102 := hr_ BK102 hg; replace BK101 := bb_ BK101 hb; replace BK102 := bb_ BK102 hb; replace HB := bs_ HB hb; clear hb hbox hg; have hnb20 := NB101_102.out; have hnc20 := NB102_101.out; have hnb21 := NB101_103.out; have hnc21 := NB103_101.out; have hcz22_0 : w19.cell? ⟨gb101, 0, none⟩ = some (.int .i64 a0_0) := bc_ BK101 0 rfl; have hcz22_1 : w19.cell? ⟨gb101, 1, none⟩ = some (.int .i64 a0_1) := bc_ BK101 1 rfl; have hcz22_2 : w19.cell? ⟨gb101, 2, none⟩ = some (.slice A0_2 l0_2.length c0_2) := bc_ BK101 2 rfl; have hfz22_0 := blk_frozen BK101.out 0; have hfz22_1 := blk_frozen BK101.out 1; have hfz22_2 := blk_frozen BK101.out 2))
   (try (rw [drewN_self w19]; generalize hq_ : World.drewN w19 _ = w19; have n0_ : Aside0 (w19.heap[gb101]? = some (.cells #[.int .i64 a0_0, .int .i64 a0_1, .slice A0_2 l0_2.length c0_2] 24 (0, 0))) := ⟨by rw [← hq_]; exact (pkx BK101)⟩; have n1_ : Aside0 (w19.heap[gb102]? = some (.cells #[.int .i64 a1_0, .int .i64 a1_1, .string a1_2] 26 (0, 0))) := ⟨by rw [← hq_]; exact (pkx BK102)⟩; have n2_ : Aside0 (w19.heap[gb103]? = some (.cells #[.int .i64 a2_0, .int .i64 a2_1] 33 (0, 0))) := ⟨by rw [← hq_]; exact (pkx BK103)⟩; have n3_ : Aside0 (Below w.heap.size w w19) := ⟨by rw [← hq_]; exact (pbx HB)⟩; clear BK101 BK102 BK103 HB hq_; have BK101 := n0_; have BK102 := n1_; have BK103 := n2_; have HB := n3_; clear n0_ n1_ n2_ n3_))
   replace BK101 := Aside0.mk (blk_drew BK101.out); replace BK102 := Aside0.mk (blk_drew BK102.out); replace BK103 := Aside0.mk (blk_drew BK103.out); replace HB := Aside0.mk (below_drew1 HB.out)
   refine start_ (n:=5) (S := fun w' => w'.cell? ⟨gb101, 0, none⟩ = some (.int .i64 a0_0) ∧ w'.cell? ⟨gb101, 1, none⟩ = some (.int .i64 a0_1) ∧ w'.cell? ⟨gb101, 2, none⟩ = some (.slice A0_2 l0_2.length c0_2)) (ds := []) #[F,F,F,F,F] (by kernel_rfl) rfl rfl ⟨bc_ BK101 0 rfl, bc_ BK101 1 rfl, bc_ BK101 2 rfl⟩ (fun hHeld => ?_)
   generalize w19.drew = w23 at BK101 BK102 BK103 HB hHeld ⊢; refine take_ (i:=0) (N:=some 16) (v:=?_) (a':=?_) ⟨m_ 5 1⟩ rfl rfl (by kernel_rfl) (fun _ _ _ h=>h) (Or.inl ⟨rfl, ?_⟩) hHeld ?_ ?_; rotate_left
   ·rintro w' ⟨s0, s1, s2⟩; go_simp; with_reducible rfl
   rotate_left
   ·simp only [q_, i64_w, i32_w]; rfl
   refine take_ (i:=2) (N:=some 18) (v:=?_) (a':=?_) ⟨m_ 5 5⟩ rfl rfl (by kernel_rfl) (fun _ _ _ h=>h) (Or.inl ⟨rfl, ?_⟩) hHeld ?_ ?_; rotate_left
   ·rintro w' ⟨s0, s1, s2⟩; go_simp; with_reducible rfl
   rotate_left
   ·simp only [q_, i64_w, i32_w]; rfl
   refine one_ (i:=1) (N:=some 17) ⟨m_ 5 7⟩ rfl rfl (by kernel_rfl) (by decide) (fun K hK => ?_); refine goes_ Try.func13 (by kernel_rfl) rfl #[.agg #[.int .i64 a0_0, .int .i64 a0_1, .slice A0_2 l0_2.length c0_2]] (by rfl) rfl rfl (by (try simp only [List.map_toArray, List.map_cons, List.map_nil]); first | done | rfl | (simp only [List.length_drop, List.length_take]; rfl)) ?_; with_reducible refine (look_May.calls k a0_0 a0_1 _ _ l0_2 t105 _ ?side1 ?side2 A13.out).mono ?_; (case side1 => repeat (first | exact (Kd.C_below HR0_2.out HB.out) | (with_reducible refine Kd.C_alloc ?_ _) | (with_reducible refine Kd.C_drewN ?_ _) | (with_reducible refine Kd.C_drew ?_))); (case side2 => exact HC0_2.out); rintro e w24 ⟨rfl, hb⟩; refine ⟨_, rfl, ?_⟩
   replace BK101 := bb_ BK101 hb; replace BK102 := bb_ BK102 hb; replace BK103 := bb_ BK103 hb; replace HB := bs_ HB hb; (try clear hb); (try clear hb2); (try clear hk); (try clear hi); refine hK.out _ _ ⟨bc_ BK101 0 rfl, bc_ BK101 1 rfl, bc_ BK101 2 rfl⟩ (fun hHeld => ?_); clear hK K; refine norm_ (a':=?_) ?_ ?_; rotate_left
   ·show Act.put _ (some 17) _ = _; simp only [q_, i64_w, i32_w]; rfl
   refine one_ (i:=3) (N:=some 19) ⟨m_ 5 15⟩ rfl rfl (by kernel_rfl) (by decide) (fun K hK => ?_); refine goes_ Try.func14 (by kernel_rfl) rfl #[.agg #[.int .i64 a0_0, .int .i64 a0_1, .slice A0_2 l0_2.length c0_2]] (by rfl) rfl rfl (by (try simp only [List.map_toArray, List.map_cons, List.map_nil]); first | done | rfl | (simp only [List.length_drop, List.length_take]; rfl)) ?_; with_reducible refine (oculusref18_May.calls k a0_0 a0_1 _ _ l0_2 t106 _ ?side1 ?side2 A14.out).mono ?_; (case side1 => repeat (first | exact (Kd.C_below HR0_2.out HB.out) | (with_reducible refine Kd.C_alloc ?_ _) | (with_reducible refine Kd.C_drewN ?_ _) | (with_reducible refine Kd.C_drew ?_))); (case side2 => exact HC0_2.out); rintro e w25 ⟨rfl, hb⟩; refine ⟨_, rfl, ?_⟩
   replace BK101 := bb_ BK101 hb; replace BK102 := bb_ BK102 hb; replace BK103 := bb_ BK103 hb; replace HB := bs_ HB hb; (try clear hb); (try clear hb2); (try clear hk); (try clear hi); refine hK.out _ _ ⟨bc_ BK101 0 rfl, bc_ BK101 1 rfl, bc_ BK101 2 rfl⟩ (fun hHeld => ?_); clear hK K; refine norm_ (a':=?_) ?_ ?_; rotate_left
   ·show Act.put _ (some 19) _ = _; simp only [q_, i64_w, i32_w]; rfl
   refine pure_ (i:=4) (N:=some 20) (v:=?_) (a':=?_) ⟨m_ 5 31⟩ rfl rfl (by kernel_rfl) (fun _ _ _ h=>h) (Or.inl ⟨rfl, ?_⟩) ?_ ?_; rotate_left
   ·intro w'; go_simp; with_reducible rfl
   rotate_left
   ·simp only [q_, i64_w, i32_w]; rfl
   refine done_ (by kernel_rfl) ?_
   go_upto_region 5 with (fail)
   go_cut [28] (fun v28 wc => ∃ (kq : Nat) (x28_15 : Bool), v28 = .bool x28_15 ∧ Aside0 (oculuslaw18_LookFinds.j0 kq x28_15 a0_0 a0_1 l0_2 a1_0 a1_1 a1_2 a2_0 a2_1 = some r) ∧ Aside0 (kq ≤ k) ∧ Aside0 (wc.heap[gb101]? = some (.cells #[.int .i64 a0_0, .int .i64 a0_1, (.slice A0_2 l0_2.length c0_2)] 24 (0, 0))) ∧ Aside0 (wc.heap[gb102]? = some (.cells #[.int .i64 a1_0, .int .i64 a1_1, .string a1_2] 26 (0, 0))) ∧ Aside0 (wc.heap[gb103]? = some (.cells #[.int .i64 a2_0, .int .i64 a2_1] 33 (0, 0))) ∧ Aside0 (Below w.heap.size w wc))
   case first =>
    have H := HC16.out; clear HC16; replace H := Option.bind_eq_some_iff.mp H; obtain ⟨t107, A260, H⟩ := H
    replace H : (if t107 = true then ((oculusref12_May.f a1_0 a1_1 a1_2).bind fun t108 => (oculuslaw18_LookFinds.j0 k (!t108) a0_0 a0_1 l0_2 a1_0 a1_1 a1_2 a2_0 a2_1)) else (oculuslaw18_LookFinds.j0 k true a0_0 a0_1 l0_2 a1_0 a1_1 a1_2 a2_0 a2_1)) = some r := H
    have A26 := Aside0.mk A260; clear A260
    by_cases c27 : t107 = true
    ·subst c27
     have H1 : ((oculusref12_May.f a1_0 a1_1 a1_2).bind fun t108 => (oculuslaw18_LookFinds.j0 k (!t108) a0_0 a0_1 l0_2 a1_0 a1_1 a1_2 a2_0 a2_1)) = some r := by rw [if_pos rfl] at H; exact H
     clear H; have H := H1; clear H1; replace H := Option.bind_eq_some_iff.mp H; obtain ⟨t108, A280, H⟩ := H
     replace H : (oculuslaw18_LookFinds.j0 k (!t108) a0_0 a0_1 l0_2 a1_0 a1_1 a1_2 a2_0 a2_1) = some r := H
     have A28 := Aside0.mk A280; clear A280
     have H' := Aside0.mk H
     clear H; have hnb29 := NB101_102.out; have hnc29 := NB102_101.out; have hnb30 := NB101_103.out; have hnc30 := NB103_101.out
     have hcz31_0 : w25.cell? ⟨gb101, 0, none⟩ = some (.int .i64 a0_0) := bc_ BK101 0 rfl
     have hcz31_1 : w25.cell? ⟨gb101, 1, none⟩ = some (.int .i64 a0_1) := bc_ BK101 1 rfl
     have hcz31_2 : w25.cell? ⟨gb101, 2, none⟩ = some (.slice A0_2 l0_2.length c0_2) := bc_ BK101 2 rfl
     have hfz31_0 := blk_frozen BK101.out 0; have hfz31_1 := blk_frozen BK101.out 1; have hfz31_2 := blk_frozen BK101.out 2
     go_wp2_with (first | ((with_reducible refine gate_callee (f:=14) rfl ?_); refine goesL_ (some 22) rfl rfl Try.func14 (by kernel_rfl) rfl #[.agg #[.int .i64 a0_0, .int .i64 a0_1, .slice A0_2 l0_2.length c0_2]] rfl (by (try simp only [List.map_toArray, List.map_cons, List.map_nil]); first | done | rfl | (simp only [List.length_drop, List.length_take]; rfl)) ?_; (with_reducible refine (oculusref18_May.calls k a0_0 a0_1 _ _ l0_2 true _ ?side1 ?side2 A26.out).mono ?_); (case side1 => repeat (first | exact (Kd.C_below HR0_2.out HB.out) | (with_reducible refine Kd.C_alloc ?_ _) | (with_reducible refine Kd.C_drewN ?_ _) | (with_reducible refine Kd.C_drew ?_))); (case side2 => exact HC0_2.out); rintro e w32 ⟨rfl, hb⟩; refine ⟨_, rfl, ?_⟩; replace BK101 := bb_ BK101 hb; replace BK102 := bb_ BK102 hb; replace BK103 := bb_ BK103 hb; replace HB := bs_ HB hb; (try clear hb); (try clear hb2); (try clear hk); (try clear hi); have hnb33 := NB102_103.out; have hnc33 := NB103_102.out; have hcz34_0 : w32.cell? ⟨gb102, 0, none⟩ = some (.int .i64 a1_0) := bc_ BK102 0 rfl; have hcz34_1 : w32.cell? ⟨gb102, 1, none⟩ = some (.int .i64 a1_1) := bc_ BK102 1 rfl; have hcz34_2 : w32.cell? ⟨gb102, 2, none⟩ = some (.string a1_2) := bc_ BK102 2 rfl; have hfz34_0 := blk_frozen BK102.out 0; have hfz34_1 := blk_frozen BK102.out 1; have hfz34_2 := blk_frozen BK102.out 2) | (go_at_call 6; (with_reducible refine (oculusref12_May.calls a1_0 a1_1 a1_2 t108 _ A28.out).mono ?_); rintro e w35 ⟨rfl, hb⟩; replace BK101 := bb_ BK101 hb; replace BK102 := bb_ BK102 hb; replace BK103 := bb_ BK103 hb; replace HB := bs_ HB hb; (try clear hb); (try clear hb2); (try clear hk); (try clear hi)))
     go_meet
     case rel => exact ⟨_, (!t108), (by first | rfl | (simp; done) | (simp [*]; done) | (cases t108 <;> simp; done)), H', ⟨by first | omega | exact Nat.le_refl _⟩, ⟨pkx BK101⟩, ⟨pkx BK102⟩, ⟨pkx BK103⟩, ⟨pbx HB⟩⟩
    ·replace c27 := Bool.eq_false_iff.mpr c27; subst c27
     have H1 : (oculuslaw18_LookFinds.j0 k true a0_0 a0_1 l0_2 a1_0 a1_1 a1_2 a2_0 a2_1) = some r := by rw [if_neg (show ¬ (false = true) by decide)] at H; exact H
     clear H; have H := H1; clear H1
     have H' := Aside0.mk H
     clear H; have hnb36 := NB101_102.out; have hnc36 := NB102_101.out; have hnb37 := NB101_103.out; have hnc37 := NB103_101.out
     have hcz38_0 : w25.cell? ⟨gb101, 0, none⟩ = some (.int .i64 a0_0) := bc_ BK101 0 rfl
     have hcz38_1 : w25.cell? ⟨gb101, 1, none⟩ = some (.int .i64 a0_1) := bc_ BK101 1 rfl
     have hcz38_2 : w25.cell? ⟨gb101, 2, none⟩ = some (.slice A0_2 l0_2.length c0_2) := bc_ BK101 2 rfl
     have hfz38_0 := blk_frozen BK101.out 0; have hfz38_1 := blk_frozen BK101.out 1; have hfz38_2 := blk_frozen BK101.out 2
     go_wp2_with (first | ((with_reducible refine gate_callee (f:=14) rfl ?_); refine goesL_ (some 22) rfl rfl Try.func14 (by kernel_rfl) rfl #[.agg #[.int .i64 a0_0, .int .i64 a0_1, .slice A0_2 l0_2.length c0_2]] rfl (by (try simp only [List.map_toArray, List.map_cons, List.map_nil]); first | done | rfl | (simp only [List.length_drop, List.length_take]; rfl)) ?_; (with_reducible refine (oculusref18_May.calls k a0_0 a0_1 _ _ l0_2 false _ ?side1 ?side2 A26.out).mono ?_); (case side1 => repeat (first | exact (Kd.C_below HR0_2.out HB.out) | (with_reducible refine Kd.C_alloc ?_ _) | (with_reducible refine Kd.C_drewN ?_ _) | (with_reducible refine Kd.C_drew ?_))); (case side2 => exact HC0_2.out); rintro e w39 ⟨rfl, hb⟩; refine ⟨_, rfl, ?_⟩; replace BK101 := bb_ BK101 hb; replace BK102 := bb_ BK102 hb; replace BK103 := bb_ BK103 hb; replace HB := bs_ HB hb; (try clear hb); (try clear hb2); (try clear hk); (try clear hi)))
     go_meet
     case rel => exact ⟨_, (true), (by first | rfl | (simp; done) | (simp [*]; done)), H', ⟨by first | omega | exact Nat.le_refl _⟩, ⟨pkx BK101⟩, ⟨pkx BK102⟩, ⟨pkx BK103⟩, ⟨pbx HB⟩⟩
   case rest =>
    clear HC16; (try clear c1); (try clear c2); (try clear p2); (try clear c3); (try clear c4); (try clear c4b0); (try clear c4b1); (try clear c7); (try clear c9); (try clear c10); (try clear c13); (try clear c14); (try clear c15); (try clear c15b0); (try clear c15b1); (try clear c15b2); (try clear c20); (try clear c21); (try clear c27); (try clear c29); (try clear c30); (try clear c33); (try clear c36); (try clear c37); (try clear hcz11_0); (try clear hcz11_1); (try clear hcz11_2); (try clear hcz22_0); (try clear hcz22_1); (try clear hcz22_2); (try clear hcz31_0); (try clear hcz31_1); (try clear hcz31_2); (try clear hcz34_0); (try clear hcz34_1); (try clear hcz34_2); (try clear hcz38_0); (try clear hcz38_1); (try clear hcz38_2); (try clear hfz11_0); (try clear hfz11_1); (try clear hfz11_2); (try clear hfz22_0); (try clear hfz22_1); (try clear hfz22_2); (try clear hfz31_0); (try clear hfz31_1)
    (try clear hfz31_2); (try clear hfz34_0); (try clear hfz34_1); (try clear hfz34_2); (try clear hfz38_0); (try clear hfz38_1); (try clear hfz38_2); obtain ⟨kq, x28_15, rfl, HA, HJ15, BK101, BK102, BK103, HB⟩ := hcut
    cases kq with
    | zero => exact absurd HA.out (by simp [oculuslaw18_LookFinds.j0])
    | succ kj15 =>
     have H := HA.out; clear HA
     simp only [oculuslaw18_LookFinds.j0] at H
     by_cases c40 : x28_15 = true
     ·subst c40
      have H1 : ((oculuslaw18_alive.f kj15).bind fun t109 => (some t109)) = some r := by rw [if_pos rfl] at H; exact H
      clear H; have H := H1; clear H1; replace H := Option.bind_eq_some_iff.mp H; obtain ⟨t109, A410, H⟩ := H
      replace H : (some t109) = some r := H
      have A41 := Aside0.mk A410; clear A410; obtain rfl := Option.some.inj H
      go_wp2_with (first | ((with_reducible refine gate_callee (f:=7) rfl ?_); refine goesL_ (some 29) rfl rfl Try.func7 (by kernel_rfl) rfl #[] rfl (by (try simp only [List.map_toArray, List.map_cons, List.map_nil]); first | done | rfl | (simp only [List.length_drop, List.length_take]; rfl)) ?_; (with_reducible refine (oculuslaw18_alive.calls kj15  t109 _ A41.out).mono ?_); rintro e w42 ⟨rfl, hb⟩; refine ⟨_, rfl, ?_⟩; replace BK101 := bb_ BK101 hb; replace BK102 := bb_ BK102 hb; replace BK103 := bb_ BK103 hb; replace HB := bs_ HB hb; (try clear hb); (try clear hb2); (try clear hk); (try clear hi)))
      go_ret
      exact ⟨by first | rfl | (simp [errW_none, errW_some] <;> rfl) | (simp [*, errW_none, errW_some] <;> rfl), pbx HB⟩
     ·replace c40 := Bool.eq_false_iff.mpr c40; subst c40
      have H1 : ((look_At.f kj15 a0_0 a0_1 l0_2 a2_0 a2_1).bind fun bt110 => ((oculusref18_In.f a0_0 a0_1 l0_2 a2_0 a2_1).bind fun t115 => (if (bt110.2.2.2 != t115) = true then (oculuslaw18_LookFinds.j1 kj15 true a0_0 a0_1 l0_2 a1_0 a1_1 a1_2) else (if bt110.2.2.2 = true then ((oculusref18_At.f a0_0 a0_1 l0_2 a2_0 a2_1).bind fun bt116 => (if (!(bt110.1 == bt116.1) || (!(bt110.2.1 == bt116.2.1) || (!(bt110.2.2.1.toList == bt116.2.2.toList)))) = true then (oculuslaw18_LookFinds.j1 kj15 true a0_0 a0_1 l0_2 a1_0 a1_1 a1_2) else (oculuslaw18_LookFinds.j1 kj15 false a0_0 a0_1 l0_2 a1_0 a1_1 a1_2))) else (oculuslaw18_LookFinds.j1 kj15 (!(bt110.1 == 0) || (!(bt110.2.1 == 0) || (!(bt110.2.2.1.toList == ([] : List UInt8))))) a0_0 a0_1 l0_2 a1_0 a1_1 a1_2))))) = some r := by rw [if_neg (show ¬ (false = true) by decide)] at H; exact H
      clear H; have H := H1; clear H1; replace H := Option.bind_eq_some_iff.mp H; obtain ⟨⟨t110, t111, t112, t113⟩, A430, H⟩ := H
      replace H : ((oculusref18_In.f a0_0 a0_1 l0_2 a2_0 a2_1).bind fun t115 => (if (t113 != t115) = true then (oculuslaw18_LookFinds.j1 kj15 true a0_0 a0_1 l0_2 a1_0 a1_1 a1_2) else (if t113 = true then ((oculusref18_At.f a0_0 a0_1 l0_2 a2_0 a2_1).bind fun bt116 => (if (!(t110 == bt116.1) || (!(t111 == bt116.2.1) || (!(t112.toList == bt116.2.2.toList)))) = true then (oculuslaw18_LookFinds.j1 kj15 true a0_0 a0_1 l0_2 a1_0 a1_1 a1_2) else (oculuslaw18_LookFinds.j1 kj15 false a0_0 a0_1 l0_2 a1_0 a1_1 a1_2))) else (oculuslaw18_LookFinds.j1 kj15 (!(t110 == 0) || (!(t111 == 0) || (!(t112.toList == ([] : List UInt8))))) a0_0 a0_1 l0_2 a1_0 a1_1 a1_2)))) = some r := H
      have A43 := Aside0.mk A430; clear A430; have HC44 := Aside0.mk H; clear H; have hnb45 := NB101_102.out; have hnc45 := NB102_101.out; have hnb46 := NB101_103.out; have hnc46 := NB103_101.out
      have hcz47_0 : wc.cell? ⟨gb101, 0, none⟩ = some (.int .i64 a0_0) := bc_ BK101 0 rfl
      have hcz47_1 : wc.cell? ⟨gb101, 1, none⟩ = some (.int .i64 a0_1) := bc_ BK101 1 rfl
      have hcz47_2 : wc.cell? ⟨gb101, 2, none⟩ = some (.slice A0_2 l0_2.length c0_2) := bc_ BK101 2 rfl
      have hfz47_0 := blk_frozen BK101.out 0; have hfz47_1 := blk_frozen BK101.out 1; have hfz47_2 := blk_frozen BK101.out 2; have hnb48 := NB103_102.out; have hnc48 := NB102_103.out
      have hcz49_0 : wc.cell? ⟨gb103, 0, none⟩ = some (.int .i64 a2_0) := bc_ BK103 0 rfl
      have hcz49_1 : wc.cell? ⟨gb103, 1, none⟩ = some (.int .i64 a2_1) := bc_ BK103 1 rfl
      have hfz49_0 := blk_frozen BK103.out 0; have hfz49_1 := blk_frozen BK103.out 1
      go_upto_region 8 with (first | ((with_reducible refine gate_callee (f:=15) rfl ?_); refine goesL_ (some 36) rfl rfl Try.func15 (by kernel_rfl) rfl #[.agg #[.int .i64 a0_0, .int .i64 a0_1, .slice A0_2 l0_2.length c0_2], .int .i64 a2_0, .int .i64 a2_1] rfl (by (try simp only [List.map_toArray, List.map_cons, List.map_nil]); first | done | rfl | (simp only [List.length_drop, List.length_take]; rfl)) ?_; (with_reducible refine (look_At.calls kj15 a0_0 a0_1 _ _ l0_2 a2_0 a2_1 t110 t111 t112 t113 _ ?side1 ?side2 A43.out).mono ?_); (case side1 => repeat (first | exact (Kd.C_below HR0_2.out HB.out) | (with_reducible refine Kd.C_alloc ?_ _) | (with_reducible refine Kd.C_drewN ?_ _) | (with_reducible refine Kd.C_drew ?_))); (case side2 => exact HC0_2.out); rintro e w50 ⟨rfl, hb⟩; refine ⟨_, rfl, ?_⟩; replace BK101 := bb_ BK101 hb; replace BK102 := bb_ BK102 hb; replace BK103 := bb_ BK103 hb; replace HB := bs_ HB hb; (try clear hb); (try clear hb2); (try clear hk); (try clear hi)) | ((with_reducible refine gate_dst (N:=7) rfl ?_); refine box_event ?hg (N:=7) ?hd (cs := #[.int .i64 0, .int .i64 0, .string (⟨#[]⟩ : ByteArray)]) (t:=26) ?hr ?_; (case hd => rfl); (case hg => rfl); (case hr => first | (go_simp; done) | (go_simp; rfl)); intro gb114 hg w51 hbox hb; have BK114 := Aside0.mk (hbox); have GW114 := hs_ HB hg; have GE114 := hs_ HB hg; have NB101_114 := hl_ BK101 hg; have NB114_101 := hr_ BK101 hg; have NB102_114 := hl_ BK102 hg; have NB114_102 := hr_ BK102 hg; have NB103_114 := hl_ BK103 hg; have NB114_103 := hr_ BK103 hg; replace BK101 := bb_ BK101 hb; replace BK102 := bb_ BK102 hb; replace BK103 := bb_ BK103 hb; replace HB := bs_ HB hb; clear hb hbox hg; have hnb52 := NB114_101.out; have hnc52 := NB101_114.out; have hnb53 := NB114_102.out; have hnc53 := NB102_114.out; have hnb54 := NB114_103.out; have hnc54 := NB103_114.out; have hcz55_0 : w51.cell? ⟨gb114, 0, none⟩ = some (.int .i64 0) := bc_ BK114 0 rfl; have hcz55_1 : w51.cell? ⟨gb114, 1, none⟩ = some (.int .i64 0) := bc_ BK114 1 rfl; have hcz55_2 : w51.cell? ⟨gb114, 2, none⟩ = some (.string (⟨#[]⟩ : ByteArray)) := bc_ BK114 2 rfl; have hfz55_0 := blk_frozen BK114.out 0; have hfz55_1 := blk_frozen BK114.out 1; have hfz55_2 := blk_frozen BK114.out 2))
      (try simp only [q_])
      go_cut [68] (fun v68 wc => ∃ (kq : Nat) (x68_43 : Bool), v68 = .bool x68_43 ∧ Aside0 (oculuslaw18_LookFinds.j1 kq x68_43 a0_0 a0_1 l0_2 a1_0 a1_1 a1_2 = some r) ∧ Aside0 (kq ≤ kj15) ∧ Aside0 (wc.heap[gb101]? = some (.cells #[.int .i64 a0_0, .int .i64 a0_1, (.slice A0_2 l0_2.length c0_2)] 24 (0, 0))) ∧ Aside0 (wc.heap[gb102]? = some (.cells #[.int .i64 a1_0, .int .i64 a1_1, .string a1_2] 26 (0, 0))) ∧ Aside0 (wc.heap[gb103]? = some (.cells #[.int .i64 a2_0, .int .i64 a2_1] 33 (0, 0))) ∧ Aside0 (wc.heap[gb114]? = some (.cells #[.int .i64 t110, .int .i64 t111, .string t112] 26 (0, 0))) ∧ Aside0 (Below w.heap.size w wc))
      case first =>
       have H := HC44.out; clear HC44; replace H := Option.bind_eq_some_iff.mp H; obtain ⟨t115, A560, H⟩ := H
       replace H : (if (t113 != t115) = true then (oculuslaw18_LookFinds.j1 kj15 true a0_0 a0_1 l0_2 a1_0 a1_1 a1_2) else (if t113 = true then ((oculusref18_At.f a0_0 a0_1 l0_2 a2_0 a2_1).bind fun bt116 => (if (!(t110 == bt116.1) || (!(t111 == bt116.2.1) || (!(t112.toList == bt116.2.2.toList)))) = true then (oculuslaw18_LookFinds.j1 kj15 true a0_0 a0_1 l0_2 a1_0 a1_1 a1_2) else (oculuslaw18_LookFinds.j1 kj15 false a0_0 a0_1 l0_2 a1_0 a1_1 a1_2))) else (oculuslaw18_LookFinds.j1 kj15 (!(t110 == 0) || (!(t111 == 0) || (!(t112.toList == ([] : List UInt8))))) a0_0 a0_1 l0_2 a1_0 a1_1 a1_2))) = some r := H
       have A56 := Aside0.mk A560; clear A560
       by_cases c57 : (t113 != t115) = true
       ·rw [if_pos c57] at H
        have c57b0 : (t113 != t115) = true := c57
        (try (have c57b1 : decide (t113 = t115) = false := by simpa using c57)); (try (have c57b2 : (t113 == t115) = false := by simpa using c57)); (try (have c57b3 : ¬ (t113 = t115) := by simpa using c57)); clear c57; (first | rw [c57b0] | (simp only [i64_w, i32_w]; rw [c57b0]) | skip)
        have H' := Aside0.mk H
        clear H
        try go_wp2
        have n0_ : Aside0 ((((w51.setCell ⟨gb114, 0, none⟩ (.int .i64 t110)).setCell ⟨gb114, 1, none⟩ (.int .i64 t111)).setCell ⟨gb114, 2, none⟩ (.string t112)).heap[gb101]? = some (.cells #[.int .i64 a0_0, .int .i64 a0_1, .slice A0_2 l0_2.length c0_2] 24 (0, 0))) := ⟨by (with_reducible repeat (first | refine blk_drewN ?_ _ | refine blk_drew ?_ | refine blk_alloc ?_ _)); refine blk_far ?_ NB101_114.out _; refine blk_far ?_ NB101_114.out _; refine blk_far ?_ NB101_114.out _; (with_reducible repeat (first | refine blk_drewN ?_ _ | refine blk_drew ?_ | refine blk_alloc ?_ _)); exact BK101.out⟩; have n1_ : Aside0 ((((w51.setCell ⟨gb114, 0, none⟩ (.int .i64 t110)).setCell ⟨gb114, 1, none⟩ (.int .i64 t111)).setCell ⟨gb114, 2, none⟩ (.string t112)).heap[gb102]? = some (.cells #[.int .i64 a1_0, .int .i64 a1_1, .string a1_2] 26 (0, 0))) := ⟨by (with_reducible repeat (first | refine blk_drewN ?_ _ | refine blk_drew ?_ | refine blk_alloc ?_ _)); refine blk_far ?_ NB102_114.out _; refine blk_far ?_ NB102_114.out _; refine blk_far ?_ NB102_114.out _; (with_reducible repeat (first | refine blk_drewN ?_ _ | refine blk_drew ?_ | refine blk_alloc ?_ _)); exact BK102.out⟩
        have n2_ : Aside0 ((((w51.setCell ⟨gb114, 0, none⟩ (.int .i64 t110)).setCell ⟨gb114, 1, none⟩ (.int .i64 t111)).setCell ⟨gb114, 2, none⟩ (.string t112)).heap[gb103]? = some (.cells #[.int .i64 a2_0, .int .i64 a2_1] 33 (0, 0))) := ⟨by (with_reducible repeat (first | refine blk_drewN ?_ _ | refine blk_drew ?_ | refine blk_alloc ?_ _)); refine blk_far ?_ NB103_114.out _; refine blk_far ?_ NB103_114.out _; refine blk_far ?_ NB103_114.out _; (with_reducible repeat (first | refine blk_drewN ?_ _ | refine blk_drew ?_ | refine blk_alloc ?_ _)); exact BK103.out⟩; have n3_ : Aside0 ((((w51.setCell ⟨gb114, 0, none⟩ (.int .i64 t110)).setCell ⟨gb114, 1, none⟩ (.int .i64 t111)).setCell ⟨gb114, 2, none⟩ (.string t112)).heap[gb114]? = some (.cells #[.int .i64 t110, .int .i64 t111, .string t112] 26 (0, 0))) := ⟨by (with_reducible repeat (first | refine blk_drewN ?_ _ | refine blk_drew ?_ | refine blk_alloc ?_ _)); refine blk_put (cs := #[.int .i64 t110, .int .i64 t111, .string (⟨#[]⟩ : ByteArray)]) ?_ 2 _ rfl; (with_reducible repeat (first | refine blk_drewN ?_ _ | refine blk_drew ?_ | refine blk_alloc ?_ _)); refine blk_put (cs := #[.int .i64 t110, .int .i64 0, .string (⟨#[]⟩ : ByteArray)]) ?_ 1 _ rfl; (with_reducible repeat (first | refine blk_drewN ?_ _ | refine blk_drew ?_ | refine blk_alloc ?_ _)); refine blk_put (cs := #[.int .i64 0, .int .i64 0, .string (⟨#[]⟩ : ByteArray)]) ?_ 0 _ rfl; (with_reducible repeat (first | refine blk_drewN ?_ _ | refine blk_drew ?_ | refine blk_alloc ?_ _)); exact BK114.out⟩
        have n4_ : Aside0 (Below w.heap.size w (((w51.setCell ⟨gb114, 0, none⟩ (.int .i64 t110)).setCell ⟨gb114, 1, none⟩ (.int .i64 t111)).setCell ⟨gb114, 2, none⟩ (.string t112))) := ⟨by repeat (first | (with_reducible first | exact HB.out | apply below_alloc | apply pw_below_drewN | apply below_drew1 | refine below_set ?_ GE101.out | refine below_set ?_ GE102.out | refine below_set ?_ GE103.out | refine below_set ?_ GE114.out) | exact HB.out)⟩; (try clear BK101); (try clear BK102); (try clear BK103); (try clear BK114); (try clear HB)
        generalize (((w51.setCell ⟨gb114, 0, none⟩ (.int .i64 t110)).setCell ⟨gb114, 1, none⟩ (.int .i64 t111)).setCell ⟨gb114, 2, none⟩ (.string t112)) = w58 at n0_ n1_ n2_ n3_ n4_ ⊢; have BK101 := n0_; have BK102 := n1_; have BK103 := n2_; have BK114 := n3_; have HB := n4_; clear n0_ n1_ n2_ n3_ n4_; (try (rw [drewN_self w58]; generalize hq_ : World.drewN w58 _ = w58; have n0_ : Aside0 (w58.heap[gb101]? = some (.cells #[.int .i64 a0_0, .int .i64 a0_1, .slice A0_2 l0_2.length c0_2] 24 (0, 0))) := ⟨by rw [← hq_]; exact (pkx BK101)⟩; have n1_ : Aside0 (w58.heap[gb102]? = some (.cells #[.int .i64 a1_0, .int .i64 a1_1, .string a1_2] 26 (0, 0))) := ⟨by rw [← hq_]; exact (pkx BK102)⟩; have n2_ : Aside0 (w58.heap[gb103]? = some (.cells #[.int .i64 a2_0, .int .i64 a2_1] 33 (0, 0))) := ⟨by rw [← hq_]; exact (pkx BK103)⟩; have n3_ : Aside0 (w58.heap[gb114]? = some (.cells #[.int .i64 t110, .int .i64 t111, .string t112] 26 (0, 0))) := ⟨by rw [← hq_]; exact (pkx BK114)⟩; have n4_ : Aside0 (Below w.heap.size w w58) := ⟨by rw [← hq_]; exact (pbx HB)⟩; clear BK101 BK102 BK103 BK114 HB hq_; have BK101 := n0_; have BK102 := n1_; have BK103 := n2_; have BK114 := n3_; have HB := n4_; clear n0_ n1_ n2_ n3_ n4_))
        replace BK101 := Aside0.mk (blk_drew BK101.out); replace BK102 := Aside0.mk (blk_drew BK102.out); replace BK103 := Aside0.mk (blk_drew BK103.out); replace BK114 := Aside0.mk (blk_drew BK114.out); replace HB := Aside0.mk (below_drew1 HB.out)
        refine start_ (n:=30) (S := fun w' => w'.cell? ⟨gb101, 0, none⟩ = some (.int .i64 a0_0) ∧ w'.cell? ⟨gb101, 1, none⟩ = some (.int .i64 a0_1) ∧ w'.cell? ⟨gb101, 2, none⟩ = some (.slice A0_2 l0_2.length c0_2) ∧ w'.cell? ⟨gb103, 0, none⟩ = some (.int .i64 a2_0) ∧ w'.cell? ⟨gb103, 1, none⟩ = some (.int .i64 a2_1)) (ds := []) #[F,F,F,F,F,F,F,F,F,F,F,F,F,F,F,F,F,F,F,F,F,F,F,F,F,F,F,F,F,F] (by kernel_rfl) rfl rfl ⟨bc_ BK101 0 rfl, bc_ BK101 1 rfl, bc_ BK101 2 rfl, bc_ BK103 0 rfl, bc_ BK103 1 rfl⟩ (fun hHeld => ?_); refine with_tabW oculuslaw18_LookFinds.tab8 oculuslaw18_LookFinds.bits8 (fun HT_ HW_ => ?_)
        generalize w58.drew = w59 at BK101 BK102 BK103 BK114 HB hHeld ⊢; refine pure_ (i:=0) (N:=some 39) (v:=?_) (a':=?_) ⟨m_ 30 1⟩ rfl rfl (any_of HT_.out (by kernel_rfl)) (fun _ _ _ h=>h) (Or.inl ⟨rfl, ?_⟩) ?_ ?_; rotate_left
        ·intro w'; go_simp; with_reducible rfl
        rotate_left
        ·simp only [q_, i64_w, i32_w]; rfl
        refine pure_ (i:=2) (N:=some 41) (v:=?_) (a':=?_) ⟨m_ 30 5⟩ rfl rfl (any_of HT_.out (by kernel_rfl)) (fun _ _ _ h=>h) (Or.inl ⟨rfl, ?_⟩) ?_ ?_; rotate_left
        ·intro w'; go_simp; with_reducible rfl
        rotate_left
        ·simp only [q_, i64_w, i32_w]; rfl
        refine pure_ (i:=4) (N:=some 43) (v:=?_) (a':=?_) ⟨m_ 30 21⟩ rfl rfl (any_of HT_.out (by kernel_rfl)) (fun _ _ _ h=>h) (Or.inl ⟨rfl, ?_⟩) ?_ ?_; rotate_left
        ·intro w'; go_simp; with_reducible rfl
        rotate_left
        ·simp only [q_, i64_w, i32_w]; rfl
        refine take_ (i:=1) (N:=some 40) (v:=?_) (a':=?_) ⟨m_ 30 23⟩ rfl rfl (take_ofW HT_.out HW_.out (by kernel_rfl)) (fun _ _ _ h=>h) (Or.inl ⟨rfl, ?_⟩) hHeld ?_ ?_; rotate_left
        ·rintro w' ⟨s0, s1, s2, s3, s4⟩; go_simp; with_reducible rfl
        rotate_left
        ·simp only [q_, i64_w, i32_w]; rfl
        refine take_ (i:=3) (N:=some 42) (v:=?_) (a':=?_) ⟨m_ 30 31⟩ rfl rfl (take_ofW HT_.out HW_.out (by kernel_rfl)) (fun _ _ _ h=>h) (Or.inl ⟨rfl, ?_⟩) hHeld ?_ ?_; rotate_left
        ·rintro w' ⟨s0, s1, s2, s3, s4⟩; go_simp; with_reducible rfl
        rotate_left
        ·simp only [q_, i64_w, i32_w]; rfl
        refine take_ (i:=5) (N:=some 44) (v:=?_) (a':=?_) ⟨m_ 30 63⟩ rfl rfl (take_ofW HT_.out HW_.out (by kernel_rfl)) (fun _ _ _ h=>h) (Or.inl ⟨rfl, ?_⟩) hHeld ?_ ?_; rotate_left
        ·rintro w' ⟨s0, s1, s2, s3, s4⟩; go_simp; with_reducible rfl
        rotate_left
        ·simp only [q_, i64_w, i32_w]; rfl
        refine one_ (i:=6) (N:=some 45) ⟨m_ 30 127⟩ rfl rfl (one_of HT_.out (by kernel_rfl)) (by decide) (fun K hK => ?_); refine goes_ Try.func16 (by kernel_rfl) rfl #[.agg #[.int .i64 a0_0, .int .i64 a0_1, .slice A0_2 l0_2.length c0_2], .int .i64 a2_0, .int .i64 a2_1] (by rfl) rfl rfl (by (try simp only [List.map_toArray, List.map_cons, List.map_nil]); first | done | rfl | (simp only [List.length_drop, List.length_take]; rfl)) ?_; with_reducible refine (oculusref18_In.calls a0_0 a0_1 _ _ l0_2 a2_0 a2_1 t115 _ ?side1 ?side2 A56.out).mono ?_; (case side1 => repeat (first | exact (Kd.C_below HR0_2.out HB.out) | (with_reducible refine Kd.C_alloc ?_ _) | (with_reducible refine Kd.C_drewN ?_ _) | (with_reducible refine Kd.C_drew ?_))); (case side2 => exact HC0_2.out); rintro e w60 ⟨rfl, hb⟩; refine ⟨_, rfl, ?_⟩
        replace BK101 := bb_ BK101 hb; replace BK102 := bb_ BK102 hb; replace BK103 := bb_ BK103 hb; replace BK114 := bb_ BK114 hb; replace HB := bs_ HB hb; (try clear hb); (try clear hb2); (try clear hk); (try clear hi); refine hK.out _ _ ⟨bc_ BK101 0 rfl, bc_ BK101 1 rfl, bc_ BK101 2 rfl, bc_ BK103 0 rfl, bc_ BK103 1 rfl⟩ (fun hHeld => ?_); clear hK K; refine norm_ (a':=?_) ?_ ?_; rotate_left
        ·show Act.put _ (some 45) _ = _; simp only [q_, i64_w, i32_w]; rfl
        refine pure_ (i:=7) (N:=some 46) (v:=?_) (a':=?_) ⟨m_ 30 255⟩ rfl rfl (any_of HT_.out (by kernel_rfl)) (fun _ _ _ h=>h) (Or.inl ⟨rfl, ?_⟩) ?_ ?_; rotate_left
        ·intro w'; go_simp; with_reducible rfl
        rotate_left
        ·simp only [q_, i64_w, i32_w]; rfl
        refine pure_ (i:=8) (N:=some 47) (v:=?_) (a':=?_) ⟨m_ 30 511⟩ rfl rfl (any_of HT_.out (by kernel_rfl)) (fun _ _ _ h=>h) (Or.inl ⟨rfl, ?_⟩) ?_ ?_; rotate_left
        ·intro w'; go_simp; with_reducible rfl
        rotate_left
        ·simp only [q_, i64_w, i32_w]; rfl
        refine pure_ (i:=9) (N:=some 48) (v:=undef) (a':=?_) ⟨m_ 30 1023⟩ rfl rfl (any_of HT_.out (by kernel_rfl)) (fun _ _ _ h=>h) (Or.inr ⟨by rfl, rfl⟩) ?_ ?_; rotate_left
        ·simp only [q_, i64_w, i32_w]; rfl
        refine pure_ (i:=10) (N:=some 49) (v:=undef) (a':=?_) ⟨m_ 30 2047⟩ rfl rfl (any_of HT_.out (by kernel_rfl)) (fun _ _ _ h=>h) (Or.inr ⟨by rfl, rfl⟩) ?_ ?_; rotate_left
        ·simp only [q_, i64_w, i32_w]; rfl
        refine pure_ (i:=11) (N:=some 50) (v:=undef) (a':=?_) ⟨m_ 30 4095⟩ rfl rfl (any_of HT_.out (by kernel_rfl)) (fun _ _ _ h=>h) (Or.inr ⟨by rfl, rfl⟩) ?_ ?_; rotate_left
        ·simp only [q_, i64_w, i32_w]; rfl
        refine pure_ (i:=12) (N:=some 51) (v:=undef) (a':=?_) ⟨m_ 30 8191⟩ rfl rfl (any_of HT_.out (by kernel_rfl)) (fun _ _ _ h=>h) (Or.inr ⟨by rfl, rfl⟩) ?_ ?_; rotate_left
        ·simp only [q_, i64_w, i32_w]; rfl
        refine pure_ (i:=13) (N:=some 52) (v:=undef) (a':=?_) ⟨m_ 30 16383⟩ rfl rfl (any_of HT_.out (by kernel_rfl)) (fun _ _ _ h=>h) (Or.inr ⟨by rfl, rfl⟩) ?_ ?_; rotate_left
        ·simp only [q_, i64_w, i32_w]; rfl
        refine pure_ (i:=14) (N:=some 53) (v:=undef) (a':=?_) ⟨m_ 30 32767⟩ rfl rfl (any_of HT_.out (by kernel_rfl)) (fun _ _ _ h=>h) (Or.inr ⟨by rfl, rfl⟩) ?_ ?_; rotate_left
        ·simp only [q_, i64_w, i32_w]; rfl
        refine pure_ (i:=15) (N:=some 54) (v:=undef) (a':=?_) ⟨m_ 30 65535⟩ rfl rfl (any_of HT_.out (by kernel_rfl)) (fun _ _ _ h=>h) (Or.inr ⟨by rfl, rfl⟩) ?_ ?_; rotate_left
        ·simp only [q_, i64_w, i32_w]; rfl
        refine pure_ (i:=16) (N:=some 55) (v:=undef) (a':=?_) ⟨m_ 30 131071⟩ rfl rfl (any_of HT_.out (by kernel_rfl)) (fun _ _ _ h=>h) (Or.inr ⟨by rfl, rfl⟩) ?_ ?_; rotate_left
        ·simp only [q_, i64_w, i32_w]; rfl
        refine pure_ (i:=17) (N:=some 56) (v:=undef) (a':=?_) ⟨m_ 30 262143⟩ rfl rfl (any_of HT_.out (by kernel_rfl)) (fun _ _ _ h=>h) (Or.inr ⟨by rfl, rfl⟩) ?_ ?_; rotate_left
        ·simp only [q_, i64_w, i32_w]; rfl
        refine pure_ (i:=18) (N:=some 57) (v:=undef) (a':=?_) ⟨m_ 30 524287⟩ rfl rfl (any_of HT_.out (by kernel_rfl)) (fun _ _ _ h=>h) (Or.inr ⟨by rfl, rfl⟩) ?_ ?_; rotate_left
        ·simp only [q_, i64_w, i32_w]; rfl
        refine pure_ (i:=19) (N:=some 58) (v:=undef) (a':=?_) ⟨m_ 30 1048575⟩ rfl rfl (any_of HT_.out (by kernel_rfl)) (fun _ _ _ h=>h) (Or.inr ⟨by rfl, rfl⟩) ?_ ?_; rotate_left
        ·simp only [q_, i64_w, i32_w]; rfl
        refine pure_ (i:=20) (N:=some 59) (v:=?_) (a':=?_) ⟨m_ 30 2097151⟩ rfl rfl (any_of HT_.out (by kernel_rfl)) (fun _ _ _ h=>h) (Or.inl ⟨rfl, ?_⟩) ?_ ?_; rotate_left
        ·intro w'; go_simp; with_reducible rfl
        rotate_left
        ·simp only [q_, i64_w, i32_w]; rfl
        refine pure_ (i:=21) (N:=some 60) (v:=?_) (a':=?_) ⟨m_ 30 4194303⟩ rfl rfl (any_of HT_.out (by kernel_rfl)) (fun _ _ _ h=>h) (Or.inl ⟨rfl, ?_⟩) ?_ ?_; rotate_left
        ·intro w'; go_simp; with_reducible rfl
        rotate_left
        ·simp only [q_, i64_w, i32_w]; rfl
        refine pure_ (i:=22) (N:=some 61) (v:=undef) (a':=?_) ⟨m_ 30 8388607⟩ rfl rfl (any_of HT_.out (by kernel_rfl)) (fun _ _ _ h=>h) (Or.inr ⟨by rfl, rfl⟩) ?_ ?_; rotate_left
        ·simp only [q_, i64_w, i32_w]; rfl
        refine pure_ (i:=23) (N:=some 62) (v:=undef) (a':=?_) ⟨m_ 30 16777215⟩ rfl rfl (any_of HT_.out (by kernel_rfl)) (fun _ _ _ h=>h) (Or.inr ⟨by rfl, rfl⟩) ?_ ?_; rotate_left
        ·simp only [q_, i64_w, i32_w]; rfl
        refine pure_ (i:=24) (N:=some 63) (v:=undef) (a':=?_) ⟨m_ 30 33554431⟩ rfl rfl (any_of HT_.out (by kernel_rfl)) (fun _ _ _ h=>h) (Or.inr ⟨by rfl, rfl⟩) ?_ ?_; rotate_left
        ·simp only [q_, i64_w, i32_w]; rfl
        refine pure_ (i:=25) (N:=some 64) (v:=undef) (a':=?_) ⟨m_ 30 67108863⟩ rfl rfl (any_of HT_.out (by kernel_rfl)) (fun _ _ _ h=>h) (Or.inr ⟨by rfl, rfl⟩) ?_ ?_; rotate_left
        ·simp only [q_, i64_w, i32_w]; rfl
        refine pure_ (i:=26) (N:=some 65) (v:=undef) (a':=?_) ⟨m_ 30 134217727⟩ rfl rfl (any_of HT_.out (by kernel_rfl)) (fun _ _ _ h=>h) (Or.inr ⟨by rfl, rfl⟩) ?_ ?_; rotate_left
        ·simp only [q_, i64_w, i32_w]; rfl
        refine pure_ (i:=27) (N:=some 66) (v:=undef) (a':=?_) ⟨m_ 30 268435455⟩ rfl rfl (any_of HT_.out (by kernel_rfl)) (fun _ _ _ h=>h) (Or.inr ⟨by rfl, rfl⟩) ?_ ?_; rotate_left
        ·simp only [q_, i64_w, i32_w]; rfl
        refine pure_ (i:=28) (N:=some 67) (v:=undef) (a':=?_) ⟨m_ 30 536870911⟩ rfl rfl (any_of HT_.out (by kernel_rfl)) (fun _ _ _ h=>h) (Or.inr ⟨by rfl, rfl⟩) ?_ ?_; rotate_left
        ·simp only [q_, i64_w, i32_w]; rfl
        refine pure_ (i:=29) (N:=some 68) (v:=?_) (a':=?_) ⟨m_ 30 1073741823⟩ rfl rfl (any_of HT_.out (by kernel_rfl)) (fun _ _ _ h=>h) (Or.inl ⟨rfl, ?_⟩) ?_ ?_; rotate_left
        ·intro w'; go_simp; with_reducible rfl
        rotate_left
        ·simp only [q_, i64_w, i32_w]; rfl
        refine done_ (done_of HT_.out (by kernel_rfl)) ?_
        try go_wp2
        go_meet
        case rel => exact ⟨_, (true), (by first | rfl | (simp; done) | (simp [*]; done)), H', ⟨by have := HJ15.out; first | omega | exact Nat.le_refl _⟩, ⟨pkx BK101⟩, ⟨pkx BK102⟩, ⟨pkx BK103⟩, ⟨pkx BK114⟩, ⟨pbx HB⟩⟩
       ·rw [if_neg c57] at H
        have c57b0 : (t113 != t115) = false := by simpa using c57
        (try (have c57b1 : decide (t113 = t115) = true := by simpa using c57)); (try (have c57b2 : (t113 == t115) = true := by simpa using c57)); clear c57; (first | rw [c57b0] | (simp only [i64_w, i32_w]; rw [c57b0]) | skip)
        by_cases c61 : t113 = true
        ·subst c61
         have H1 : ((oculusref18_At.f a0_0 a0_1 l0_2 a2_0 a2_1).bind fun bt116 => (if (!(t110 == bt116.1) || (!(t111 == bt116.2.1) || (!(t112.toList == bt116.2.2.toList)))) = true then (oculuslaw18_LookFinds.j1 kj15 true a0_0 a0_1 l0_2 a1_0 a1_1 a1_2) else (oculuslaw18_LookFinds.j1 kj15 false a0_0 a0_1 l0_2 a1_0 a1_1 a1_2))) = some r := by rw [if_pos rfl] at H; exact H
         clear H; have H := H1; clear H1; replace H := Option.bind_eq_some_iff.mp H; obtain ⟨⟨t116, t117, t118⟩, A620, H⟩ := H
         replace H : (if (!(t110 == t116) || (!(t111 == t117) || (!(t112.toList == t118.toList)))) = true then (oculuslaw18_LookFinds.j1 kj15 true a0_0 a0_1 l0_2 a1_0 a1_1 a1_2) else (oculuslaw18_LookFinds.j1 kj15 false a0_0 a0_1 l0_2 a1_0 a1_1 a1_2)) = some r := H
         have A62 := Aside0.mk A620; clear A620
         by_cases c63 : (!(t110 == t116) || (!(t111 == t117) || (!(t112.toList == t118.toList)))) = true
         ·rw [if_pos c63] at H
          have c63b0 : (!(t110 == t116) || (!(t111 == t117) || (!(t112.toList == t118.toList)))) = true := c63
          clear c63
          have H' := Aside0.mk H
          clear H
          try go_wp2
          have n0_ : Aside0 ((((w51.setCell ⟨gb114, 0, none⟩ (.int .i64 t110)).setCell ⟨gb114, 1, none⟩ (.int .i64 t111)).setCell ⟨gb114, 2, none⟩ (.string t112)).heap[gb101]? = some (.cells #[.int .i64 a0_0, .int .i64 a0_1, .slice A0_2 l0_2.length c0_2] 24 (0, 0))) := ⟨by (with_reducible repeat (first | refine blk_drewN ?_ _ | refine blk_drew ?_ | refine blk_alloc ?_ _)); refine blk_far ?_ NB101_114.out _; refine blk_far ?_ NB101_114.out _; refine blk_far ?_ NB101_114.out _; (with_reducible repeat (first | refine blk_drewN ?_ _ | refine blk_drew ?_ | refine blk_alloc ?_ _)); exact BK101.out⟩; have n1_ : Aside0 ((((w51.setCell ⟨gb114, 0, none⟩ (.int .i64 t110)).setCell ⟨gb114, 1, none⟩ (.int .i64 t111)).setCell ⟨gb114, 2, none⟩ (.string t112)).heap[gb102]? = some (.cells #[.int .i64 a1_0, .int .i64 a1_1, .string a1_2] 26 (0, 0))) := ⟨by (with_reducible repeat (first | refine blk_drewN ?_ _ | refine blk_drew ?_ | refine blk_alloc ?_ _)); refine blk_far ?_ NB102_114.out _; refine blk_far ?_ NB102_114.out _; refine blk_far ?_ NB102_114.out _; (with_reducible repeat (first | refine blk_drewN ?_ _ | refine blk_drew ?_ | refine blk_alloc ?_ _)); exact BK102.out⟩
          have n2_ : Aside0 ((((w51.setCell ⟨gb114, 0, none⟩ (.int .i64 t110)).setCell ⟨gb114, 1, none⟩ (.int .i64 t111)).setCell ⟨gb114, 2, none⟩ (.string t112)).heap[gb103]? = some (.cells #[.int .i64 a2_0, .int .i64 a2_1] 33 (0, 0))) := ⟨by (with_reducible repeat (first | refine blk_drewN ?_ _ | refine blk_drew ?_ | refine blk_alloc ?_ _)); refine blk_far ?_ NB103_114.out _; refine blk_far ?_ NB103_114.out _; refine blk_far ?_ NB103_114.out _; (with_reducible repeat (first | refine blk_drewN ?_ _ | refine blk_drew ?_ | refine blk_alloc ?_ _)); exact BK103.out⟩; have n3_ : Aside0 ((((w51.setCell ⟨gb114, 0, none⟩ (.int .i64 t110)).setCell ⟨gb114, 1, none⟩ (.int .i64 t111)).setCell ⟨gb114, 2, none⟩ (.string t112)).heap[gb114]? = some (.cells #[.int .i64 t110, .int .i64 t111, .string t112] 26 (0, 0))) := ⟨by (with_reducible repeat (first | refine blk_drewN ?_ _ | refine blk_drew ?_ | refine blk_alloc ?_ _)); refine blk_put (cs := #[.int .i64 t110, .int .i64 t111, .string (⟨#[]⟩ : ByteArray)]) ?_ 2 _ rfl; (with_reducible repeat (first | refine blk_drewN ?_ _ | refine blk_drew ?_ | refine blk_alloc ?_ _)); refine blk_put (cs := #[.int .i64 t110, .int .i64 0, .string (⟨#[]⟩ : ByteArray)]) ?_ 1 _ rfl; (with_reducible repeat (first | refine blk_drewN ?_ _ | refine blk_drew ?_ | refine blk_alloc ?_ _)); refine blk_put (cs := #[.int .i64 0, .int .i64 0, .string (⟨#[]⟩ : ByteArray)]) ?_ 0 _ rfl; (with_reducible repeat (first | refine blk_drewN ?_ _ | refine blk_drew ?_ | refine blk_alloc ?_ _)); exact BK114.out⟩
          have n4_ : Aside0 (Below w.heap.size w (((w51.setCell ⟨gb114, 0, none⟩ (.int .i64 t110)).setCell ⟨gb114, 1, none⟩ (.int .i64 t111)).setCell ⟨gb114, 2, none⟩ (.string t112))) := ⟨by repeat (first | (with_reducible first | exact HB.out | apply below_alloc | apply pw_below_drewN | apply below_drew1 | refine below_set ?_ GE101.out | refine below_set ?_ GE102.out | refine below_set ?_ GE103.out | refine below_set ?_ GE114.out) | exact HB.out)⟩; (try clear BK101); (try clear BK102); (try clear BK103); (try clear BK114); (try clear HB)
          generalize (((w51.setCell ⟨gb114, 0, none⟩ (.int .i64 t110)).setCell ⟨gb114, 1, none⟩ (.int .i64 t111)).setCell ⟨gb114, 2, none⟩ (.string t112)) = w64 at n0_ n1_ n2_ n3_ n4_ ⊢; have BK101 := n0_; have BK102 := n1_; have BK103 := n2_; have BK114 := n3_; have HB := n4_; clear n0_ n1_ n2_ n3_ n4_; (try (rw [drewN_self w64]; generalize hq_ : World.drewN w64 _ = w64; have n0_ : Aside0 (w64.heap[gb101]? = some (.cells #[.int .i64 a0_0, .int .i64 a0_1, .slice A0_2 l0_2.length c0_2] 24 (0, 0))) := ⟨by rw [← hq_]; exact (pkx BK101)⟩; have n1_ : Aside0 (w64.heap[gb102]? = some (.cells #[.int .i64 a1_0, .int .i64 a1_1, .string a1_2] 26 (0, 0))) := ⟨by rw [← hq_]; exact (pkx BK102)⟩; have n2_ : Aside0 (w64.heap[gb103]? = some (.cells #[.int .i64 a2_0, .int .i64 a2_1] 33 (0, 0))) := ⟨by rw [← hq_]; exact (pkx BK103)⟩; have n3_ : Aside0 (w64.heap[gb114]? = some (.cells #[.int .i64 t110, .int .i64 t111, .string t112] 26 (0, 0))) := ⟨by rw [← hq_]; exact (pkx BK114)⟩; have n4_ : Aside0 (Below w.heap.size w w64) := ⟨by rw [← hq_]; exact (pbx HB)⟩; clear BK101 BK102 BK103 BK114 HB hq_; have BK101 := n0_; have BK102 := n1_; have BK103 := n2_; have BK114 := n3_; have HB := n4_; clear n0_ n1_ n2_ n3_ n4_))
          replace BK101 := Aside0.mk (blk_drew BK101.out); replace BK102 := Aside0.mk (blk_drew BK102.out); replace BK103 := Aside0.mk (blk_drew BK103.out); replace BK114 := Aside0.mk (blk_drew BK114.out); replace HB := Aside0.mk (below_drew1 HB.out)
          refine start_ (n:=30) (S := fun w' => w'.cell? ⟨gb101, 0, none⟩ = some (.int .i64 a0_0) ∧ w'.cell? ⟨gb101, 1, none⟩ = some (.int .i64 a0_1) ∧ w'.cell? ⟨gb101, 2, none⟩ = some (.slice A0_2 l0_2.length c0_2) ∧ w'.cell? ⟨gb103, 0, none⟩ = some (.int .i64 a2_0) ∧ w'.cell? ⟨gb103, 1, none⟩ = some (.int .i64 a2_1) ∧ w'.cell? ⟨gb114, 0, none⟩ = some (.int .i64 t110) ∧ w'.cell? ⟨gb114, 1, none⟩ = some (.int .i64 t111) ∧ w'.cell? ⟨gb114, 2, none⟩ = some (.string t112)) (ds := []) #[F,F,F,F,F,F,F,F,F,F,F,F,F,F,F,F,F,F,F,F,F,F,F,F,F,F,F,F,F,F] (by kernel_rfl) rfl rfl ⟨bc_ BK101 0 rfl, bc_ BK101 1 rfl, bc_ BK101 2 rfl, bc_ BK103 0 rfl, bc_ BK103 1 rfl, bc_ BK114 0 rfl, bc_ BK114 1 rfl, bc_ BK114 2 rfl⟩ (fun hHeld => ?_); refine with_tabW oculuslaw18_LookFinds.tab8 oculuslaw18_LookFinds.bits8 (fun HT_ HW_ => ?_)
          generalize w64.drew = w65 at BK101 BK102 BK103 BK114 HB hHeld ⊢; refine pure_ (i:=0) (N:=some 39) (v:=?_) (a':=?_) ⟨m_ 30 1⟩ rfl rfl (any_of HT_.out (by kernel_rfl)) (fun _ _ _ h=>h) (Or.inl ⟨rfl, ?_⟩) ?_ ?_; rotate_left
          ·intro w'; go_simp; with_reducible rfl
          rotate_left
          ·simp only [q_, i64_w, i32_w]; rfl
          refine pure_ (i:=2) (N:=some 41) (v:=?_) (a':=?_) ⟨m_ 30 5⟩ rfl rfl (any_of HT_.out (by kernel_rfl)) (fun _ _ _ h=>h) (Or.inl ⟨rfl, ?_⟩) ?_ ?_; rotate_left
          ·intro w'; go_simp; with_reducible rfl
          rotate_left
          ·simp only [q_, i64_w, i32_w]; rfl
          refine pure_ (i:=4) (N:=some 43) (v:=?_) (a':=?_) ⟨m_ 30 21⟩ rfl rfl (any_of HT_.out (by kernel_rfl)) (fun _ _ _ h=>h) (Or.inl ⟨rfl, ?_⟩) ?_ ?_; rotate_left
          ·intro w'; go_simp; with_reducible rfl
          rotate_left
          ·simp only [q_, i64_w, i32_w]; rfl
          refine take_ (i:=1) (N:=some 40) (v:=?_) (a':=?_) ⟨m_ 30 23⟩ rfl rfl (take_ofW HT_.out HW_.out (by kernel_rfl)) (fun _ _ _ h=>h) (Or.inl ⟨rfl, ?_⟩) hHeld ?_ ?_; rotate_left
          ·rintro w' ⟨s0, s1, s2, s3, s4, s5, s6, s7⟩; go_simp; with_reducible rfl
          rotate_left
          ·simp only [q_, i64_w, i32_w]; rfl
          refine take_ (i:=3) (N:=some 42) (v:=?_) (a':=?_) ⟨m_ 30 31⟩ rfl rfl (take_ofW HT_.out HW_.out (by kernel_rfl)) (fun _ _ _ h=>h) (Or.inl ⟨rfl, ?_⟩) hHeld ?_ ?_; rotate_left
          ·rintro w' ⟨s0, s1, s2, s3, s4, s5, s6, s7⟩; go_simp; with_reducible rfl
          rotate_left
          ·simp only [q_, i64_w, i32_w]; rfl
          refine take_ (i:=5) (N:=some 44) (v:=?_) (a':=?_) ⟨m_ 30 63⟩ rfl rfl (take_ofW HT_.out HW_.out (by kernel_rfl)) (fun _ _ _ h=>h) (Or.inl ⟨rfl, ?_⟩) hHeld ?_ ?_; rotate_left
          ·rintro w' ⟨s0, s1, s2, s3, s4, s5, s6, s7⟩; go_simp; with_reducible rfl
          rotate_left
          ·simp only [q_, i64_w, i32_w]; rfl
          refine one_ (i:=6) (N:=some 45) ⟨m_ 30 127⟩ rfl rfl (one_of HT_.out (by kernel_rfl)) (by decide) (fun K hK => ?_); refine goes_ Try.func16 (by kernel_rfl) rfl #[.agg #[.int .i64 a0_0, .int .i64 a0_1, .slice A0_2 l0_2.length c0_2], .int .i64 a2_0, .int .i64 a2_1] (by rfl) rfl rfl (by (try simp only [List.map_toArray, List.map_cons, List.map_nil]); first | done | rfl | (simp only [List.length_drop, List.length_take]; rfl)) ?_; with_reducible refine (oculusref18_In.calls a0_0 a0_1 _ _ l0_2 a2_0 a2_1 t115 _ ?side1 ?side2 A56.out).mono ?_; (case side1 => repeat (first | exact (Kd.C_below HR0_2.out HB.out) | (with_reducible refine Kd.C_alloc ?_ _) | (with_reducible refine Kd.C_drewN ?_ _) | (with_reducible refine Kd.C_drew ?_))); (case side2 => exact HC0_2.out); rintro e w66 ⟨rfl, hb⟩; refine ⟨_, rfl, ?_⟩
          replace BK101 := bb_ BK101 hb; replace BK102 := bb_ BK102 hb; replace BK103 := bb_ BK103 hb; replace BK114 := bb_ BK114 hb; replace HB := bs_ HB hb; (try clear hb); (try clear hb2); (try clear hk); (try clear hi); refine hK.out _ _ ⟨bc_ BK101 0 rfl, bc_ BK101 1 rfl, bc_ BK101 2 rfl, bc_ BK103 0 rfl, bc_ BK103 1 rfl, bc_ BK114 0 rfl, bc_ BK114 1 rfl, bc_ BK114 2 rfl⟩ (fun hHeld => ?_); clear hK K; refine norm_ (a':=?_) ?_ ?_; rotate_left
          ·show Act.put _ (some 45) _ = _; simp only [q_, i64_w, i32_w]; rfl
          refine pure_ (i:=7) (N:=some 46) (v:=?_) (a':=?_) ⟨m_ 30 255⟩ rfl rfl (any_of HT_.out (by kernel_rfl)) (fun _ _ _ h=>h) (Or.inl ⟨rfl, ?_⟩) ?_ ?_; rotate_left
          ·intro w'; go_simp; with_reducible rfl
          rotate_left
          ·simp only [q_, i64_w, i32_w]; rfl
          refine pure_ (i:=8) (N:=some 47) (v:=?_) (a':=?_) ⟨m_ 30 511⟩ rfl rfl (any_of HT_.out (by kernel_rfl)) (fun _ _ _ h=>h) (Or.inl ⟨rfl, ?_⟩) ?_ ?_; rotate_left
          ·intro w'; go_simp; with_reducible rfl
          rotate_left
          ·simp only [q_, i64_w, i32_w]; rfl
          refine pure_ (i:=9) (N:=some 48) (v:=?_) (a':=?_) ⟨m_ 30 1023⟩ rfl rfl (any_of HT_.out (by kernel_rfl)) (fun _ _ _ h=>h) (Or.inl ⟨rfl, ?_⟩) ?_ ?_; rotate_left
          ·intro w'; go_simp; with_reducible rfl
          rotate_left
          ·simp only [q_, i64_w, i32_w]; rfl
          refine pure_ (i:=10) (N:=some 49) (v:=?_) (a':=?_) ⟨m_ 30 2047⟩ rfl rfl (any_of HT_.out (by kernel_rfl)) (fun _ _ _ h=>h) (Or.inl ⟨rfl, ?_⟩) ?_ ?_; rotate_left
          ·intro w'; go_simp; with_reducible rfl
          rotate_left
          ·simp only [q_, i64_w, i32_w]; rfl
          refine pure_ (i:=13) (N:=some 52) (v:=?_) (a':=?_) ⟨m_ 30 10239⟩ rfl rfl (any_of HT_.out (by kernel_rfl)) (fun _ _ _ h=>h) (Or.inl ⟨rfl, ?_⟩) ?_ ?_; rotate_left
          ·intro w'; go_simp; with_reducible rfl
          rotate_left
          ·simp only [q_, i64_w, i32_w]; rfl
          refine pure_ (i:=15) (N:=some 54) (v:=?_) (a':=?_) ⟨m_ 30 43007⟩ rfl rfl (any_of HT_.out (by kernel_rfl)) (fun _ _ _ h=>h) (Or.inl ⟨rfl, ?_⟩) ?_ ?_; rotate_left
          ·intro w'; go_simp; with_reducible rfl
          rotate_left
          ·simp only [q_, i64_w, i32_w]; rfl
          refine take_ (i:=11) (N:=some 50) (v:=?_) (a':=?_) ⟨m_ 30 45055⟩ rfl rfl (take_ofW HT_.out HW_.out (by kernel_rfl)) (fun _ _ _ h=>h) (Or.inl ⟨rfl, ?_⟩) hHeld ?_ ?_; rotate_left
          ·rintro w' ⟨s0, s1, s2, s3, s4, s5, s6, s7⟩; go_simp; with_reducible rfl
          rotate_left
          ·simp only [q_, i64_w, i32_w]; rfl
          refine take_ (i:=12) (N:=some 51) (v:=?_) (a':=?_) ⟨m_ 30 49151⟩ rfl rfl (take_ofW HT_.out HW_.out (by kernel_rfl)) (fun _ _ _ h=>h) (Or.inl ⟨rfl, ?_⟩) hHeld ?_ ?_; rotate_left
          ·rintro w' ⟨s0, s1, s2, s3, s4, s5, s6, s7⟩; go_simp; with_reducible rfl
          rotate_left
          ·simp only [q_, i64_w, i32_w]; rfl
          refine take_ (i:=14) (N:=some 53) (v:=?_) (a':=?_) ⟨m_ 30 65535⟩ rfl rfl (take_ofW HT_.out HW_.out (by kernel_rfl)) (fun _ _ _ h=>h) (Or.inl ⟨rfl, ?_⟩) hHeld ?_ ?_; rotate_left
          ·rintro w' ⟨s0, s1, s2, s3, s4, s5, s6, s7⟩; go_simp; with_reducible rfl
          rotate_left
          ·simp only [q_, i64_w, i32_w]; rfl
          refine take_ (i:=16) (N:=some 55) (v:=?_) (a':=?_) ⟨m_ 30 131071⟩ rfl rfl (take_ofW HT_.out HW_.out (by kernel_rfl)) (fun _ _ _ h=>h) (Or.inl ⟨rfl, ?_⟩) hHeld ?_ ?_; rotate_left
          ·rintro w' ⟨s0, s1, s2, s3, s4, s5, s6, s7⟩; go_simp; with_reducible rfl
          rotate_left
          ·simp only [q_, i64_w, i32_w]; rfl
          refine one_ (i:=17) (N:=some 56) ⟨m_ 30 262143⟩ rfl rfl (one_of HT_.out (by kernel_rfl)) (by decide) (fun K hK => ?_); refine goes_ Try.func8 (by kernel_rfl) rfl #[.agg #[.int .i64 a0_0, .int .i64 a0_1, .slice A0_2 l0_2.length c0_2], .int .i64 a2_0, .int .i64 a2_1] (by rfl) rfl rfl (by (try simp only [List.map_toArray, List.map_cons, List.map_nil]); first | done | rfl | (simp only [List.length_drop, List.length_take]; rfl)) ?_; with_reducible refine (oculusref18_At.calls a0_0 a0_1 _ _ l0_2 a2_0 a2_1 t116 t117 t118 _ ?side1 ?side2 A62.out).mono ?_; (case side1 => repeat (first | exact (Kd.C_below HR0_2.out HB.out) | (with_reducible refine Kd.C_alloc ?_ _) | (with_reducible refine Kd.C_drewN ?_ _) | (with_reducible refine Kd.C_drew ?_))); (case side2 => exact HC0_2.out); rintro e w67 ⟨rfl, hb⟩; refine ⟨_, rfl, ?_⟩
          replace BK101 := bb_ BK101 hb; replace BK102 := bb_ BK102 hb; replace BK103 := bb_ BK103 hb; replace BK114 := bb_ BK114 hb; replace HB := bs_ HB hb; (try clear hb); (try clear hb2); (try clear hk); (try clear hi); refine hK.out _ _ ⟨bc_ BK101 0 rfl, bc_ BK101 1 rfl, bc_ BK101 2 rfl, bc_ BK103 0 rfl, bc_ BK103 1 rfl, bc_ BK114 0 rfl, bc_ BK114 1 rfl, bc_ BK114 2 rfl⟩ (fun hHeld => ?_); clear hK K; refine norm_ (a':=?_) ?_ ?_; rotate_left
          ·show Act.put _ (some 56) _ = _; simp only [q_, i64_w, i32_w]; rfl
          refine pure_ (i:=18) (N:=some 57) (v:=?_) (a':=?_) ⟨m_ 30 524287⟩ rfl rfl (any_of HT_.out (by kernel_rfl)) (fun _ _ _ h=>h) (Or.inl ⟨rfl, ?_⟩) ?_ ?_; rotate_left
          ·intro w'; go_simp; with_reducible rfl
          rotate_left
          ·simp only [q_, i64_w, i32_w]; rfl
          refine pure_ (i:=19) (N:=some 58) (v:=?_) (a':=?_) ⟨m_ 30 1048575⟩ rfl rfl (any_of HT_.out (by kernel_rfl)) (fun _ _ _ h=>h) (Or.inl ⟨rfl, ?_⟩) ?_ ?_; rotate_left
          ·intro w'; go_simp; with_reducible rfl
          rotate_left
          ·simp only [q_, i64_w, i32_w]; rfl
          refine pure_ (i:=20) (N:=some 59) (v:=?_) (a':=?_) ⟨m_ 30 2097151⟩ rfl rfl (any_of HT_.out (by kernel_rfl)) (fun _ _ _ h=>h) (Or.inl ⟨rfl, ?_⟩) ?_ ?_; rotate_left
          ·intro w'; go_simp; with_reducible rfl
          rotate_left
          ·simp only [q_, i64_w, i32_w]; rfl
          refine pure_ (i:=21) (N:=some 60) (v:=?_) (a':=?_) ⟨m_ 30 4194303⟩ rfl rfl (any_of HT_.out (by kernel_rfl)) (fun _ _ _ h=>h) (Or.inl ⟨rfl, ?_⟩) ?_ ?_; rotate_left
          ·intro w'; go_simp; with_reducible rfl
          rotate_left
          ·simp only [q_, i64_w, i32_w]; rfl
          refine pure_ (i:=22) (N:=some 61) (v:=undef) (a':=?_) ⟨m_ 30 8388607⟩ rfl rfl (any_of HT_.out (by kernel_rfl)) (fun _ _ _ h=>h) (Or.inr ⟨by rfl, rfl⟩) ?_ ?_; rotate_left
          ·simp only [q_, i64_w, i32_w]; rfl
          refine pure_ (i:=23) (N:=some 62) (v:=undef) (a':=?_) ⟨m_ 30 16777215⟩ rfl rfl (any_of HT_.out (by kernel_rfl)) (fun _ _ _ h=>h) (Or.inr ⟨by rfl, rfl⟩) ?_ ?_; rotate_left
          ·simp only [q_, i64_w, i32_w]; rfl
          refine pure_ (i:=24) (N:=some 63) (v:=undef) (a':=?_) ⟨m_ 30 33554431⟩ rfl rfl (any_of HT_.out (by kernel_rfl)) (fun _ _ _ h=>h) (Or.inr ⟨by rfl, rfl⟩) ?_ ?_; rotate_left
          ·simp only [q_, i64_w, i32_w]; rfl
          refine pure_ (i:=25) (N:=some 64) (v:=undef) (a':=?_) ⟨m_ 30 67108863⟩ rfl rfl (any_of HT_.out (by kernel_rfl)) (fun _ _ _ h=>h) (Or.inr ⟨by rfl, rfl⟩) ?_ ?_; rotate_left
          ·simp only [q_, i64_w, i32_w]; rfl
          refine pure_ (i:=26) (N:=some 65) (v:=undef) (a':=?_) ⟨m_ 30 134217727⟩ rfl rfl (any_of HT_.out (by kernel_rfl)) (fun _ _ _ h=>h) (Or.inr ⟨by rfl, rfl⟩) ?_ ?_; rotate_left
          ·simp only [q_, i64_w, i32_w]; rfl
          refine pure_ (i:=27) (N:=some 66) (v:=undef) (a':=?_) ⟨m_ 30 268435455⟩ rfl rfl (any_of HT_.out (by kernel_rfl)) (fun _ _ _ h=>h) (Or.inr ⟨by rfl, rfl⟩) ?_ ?_; rotate_left
          ·simp only [q_, i64_w, i32_w]; rfl
          refine pure_ (i:=28) (N:=some 67) (v:=undef) (a':=?_) ⟨m_ 30 536870911⟩ rfl rfl (any_of HT_.out (by kernel_rfl)) (fun _ _ _ h=>h) (Or.inr ⟨by rfl, rfl⟩) ?_ ?_; rotate_left
          ·simp only [q_, i64_w, i32_w]; rfl
          refine pure_ (i:=29) (N:=some 68) (v:=?_) (a':=?_) ⟨m_ 30 1073741823⟩ rfl rfl (any_of HT_.out (by kernel_rfl)) (fun _ _ _ h=>h) (Or.inl ⟨rfl, ?_⟩) ?_ ?_; rotate_left
          ·intro w'; go_simp; with_reducible rfl
          rotate_left
          ·simp only [q_, i64_w, i32_w]; rfl
          refine done_ (done_of HT_.out (by kernel_rfl)) ?_
          try go_wp2
          go_meet
          case rel => exact ⟨_, (true), (by first | rfl | (simp; done) | (simp [*]; done)), H', ⟨by have := HJ15.out; first | omega | exact Nat.le_refl _⟩, ⟨pkx BK101⟩, ⟨pkx BK102⟩, ⟨pkx BK103⟩, ⟨pkx BK114⟩, ⟨pbx HB⟩⟩
         ·rw [if_neg c63] at H
          have c63b0 : (!(t110 == t116) || (!(t111 == t117) || (!(t112.toList == t118.toList)))) = false := by simpa using c63
          clear c63
          have H' := Aside0.mk H
          clear H
          try go_wp2
          have n0_ : Aside0 ((((w51.setCell ⟨gb114, 0, none⟩ (.int .i64 t110)).setCell ⟨gb114, 1, none⟩ (.int .i64 t111)).setCell ⟨gb114, 2, none⟩ (.string t112)).heap[gb101]? = some (.cells #[.int .i64 a0_0, .int .i64 a0_1, .slice A0_2 l0_2.length c0_2] 24 (0, 0))) := ⟨by (with_reducible repeat (first | refine blk_drewN ?_ _ | refine blk_drew ?_ | refine blk_alloc ?_ _)); refine blk_far ?_ NB101_114.out _; refine blk_far ?_ NB101_114.out _; refine blk_far ?_ NB101_114.out _; (with_reducible repeat (first | refine blk_drewN ?_ _ | refine blk_drew ?_ | refine blk_alloc ?_ _)); exact BK101.out⟩; have n1_ : Aside0 ((((w51.setCell ⟨gb114, 0, none⟩ (.int .i64 t110)).setCell ⟨gb114, 1, none⟩ (.int .i64 t111)).setCell ⟨gb114, 2, none⟩ (.string t112)).heap[gb102]? = some (.cells #[.int .i64 a1_0, .int .i64 a1_1, .string a1_2] 26 (0, 0))) := ⟨by (with_reducible repeat (first | refine blk_drewN ?_ _ | refine blk_drew ?_ | refine blk_alloc ?_ _)); refine blk_far ?_ NB102_114.out _; refine blk_far ?_ NB102_114.out _; refine blk_far ?_ NB102_114.out _; (with_reducible repeat (first | refine blk_drewN ?_ _ | refine blk_drew ?_ | refine blk_alloc ?_ _)); exact BK102.out⟩
          have n2_ : Aside0 ((((w51.setCell ⟨gb114, 0, none⟩ (.int .i64 t110)).setCell ⟨gb114, 1, none⟩ (.int .i64 t111)).setCell ⟨gb114, 2, none⟩ (.string t112)).heap[gb103]? = some (.cells #[.int .i64 a2_0, .int .i64 a2_1] 33 (0, 0))) := ⟨by (with_reducible repeat (first | refine blk_drewN ?_ _ | refine blk_drew ?_ | refine blk_alloc ?_ _)); refine blk_far ?_ NB103_114.out _; refine blk_far ?_ NB103_114.out _; refine blk_far ?_ NB103_114.out _; (with_reducible repeat (first | refine blk_drewN ?_ _ | refine blk_drew ?_ | refine blk_alloc ?_ _)); exact BK103.out⟩; have n3_ : Aside0 ((((w51.setCell ⟨gb114, 0, none⟩ (.int .i64 t110)).setCell ⟨gb114, 1, none⟩ (.int .i64 t111)).setCell ⟨gb114, 2, none⟩ (.string t112)).heap[gb114]? = some (.cells #[.int .i64 t110, .int .i64 t111, .string t112] 26 (0, 0))) := ⟨by (with_reducible repeat (first | refine blk_drewN ?_ _ | refine blk_drew ?_ | refine blk_alloc ?_ _)); refine blk_put (cs := #[.int .i64 t110, .int .i64 t111, .string (⟨#[]⟩ : ByteArray)]) ?_ 2 _ rfl; (with_reducible repeat (first | refine blk_drewN ?_ _ | refine blk_drew ?_ | refine blk_alloc ?_ _)); refine blk_put (cs := #[.int .i64 t110, .int .i64 0, .string (⟨#[]⟩ : ByteArray)]) ?_ 1 _ rfl; (with_reducible repeat (first | refine blk_drewN ?_ _ | refine blk_drew ?_ | refine blk_alloc ?_ _)); refine blk_put (cs := #[.int .i64 0, .int .i64 0, .string (⟨#[]⟩ : ByteArray)]) ?_ 0 _ rfl; (with_reducible repeat (first | refine blk_drewN ?_ _ | refine blk_drew ?_ | refine blk_alloc ?_ _)); exact BK114.out⟩
          have n4_ : Aside0 (Below w.heap.size w (((w51.setCell ⟨gb114, 0, none⟩ (.int .i64 t110)).setCell ⟨gb114, 1, none⟩ (.int .i64 t111)).setCell ⟨gb114, 2, none⟩ (.string t112))) := ⟨by repeat (first | (with_reducible first | exact HB.out | apply below_alloc | apply pw_below_drewN | apply below_drew1 | refine below_set ?_ GE101.out | refine below_set ?_ GE102.out | refine below_set ?_ GE103.out | refine below_set ?_ GE114.out) | exact HB.out)⟩; (try clear BK101); (try clear BK102); (try clear BK103); (try clear BK114); (try clear HB)
          generalize (((w51.setCell ⟨gb114, 0, none⟩ (.int .i64 t110)).setCell ⟨gb114, 1, none⟩ (.int .i64 t111)).setCell ⟨gb114, 2, none⟩ (.string t112)) = w68 at n0_ n1_ n2_ n3_ n4_ ⊢; have BK101 := n0_; have BK102 := n1_; have BK103 := n2_; have BK114 := n3_; have HB := n4_; clear n0_ n1_ n2_ n3_ n4_; (try (rw [drewN_self w68]; generalize hq_ : World.drewN w68 _ = w68; have n0_ : Aside0 (w68.heap[gb101]? = some (.cells #[.int .i64 a0_0, .int .i64 a0_1, .slice A0_2 l0_2.length c0_2] 24 (0, 0))) := ⟨by rw [← hq_]; exact (pkx BK101)⟩; have n1_ : Aside0 (w68.heap[gb102]? = some (.cells #[.int .i64 a1_0, .int .i64 a1_1, .string a1_2] 26 (0, 0))) := ⟨by rw [← hq_]; exact (pkx BK102)⟩; have n2_ : Aside0 (w68.heap[gb103]? = some (.cells #[.int .i64 a2_0, .int .i64 a2_1] 33 (0, 0))) := ⟨by rw [← hq_]; exact (pkx BK103)⟩; have n3_ : Aside0 (w68.heap[gb114]? = some (.cells #[.int .i64 t110, .int .i64 t111, .string t112] 26 (0, 0))) := ⟨by rw [← hq_]; exact (pkx BK114)⟩; have n4_ : Aside0 (Below w.heap.size w w68) := ⟨by rw [← hq_]; exact (pbx HB)⟩; clear BK101 BK102 BK103 BK114 HB hq_; have BK101 := n0_; have BK102 := n1_; have BK103 := n2_; have BK114 := n3_; have HB := n4_; clear n0_ n1_ n2_ n3_ n4_))
          replace BK101 := Aside0.mk (blk_drew BK101.out); replace BK102 := Aside0.mk (blk_drew BK102.out); replace BK103 := Aside0.mk (blk_drew BK103.out); replace BK114 := Aside0.mk (blk_drew BK114.out); replace HB := Aside0.mk (below_drew1 HB.out)
          refine start_ (n:=30) (S := fun w' => w'.cell? ⟨gb101, 0, none⟩ = some (.int .i64 a0_0) ∧ w'.cell? ⟨gb101, 1, none⟩ = some (.int .i64 a0_1) ∧ w'.cell? ⟨gb101, 2, none⟩ = some (.slice A0_2 l0_2.length c0_2) ∧ w'.cell? ⟨gb103, 0, none⟩ = some (.int .i64 a2_0) ∧ w'.cell? ⟨gb103, 1, none⟩ = some (.int .i64 a2_1) ∧ w'.cell? ⟨gb114, 0, none⟩ = some (.int .i64 t110) ∧ w'.cell? ⟨gb114, 1, none⟩ = some (.int .i64 t111) ∧ w'.cell? ⟨gb114, 2, none⟩ = some (.string t112)) (ds := []) #[F,F,F,F,F,F,F,F,F,F,F,F,F,F,F,F,F,F,F,F,F,F,F,F,F,F,F,F,F,F] (by kernel_rfl) rfl rfl ⟨bc_ BK101 0 rfl, bc_ BK101 1 rfl, bc_ BK101 2 rfl, bc_ BK103 0 rfl, bc_ BK103 1 rfl, bc_ BK114 0 rfl, bc_ BK114 1 rfl, bc_ BK114 2 rfl⟩ (fun hHeld => ?_); refine with_tabW oculuslaw18_LookFinds.tab8 oculuslaw18_LookFinds.bits8 (fun HT_ HW_ => ?_)
          generalize w68.drew = w69 at BK101 BK102 BK103 BK114 HB hHeld ⊢; refine pure_ (i:=0) (N:=some 39) (v:=?_) (a':=?_) ⟨m_ 30 1⟩ rfl rfl (any_of HT_.out (by kernel_rfl)) (fun _ _ _ h=>h) (Or.inl ⟨rfl, ?_⟩) ?_ ?_; rotate_left
          ·intro w'; go_simp; with_reducible rfl
          rotate_left
          ·simp only [q_, i64_w, i32_w]; rfl
          refine pure_ (i:=2) (N:=some 41) (v:=?_) (a':=?_) ⟨m_ 30 5⟩ rfl rfl (any_of HT_.out (by kernel_rfl)) (fun _ _ _ h=>h) (Or.inl ⟨rfl, ?_⟩) ?_ ?_; rotate_left
          ·intro w'; go_simp; with_reducible rfl
          rotate_left
          ·simp only [q_, i64_w, i32_w]; rfl
          refine pure_ (i:=4) (N:=some 43) (v:=?_) (a':=?_) ⟨m_ 30 21⟩ rfl rfl (any_of HT_.out (by kernel_rfl)) (fun _ _ _ h=>h) (Or.inl ⟨rfl, ?_⟩) ?_ ?_; rotate_left
          ·intro w'; go_simp; with_reducible rfl
          rotate_left
          ·simp only [q_, i64_w, i32_w]; rfl
          refine take_ (i:=1) (N:=some 40) (v:=?_) (a':=?_) ⟨m_ 30 23⟩ rfl rfl (take_ofW HT_.out HW_.out (by kernel_rfl)) (fun _ _ _ h=>h) (Or.inl ⟨rfl, ?_⟩) hHeld ?_ ?_; rotate_left
          ·rintro w' ⟨s0, s1, s2, s3, s4, s5, s6, s7⟩; go_simp; with_reducible rfl
          rotate_left
          ·simp only [q_, i64_w, i32_w]; rfl
          refine take_ (i:=3) (N:=some 42) (v:=?_) (a':=?_) ⟨m_ 30 31⟩ rfl rfl (take_ofW HT_.out HW_.out (by kernel_rfl)) (fun _ _ _ h=>h) (Or.inl ⟨rfl, ?_⟩) hHeld ?_ ?_; rotate_left
          ·rintro w' ⟨s0, s1, s2, s3, s4, s5, s6, s7⟩; go_simp; with_reducible rfl
          rotate_left
          ·simp only [q_, i64_w, i32_w]; rfl
          refine take_ (i:=5) (N:=some 44) (v:=?_) (a':=?_) ⟨m_ 30 63⟩ rfl rfl (take_ofW HT_.out HW_.out (by kernel_rfl)) (fun _ _ _ h=>h) (Or.inl ⟨rfl, ?_⟩) hHeld ?_ ?_; rotate_left
          ·rintro w' ⟨s0, s1, s2, s3, s4, s5, s6, s7⟩; go_simp; with_reducible rfl
          rotate_left
          ·simp only [q_, i64_w, i32_w]; rfl
          refine one_ (i:=6) (N:=some 45) ⟨m_ 30 127⟩ rfl rfl (one_of HT_.out (by kernel_rfl)) (by decide) (fun K hK => ?_); refine goes_ Try.func16 (by kernel_rfl) rfl #[.agg #[.int .i64 a0_0, .int .i64 a0_1, .slice A0_2 l0_2.length c0_2], .int .i64 a2_0, .int .i64 a2_1] (by rfl) rfl rfl (by (try simp only [List.map_toArray, List.map_cons, List.map_nil]); first | done | rfl | (simp only [List.length_drop, List.length_take]; rfl)) ?_; with_reducible refine (oculusref18_In.calls a0_0 a0_1 _ _ l0_2 a2_0 a2_1 t115 _ ?side1 ?side2 A56.out).mono ?_; (case side1 => repeat (first | exact (Kd.C_below HR0_2.out HB.out) | (with_reducible refine Kd.C_alloc ?_ _) | (with_reducible refine Kd.C_drewN ?_ _) | (with_reducible refine Kd.C_drew ?_))); (case side2 => exact HC0_2.out); rintro e w70 ⟨rfl, hb⟩; refine ⟨_, rfl, ?_⟩
          replace BK101 := bb_ BK101 hb; replace BK102 := bb_ BK102 hb; replace BK103 := bb_ BK103 hb; replace BK114 := bb_ BK114 hb; replace HB := bs_ HB hb; (try clear hb); (try clear hb2); (try clear hk); (try clear hi); refine hK.out _ _ ⟨bc_ BK101 0 rfl, bc_ BK101 1 rfl, bc_ BK101 2 rfl, bc_ BK103 0 rfl, bc_ BK103 1 rfl, bc_ BK114 0 rfl, bc_ BK114 1 rfl, bc_ BK114 2 rfl⟩ (fun hHeld => ?_); clear hK K; refine norm_ (a':=?_) ?_ ?_; rotate_left
          ·show Act.put _ (some 45) _ = _; simp only [q_, i64_w, i32_w]; rfl
          refine pure_ (i:=7) (N:=some 46) (v:=?_) (a':=?_) ⟨m_ 30 255⟩ rfl rfl (any_of HT_.out (by kernel_rfl)) (fun _ _ _ h=>h) (Or.inl ⟨rfl, ?_⟩) ?_ ?_; rotate_left
          ·intro w'; go_simp; with_reducible rfl
          rotate_left
          ·simp only [q_, i64_w, i32_w]; rfl
          refine pure_ (i:=8) (N:=some 47) (v:=?_) (a':=?_) ⟨m_ 30 511⟩ rfl rfl (any_of HT_.out (by kernel_rfl)) (fun _ _ _ h=>h) (Or.inl ⟨rfl, ?_⟩) ?_ ?_; rotate_left
          ·intro w'; go_simp; with_reducible rfl
          rotate_left
          ·simp only [q_, i64_w, i32_w]; rfl
          refine pure_ (i:=9) (N:=some 48) (v:=?_) (a':=?_) ⟨m_ 30 1023⟩ rfl rfl (any_of HT_.out (by kernel_rfl)) (fun _ _ _ h=>h) (Or.inl ⟨rfl, ?_⟩) ?_ ?_; rotate_left
          ·intro w'; go_simp; with_reducible rfl
          rotate_left
          ·simp only [q_, i64_w, i32_w]; rfl
          refine pure_ (i:=10) (N:=some 49) (v:=?_) (a':=?_) ⟨m_ 30 2047⟩ rfl rfl (any_of HT_.out (by kernel_rfl)) (fun _ _ _ h=>h) (Or.inl ⟨rfl, ?_⟩) ?_ ?_; rotate_left
          ·intro w'; go_simp; with_reducible rfl
          rotate_left
          ·simp only [q_, i64_w, i32_w]; rfl
          refine pure_ (i:=13) (N:=some 52) (v:=?_) (a':=?_) ⟨m_ 30 10239⟩ rfl rfl (any_of HT_.out (by kernel_rfl)) (fun _ _ _ h=>h) (Or.inl ⟨rfl, ?_⟩) ?_ ?_; rotate_left
          ·intro w'; go_simp; with_reducible rfl
          rotate_left
          ·simp only [q_, i64_w, i32_w]; rfl
          refine pure_ (i:=15) (N:=some 54) (v:=?_) (a':=?_) ⟨m_ 30 43007⟩ rfl rfl (any_of HT_.out (by kernel_rfl)) (fun _ _ _ h=>h) (Or.inl ⟨rfl, ?_⟩) ?_ ?_; rotate_left
          ·intro w'; go_simp; with_reducible rfl
          rotate_left
          ·simp only [q_, i64_w, i32_w]; rfl
          refine take_ (i:=11) (N:=some 50) (v:=?_) (a':=?_) ⟨m_ 30 45055⟩ rfl rfl (take_ofW HT_.out HW_.out (by kernel_rfl)) (fun _ _ _ h=>h) (Or.inl ⟨rfl, ?_⟩) hHeld ?_ ?_; rotate_left
          ·rintro w' ⟨s0, s1, s2, s3, s4, s5, s6, s7⟩; go_simp; with_reducible rfl
          rotate_left
          ·simp only [q_, i64_w, i32_w]; rfl
          refine take_ (i:=12) (N:=some 51) (v:=?_) (a':=?_) ⟨m_ 30 49151⟩ rfl rfl (take_ofW HT_.out HW_.out (by kernel_rfl)) (fun _ _ _ h=>h) (Or.inl ⟨rfl, ?_⟩) hHeld ?_ ?_; rotate_left
          ·rintro w' ⟨s0, s1, s2, s3, s4, s5, s6, s7⟩; go_simp; with_reducible rfl
          rotate_left
          ·simp only [q_, i64_w, i32_w]; rfl
          refine take_ (i:=14) (N:=some 53) (v:=?_) (a':=?_) ⟨m_ 30 65535⟩ rfl rfl (take_ofW HT_.out HW_.out (by kernel_rfl)) (fun _ _ _ h=>h) (Or.inl ⟨rfl, ?_⟩) hHeld ?_ ?_; rotate_left
          ·rintro w' ⟨s0, s1, s2, s3, s4, s5, s6, s7⟩; go_simp; with_reducible rfl
          rotate_left
          ·simp only [q_, i64_w, i32_w]; rfl
          refine take_ (i:=16) (N:=some 55) (v:=?_) (a':=?_) ⟨m_ 30 131071⟩ rfl rfl (take_ofW HT_.out HW_.out (by kernel_rfl)) (fun _ _ _ h=>h) (Or.inl ⟨rfl, ?_⟩) hHeld ?_ ?_; rotate_left
          ·rintro w' ⟨s0, s1, s2, s3, s4, s5, s6, s7⟩; go_simp; with_reducible rfl
          rotate_left
          ·simp only [q_, i64_w, i32_w]; rfl
          refine one_ (i:=17) (N:=some 56) ⟨m_ 30 262143⟩ rfl rfl (one_of HT_.out (by kernel_rfl)) (by decide) (fun K hK => ?_); refine goes_ Try.func8 (by kernel_rfl) rfl #[.agg #[.int .i64 a0_0, .int .i64 a0_1, .slice A0_2 l0_2.length c0_2], .int .i64 a2_0, .int .i64 a2_1] (by rfl) rfl rfl (by (try simp only [List.map_toArray, List.map_cons, List.map_nil]); first | done | rfl | (simp only [List.length_drop, List.length_take]; rfl)) ?_; with_reducible refine (oculusref18_At.calls a0_0 a0_1 _ _ l0_2 a2_0 a2_1 t116 t117 t118 _ ?side1 ?side2 A62.out).mono ?_; (case side1 => repeat (first | exact (Kd.C_below HR0_2.out HB.out) | (with_reducible refine Kd.C_alloc ?_ _) | (with_reducible refine Kd.C_drewN ?_ _) | (with_reducible refine Kd.C_drew ?_))); (case side2 => exact HC0_2.out); rintro e w71 ⟨rfl, hb⟩; refine ⟨_, rfl, ?_⟩
          replace BK101 := bb_ BK101 hb; replace BK102 := bb_ BK102 hb; replace BK103 := bb_ BK103 hb; replace BK114 := bb_ BK114 hb; replace HB := bs_ HB hb; (try clear hb); (try clear hb2); (try clear hk); (try clear hi); refine hK.out _ _ ⟨bc_ BK101 0 rfl, bc_ BK101 1 rfl, bc_ BK101 2 rfl, bc_ BK103 0 rfl, bc_ BK103 1 rfl, bc_ BK114 0 rfl, bc_ BK114 1 rfl, bc_ BK114 2 rfl⟩ (fun hHeld => ?_); clear hK K; refine norm_ (a':=?_) ?_ ?_; rotate_left
          ·show Act.put _ (some 56) _ = _; simp only [q_, i64_w, i32_w]; rfl
          refine pure_ (i:=18) (N:=some 57) (v:=?_) (a':=?_) ⟨m_ 30 524287⟩ rfl rfl (any_of HT_.out (by kernel_rfl)) (fun _ _ _ h=>h) (Or.inl ⟨rfl, ?_⟩) ?_ ?_; rotate_left
          ·intro w'; go_simp; with_reducible rfl
          rotate_left
          ·simp only [q_, i64_w, i32_w]; rfl
          refine pure_ (i:=19) (N:=some 58) (v:=?_) (a':=?_) ⟨m_ 30 1048575⟩ rfl rfl (any_of HT_.out (by kernel_rfl)) (fun _ _ _ h=>h) (Or.inl ⟨rfl, ?_⟩) ?_ ?_; rotate_left
          ·intro w'; go_simp; with_reducible rfl
          rotate_left
          ·simp only [q_, i64_w, i32_w]; rfl
          refine pure_ (i:=20) (N:=some 59) (v:=?_) (a':=?_) ⟨m_ 30 2097151⟩ rfl rfl (any_of HT_.out (by kernel_rfl)) (fun _ _ _ h=>h) (Or.inl ⟨rfl, ?_⟩) ?_ ?_; rotate_left
          ·intro w'; go_simp; with_reducible rfl
          rotate_left
          ·simp only [q_, i64_w, i32_w]; rfl
          refine pure_ (i:=21) (N:=some 60) (v:=?_) (a':=?_) ⟨m_ 30 4194303⟩ rfl rfl (any_of HT_.out (by kernel_rfl)) (fun _ _ _ h=>h) (Or.inl ⟨rfl, ?_⟩) ?_ ?_; rotate_left
          ·intro w'; go_simp; with_reducible rfl
          rotate_left
          ·simp only [q_, i64_w, i32_w]; rfl
          refine pure_ (i:=22) (N:=some 61) (v:=?_) (a':=?_) ⟨m_ 30 8388607⟩ rfl rfl (any_of HT_.out (by kernel_rfl)) (fun _ _ _ h=>h) (Or.inl ⟨rfl, ?_⟩) ?_ ?_; rotate_left
          ·intro w'; go_simp; with_reducible rfl
          rotate_left
          ·simp only [q_, i64_w, i32_w]; rfl
          refine pure_ (i:=23) (N:=some 62) (v:=?_) (a':=?_) ⟨m_ 30 16777215⟩ rfl rfl (any_of HT_.out (by kernel_rfl)) (fun _ _ _ h=>h) (Or.inl ⟨rfl, ?_⟩) ?_ ?_; rotate_left
          ·intro w'; go_simp; with_reducible rfl
          rotate_left
          ·simp only [q_, i64_w, i32_w]; rfl
          refine pure_ (i:=24) (N:=some 63) (v:=?_) (a':=?_) ⟨m_ 30 33554431⟩ rfl rfl (any_of HT_.out (by kernel_rfl)) (fun _ _ _ h=>h) (Or.inl ⟨rfl, ?_⟩) ?_ ?_; rotate_left
          ·intro w'; go_simp; with_reducible rfl
          rotate_left
          ·simp only [q_, i64_w, i32_w]; rfl
          refine pure_ (i:=25) (N:=some 64) (v:=undef) (a':=?_) ⟨m_ 30 67108863⟩ rfl rfl (any_of HT_.out (by kernel_rfl)) (fun _ _ _ h=>h) (Or.inr ⟨by rfl, rfl⟩) ?_ ?_; rotate_left
          ·simp only [q_, i64_w, i32_w]; rfl
          refine pure_ (i:=26) (N:=some 65) (v:=undef) (a':=?_) ⟨m_ 30 134217727⟩ rfl rfl (any_of HT_.out (by kernel_rfl)) (fun _ _ _ h=>h) (Or.inr ⟨by rfl, rfl⟩) ?_ ?_; rotate_left
          ·simp only [q_, i64_w, i32_w]; rfl
          refine pure_ (i:=27) (N:=some 66) (v:=undef) (a':=?_) ⟨m_ 30 268435455⟩ rfl rfl (any_of HT_.out (by kernel_rfl)) (fun _ _ _ h=>h) (Or.inr ⟨by rfl, rfl⟩) ?_ ?_; rotate_left
          ·simp only [q_, i64_w, i32_w]; rfl
          refine pure_ (i:=28) (N:=some 67) (v:=?_) (a':=?_) ⟨m_ 30 536870911⟩ rfl rfl (any_of HT_.out (by kernel_rfl)) (fun _ _ _ h=>h) (Or.inl ⟨rfl, ?_⟩) ?_ ?_; rotate_left
          ·intro w'; go_simp; with_reducible rfl
          rotate_left
          ·simp only [q_, i64_w, i32_w]; rfl
          refine pure_ (i:=29) (N:=some 68) (v:=?_) (a':=?_) ⟨m_ 30 1073741823⟩ rfl rfl (any_of HT_.out (by kernel_rfl)) (fun _ _ _ h=>h) (Or.inl ⟨rfl, ?_⟩) ?_ ?_; rotate_left
          ·intro w'; go_simp; with_reducible rfl
          rotate_left
          ·simp only [q_, i64_w, i32_w]; rfl
          refine done_ (done_of HT_.out (by kernel_rfl)) ?_
          try go_wp2
          go_meet
          case rel => exact ⟨_, (false), (by first | rfl | (simp; done) | (simp [*]; done)), H', ⟨by have := HJ15.out; first | omega | exact Nat.le_refl _⟩, ⟨pkx BK101⟩, ⟨pkx BK102⟩, ⟨pkx BK103⟩, ⟨pkx BK114⟩, ⟨pbx HB⟩⟩
        ·replace c61 := Bool.eq_false_iff.mpr c61; subst c61
         have H1 : (oculuslaw18_LookFinds.j1 kj15 (!(t110 == 0) || (!(t111 == 0) || (!(t112.toList == ([] : List UInt8))))) a0_0 a0_1 l0_2 a1_0 a1_1 a1_2) = some r := by rw [if_neg (show ¬ (false = true) by decide)] at H; exact H
         clear H; have H := H1; clear H1
         have H' := Aside0.mk H
         clear H
         try go_wp2
         have n0_ : Aside0 ((((w51.setCell ⟨gb114, 0, none⟩ (.int .i64 t110)).setCell ⟨gb114, 1, none⟩ (.int .i64 t111)).setCell ⟨gb114, 2, none⟩ (.string t112)).heap[gb101]? = some (.cells #[.int .i64 a0_0, .int .i64 a0_1, .slice A0_2 l0_2.length c0_2] 24 (0, 0))) := ⟨by (with_reducible repeat (first | refine blk_drewN ?_ _ | refine blk_drew ?_ | refine blk_alloc ?_ _)); refine blk_far ?_ NB101_114.out _; refine blk_far ?_ NB101_114.out _; refine blk_far ?_ NB101_114.out _; (with_reducible repeat (first | refine blk_drewN ?_ _ | refine blk_drew ?_ | refine blk_alloc ?_ _)); exact BK101.out⟩; have n1_ : Aside0 ((((w51.setCell ⟨gb114, 0, none⟩ (.int .i64 t110)).setCell ⟨gb114, 1, none⟩ (.int .i64 t111)).setCell ⟨gb114, 2, none⟩ (.string t112)).heap[gb102]? = some (.cells #[.int .i64 a1_0, .int .i64 a1_1, .string a1_2] 26 (0, 0))) := ⟨by (with_reducible repeat (first | refine blk_drewN ?_ _ | refine blk_drew ?_ | refine blk_alloc ?_ _)); refine blk_far ?_ NB102_114.out _; refine blk_far ?_ NB102_114.out _; refine blk_far ?_ NB102_114.out _; (with_reducible repeat (first | refine blk_drewN ?_ _ | refine blk_drew ?_ | refine blk_alloc ?_ _)); exact BK102.out⟩
         have n2_ : Aside0 ((((w51.setCell ⟨gb114, 0, none⟩ (.int .i64 t110)).setCell ⟨gb114, 1, none⟩ (.int .i64 t111)).setCell ⟨gb114, 2, none⟩ (.string t112)).heap[gb103]? = some (.cells #[.int .i64 a2_0, .int .i64 a2_1] 33 (0, 0))) := ⟨by (with_reducible repeat (first | refine blk_drewN ?_ _ | refine blk_drew ?_ | refine blk_alloc ?_ _)); refine blk_far ?_ NB103_114.out _; refine blk_far ?_ NB103_114.out _; refine blk_far ?_ NB103_114.out _; (with_reducible repeat (first | refine blk_drewN ?_ _ | refine blk_drew ?_ | refine blk_alloc ?_ _)); exact BK103.out⟩; have n3_ : Aside0 ((((w51.setCell ⟨gb114, 0, none⟩ (.int .i64 t110)).setCell ⟨gb114, 1, none⟩ (.int .i64 t111)).setCell ⟨gb114, 2, none⟩ (.string t112)).heap[gb114]? = some (.cells #[.int .i64 t110, .int .i64 t111, .string t112] 26 (0, 0))) := ⟨by (with_reducible repeat (first | refine blk_drewN ?_ _ | refine blk_drew ?_ | refine blk_alloc ?_ _)); refine blk_put (cs := #[.int .i64 t110, .int .i64 t111, .string (⟨#[]⟩ : ByteArray)]) ?_ 2 _ rfl; (with_reducible repeat (first | refine blk_drewN ?_ _ | refine blk_drew ?_ | refine blk_alloc ?_ _)); refine blk_put (cs := #[.int .i64 t110, .int .i64 0, .string (⟨#[]⟩ : ByteArray)]) ?_ 1 _ rfl; (with_reducible repeat (first | refine blk_drewN ?_ _ | refine blk_drew ?_ | refine blk_alloc ?_ _)); refine blk_put (cs := #[.int .i64 0, .int .i64 0, .string (⟨#[]⟩ : ByteArray)]) ?_ 0 _ rfl; (with_reducible repeat (first | refine blk_drewN ?_ _ | refine blk_drew ?_ | refine blk_alloc ?_ _)); exact BK114.out⟩
         have n4_ : Aside0 (Below w.heap.size w (((w51.setCell ⟨gb114, 0, none⟩ (.int .i64 t110)).setCell ⟨gb114, 1, none⟩ (.int .i64 t111)).setCell ⟨gb114, 2, none⟩ (.string t112))) := ⟨by repeat (first | (with_reducible first | exact HB.out | apply below_alloc | apply pw_below_drewN | apply below_drew1 | refine below_set ?_ GE101.out | refine below_set ?_ GE102.out | refine below_set ?_ GE103.out | refine below_set ?_ GE114.out) | exact HB.out)⟩; (try clear BK101); (try clear BK102); (try clear BK103); (try clear BK114); (try clear HB)
         generalize (((w51.setCell ⟨gb114, 0, none⟩ (.int .i64 t110)).setCell ⟨gb114, 1, none⟩ (.int .i64 t111)).setCell ⟨gb114, 2, none⟩ (.string t112)) = w72 at n0_ n1_ n2_ n3_ n4_ ⊢; have BK101 := n0_; have BK102 := n1_; have BK103 := n2_; have BK114 := n3_; have HB := n4_; clear n0_ n1_ n2_ n3_ n4_; (try (rw [drewN_self w72]; generalize hq_ : World.drewN w72 _ = w72; have n0_ : Aside0 (w72.heap[gb101]? = some (.cells #[.int .i64 a0_0, .int .i64 a0_1, .slice A0_2 l0_2.length c0_2] 24 (0, 0))) := ⟨by rw [← hq_]; exact (pkx BK101)⟩; have n1_ : Aside0 (w72.heap[gb102]? = some (.cells #[.int .i64 a1_0, .int .i64 a1_1, .string a1_2] 26 (0, 0))) := ⟨by rw [← hq_]; exact (pkx BK102)⟩; have n2_ : Aside0 (w72.heap[gb103]? = some (.cells #[.int .i64 a2_0, .int .i64 a2_1] 33 (0, 0))) := ⟨by rw [← hq_]; exact (pkx BK103)⟩; have n3_ : Aside0 (w72.heap[gb114]? = some (.cells #[.int .i64 t110, .int .i64 t111, .string t112] 26 (0, 0))) := ⟨by rw [← hq_]; exact (pkx BK114)⟩; have n4_ : Aside0 (Below w.heap.size w w72) := ⟨by rw [← hq_]; exact (pbx HB)⟩; clear BK101 BK102 BK103 BK114 HB hq_; have BK101 := n0_; have BK102 := n1_; have BK103 := n2_; have BK114 := n3_; have HB := n4_; clear n0_ n1_ n2_ n3_ n4_))
         replace BK101 := Aside0.mk (blk_drew BK101.out); replace BK102 := Aside0.mk (blk_drew BK102.out); replace BK103 := Aside0.mk (blk_drew BK103.out); replace BK114 := Aside0.mk (blk_drew BK114.out); replace HB := Aside0.mk (below_drew1 HB.out)
         refine start_ (n:=30) (S := fun w' => w'.cell? ⟨gb101, 0, none⟩ = some (.int .i64 a0_0) ∧ w'.cell? ⟨gb101, 1, none⟩ = some (.int .i64 a0_1) ∧ w'.cell? ⟨gb101, 2, none⟩ = some (.slice A0_2 l0_2.length c0_2) ∧ w'.cell? ⟨gb103, 0, none⟩ = some (.int .i64 a2_0) ∧ w'.cell? ⟨gb103, 1, none⟩ = some (.int .i64 a2_1) ∧ w'.cell? ⟨gb114, 0, none⟩ = some (.int .i64 t110) ∧ w'.cell? ⟨gb114, 1, none⟩ = some (.int .i64 t111) ∧ w'.cell? ⟨gb114, 2, none⟩ = some (.string t112)) (ds := []) #[F,F,F,F,F,F,F,F,F,F,F,F,F,F,F,F,F,F,F,F,F,F,F,F,F,F,F,F,F,F] (by kernel_rfl) rfl rfl ⟨bc_ BK101 0 rfl, bc_ BK101 1 rfl, bc_ BK101 2 rfl, bc_ BK103 0 rfl, bc_ BK103 1 rfl, bc_ BK114 0 rfl, bc_ BK114 1 rfl, bc_ BK114 2 rfl⟩ (fun hHeld => ?_); refine with_tabW oculuslaw18_LookFinds.tab8 oculuslaw18_LookFinds.bits8 (fun HT_ HW_ => ?_)
         generalize w72.drew = w73 at BK101 BK102 BK103 BK114 HB hHeld ⊢; refine pure_ (i:=0) (N:=some 39) (v:=?_) (a':=?_) ⟨m_ 30 1⟩ rfl rfl (any_of HT_.out (by kernel_rfl)) (fun _ _ _ h=>h) (Or.inl ⟨rfl, ?_⟩) ?_ ?_; rotate_left
         ·intro w'; go_simp; with_reducible rfl
         rotate_left
         ·simp only [q_, i64_w, i32_w]; rfl
         refine pure_ (i:=2) (N:=some 41) (v:=?_) (a':=?_) ⟨m_ 30 5⟩ rfl rfl (any_of HT_.out (by kernel_rfl)) (fun _ _ _ h=>h) (Or.inl ⟨rfl, ?_⟩) ?_ ?_; rotate_left
         ·intro w'; go_simp; with_reducible rfl
         rotate_left
         ·simp only [q_, i64_w, i32_w]; rfl
         refine pure_ (i:=4) (N:=some 43) (v:=?_) (a':=?_) ⟨m_ 30 21⟩ rfl rfl (any_of HT_.out (by kernel_rfl)) (fun _ _ _ h=>h) (Or.inl ⟨rfl, ?_⟩) ?_ ?_; rotate_left
         ·intro w'; go_simp; with_reducible rfl
         rotate_left
         ·simp only [q_, i64_w, i32_w]; rfl
         refine take_ (i:=1) (N:=some 40) (v:=?_) (a':=?_) ⟨m_ 30 23⟩ rfl rfl (take_ofW HT_.out HW_.out (by kernel_rfl)) (fun _ _ _ h=>h) (Or.inl ⟨rfl, ?_⟩) hHeld ?_ ?_; rotate_left
         ·rintro w' ⟨s0, s1, s2, s3, s4, s5, s6, s7⟩; go_simp; with_reducible rfl
         rotate_left
         ·simp only [q_, i64_w, i32_w]; rfl
         refine take_ (i:=3) (N:=some 42) (v:=?_) (a':=?_) ⟨m_ 30 31⟩ rfl rfl (take_ofW HT_.out HW_.out (by kernel_rfl)) (fun _ _ _ h=>h) (Or.inl ⟨rfl, ?_⟩) hHeld ?_ ?_; rotate_left
         ·rintro w' ⟨s0, s1, s2, s3, s4, s5, s6, s7⟩; go_simp; with_reducible rfl
         rotate_left
         ·simp only [q_, i64_w, i32_w]; rfl
         refine take_ (i:=5) (N:=some 44) (v:=?_) (a':=?_) ⟨m_ 30 63⟩ rfl rfl (take_ofW HT_.out HW_.out (by kernel_rfl)) (fun _ _ _ h=>h) (Or.inl ⟨rfl, ?_⟩) hHeld ?_ ?_; rotate_left
         ·rintro w' ⟨s0, s1, s2, s3, s4, s5, s6, s7⟩; go_simp; with_reducible rfl
         rotate_left
         ·simp only [q_, i64_w, i32_w]; rfl
         refine one_ (i:=6) (N:=some 45) ⟨m_ 30 127⟩ rfl rfl (one_of HT_.out (by kernel_rfl)) (by decide) (fun K hK => ?_); refine goes_ Try.func16 (by kernel_rfl) rfl #[.agg #[.int .i64 a0_0, .int .i64 a0_1, .slice A0_2 l0_2.length c0_2], .int .i64 a2_0, .int .i64 a2_1] (by rfl) rfl rfl (by (try simp only [List.map_toArray, List.map_cons, List.map_nil]); first | done | rfl | (simp only [List.length_drop, List.length_take]; rfl)) ?_; with_reducible refine (oculusref18_In.calls a0_0 a0_1 _ _ l0_2 a2_0 a2_1 t115 _ ?side1 ?side2 A56.out).mono ?_; (case side1 => repeat (first | exact (Kd.C_below HR0_2.out HB.out) | (with_reducible refine Kd.C_alloc ?_ _) | (with_reducible refine Kd.C_drewN ?_ _) | (with_reducible refine Kd.C_drew ?_))); (case side2 => exact HC0_2.out); rintro e w74 ⟨rfl, hb⟩; refine ⟨_, rfl, ?_⟩
         replace BK101 := bb_ BK101 hb; replace BK102 := bb_ BK102 hb; replace BK103 := bb_ BK103 hb; replace BK114 := bb_ BK114 hb; replace HB := bs_ HB hb; (try clear hb); (try clear hb2); (try clear hk); (try clear hi); refine hK.out _ _ ⟨bc_ BK101 0 rfl, bc_ BK101 1 rfl, bc_ BK101 2 rfl, bc_ BK103 0 rfl, bc_ BK103 1 rfl, bc_ BK114 0 rfl, bc_ BK114 1 rfl, bc_ BK114 2 rfl⟩ (fun hHeld => ?_); clear hK K; refine norm_ (a':=?_) ?_ ?_; rotate_left
         ·show Act.put _ (some 45) _ = _; simp only [q_, i64_w, i32_w]; rfl
         refine pure_ (i:=7) (N:=some 46) (v:=?_) (a':=?_) ⟨m_ 30 255⟩ rfl rfl (any_of HT_.out (by kernel_rfl)) (fun _ _ _ h=>h) (Or.inl ⟨rfl, ?_⟩) ?_ ?_; rotate_left
         ·intro w'; go_simp; with_reducible rfl
         rotate_left
         ·simp only [q_, i64_w, i32_w]; rfl
         refine pure_ (i:=8) (N:=some 47) (v:=?_) (a':=?_) ⟨m_ 30 511⟩ rfl rfl (any_of HT_.out (by kernel_rfl)) (fun _ _ _ h=>h) (Or.inl ⟨rfl, ?_⟩) ?_ ?_; rotate_left
         ·intro w'; go_simp; with_reducible rfl
         rotate_left
         ·simp only [q_, i64_w, i32_w]; rfl
         refine pure_ (i:=9) (N:=some 48) (v:=?_) (a':=?_) ⟨m_ 30 1023⟩ rfl rfl (any_of HT_.out (by kernel_rfl)) (fun _ _ _ h=>h) (Or.inl ⟨rfl, ?_⟩) ?_ ?_; rotate_left
         ·intro w'; go_simp; with_reducible rfl
         rotate_left
         ·simp only [q_, i64_w, i32_w]; rfl
         refine pure_ (i:=10) (N:=some 49) (v:=?_) (a':=?_) ⟨m_ 30 2047⟩ rfl rfl (any_of HT_.out (by kernel_rfl)) (fun _ _ _ h=>h) (Or.inl ⟨rfl, ?_⟩) ?_ ?_; rotate_left
         ·intro w'; go_simp; with_reducible rfl
         rotate_left
         ·simp only [q_, i64_w, i32_w]; rfl
         refine pure_ (i:=11) (N:=some 50) (v:=undef) (a':=?_) ⟨m_ 30 4095⟩ rfl rfl (any_of HT_.out (by kernel_rfl)) (fun _ _ _ h=>h) (Or.inr ⟨by rfl, rfl⟩) ?_ ?_; rotate_left
         ·simp only [q_, i64_w, i32_w]; rfl
         refine pure_ (i:=12) (N:=some 51) (v:=undef) (a':=?_) ⟨m_ 30 8191⟩ rfl rfl (any_of HT_.out (by kernel_rfl)) (fun _ _ _ h=>h) (Or.inr ⟨by rfl, rfl⟩) ?_ ?_; rotate_left
         ·simp only [q_, i64_w, i32_w]; rfl
         refine pure_ (i:=13) (N:=some 52) (v:=undef) (a':=?_) ⟨m_ 30 16383⟩ rfl rfl (any_of HT_.out (by kernel_rfl)) (fun _ _ _ h=>h) (Or.inr ⟨by rfl, rfl⟩) ?_ ?_; rotate_left
         ·simp only [q_, i64_w, i32_w]; rfl
         refine pure_ (i:=14) (N:=some 53) (v:=undef) (a':=?_) ⟨m_ 30 32767⟩ rfl rfl (any_of HT_.out (by kernel_rfl)) (fun _ _ _ h=>h) (Or.inr ⟨by rfl, rfl⟩) ?_ ?_; rotate_left
         ·simp only [q_, i64_w, i32_w]; rfl
         refine pure_ (i:=15) (N:=some 54) (v:=undef) (a':=?_) ⟨m_ 30 65535⟩ rfl rfl (any_of HT_.out (by kernel_rfl)) (fun _ _ _ h=>h) (Or.inr ⟨by rfl, rfl⟩) ?_ ?_; rotate_left
         ·simp only [q_, i64_w, i32_w]; rfl
         refine pure_ (i:=16) (N:=some 55) (v:=undef) (a':=?_) ⟨m_ 30 131071⟩ rfl rfl (any_of HT_.out (by kernel_rfl)) (fun _ _ _ h=>h) (Or.inr ⟨by rfl, rfl⟩) ?_ ?_; rotate_left
         ·simp only [q_, i64_w, i32_w]; rfl
         refine pure_ (i:=17) (N:=some 56) (v:=undef) (a':=?_) ⟨m_ 30 262143⟩ rfl rfl (any_of HT_.out (by kernel_rfl)) (fun _ _ _ h=>h) (Or.inr ⟨by rfl, rfl⟩) ?_ ?_; rotate_left
         ·simp only [q_, i64_w, i32_w]; rfl
         refine pure_ (i:=18) (N:=some 57) (v:=undef) (a':=?_) ⟨m_ 30 524287⟩ rfl rfl (any_of HT_.out (by kernel_rfl)) (fun _ _ _ h=>h) (Or.inr ⟨by rfl, rfl⟩) ?_ ?_; rotate_left
         ·simp only [q_, i64_w, i32_w]; rfl
         refine pure_ (i:=19) (N:=some 58) (v:=?_) (a':=?_) ⟨m_ 30 1048575⟩ rfl rfl (any_of HT_.out (by kernel_rfl)) (fun _ _ _ h=>h) (Or.inl ⟨rfl, ?_⟩) ?_ ?_; rotate_left
         ·intro w'; go_simp; with_reducible rfl
         rotate_left
         ·simp only [q_, i64_w, i32_w]; rfl
         refine pure_ (i:=20) (N:=some 59) (v:=?_) (a':=?_) ⟨m_ 30 2097151⟩ rfl rfl (any_of HT_.out (by kernel_rfl)) (fun _ _ _ h=>h) (Or.inl ⟨rfl, ?_⟩) ?_ ?_; rotate_left
         ·intro w'; go_simp; with_reducible rfl
         rotate_left
         ·simp only [q_, i64_w, i32_w]; rfl
         refine pure_ (i:=21) (N:=some 60) (v:=?_) (a':=?_) ⟨m_ 30 4194303⟩ rfl rfl (any_of HT_.out (by kernel_rfl)) (fun _ _ _ h=>h) (Or.inl ⟨rfl, ?_⟩) ?_ ?_; rotate_left
         ·intro w'; go_simp; with_reducible rfl
         rotate_left
         ·simp only [q_, i64_w, i32_w]; rfl
         refine pure_ (i:=22) (N:=some 61) (v:=?_) (a':=?_) ⟨m_ 30 8388607⟩ rfl rfl (any_of HT_.out (by kernel_rfl)) (fun _ _ _ h=>h) (Or.inl ⟨rfl, ?_⟩) ?_ ?_; rotate_left
         ·intro w'; go_simp; with_reducible rfl
         rotate_left
         ·simp only [q_, i64_w, i32_w]; rfl
         refine pure_ (i:=23) (N:=some 62) (v:=?_) (a':=?_) ⟨m_ 30 16777215⟩ rfl rfl (any_of HT_.out (by kernel_rfl)) (fun _ _ _ h=>h) (Or.inl ⟨rfl, ?_⟩) ?_ ?_; rotate_left
         ·intro w'; go_simp; with_reducible rfl
         rotate_left
         ·simp only [q_, i64_w, i32_w]; rfl
         refine pure_ (i:=24) (N:=some 63) (v:=?_) (a':=?_) ⟨m_ 30 33554431⟩ rfl rfl (any_of HT_.out (by kernel_rfl)) (fun _ _ _ h=>h) (Or.inl ⟨rfl, ?_⟩) ?_ ?_; rotate_left
         ·intro w'; go_simp; with_reducible rfl
         rotate_left
         ·simp only [q_, i64_w, i32_w]; rfl
         refine pure_ (i:=26) (N:=some 65) (v:=?_) (a':=?_) ⟨m_ 30 100663295⟩ rfl rfl (any_of HT_.out (by kernel_rfl)) (fun _ _ _ h=>h) (Or.inl ⟨rfl, ?_⟩) ?_ ?_; rotate_left
         ·intro w'; go_simp; with_reducible rfl
         rotate_left
         ·simp only [q_, i64_w, i32_w]; rfl
         refine take_ (i:=25) (N:=some 64) (v:=?_) (a':=?_) ⟨m_ 30 134217727⟩ rfl rfl (take_ofW HT_.out HW_.out (by kernel_rfl)) (fun _ _ _ h=>h) (Or.inl ⟨rfl, ?_⟩) hHeld ?_ ?_; rotate_left
         ·rintro w' ⟨s0, s1, s2, s3, s4, s5, s6, s7⟩; go_simp; with_reducible rfl
         rotate_left
         ·simp only [q_, i64_w, i32_w]; rfl
         refine pure_ (i:=27) (N:=some 66) (v:=?_) (a':=?_) ⟨m_ 30 268435455⟩ rfl rfl (any_of HT_.out (by kernel_rfl)) (fun _ _ _ h=>h) (Or.inl ⟨rfl, ?_⟩) ?_ ?_; rotate_left
         ·intro w'; go_simp; with_reducible rfl
         rotate_left
         ·simp only [q_, i64_w, i32_w]; rfl
         refine pure_ (i:=28) (N:=some 67) (v:=?_) (a':=?_) ⟨m_ 30 536870911⟩ rfl rfl (any_of HT_.out (by kernel_rfl)) (fun _ _ _ h=>h) (Or.inl ⟨rfl, ?_⟩) ?_ ?_; rotate_left
         ·intro w'; go_simp; with_reducible rfl
         rotate_left
         ·simp only [q_, i64_w, i32_w]; rfl
         refine pure_ (i:=29) (N:=some 68) (v:=?_) (a':=?_) ⟨m_ 30 1073741823⟩ rfl rfl (any_of HT_.out (by kernel_rfl)) (fun _ _ _ h=>h) (Or.inl ⟨rfl, ?_⟩) ?_ ?_; rotate_left
         ·intro w'; go_simp; with_reducible rfl
         rotate_left
         ·simp only [q_, i64_w, i32_w]; rfl
         refine done_ (done_of HT_.out (by kernel_rfl)) ?_
         try go_wp2
         go_meet
         case rel => exact ⟨_, ((!(t110 == 0) || (!(t111 == 0) || (!(t112.toList == ([] : List UInt8)))))), (by first | rfl | (simp; done) | (simp [*]; done) | (cases t110 <;> simp; done) | (cases t111 <;> simp; done) | (cases t112 <;> simp; done)), H', ⟨by have := HJ15.out; first | omega | exact Nat.le_refl _⟩, ⟨pkx BK101⟩, ⟨pkx BK102⟩, ⟨pkx BK103⟩, ⟨pkx BK114⟩, ⟨pbx HB⟩⟩
      case rest =>
       clear HC44; (try clear c1); (try clear p2); (try clear c6); (try clear c8); (try clear c16); (try clear c61); obtain ⟨kq, x68_43, rfl, HA, HJ43, BK101, BK102, BK103, BK114, HB⟩ := hcut
       cases kq with
       | zero => exact absurd HA.out (by simp [oculuslaw18_LookFinds.j1])
       | succ kj43 =>
        have H := HA.out; clear HA
        simp only [oculuslaw18_LookFinds.j1] at H
        by_cases c75 : x68_43 = true
        ·subst c75
         have H1 : (none) = some r := by rw [if_pos rfl] at H; exact H
         clear H; have H := H1; clear H1
         exact absurd H (by simp)
        ·replace c75 := Bool.eq_false_iff.mpr c75; subst c75
         have H1 : ((look_Match.f kj43 a1_0 a1_1 a1_2 a0_0 a0_1 l0_2).bind fun bt119 => ((oculusref18_Match.f kj43 a1_0 a1_1 a1_2 a0_0 a0_1 l0_2).bind fun t121 => (if bt119.1 = t121 then (if (bt119.2 == (decide (bt119.1 > 0))) = true then ((oculuslaw18_alive.f kj43).bind fun t122 => (some t122)) else (none)) else (none)))) = some r := by rw [if_neg (show ¬ (false = true) by decide)] at H; exact H
         clear H; have H := H1; clear H1; replace H := Option.bind_eq_some_iff.mp H; obtain ⟨⟨t119, t120⟩, A760, H⟩ := H
         replace H : ((oculusref18_Match.f kj43 a1_0 a1_1 a1_2 a0_0 a0_1 l0_2).bind fun t121 => (if t119 = t121 then (if (t120 == (decide (t119 > 0))) = true then ((oculuslaw18_alive.f kj43).bind fun t122 => (some t122)) else (none)) else (none))) = some r := H
         have A76 := Aside0.mk A760; clear A760; replace H := Option.bind_eq_some_iff.mp H; obtain ⟨t121, A770, H⟩ := H
         replace H : (if t119 = t121 then (if (t120 == (decide (t119 > 0))) = true then ((oculuslaw18_alive.f kj43).bind fun t122 => (some t122)) else (none)) else (none)) = some r := H
         have A77 := Aside0.mk A770; clear A770
         by_cases c78 : t119 = t121
         ·rw [if_pos c78] at H; have c78b0 : (t119 == t121) = true := beq_iff_eq.mpr c78; have c78b1 : (t119 != t121) = false := bne_eq_false_iff_eq.mpr c78; clear c78
          by_cases c79 : (t120 == (decide (t119 > 0))) = true
          ·rw [if_pos c79] at H
           have c79b0 : (t120 == (decide (t119 > 0))) = true := c79
           (try (have c79b1 : decide (t120 = (decide (t119 > 0))) = true := by simpa using c79)); (try (have c79b2 : (t120 == (decide (t119 > 0))) = true := by simpa using c79))
           clear c79; replace H := Option.bind_eq_some_iff.mp H; obtain ⟨t122, A800, H⟩ := H
           replace H : (some t122) = some r := H
           have A80 := Aside0.mk A800; clear A800; obtain rfl := Option.some.inj H; have hnb81 := NB102_101.out; have hnc81 := NB101_102.out; have hnb82 := NB102_103.out; have hnc82 := NB103_102.out; have hnb83 := NB102_114.out; have hnc83 := NB114_102.out
           have hcz84_0 : wc.cell? ⟨gb102, 0, none⟩ = some (.int .i64 a1_0) := bc_ BK102 0 rfl
           have hcz84_1 : wc.cell? ⟨gb102, 1, none⟩ = some (.int .i64 a1_1) := bc_ BK102 1 rfl
           have hcz84_2 : wc.cell? ⟨gb102, 2, none⟩ = some (.string a1_2) := bc_ BK102 2 rfl
           have hfz84_0 := blk_frozen BK102.out 0; have hfz84_1 := blk_frozen BK102.out 1; have hfz84_2 := blk_frozen BK102.out 2; have hnb85 := NB101_103.out; have hnc85 := NB103_101.out; have hnb86 := NB101_114.out; have hnc86 := NB114_101.out
           have hcz87_0 : wc.cell? ⟨gb101, 0, none⟩ = some (.int .i64 a0_0) := bc_ BK101 0 rfl
           have hcz87_1 : wc.cell? ⟨gb101, 1, none⟩ = some (.int .i64 a0_1) := bc_ BK101 1 rfl
           have hcz87_2 : wc.cell? ⟨gb101, 2, none⟩ = some (.slice A0_2 l0_2.length c0_2) := bc_ BK101 2 rfl
           have hfz87_0 := blk_frozen BK101.out 0; have hfz87_1 := blk_frozen BK101.out 1; have hfz87_2 := blk_frozen BK101.out 2
           go_wp2_with (first | ((with_reducible refine gate_callee (f:=17) rfl ?_); refine goesL_ (some 72) rfl rfl Try.func17 (by kernel_rfl) rfl #[.agg #[.int .i64 a1_0, .int .i64 a1_1, .string a1_2], .agg #[.int .i64 a0_0, .int .i64 a0_1, .slice A0_2 l0_2.length c0_2]] rfl (by (try simp only [List.map_toArray, List.map_cons, List.map_nil]); first | done | rfl | (simp only [List.length_drop, List.length_take]; rfl)) ?_; (with_reducible refine (look_Match.calls kj43 a1_0 a1_1 a1_2 a0_0 a0_1 _ _ l0_2 t119 t120 _ ?side1 ?side2 A76.out).mono ?_); (case side1 => repeat (first | exact (Kd.C_below HR0_2.out HB.out) | (with_reducible refine Kd.C_alloc ?_ _) | (with_reducible refine Kd.C_drewN ?_ _) | (with_reducible refine Kd.C_drew ?_))); (case side2 => exact HC0_2.out); rintro e w88 ⟨rfl, hb⟩; refine ⟨_, rfl, ?_⟩; replace BK101 := bb_ BK101 hb; replace BK102 := bb_ BK102 hb; replace BK103 := bb_ BK103 hb; replace BK114 := bb_ BK114 hb; replace HB := bs_ HB hb; (try clear hb); (try clear hb2); (try clear hk); (try clear hi); have hcz89_0 : w88.cell? ⟨gb102, 0, none⟩ = some (.int .i64 a1_0) := bc_ BK102 0 rfl; have hcz89_1 : w88.cell? ⟨gb102, 1, none⟩ = some (.int .i64 a1_1) := bc_ BK102 1 rfl; have hcz89_2 : w88.cell? ⟨gb102, 2, none⟩ = some (.string a1_2) := bc_ BK102 2 rfl; have hfz89_0 := blk_frozen BK102.out 0; have hfz89_1 := blk_frozen BK102.out 1; have hfz89_2 := blk_frozen BK102.out 2; have hcz90_0 : w88.cell? ⟨gb101, 0, none⟩ = some (.int .i64 a0_0) := bc_ BK101 0 rfl; have hcz90_1 : w88.cell? ⟨gb101, 1, none⟩ = some (.int .i64 a0_1) := bc_ BK101 1 rfl; have hcz90_2 : w88.cell? ⟨gb101, 2, none⟩ = some (.slice A0_2 l0_2.length c0_2) := bc_ BK101 2 rfl; have hfz90_0 := blk_frozen BK101.out 0; have hfz90_1 := blk_frozen BK101.out 1; have hfz90_2 := blk_frozen BK101.out 2) | ((with_reducible refine gate_callee (f:=18) rfl ?_); refine goesL_ (some 78) rfl rfl Try.func18 (by kernel_rfl) rfl #[.agg #[.int .i64 a1_0, .int .i64 a1_1, .string a1_2], .agg #[.int .i64 a0_0, .int .i64 a0_1, .slice A0_2 l0_2.length c0_2]] rfl (by (try simp only [List.map_toArray, List.map_cons, List.map_nil]); first | done | rfl | (simp only [List.length_drop, List.length_take]; rfl)) ?_; (with_reducible refine (oculusref18_Match.calls kj43 a1_0 a1_1 a1_2 a0_0 a0_1 _ _ l0_2 t121 _ ?side1 ?side2 A77.out).mono ?_); (case side1 => repeat (first | exact (Kd.C_below HR0_2.out HB.out) | (with_reducible refine Kd.C_alloc ?_ _) | (with_reducible refine Kd.C_drewN ?_ _) | (with_reducible refine Kd.C_drew ?_))); (case side2 => exact HC0_2.out); rintro e w91 ⟨rfl, hb⟩; refine ⟨_, rfl, ?_⟩; replace BK101 := bb_ BK101 hb; replace BK102 := bb_ BK102 hb; replace BK103 := bb_ BK103 hb; replace BK114 := bb_ BK114 hb; replace HB := bs_ HB hb; (try clear hb); (try clear hb2); (try clear hk); (try clear hi)) | (go_at_call 7; (with_reducible refine (oculuslaw18_alive.calls kj43  t122 _ A80.out).mono ?_); rintro e w92 ⟨rfl, hb⟩; replace BK101 := bb_ BK101 hb; replace BK102 := bb_ BK102 hb; replace BK103 := bb_ BK103 hb; replace BK114 := bb_ BK114 hb; replace HB := bs_ HB hb; (try clear hb); (try clear hb2); (try clear hk); (try clear hi)))
           go_ret
           exact ⟨by first | rfl | (simp [errW_none, errW_some] <;> rfl) | (simp [*, errW_none, errW_some] <;> rfl), pbx HB⟩
          ·rw [if_neg c79] at H
           exact absurd H (by simp)
         ·rw [if_neg c78] at H
          exact absurd H (by simp)

end Go.Proofs.Ytejkoenlfcghbaa.X
/- A general opening of a row's arguments: what a value of a type reads as, as a term of a kind 'Kd', with the bounds that the row's reach gives. -/
set_option linter.unusedVariables false
set_option linter.unusedSimpArgs false
namespace Go.Proofs.Ytejkoenlfcghbaa.Opn
open Go.ChangeShapes Go.WideShapes Go.RowKit Go.Proofs.YtejkoenlfcghbaaW.PrintWords

/-- Whatever is read at type t is a cell row of some a of kind d that is good. -/
def Opens {α : Type} (P : Program) (t : TypeId) (d : Kd α) (good : α → Prop) : Prop :=
  ∀ {H : Type} {enc : TypeId × Value → H} {w : World} {base : Nat} {spare : Nat → Bool} {held : Bool} {fuel : Nat} {cs : List Value} {x : DataW H × List MemPlace},
    DataW.trod enc P w base spare held fuel t cs = some x → (∀ m ∈ x.1.weights P t, m ≤ reachBytes) → ∃ a, d.K w a cs ∧ good a

theorem opens_int {P : Program} {t : TypeId} {k : IntKind} (ht : P.underlying t = some (.int k)) : Opens P t (Kd.int k) (fun n => (Lit.int k n).wf = true) := by
  intro H enc w base spare held fuel cs x hx _
  obtain ⟨n, rfl, rfl, hn⟩ := DataW.trod_int ht hx
  exact ⟨n, rfl, hn⟩
theorem opens_string {P : Program} {t : TypeId} (ht : P.underlying t = some .string) : Opens P t Kd.string (fun s => s.size ≤ reachBytes) := by
  intro H enc w base spare held fuel cs x hx hw
  obtain ⟨s, rfl, rfl, _⟩ := DataW.trod_string ht hx
  refine ⟨s, rfl, ?_⟩
  have := hw s.data.toList.length (by simp [DataW.weights])
  simpa using this

theorem weightsAll_mem {H : Type} {P : Program} {e : TypeId} : ∀ {l : List (DataW H)} {d : DataW H}, d ∈ l → ∀ m ∈ d.weights P e, m ∈ DataW.weightsAll P e l
  | d0 :: l, d, hd, m, hm => by
    simp only [DataW.weightsAll, List.mem_append]
    rcases List.mem_cons.1 hd with rfl | hd
    · exact Or.inl hm
    · exact Or.inr (weightsAll_mem hd m hm)
  | [], _, hd, _, _ => by simp at hd

/-- A slice of whatever elements. -/
theorem opens_slice {α : Type} {P : Program} {t e : TypeId} {d : Kd α} {good : α → Prop} (ht : P.underlying t = some (.slice e)) (hc : P.cellsOf e = d.sz) {B : Nat} (hB : P.bytesOf e = B) (z : α) (h : Opens P e d good) :
    Opens P t (Kd.slice e d) (fun xs => (∀ x ∈ xs, good x) ∧ xs.length * B ≤ reachBytes) := by
  intro H enc w base spare held fuel cs x hx hw
  rcases Go.Deep.open_slice ht hx with ⟨rfl, rfl⟩ | ⟨a, len, cap, m, n, D, Pl, rfl, hb, hl, hm, hmm, rfl, hel⟩
  · exact ⟨[], ⟨none, 0, rfl, Nat.le_refl _, rfl, by simp, fun h0 => absurd h0 (by simp)⟩, by simp, by simp⟩
  · have hlm : len ≤ m := by rw [hmm]; split <;> omega
    have hmx : len ≤ 9223372036854775807 := by unfold maxLen at hm; omega
    have hw' : ∀ i, i < len → ∀ q ∈ (D i).weights P e, q ≤ reachBytes := by
      intro i hi q hq
      refine hw q ?_
      simp only [DataW.weights, ht]
      refine List.mem_cons_of_mem _ (List.mem_append.2 (Or.inl ?_))
      exact weightsAll_mem (d := D i) (List.mem_map.2 ⟨i, List.mem_range.2 hi, rfl⟩) q hq
    have hB' : len * B ≤ reachBytes := by
      have h0 := hw ((((List.range len).map D).length + ((List.range (m - len)).map fun j => D (len + j)).length) * P.bytesOf e) (by simp only [DataW.weights, ht]; exact List.mem_cons_self ..)
      rw [hB] at h0
      simp only [List.length_map, List.length_range] at h0
      exact Nat.le_trans (Nat.mul_le_mul_right B (by omega)) h0
    have key : ∀ i, i < len → ∃ y : α × List Value, d.K w y.1 y.2 ∧ good y.1 ∧ w.cells? base (a.add (i * P.cellsOf e)) (P.cellsOf e) = some y.2 := by
      intro i hi
      obtain ⟨cs', h1, h2⟩ := hel i (by omega)
      obtain ⟨y, h3, h4⟩ := h h2 (hw' i hi)
      exact ⟨(y, cs'), h3, h4, h1⟩
    haveI : Inhabited (α × List Value) := ⟨(z, [])⟩
    obtain ⟨F, hF⟩ := Go.Deep.choose_lt key
    refine ⟨(List.range len).map fun i => (F i).1, ⟨some a, cap, by simp, by simpa using hl, by simp, by simpa using hmx, fun h0 => ⟨a, rfl, ?_⟩⟩, ?_, by simpa using hB'⟩
    · intro j p hj
      have hjl : j < len := by
        have := (List.getElem?_eq_some_iff.1 hj).1
        simpa using this
      have hp : p = (F j).1 := by
        rw [List.getElem?_map, List.getElem?_range hjl] at hj
        simpa using hj.symm
      subst hp
      obtain ⟨h1, h2, h3⟩ := hF j hjl
      obtain ⟨_, hlen, hcell⟩ := World.cells?_some h3
      refine ⟨(F j).2, by rw [hlen, hc], h1, fun i u hu => ?_⟩
      have hi : i < P.cellsOf e := by
        have := (List.getElem?_eq_some_iff.1 hu).1
        omega
      have := hcell i hi
      rw [Go.Deep.add_add] at this
      rw [← hc, this, hu]
    · intro x hx
      obtain ⟨i, hi, rfl⟩ := List.mem_map.1 hx
      exact (hF i (List.mem_range.1 hi)).2.1

/-- The fields from one place on. -/
def OpensTail {α : Type} (P : Program) (fs : List Field) (o len : Nat) (d : Kd α) (good : α → Prop) : Prop :=
  ∀ {H : Type} {enc : TypeId × Value → H} {w : World} {base : Nat} {spare : Nat → Bool} {held : Bool} {n : Nat} {cs : List Value} {xs : List (DataW H × List MemPlace)},
    cs.length = len → xs.length = fs.length →
    (∀ (i : Nat) (f : Field), fs[i]? = some f → DataW.trod enc P w base spare held n f.type ((cs.drop f.offset).take (P.cellsOf f.type)) = xs[i]?) →
    (∀ m ∈ DataW.weightsEach P (fs.map (·.type)) (xs.map (·.1)), m ≤ reachBytes) → ∃ a, d.K w a (cs.drop o) ∧ good a

theorem tail_one {α : Type} {P : Program} {f : Field} {o len : Nat} {d : Kd α} {good : α → Prop} (ho : f.offset = o) (hl : len ≤ o + P.cellsOf f.type) (h : Opens P f.type d good) : OpensTail P [f] o len d good := by
  intro H enc w base spare held n cs xs hcs hxs hall hw
  obtain ⟨x, rfl⟩ : ∃ x, xs = [x] := by
    match xs, hxs with
    | [x], _ => exact ⟨x, rfl⟩
  have h0 := hall 0 f rfl
  rw [ho, List.take_of_length_le (by rw [List.length_drop]; omega)] at h0
  exact h h0 (fun m hm => hw m (by simp only [List.map_cons, List.map_nil, DataW.weightsEach, List.mem_append]; exact Or.inl hm))
theorem tail_cons {α β : Type} {P : Program} {f : Field} {fs : List Field} {o o' len : Nat} {a : Kd α} {b : Kd β} {ga : α → Prop} {gb : β → Prop} (ho : f.offset = o) (ho' : o' = o + P.cellsOf f.type)
    (h : Opens P f.type a ga) (ht : OpensTail P fs o' len b gb) : OpensTail P (f :: fs) o len (Kd.pair a b) (fun x => ga x.1 ∧ gb x.2) := by
  intro H enc w base spare held n cs xs hcs hxs hall hw
  obtain ⟨x, xs, rfl⟩ : ∃ x r, xs = x :: r := by
    match xs, hxs with
    | x :: r, _ => exact ⟨x, r, rfl⟩
  have h0 := hall 0 f rfl
  rw [ho] at h0
  obtain ⟨y, hy, hgy⟩ := h h0 (fun m hm => hw m (by simp only [List.map_cons, DataW.weightsEach, List.mem_append]; exact Or.inl hm))
  obtain ⟨z, hz, hgz⟩ := ht (xs := xs) hcs (by simpa using hxs) (fun i g hg => by simpa using hall (i + 1) g (by simpa using hg))
    (fun m hm => hw m (by simp only [List.map_cons, DataW.weightsEach, List.mem_append]; exact Or.inr hm))
  refine ⟨(y, z), ⟨(cs.drop o).take (P.cellsOf f.type), cs.drop o', ?_, hy, hz⟩, hgy, hgz⟩
  rw [ho', ← List.drop_drop, List.take_append_drop]
/-- A struct: its fields one behind the other. -/
theorem opens_struct {α β : Type} {P : Program} {t : TypeId} {fs : Array Field} {len : Nat} {d : Kd α} {good : α → Prop} (ht : P.underlying t = some (.struct fs)) (hl : P.cellsOf t = len) (h : OpensTail P fs.toList 0 len d good) (f : β → α) (g : α → β) (hfg : ∀ a, f (g a) = a) :
    Opens P t (Kd.iso d f) (fun x => good (f x)) := by
  intro H enc w base spare held fuel cs x hx hw
  obtain ⟨xs, n, rfl, rfl, hcs, hxs, hall⟩ := DataW.trod_struct ht hx
  obtain ⟨a, ha, hga⟩ := h (xs := xs) (hcs.trans hl) (by simpa using hxs) (fun i f hf => hall i f (by simpa using hf)) (fun m hm => hw m (by simp only [DataW.weights, ht]; exact hm))
  refine ⟨g a, ?_, by show good (f (g a)); rw [hfg]; exact hga⟩
  show d.K w (f (g a)) cs
  rw [hfg]
  simpa using ha
/-- A struct of one field. -/
theorem Opens.iso {α β : Type} {P : Program} {t : TypeId} {d : Kd α} {good : α → Prop} (h : Opens P t d good) (f : β → α) (g : α → β) (hfg : ∀ a, f (g a) = a) : Opens P t (Kd.iso d f) (fun x => good (f x)) := by
  intro H enc w base spare held fuel cs x hx hw
  obtain ⟨a, ha, hga⟩ := h hx hw
  refine ⟨g a, ?_, by show good (f (g a)); rw [hfg]; exact hga⟩
  show d.K w (f (g a)) cs
  rw [hfg]
  exact ha
/-- Arrays of two, and of three, as structs of so many fields. -/
theorem opens_array2 {α β : Type} {P : Program} {t e : TypeId} {d : Kd α} {good : α → Prop} (ht : P.underlying t = some (.array 2 e)) {len c : Nat} (hl : P.cellsOf t = len) (hc : P.cellsOf e = c) (hlen : len = 2 * c) (h : Opens P e d good) (f : β → α × α) (g : α × α → β) (hfg : ∀ a, f (g a) = a) :
    Opens P t (Kd.iso (Kd.pair d d) f) (fun x => good (f x).1 ∧ good (f x).2) := by
  intro H enc w base spare held fuel cs x hx hw
  obtain ⟨xs, n, rfl, rfl, hcs, hxs, hall⟩ := DataW.trod_array ht hx
  obtain ⟨x0, x1, rfl⟩ : ∃ a b, xs = [a, b] := by
    match xs, hxs with
    | [a, b], _ => exact ⟨a, b, rfl⟩
  have hw' : ∀ m ∈ DataW.weightsAll P e [x0.1, x1.1], m ≤ reachBytes := fun m hm => hw m (by simp only [DataW.weights, ht]; exact hm)
  have h0 := hall 0 (by omega)
  have h1 := hall 1 (by omega)
  rw [hc] at h0 h1
  obtain ⟨a0, k0, g0⟩ := h h0 (fun m hm => hw' m (weightsAll_mem (by simp) m hm))
  obtain ⟨a1, k1, g1⟩ := h h1 (fun m hm => hw' m (weightsAll_mem (by simp) m hm))
  refine ⟨g (a0, a1), ?_, by show good (f (g (a0, a1))).1 ∧ good (f (g (a0, a1))).2; rw [hfg]; exact ⟨g0, g1⟩⟩
  show (Kd.pair d d).K w (f (g (a0, a1))) cs
  rw [hfg]
  refine ⟨_, _, ?_, k0, k1⟩
  rw [Nat.zero_mul, List.drop_zero, Nat.one_mul, List.take_of_length_le (l := cs.drop c) (by rw [List.length_drop]; omega), List.take_append_drop]
theorem okWide_array {P : Program} {w : World} {r : Reach} {b0 : Nat} {t e : TypeId} {n : Nat} {v : Value} (hs : P.underlying t = some (.array n e)) (hv : Value.okWide P w r b0 t v) : ∃ cs, v = .agg cs ∧ cs.size = P.cellsOf t := by
  unfold Value.okWide at hv
  rw [hs] at hv
  obtain ⟨cs, h1, h2, _⟩ := hv
  exact ⟨cs, h1, h2⟩
end Go.Proofs.Ytejkoenlfcghbaa.Opn
/- The openings of the arguments of the law LookFinds, and its pure statement. -/
set_option linter.unusedVariables false
namespace Go.Proofs.Ytejkoenlfcghbaa.X
open Go.RowKit Go.Proofs.YtejkoenlfcghbaaW.PrintWords Go.Proofs.YtejkoenlfcghbaaW.PrintLast Go.Proofs.YtejkoenlfcghbaaW.PrintMore Go.Proofs.Ytejkoenlfcghbaa.Opn
def good26 (x : S26) : Prop := ((Lit.int .i64 x.f0).wf = true) ∧ ((Lit.int .i64 x.f1).wf = true) ∧ (x.f2.size ≤ reachBytes)
theorem opens26 : Opens Try.prog 26 k26 good26 := opens_struct Try.underlying26 (len := 3) (by kernel_rfl) (tail_cons rfl (by kernel_rfl) (opens_int Try.underlying3) (tail_cons rfl (by kernel_rfl) (opens_int Try.underlying2) (tail_one rfl (Nat.le_of_eq (by kernel_rfl)) (opens_string Try.underlying9)))) (fun x : S26 => (x.f0, x.f1, x.f2)) (fun a => ⟨a.1, a.2.1, a.2.2⟩) (fun _ => rfl)
def good24 (x : S24) : Prop := ((Lit.int .i64 x.f0).wf = true) ∧ ((Lit.int .i64 x.f1).wf = true) ∧ ((∀ y ∈ x.f2, good26 y) ∧ x.f2.length * 32 ≤ reachBytes)
theorem opens24 : Opens Try.prog 24 k24 good24 := opens_struct Try.underlying24 (len := 3) (by kernel_rfl) (tail_cons rfl (by kernel_rfl) (opens_int Try.underlying3) (tail_cons rfl (by kernel_rfl) (opens_int Try.underlying3) (tail_one rfl (Nat.le_of_eq (by kernel_rfl)) (opens_slice Try.underlying22 (by kernel_rfl) (B := 32) (by kernel_rfl) z26 opens26)))) (fun x : S24 => (x.f0, x.f1, x.f2)) (fun a => ⟨a.1, a.2.1, a.2.2⟩) (fun _ => rfl)
def good33 (x : S33) : Prop := ((Lit.int .i64 x.f0).wf = true) ∧ ((Lit.int .i64 x.f1).wf = true)
theorem opens33 : Opens Try.prog 33 k33 good33 := opens_array2 Try.underlying33 (len := 2) (c := 1) (by kernel_rfl) (by kernel_rfl) rfl (opens_int Try.underlying3) (fun x : S33 => (x.f0, x.f1)) (fun a => ⟨a.1, a.2⟩) (fun _ => rfl)
/-- What is left: a statement over numbers and lists alone. -/
def oculuslaw18_LookFinds.PureX : Prop := ∀ (a0 : S24) (a1 : S26) (a2 : S33), (good24 a0) → (good26 a1) → (good33 a2) → ∃ k, oculuslaw18_LookFinds.f k (a0.f0) (a0.f1) (a0.f2) (a1.f0) (a1.f1) (a1.f2) (a2.f0) (a2.f1) = some true
end Go.Proofs.Ytejkoenlfcghbaa.X
/- Plain facts on whole numbers, bits and lists that the pure statements use. -/
set_option linter.unusedVariables false
set_option linter.unusedSimpArgs false
namespace Go.Proofs.Ytejkoenlfcghbaa.X
open Go.RowKit Go.Proofs.YtejkoenlfcghbaaW.PrintWords Go.Proofs.YtejkoenlfcghbaaW.PrintLast Go.Proofs.YtejkoenlfcghbaaW.PrintMore

theorem wf_i64 {x : Int} (h : (Lit.int .i64 x).wf = true) : -9223372036854775808 ≤ x ∧ x ≤ 9223372036854775807 := by
  simp only [Lit.wf, IntKind.min, IntKind.max, IntKind.signed, IntKind.bits, Bool.and_eq_true, decide_eq_true_eq, if_true] at h
  omega
theorem w64 {x : Int} (h0 : -9223372036854775808 ≤ x) (h1 : x ≤ 9223372036854775807) : wrap64 x = x := by unfold wrap64; omega
theorem w64s {i n : Nat} (h : i < n) (hn : n ≤ 9223372036854775807) : wrap64 ((i : Int) + 1) = ((i + 1 : Nat) : Int) := by unfold wrap64; omega

/-! Ev: with enough rounds. -/
theorem ev_some {α : Type} {g : Nat → Option α} {r : α} (h : ∀ k, g k = some r) : Ev g r := ⟨0, fun k _ => h k⟩
theorem ev_ite {α : Type} {c : Prop} [Decidable c] {f g : Nat → Option α} {r : α} (h1 : c → Ev f r) (h2 : ¬ c → Ev g r) : Ev (fun k => if c then f k else g k) r := by
  by_cases h : c
  · simp only [if_pos h]; exact h1 h
  · simp only [if_neg h]; exact h2 h
theorem ev_pos {α : Type} {c : Prop} [Decidable c] {f g : Nat → Option α} {r : α} (h : c) (h1 : Ev f r) : Ev (fun k => if c then f k else g k) r := by simp only [if_pos h]; exact h1
theorem ev_neg {α : Type} {c : Prop} [Decidable c] {f g : Nat → Option α} {r : α} (h : ¬ c) (h1 : Ev g r) : Ev (fun k => if c then f k else g k) r := by simp only [if_neg h]; exact h1
theorem ev_bind {α β : Type} {g : Nat → Option α} {f : Nat → α → Option β} {a : α} {r : β} (h : Ev g a) (k : Ev (fun n => f n a) r) : Ev (fun n => (g n).bind (f n)) r := Ev.bind h k
/-! Bits. -/
end Go.Proofs.Ytejkoenlfcghbaa.X
/- Plain facts on texts as lists of bytes. -/
set_option linter.unusedVariables false
set_option linter.unusedSimpArgs false
namespace Go.Proofs.Ytejkoenlfcghbaa.X
open Go.RowKit Go.Proofs.YtejkoenlfcghbaaW.PrintWords Go.Proofs.YtejkoenlfcghbaaW.PrintLast Go.Proofs.YtejkoenlfcghbaaW.PrintMore
/-- A text's bytes; the text of bytes. -/
def by_ (s : ByteArray) : List UInt8 := s.data.toList
def tx (l : List UInt8) : ByteArray := ⟨l.toArray⟩
theorem by_tx (l : List UInt8) : by_ (tx l) = l := by simp [by_, tx]
theorem tx_by (s : ByteArray) : tx (by_ s) = s := by
  obtain ⟨⟨l⟩⟩ := s
  rfl
theorem by_inj {s t : ByteArray} (h : by_ s = by_ t) : s = t := by rw [← tx_by s, ← tx_by t, h]
theorem toList_by (s : ByteArray) : s.toList = by_ s := ByteArray.toList_eq s
theorem size_by (s : ByteArray) : s.size = (by_ s).length := by
  obtain ⟨⟨l⟩⟩ := s
  rfl
theorem size_tx (l : List UInt8) : (tx l).size = l.length := by rw [size_by, by_tx]
theorem bt_by (s : ByteArray) (i : Nat) (h : i < (by_ s).length) : bt s (i : Int) = ((by_ s)[i].toNat : Int) := by
  obtain ⟨⟨l⟩⟩ := s
  have h' : (i : Int).toNat < (⟨⟨l⟩⟩ : ByteArray).size := by rw [Int.toNat_natCast]; exact h
  unfold bt
  rw [dif_pos h']
  simp only [Int.toNat_natCast]
  rfl
theorem bt_tx (l : List UInt8) (i : Nat) (h : i < l.length) : bt (tx l) (i : Int) = (l[i].toNat : Int) := by
  rw [bt_by (tx l) i (by rw [by_tx]; exact h)]
  simp only [by_tx]
end Go.Proofs.Ytejkoenlfcghbaa.X
/- Tables: what is found, down and across: the program's answers and the reference's, told once. -/
set_option linter.unusedVariables false
set_option linter.unusedSimpArgs false
namespace Go.Proofs.Ytejkoenlfcghbaa.X
open Go.RowKit Go.Proofs.YtejkoenlfcghbaaW.PrintWords Go.Proofs.YtejkoenlfcghbaaW.PrintLast Go.Proofs.YtejkoenlfcghbaaW.PrintMore
theorem alive18_ev : Ev (fun k => oculuslaw18_alive.f k) true := Ev.of (fun k => oculuslaw18_alive.mono k) (k := 60) (by decide +kernel)
theorem nil_of (t : ByteArray) (h : t.toList = []) : t = tx [] := by rw [toList_by] at h; exact by_inj (by rw [h, by_tx])
/-! Texts in order. -/
theorem cmp_vals : ∀ a b : List UInt8, Lib.compareBytes a b = -1 ∨ Lib.compareBytes a b = 0 ∨ Lib.compareBytes a b = 1
  | [], [] => Or.inr (Or.inl rfl)
  | [], _ :: _ => Or.inl rfl
  | _ :: _, [] => Or.inr (Or.inr rfl)
  | a :: xs, b :: ys => by
    rw [Lib.compareBytes]
    split
    · exact Or.inl rfl
    · split
      · exact Or.inr (Or.inr rfl)
      · exact cmp_vals xs ys
theorem cmp_swap : ∀ a b : List UInt8, Lib.compareBytes b a = -1 ↔ Lib.compareBytes a b = 1
  | [], [] => by simp [Lib.compareBytes]
  | [], _ :: _ => by simp [Lib.compareBytes]
  | _ :: _, [] => by simp [Lib.compareBytes]
  | a :: xs, b :: ys => by
    rw [Lib.compareBytes, Lib.compareBytes]
    by_cases h1 : a < b
    · have h2 : ¬ b < a := by rw [UInt8.lt_iff_toNat_lt] at *; omega
      simp only [h1, h2, if_true, if_false]; decide
    · by_cases h2 : b < a
      · simp only [h1, h2, if_true, if_false]
      · simp only [h1, h2, if_false]; exact cmp_swap xs ys
theorem less_l0 (a b : List UInt8) (ha : a.length ≤ 1000) : ∀ (n i : Nat), i + n = a.length → i ≤ b.length → Ev (fun k => oculusref12_Less.l0 k (tx a) (tx b) (i : Int)) (decide (Lib.compareBytes (a.drop i) (b.drop i) = -1))
  | 0, i, hi, hb => by
    refine Ev.step (fun k => oculusref12_Less.l0.eq_2 ..) ?_
    rw [size_tx, size_tx]
    refine ev_neg (by omega) (Ev.step (fun k => oculusref12_Less.j1.eq_2 ..) (ev_neg (by simp) (ev_some fun _ => ?_)))
    rw [size_tx, size_tx, List.drop_eq_nil_of_le (show a.length ≤ i by omega)]
    congr 1
    rw [Bool.eq_iff_iff, decide_eq_true_eq, decide_eq_true_eq]
    by_cases h : i < b.length
    · rw [List.drop_eq_getElem_cons h]
      exact ⟨fun _ => rfl, fun _ => by omega⟩
    · rw [List.drop_eq_nil_of_le (by omega)]
      exact ⟨fun k => by omega, fun k => by cases k⟩
  | n + 1, i, hi, hb => by
    have h : i < a.length := by omega
    refine Ev.step (fun k => oculusref12_Less.l0.eq_2 ..) ?_
    rw [size_tx, size_tx]
    refine ev_pos (by omega) ?_
    by_cases h2 : i < b.length
    · rw [decide_eq_true (show (i : Int) < (b.length : Int) by omega)]
      refine Ev.step (fun k => oculusref12_Less.j1.eq_2 ..) (ev_pos rfl ?_)
      rw [size_tx, size_tx, bt_tx a i h, bt_tx b i h2, w64s (n := 10000) (by omega) (by omega), List.drop_eq_getElem_cons h, List.drop_eq_getElem_cons h2, Lib.compareBytes]
      refine ev_pos (by omega) (ev_pos (by omega) (ev_pos (by omega) (ev_ite (fun g => ?_) (fun g => ?_))))
      · have e1 : ¬ a[i] < b[i] := by rw [UInt8.lt_iff_toNat_lt]; omega
        have e2 : ¬ b[i] < a[i] := by rw [UInt8.lt_iff_toNat_lt]; omega
        rw [if_neg e1, if_neg e2]
        exact less_l0 a b ha n (i + 1) (by omega) (by omega)
      · refine ev_some fun _ => ?_
        congr 1
        rw [Bool.eq_iff_iff, decide_eq_true_eq, decide_eq_true_eq]
        by_cases e1 : a[i] < b[i]
        · rw [if_pos e1]
          rw [UInt8.lt_iff_toNat_lt] at e1
          exact ⟨fun _ => rfl, fun _ => by omega⟩
        · rw [if_neg e1]
          have e2 : b[i] < a[i] := by rw [UInt8.lt_iff_toNat_lt] at *; omega
          rw [if_pos e2]
          rw [UInt8.lt_iff_toNat_lt] at e1
          exact ⟨fun k => by omega, fun k => by cases k⟩
    · rw [decide_eq_false (show ¬ (i : Int) < (b.length : Int) by omega)]
      refine Ev.step (fun k => oculusref12_Less.j1.eq_2 ..) (ev_neg (by simp) (ev_some fun _ => ?_))
      rw [size_tx, size_tx, List.drop_eq_getElem_cons h, List.drop_eq_nil_of_le (show b.length ≤ i by omega)]
      congr 1
      rw [Bool.eq_iff_iff, decide_eq_true_eq, decide_eq_true_eq]
      exact ⟨fun k => by omega, fun k => by cases k⟩
theorem less_ev (a b : List UInt8) (ha : a.length ≤ 1000) : Ev (fun k => oculusref12_Less.f k (tx a) (tx b)) (decide (Lib.compareBytes a b = -1)) := by
  unfold oculusref12_Less.f
  have := less_l0 a b ha a.length 0 (by omega) (by omega)
  rw [List.drop_zero, List.drop_zero] at this
  exact this
theorem cmp_eq : ∀ a b : List UInt8, Lib.compareBytes a b = 0 ↔ a = b
  | [], [] => by simp [Lib.compareBytes]
  | [], _ :: _ => by simp [Lib.compareBytes]
  | _ :: _, [] => by simp [Lib.compareBytes]
  | a :: xs, b :: ys => by
    rw [Lib.compareBytes]
    by_cases h1 : a < b
    · rw [if_pos h1]
      refine ⟨fun h => (by cases h), fun h => ?_⟩
      injection h with h2 _
      rw [h2, UInt8.lt_iff_toNat_lt] at h1; omega
    · by_cases h2 : b < a
      · rw [if_neg h1, if_pos h2]
        refine ⟨fun h => (by cases h), fun h => ?_⟩
        injection h with h3 _
        rw [h3, UInt8.lt_iff_toNat_lt] at h2; omega
      · rw [if_neg h1, if_neg h2, cmp_eq xs ys]
        have e : a = b := by
          rw [UInt8.lt_iff_toNat_lt] at h1 h2
          exact UInt8.toNat_inj.1 (by omega)
        rw [e]; simp
/-! Values. -/
abbrev mayS (x : S26) : Bool := mayV x.f0 x.f1 x.f2
theorem may_cases (x : S26) (h : mayS x = true) : (0 ≤ x.f0 ∧ x.f0 ≤ 4) ∧ (x.f0 = 0 ∨ x.f0 = 2 → x.f1 = 0) ∧ (x.f0 ≠ 2 → x.f2.toList = []) ∧ x.f2.size ≤ 256 := by
  rw [mayS, mayV, decide_eq_true_eq] at h
  rcases h with ⟨a, b, c⟩ | ⟨a, b, c⟩ | ⟨a, b, c⟩ | ⟨a, b, c⟩ | ⟨a, b, c⟩
  · exact ⟨by omega, fun _ => c, fun _ => b, by rw [nil_of _ b]; decide⟩
  · exact ⟨by omega, fun h => by omega, fun _ => b, by rw [nil_of _ b]; decide⟩
  · exact ⟨by omega, fun _ => b, fun h => absurd a h, by omega⟩
  · exact ⟨by omega, fun h => by omega, fun _ => b, by rw [nil_of _ b]; decide⟩
  · exact ⟨by omega, fun h => by omega, fun _ => b, by rw [nil_of _ b]; decide⟩
def kk (a b : Int) : Int := if a = 0 then b else a
/-- Is a value found as another one? -/
def fnd (x v : S26) : Bool := decide (x.f0 ≠ 4 ∧ v.f0 ≠ 4 ∧ kk x.f0 v.f0 = kk v.f0 x.f0 ∧ x.f1 = v.f1 ∧ x.f2.toList = v.f2.toList)
theorem like_eq (a b : Int) (n m : Int) (s t : ByteArray) : value_like.f a n s b m t = some (kk a b, n, s) := by
  unfold value_like.f kk
  split <;> rfl
theorem kk_2 {a b : Int} (h : kk a b = kk b a) (h2 : kk a b ≠ 2) : a ≠ 2 ∧ b ≠ 2 := by
  unfold kk at h h2
  split at h <;> split at h <;> simp_all <;> omega
theorem kk_is2 {a b : Int} (h : kk a b = kk b a) (h2 : kk a b = 2) : (a = 0 ∨ a = 2) ∧ (b = 0 ∨ b = 2) := by
  unfold kk at h h2
  split at h <;> split at h <;> simp_all <;> omega
theorem kk_bd {a b : Int} (ha : 0 ≤ a ∧ a ≤ 4) (hb : 0 ≤ b ∧ b ≤ 4) : 0 ≤ kk a b ∧ kk a b ≤ 4 := by unfold kk; split <;> omega
theorem cmpF (a b : ByteArray) : strings_Compare.f a b = some (Lib.compareBytes (by_ a) (by_ b)) := by
  have h : strings_Compare.f (tx (by_ a)) (tx (by_ b)) = some (Lib.compareBytes (by_ a) (by_ b)) := rfl
  rw [tx_by, tx_by] at h
  exact h
theorem lfound_ev (x v : S26) (hx : mayS x = true) (hv : mayS v = true) : Ev (fun j => look_found.f j x.f0 x.f1 x.f2 v.f0 v.f1 v.f2) (fnd x v) := by
  obtain ⟨bx, zx, tx0, sx⟩ := may_cases x hx
  obtain ⟨bv, zv, tv0, sv⟩ := may_cases v hv
  unfold look_found.f
  refine ev_ite (fun g => ?_) (fun g => ?_)
  · rw [fnd, decide_eq_false (fun h => h.1 g)]; exact Ev.now _
  refine ev_ite (fun g2 => ?_) (fun g2 => ?_)
  · rw [fnd, decide_eq_false (fun h => h.2.1 g2)]; exact Ev.now _
  have key : ∃ c : Int, Ev (fun j => value_Compare.f j x.f0 x.f1 x.f2 v.f0 v.f1 v.f2) c ∧ (c == 0) = fnd x v := by
    have st : ∀ c : Int, Ev (fun j => value_Compare.j1 j (kk x.f0 v.f0) x.f1 x.f2 (kk v.f0 x.f0) v.f1 v.f2) c → Ev (fun j => value_Compare.f j x.f0 x.f1 x.f2 v.f0 v.f1 v.f2) c := by
      intro c hc
      unfold value_Compare.f
      refine ev_neg g ?_
      rw [beq_eq_false_iff_ne.2 g2]
      refine Ev.step (fun k => value_Compare.j0.eq_2 ..) (ev_neg (by simp) ?_)
      exact ev_bind (ev_some fun _ => like_eq _ _ _ _ _ _) (ev_bind (ev_some fun _ => like_eq _ _ _ _ _ _) hc)
    by_cases e : kk x.f0 v.f0 = kk v.f0 x.f0
    · by_cases e2 : kk x.f0 v.f0 = 2
      · obtain ⟨i1, i2⟩ := kk_is2 e e2
        refine ⟨Lib.compareBytes (by_ x.f2) (by_ v.f2), st _ (Ev.step (fun k => value_Compare.j1.eq_2 ..) (ev_pos e (ev_pos e2 (ev_bind (ev_some fun _ => cmpF _ _) (Ev.now _))))), ?_⟩
        rw [Bool.eq_iff_iff, beq_iff_eq, cmp_eq, fnd, decide_eq_true_eq, zx i1, zv i2, toList_by, toList_by]
        exact ⟨fun h => ⟨g, g2, e, rfl, h⟩, fun h => h.2.2.2.2⟩
      · obtain ⟨i1, i2⟩ := kk_2 e e2
        have ht : x.f2.toList = v.f2.toList := by rw [tx0 i1, tv0 i2]
        refine ⟨if x.f1 < v.f1 then -1 else if x.f1 > v.f1 then 1 else 0, st _ (Ev.step (fun k => value_Compare.j1.eq_2 ..) (ev_pos e (ev_neg e2 ?_))), ?_⟩
        · refine ev_ite (fun g => ?_) (fun g => ?_)
          · rw [if_pos g]; exact Ev.now _
          · rw [if_neg g]
            refine ev_ite (fun g2 => ?_) (fun g2 => ?_)
            · rw [if_pos g2]; exact Ev.now _
            · rw [if_neg g2]; exact Ev.now _
        · rw [Bool.eq_iff_iff, beq_iff_eq, fnd, decide_eq_true_eq]
          constructor
          · intro h
            refine ⟨g, g2, e, ?_, ht⟩
            split at h
            · cases h
            · split at h
              · cases h
              · omega
          · intro h
            rw [if_neg (by omega), if_neg (by omega)]
    · have hb1 := kk_bd bx bv
      have hb2 := kk_bd bv bx
      have hw : wrap64 (kk x.f0 v.f0 - kk v.f0 x.f0) = kk x.f0 v.f0 - kk v.f0 x.f0 := w64 (by omega) (by omega)
      refine ⟨if kk x.f0 v.f0 - kk v.f0 x.f0 < 0 then -1 else 1, st _ (Ev.step (fun k => value_Compare.j1.eq_2 ..) (ev_neg e (ev_bind (ev_some fun _ => ?_) (Ev.now _)))), ?_⟩
      · rw [hw, dec_Sign.f]
        split
        · rfl
        · rw [if_pos (by omega)]
      · rw [fnd, decide_eq_false (fun h => e h.2.2.1), beq_eq_false_iff_ne]
        split <;> omega
  obtain ⟨c, h1, h2⟩ := key
  refine ev_bind h1 ?_
  rw [h2]
  exact Ev.now _
def ahd (x v : S26) : Bool := if kk x.f0 v.f0 = kk v.f0 x.f0 then (decide (x.f1 < v.f1) || decide (Lib.compareBytes (by_ x.f2) (by_ v.f2) = -1)) else decide (kk x.f0 v.f0 < kk v.f0 x.f0)
theorem ahd_ev (x v : S26) (sx : x.f2.size ≤ 256) : Ev (fun j => oculusref12_ahead.f j x.f0 x.f1 x.f2 v.f0 v.f1 v.f2) (ahd x v) := by
  have j1 : Ev (fun j => oculusref12_ahead.j1 j (kk x.f0 v.f0) (kk v.f0 x.f0) x.f0 x.f1 x.f2 v.f0 v.f1 v.f2) (ahd x v) := by
    refine Ev.step (fun k => oculusref12_ahead.j1.eq_2 ..) ?_
    unfold ahd
    refine ev_ite (fun e => ?_) (fun e => ?_)
    · rw [if_pos e]
      refine ev_ite (fun g => ?_) (fun g => ?_)
      · rw [decide_eq_true g, Bool.true_or]; exact Ev.now _
      · rw [decide_eq_false g, Bool.false_or]
        have := less_ev (by_ x.f2) (by_ v.f2) (by rw [← size_by]; omega)
        rw [tx_by, tx_by] at this
        exact ev_bind this (Ev.now _)
    · rw [if_neg e]; exact Ev.now _
  unfold oculusref12_ahead.f
  refine ev_ite (fun e => ?_) (fun e => ?_)
  · refine Ev.step (fun k => oculusref12_ahead.j0.eq_2 ..) (ev_ite (fun e2 => ?_) (fun e2 => ?_))
    · have a1 : kk x.f0 v.f0 = v.f0 := by rw [kk, if_pos e]
      have a2 : kk v.f0 x.f0 = v.f0 := by rw [kk, if_pos e2, e, e2]
      rw [a1, a2] at j1
      exact j1
    · have a1 : kk x.f0 v.f0 = v.f0 := by rw [kk, if_pos e]
      have a2 : kk v.f0 x.f0 = v.f0 := by rw [kk, if_neg e2]
      rw [a1, a2] at j1
      exact j1
  · refine Ev.step (fun k => oculusref12_ahead.j0.eq_2 ..) (ev_ite (fun e2 => ?_) (fun e2 => ?_))
    · have a1 : kk x.f0 v.f0 = x.f0 := by rw [kk, if_neg e]
      have a2 : kk v.f0 x.f0 = x.f0 := by rw [kk, if_pos e2]
      rw [a1, a2] at j1
      exact j1
    · have a1 : kk x.f0 v.f0 = x.f0 := by rw [kk, if_neg e]
      have a2 : kk v.f0 x.f0 = v.f0 := by rw [kk, if_neg e2]
      rw [a1, a2] at j1
      exact j1
theorem rfound_ev (x v : S26) (hx : mayS x = true) (hv : mayS v = true) : Ev (fun j => oculusref18_found.f j x.f0 x.f1 x.f2 v.f0 v.f1 v.f2) (fnd x v) := by
  obtain ⟨bx, zx, tx0, sx⟩ := may_cases x hx
  obtain ⟨bv, zv, tv0, sv⟩ := may_cases v hv
  unfold oculusref18_found.f
  refine ev_ite (fun g => ?_) (fun g => ?_)
  · rw [fnd, decide_eq_false (fun h => h.1 g)]; exact Ev.now _
  refine ev_ite (fun g2 => ?_) (fun g2 => ?_)
  · rw [fnd, decide_eq_false (fun h => h.2.1 g2)]; exact Ev.now _
  have hc : Ev (fun j => oculusref12_Compare.f j x.f0 x.f1 x.f2 v.f0 v.f1 v.f2) (if ahd x v = true then -1 else if ahd v x = true then 1 else 0) := by
    unfold oculusref12_Compare.f
    refine ev_neg g ?_
    rw [beq_eq_false_iff_ne.2 g2]
    refine Ev.step (fun k => oculusref12_Compare.j0.eq_2 ..) (ev_neg (by simp) (ev_bind (ahd_ev x v sx) ?_))
    refine ev_ite (fun e => ?_) (fun e => ?_)
    · rw [if_pos e]; exact Ev.now _
    · rw [if_neg e]
      refine ev_bind (ahd_ev v x sv) (ev_ite (fun e2 => ?_) (fun e2 => ?_))
      · rw [if_pos e2]; exact Ev.now _
      · rw [if_neg e2]; exact Ev.now _
  refine ev_bind hc ?_
  have : ((if ahd x v = true then (-1 : Int) else if ahd v x = true then 1 else 0) == 0) = fnd x v := by
    rw [Bool.eq_iff_iff, beq_iff_eq, fnd, decide_eq_true_eq]
    have hcv := cmp_vals (by_ x.f2) (by_ v.f2)
    have hsw := cmp_swap (by_ x.f2) (by_ v.f2)
    have heq := cmp_eq (by_ x.f2) (by_ v.f2)
    by_cases e : kk x.f0 v.f0 = kk v.f0 x.f0
    · have e1 : ahd x v = (decide (x.f1 < v.f1) || decide (Lib.compareBytes (by_ x.f2) (by_ v.f2) = -1)) := by rw [ahd, if_pos e]
      have e2 : ahd v x = (decide (v.f1 < x.f1) || decide (Lib.compareBytes (by_ v.f2) (by_ x.f2) = -1)) := by rw [ahd, if_pos e.symm]
      constructor
      · intro h
        have h1 : ¬ ahd x v = true := fun h' => by rw [if_pos h'] at h; cases h
        rw [if_neg h1] at h
        have h2 : ¬ ahd v x = true := fun h' => by rw [if_pos h'] at h; cases h
        rw [e1, Bool.or_eq_true, decide_eq_true_eq, decide_eq_true_eq] at h1
        rw [e2, Bool.or_eq_true, decide_eq_true_eq, decide_eq_true_eq, hsw] at h2
        refine ⟨g, g2, e, by omega, ?_⟩
        rw [toList_by, toList_by]
        exact heq.1 (by omega)
      · intro h
        have h4 := heq.2 (by have := h.2.2.2.2; rw [toList_by, toList_by] at this; exact this)
        have h3 := h.2.2.2.1
        rw [if_neg, if_neg]
        · rw [e2, Bool.or_eq_true, decide_eq_true_eq, decide_eq_true_eq, hsw]; omega
        · rw [e1, Bool.or_eq_true, decide_eq_true_eq, decide_eq_true_eq]; omega
    · have e1 : ahd x v = decide (kk x.f0 v.f0 < kk v.f0 x.f0) := by rw [ahd, if_neg e]
      have e2 : ahd v x = decide (kk v.f0 x.f0 < kk x.f0 v.f0) := by rw [ahd, if_neg (fun h => e h.symm)]
      constructor
      · intro h
        exfalso
        rw [e1, e2] at h
        by_cases c : kk x.f0 v.f0 < kk v.f0 x.f0
        · rw [if_pos (decide_eq_true c)] at h; cases h
        · rw [if_neg (by simpa using c), if_pos (decide_eq_true (by omega))] at h; cases h
      · intro h; exact absurd h.2.2.1 e
  rw [this]
  exact Ev.now _
/-! Lists of values. -/
theorem rdS (V : List S26) (i : Nat) (h : i < V.length) : rd_T26 V (i : Int) = V[i] := by
  unfold rd_T26
  rw [Int.toNat_natCast, List.getD_eq_getElem?_getD, List.getElem?_eq_getElem h]
  rfl
def mayT (V : List S26) : Bool := V.all mayS
theorem mayT_get {V : List S26} (h : mayT V = true) (i : Nat) (hi : i < V.length) : mayS V[i] = true := List.all_eq_true.1 h _ (List.getElem_mem hi)
/-- The place at which a value is found; 0: nowhere. -/
def mtc (x : S26) : Nat → List S26 → Int
  | _, [] => 0
  | i, v :: vs => if fnd x v = true then (i : Int) + 1 else mtc x (i + 1) vs
theorem lmatch_l0 (x : S26) (hx : mayS x = true) (V : List S26) (hV : mayT V = true) (hl : V.length ≤ 100000) : ∀ (d i : Nat), i + d = V.length →
    Ev (fun k => look_Match.l0 k V (V.length : Int) (i : Int) x.f0 x.f1 x.f2) (mtc x i (V.drop i), decide (mtc x i (V.drop i) > 0))
  | 0, i, h => by
    refine Ev.step (fun k => look_Match.l0.eq_2 ..) (ev_neg (by omega) ?_)
    rw [List.drop_eq_nil_of_le (by omega)]
    exact Ev.now _
  | d + 1, i, h => by
    have hi : i < V.length := by omega
    refine Ev.step (fun k => look_Match.l0.eq_2 ..) (ev_pos (by omega) (ev_pos (by omega) (ev_pos (by omega) ?_)))
    rw [rdS V i hi, List.drop_eq_getElem_cons hi, mtc]
    refine ev_bind (lfound_ev x V[i] hx (mayT_get hV i hi)) (Ev.step (fun k => look_Match.j1.eq_2 ..) (ev_ite (fun g => ?_) (fun g => ?_)))
    · rw [if_pos g, w64 (by omega) (by omega), decide_eq_true (by omega)]; exact Ev.now _
    · rw [if_neg g, w64s (n := 1000000) (by omega) (by omega)]
      exact lmatch_l0 x hx V hV hl d (i + 1) (by omega)
/-! Tables that may be. -/
def shp (R C : Int) (V : List S26) : Bool := decide (1 ≤ R ∧ 1 ≤ C ∧ R ≤ 1000 ∧ C ≤ 1000 ∧ V.length ≤ 1000 ∧ R * C = (V.length : Int))
theorem prodw {R C : Int} (h1 : 1 ≤ R) (h2 : 1 ≤ C) (h3 : R ≤ 1000) (h4 : C ≤ 1000) : wrap64 (R * C) = R * C := by
  have a : 0 ≤ R * C := Int.mul_nonneg (by omega) (by omega)
  have b : R * C ≤ 1000 * 1000 := Int.mul_le_mul h3 h4 (by omega) (by omega)
  exact w64 (by omega) (by omega)
theorem shaped_eq (R C : Int) (V : List S26) : look_shaped.f R C V = some (shp R C V) := by
  unfold look_shaped.f shp
  by_cases h1 : R ≥ 1
  · by_cases h2 : C ≥ 1
    · by_cases h3 : R ≤ 1000
      · by_cases h4 : C ≤ 1000
        · by_cases h5 : (V.length : Int) ≤ 1000
          · rw [if_pos h1, if_pos h2, if_pos h3, if_pos h4, if_pos h5, prodw h1 h2 h3 h4]
            congr 1
            rw [Bool.eq_iff_iff, beq_iff_eq, decide_eq_true_eq]
            exact ⟨fun h => ⟨h1, h2, h3, h4, by omega, h⟩, fun h => h.2.2.2.2.2⟩
          · rw [if_pos h1, if_pos h2, if_pos h3, if_pos h4, if_neg h5, decide_eq_false (by omega)]
        · rw [if_pos h1, if_pos h2, if_pos h3, if_neg h4, decide_eq_false (by omega)]
      · rw [if_pos h1, if_pos h2, if_neg h3, decide_eq_false (by omega)]
    · rw [if_pos h1, if_neg h2, decide_eq_false (by omega)]
  · rw [if_neg h1, decide_eq_false (by omega)]
/-- The place of a cell in the list, in whole numbers. -/
theorem place {R C : Int} {n : Nat} (h1 : 1 ≤ R) (h2 : 1 ≤ C) (h5 : n ≤ 1000) (h6 : R * C = (n : Int)) {r c : Int} (q : 1 ≤ r ∧ r ≤ R ∧ 1 ≤ c ∧ c ≤ C) :
    ∃ i : Nat, i < n ∧ (i : Int) = (r - 1) * C + c - 1 ∧ wrap64 (wrap64 (wrap64 (wrap64 (r - 1) * C) + c) - 1) = (i : Int) := by
  have a0 : 0 ≤ (r - 1) * C := Int.mul_nonneg (by omega) (by omega)
  have a1 : (r - 1) * C ≤ (R - 1) * C := Int.mul_le_mul_of_nonneg_right (by omega) (by omega)
  have a2 : (R - 1) * C = R * C - C := by rw [Int.sub_mul, Int.one_mul]
  have a3 : (r - 1) * C + c - 1 < (n : Int) := by omega
  have hR : R ≤ R * C := by
    have := Int.mul_le_mul_of_nonneg_left (c := R) h2 (by omega)
    omega
  refine ⟨((r - 1) * C + c - 1).toNat, by omega, by omega, ?_⟩
  rw [w64 (x := r - 1) (by omega) (by omega), w64 (x := (r - 1) * C) (by omega) (by omega), w64 (x := (r - 1) * C + c) (by omega) (by omega), w64 (by omega) (by omega)]
  omega
theorem at_both (R C : Int) (V : List S26) (gs : shp R C V = true) (r c : Int) (q : 1 ≤ r ∧ r ≤ R ∧ 1 ≤ c ∧ c ≤ C) :
    ∃ v : S26, Ev (fun k => look_At.f k R C V r c) (v.f0, v.f1, v.f2, true) ∧ oculusref18_At.f R C V r c = some (v.f0, v.f1, v.f2) := by
  have gp := gs
  rw [shp, decide_eq_true_eq] at gp
  obtain ⟨p1, p2, p3, p4, p5, p6⟩ := gp
  obtain ⟨i, hi, _, hp⟩ := place p1 p2 p5 p6 q
  refine ⟨V[i], ?_, ?_⟩
  · unfold look_At.f
    refine ev_bind (ev_some fun _ => shaped_eq R C V) (ev_pos gs (ev_neg (by omega) (ev_neg (by omega) (ev_neg (by omega) ?_))))
    rw [decide_eq_false (by omega)]
    refine Ev.step (fun k => look_At.j0.eq_2 ..) (ev_neg (by simp) ?_)
    rw [hp, rdS V i hi]
    exact ev_pos (by omega) (ev_pos (by omega) (Ev.now _))
  · unfold oculusref18_At.f
    rw [hp, rdS V i hi, if_pos (by omega), if_pos (by omega)]
theorem at_none (R C : Int) (V : List S26) (gs : shp R C V = true) (r c : Int) (q : ¬ (1 ≤ r ∧ r ≤ R ∧ 1 ≤ c ∧ c ≤ C)) : Ev (fun k => look_At.f k R C V r c) (0, 0, (⟨#[]⟩ : ByteArray), false) := by
  have jt : Ev (fun k => look_At.j0 k r c true R C V) (0, 0, (⟨#[]⟩ : ByteArray), false) := Ev.step (fun k => look_At.j0.eq_2 ..) (ev_pos rfl (Ev.now _))
  unfold look_At.f
  refine ev_bind (ev_some fun _ => shaped_eq R C V) (ev_pos gs (ev_ite (fun _ => jt) (fun _ => ev_ite (fun _ => jt) (fun _ => ev_ite (fun _ => jt) (fun _ => ?_)))))
  rw [decide_eq_true (by omega)]
  exact jt
end Go.Proofs.Ytejkoenlfcghbaa.X
/- The pure statement of the law LookFinds. -/
set_option linter.unusedVariables false
set_option linter.unusedSimpArgs false
namespace Go.Proofs.Ytejkoenlfcghbaa.Pure
open Go.RowKit Go.Proofs.Ytejkoenlfcghbaa.X Go.Proofs.Ytejkoenlfcghbaa.Opn Go.Proofs.YtejkoenlfcghbaaW.PrintWords Go.Proofs.YtejkoenlfcghbaaW.PrintLast Go.Proofs.YtejkoenlfcghbaaW.PrintMore
theorem rmatch_l0 (x : S26) (hx : mayS x = true) (R C : Int) (V : List S26) (hV : mayT V = true) (hl : V.length ≤ 100000) : ∀ (d i : Nat), i + d = V.length →
    Ev (fun k => oculusref18_Match.l0 k (i : Int) x.f0 x.f1 x.f2 R C V) (mtc x i (V.drop i))
  | 0, i, h => by
    refine Ev.step (fun k => oculusref18_Match.l0.eq_2 ..) (ev_neg (by omega) ?_)
    rw [List.drop_eq_nil_of_le (by omega)]
    exact Ev.now _
  | d + 1, i, h => by
    have hi : i < V.length := by omega
    refine Ev.step (fun k => oculusref18_Match.l0.eq_2 ..) (ev_pos (by omega) (ev_pos (by omega) ?_))
    rw [rdS V i hi, List.drop_eq_getElem_cons hi, mtc]
    refine ev_bind (rfound_ev x V[i] hx (mayT_get hV i hi)) (Ev.step (fun k => oculusref18_Match.j1.eq_2 ..) (ev_ite (fun g => ?_) (fun g => ?_)))
    · rw [if_pos g, w64 (by omega) (by omega)]; exact Ev.now _
    · rw [if_neg g, w64s (n := 1000000) (by omega) (by omega)]
      exact rmatch_l0 x hx R C V hV hl d (i + 1) (by omega)
theorem vmay_eq (x : S26) (h : -9223372036854775808 ≤ x.f1) : value_May.f x.f0 x.f1 x.f2 = some (mayS x) := by
  obtain ⟨k, n, t⟩ := x
  show value_May.f k n t = some (mayV k n t)
  have h : -9223372036854775808 ≤ n := h
  unfold value_May.f mayV dec_May.f
  by_cases h0 : k = 0
  · subst h0
    rw [if_pos rfl]
    by_cases hn : n = 0
    · rw [if_pos hn]; congr 1; rw [Bool.eq_iff_iff, beq_iff_eq, decide_eq_true_eq]
      exact ⟨fun ht => .inl ⟨rfl, ht, hn⟩, fun h => by rcases h with h | h | h | h | h <;> first | exact h.2.1 | (have := h.1; omega)⟩
    · rw [if_neg hn, decide_eq_false]
      rintro (h | h | h | h | h) <;> first | exact hn h.2.2 | (have := h.1; omega)
  rw [if_neg h0]
  by_cases h1 : k = 1
  · subst h1
    rw [if_pos rfl, Option.bind_some]
    by_cases hn : n = -9223372036854775808
    · rw [if_neg (by rw [hn]; decide), decide_eq_false]
      rintro (h | h | h | h | h) <;> first | (have := h.2.2; omega) | (have := h.1; omega)
    · rw [if_pos (bne_iff_ne.2 hn)]; congr 1; rw [Bool.eq_iff_iff, beq_iff_eq, decide_eq_true_eq]
      exact ⟨fun ht => .inr (.inl ⟨rfl, ht, by omega⟩), fun h => by rcases h with h | h | h | h | h <;> first | exact h.2.1 | (have := h.1; omega)⟩
  rw [if_neg h1]
  by_cases h2 : k = 2
  · subst h2
    rw [if_pos rfl]
    by_cases hn : n = 0
    · rw [if_pos hn]; congr 1; rw [Bool.eq_iff_iff, decide_eq_true_eq, decide_eq_true_eq]
      exact ⟨fun ht => .inr (.inr (.inl ⟨rfl, hn, ht⟩)), fun h => by rcases h with h | h | h | h | h <;> first | exact h.2.2 | (have := h.1; omega)⟩
    · rw [if_neg hn, decide_eq_false]
      rintro (h | h | h | h | h) <;> first | exact hn h.2.1 | (have := h.1; omega)
  rw [if_neg h2]
  by_cases h3 : k = 3
  · subst h3
    rw [if_pos rfl]
    have aux : ∀ b : Bool, b = (t.toList == ([] : List UInt8)) → (n = 0 ∨ n = 1) → b = decide ((3 : Int) = 0 ∧ t.toList = [] ∧ n = 0 ∨ (3 : Int) = 1 ∧ t.toList = [] ∧ n ≥ -9223372036854775807 ∨ (3 : Int) = 2 ∧ n = 0 ∧ (t.size : Int) ≤ 256 ∨ (3 : Int) = 3 ∧ t.toList = [] ∧ (n = 0 ∨ n = 1) ∨ (3 : Int) = 4 ∧ t.toList = [] ∧ n ≥ 1 ∧ n ≤ 7) := by
      intro b hb h01
      rw [hb, Bool.eq_iff_iff, beq_iff_eq, decide_eq_true_eq]
      exact ⟨fun ht => .inr (.inr (.inr (.inl ⟨rfl, ht, h01⟩))), fun h => by rcases h with h | h | h | h | h <;> first | exact h.2.1 | (have := h.1; omega)⟩
    by_cases hn : n = 0
    · rw [if_pos hn]; congr 1; exact aux _ rfl (.inl hn)
    · rw [if_neg hn]
      by_cases hn1 : n = 1
      · rw [if_pos hn1]; congr 1; exact aux _ rfl (.inr hn1)
      · rw [if_neg hn1, decide_eq_false]
        rintro (h | h | h | h | h) <;> first | (have := h.2.2; omega) | (have := h.1; omega)
  rw [if_neg h3]
  by_cases h4 : k = 4
  · subst h4
    rw [if_pos rfl]
    by_cases hn : n ≥ 1
    · rw [if_pos hn]
      by_cases hn1 : n ≤ 7
      · rw [if_pos hn1]; congr 1; rw [Bool.eq_iff_iff, beq_iff_eq, decide_eq_true_eq]
        exact ⟨fun ht => .inr (.inr (.inr (.inr ⟨rfl, ht, hn, hn1⟩))), fun h => by rcases h with h | h | h | h | h <;> first | exact h.2.1 | (have := h.1; omega)⟩
      · rw [if_neg hn1, decide_eq_false]
        rintro (h | h | h | h | h) <;> first | (have := h.2.2; omega) | (have := h.1; omega)
    · rw [if_neg hn, decide_eq_false]
      rintro (h | h | h | h | h) <;> first | (have := h.2.2; omega) | (have := h.1; omega)
  · rw [if_neg h4, decide_eq_false]
    rintro (h | h | h | h | h) <;> (have := h.1; omega)
theorem lmay_l0 (V : List S26) (hw : ∀ v ∈ V, -9223372036854775808 ≤ v.f1) (hl : V.length ≤ 100000) : ∀ (d i : Nat), i + d = V.length → Ev (fun k => look_May.l0 k V (V.length : Int) (i : Int)) ((V.drop i).all mayS)
  | 0, i, h => by
    refine Ev.step (fun k => look_May.l0.eq_2 ..) (ev_neg (by omega) ?_)
    rw [List.drop_eq_nil_of_le (by omega)]
    exact Ev.now _
  | d + 1, i, h => by
    have hi : i < V.length := by omega
    refine Ev.step (fun k => look_May.l0.eq_2 ..) (ev_pos (by omega) (ev_pos (by omega) (ev_pos (by omega) ?_)))
    rw [rdS V i hi, List.drop_eq_getElem_cons hi, List.all_cons]
    refine ev_bind (ev_some fun _ => vmay_eq V[i] (hw _ (List.getElem_mem hi))) (ev_ite (fun g => ?_) (fun g => ?_))
    · rw [g, Bool.true_and, w64s (n := 1000000) (by omega) (by omega)]
      exact lmay_l0 V hw hl d (i + 1) (by omega)
    · rw [Bool.eq_false_iff.2 g, Bool.false_and]; exact Ev.now _
theorem right_l0 (V : List S26) (hl : V.length ≤ 100000) : ∀ (d i : Nat), i + d = V.length → Ev (fun k => oculusref15_Right.l0 k V (i : Int)) ((V.drop i).all mayS)
  | 0, i, h => by
    refine Ev.step (fun k => oculusref15_Right.l0.eq_2 ..) (ev_neg (by omega) ?_)
    rw [List.drop_eq_nil_of_le (by omega)]
    exact Ev.now _
  | d + 1, i, h => by
    have hi : i < V.length := by omega
    refine Ev.step (fun k => oculusref15_Right.l0.eq_2 ..) (ev_pos (by omega) (ev_pos (by omega) ?_))
    rw [rdS V i hi, List.drop_eq_getElem_cons hi, List.all_cons]
    refine ev_bind (a := mayS V[i]) (ev_some fun _ => rfl) (ev_ite (fun g => ?_) (fun g => ?_))
    · rw [g, Bool.true_and, w64s (n := 1000000) (by omega) (by omega)]
      exact right_l0 V hl d (i + 1) (by omega)
    · rw [Bool.eq_false_iff.2 g, Bool.false_and]; exact Ev.now _
theorem lmay_ev (R C : Int) (V : List S26) (hw : ∀ v ∈ V, -9223372036854775808 ≤ v.f1) : Ev (fun k => look_May.f k R C V) (shp R C V && mayT V) := by
  unfold look_May.f
  refine ev_bind (ev_some fun _ => shaped_eq R C V) (ev_ite (fun g => ?_) (fun g => ?_))
  · rw [g, Bool.true_and]
    have hl : V.length ≤ 1000 := by rw [shp, decide_eq_true_eq] at g; omega
    exact lmay_l0 V hw (by omega) V.length 0 (by omega)
  · rw [Bool.eq_false_iff.2 g, Bool.false_and]; exact Ev.now _
theorem rmay_ev (R C : Int) (V : List S26) (hl : V.length ≤ 1200) : Ev (fun k => oculusref18_May.f k R C V) (shp R C V && mayT V) := by
  unfold oculusref18_May.f
  have no : ¬ (1 ≤ R ∧ 1 ≤ C ∧ R ≤ 1000 ∧ C ≤ 1000 ∧ V.length ≤ 1000 ∧ R * C = (V.length : Int)) → (shp R C V && mayT V) = false := fun h => by rw [shp, decide_eq_false h, Bool.false_and]
  refine ev_ite (fun g => ?_) (fun g => ?_)
  · rw [no (by omega)]; exact Ev.now _
  refine ev_ite (fun g2 => ?_) (fun g2 => ?_)
  · rw [no (by omega)]; exact Ev.now _
  refine ev_ite (fun g3 => ?_) (fun g3 => ?_)
  · rw [no (by omega)]; exact Ev.now _
  refine ev_ite (fun g4 => ?_) (fun g4 => ?_)
  · rw [no (by omega)]; exact Ev.now _
  rw [prodw (by omega) (by omega) (by omega) (by omega)]
  refine ev_ite (fun g5 => ?_) (fun g5 => ?_)
  · refine ev_bind (a := shp R C V && mayT V) ?_ (Ev.now _)
    unfold oculusref15_Right.f
    refine ev_ite (fun g6 => ?_) (fun g6 => ?_)
    · rw [no (by omega)]; exact Ev.now _
    · have : shp R C V = true := decide_eq_true ⟨by omega, by omega, by omega, by omega, by omega, g5⟩
      rw [this, Bool.true_and]
      exact right_l0 V (by omega) V.length 0 (by omega)
  · rw [no (fun h => g5 h.2.2.2.2.2)]; exact Ev.now _
theorem LookFinds : oculuslaw18_LookFinds.PureX := by
  intro a0 a1 a2 h0 h1 h2
  apply Ev.rounds
  obtain ⟨R, C, V⟩ := a0
  obtain ⟨r, c⟩ := a2
  have hw : ∀ v ∈ V, -9223372036854775808 ≤ v.f1 := fun v hv => (wf_i64 (h0.2.2.1 v hv).2.1).1
  have hr := wf_i64 h2.1
  have hc := wf_i64 h2.2
  have hr : -9223372036854775808 ≤ r ∧ r ≤ 9223372036854775807 := hr
  have hc : -9223372036854775808 ≤ c ∧ c ≤ 9223372036854775807 := hc
  show Ev (fun k => oculuslaw18_LookFinds.f k R C V a1.f0 a1.f1 a1.f2 r c) true
  unfold oculuslaw18_LookFinds.f
  refine ev_ite (fun _ => ev_bind alive18_ev (Ev.now _)) (fun hl => ?_)
  have hm := rmay_ev R C V (by omega)
  refine ev_bind (lmay_ev R C V hw) (ev_bind hm (ev_neg ?_ (ev_bind hm ?_)))
  · rw [bne_self_eq_false]; decide
  have jt : ∀ x : Int × Int, Ev (fun k => oculuslaw18_LookFinds.j0 k true R C V a1.f0 a1.f1 a1.f2 r c) true := fun _ => Ev.step (fun k => oculuslaw18_LookFinds.j0.eq_2 ..) (ev_pos rfl (ev_bind alive18_ev (Ev.now _)))
  refine ev_ite (fun g => ?_) (fun _ => jt (0, 0))
  refine ev_bind (a := mayS a1) (ev_some fun _ => rfl) ?_
  by_cases hx : mayS a1 = true
  · rw [hx]
    rw [Bool.and_eq_true] at g
    obtain ⟨gs, gm⟩ := g
    have gp := gs
    rw [shp, decide_eq_true_eq] at gp
    obtain ⟨p1, p2, p3, p4, p5, p6⟩ := gp
    have j1 : Ev (fun k => oculuslaw18_LookFinds.j1 k false R C V a1.f0 a1.f1 a1.f2) true := by
      refine Ev.step (fun k => oculuslaw18_LookFinds.j1.eq_2 ..) (ev_neg (by simp) ?_)
      have e1 := lmatch_l0 a1 hx V gm (by omega) V.length 0 (by omega)
      have e2 := rmatch_l0 a1 hx R C V gm (by omega) V.length 0 (by omega)
      rw [List.drop_zero] at e1 e2
      refine ev_bind e1 (ev_bind e2 (ev_pos rfl (ev_pos ?_ (ev_bind alive18_ev (Ev.now _)))))
      simp
    refine Ev.step (fun k => oculuslaw18_LookFinds.j0.eq_2 ..) (ev_neg (by simp) ?_)
    have hin : oculusref18_In.f R C V r c = some (decide (1 ≤ r ∧ r ≤ R ∧ 1 ≤ c ∧ c ≤ C)) := by
      unfold oculusref18_In.f
      by_cases q1 : r ≥ 1
      · by_cases q2 : r ≤ R
        · by_cases q3 : c ≥ 1
          · rw [if_pos q1, if_pos q2, if_pos q3]; congr 1; rw [Bool.eq_iff_iff, decide_eq_true_eq, decide_eq_true_eq]; exact ⟨fun h => ⟨q1, q2, q3, h⟩, fun h => h.2.2.2⟩
          · rw [if_pos q1, if_pos q2, if_neg q3, decide_eq_false (by omega)]
        · rw [if_pos q1, if_neg q2, decide_eq_false (by omega)]
      · rw [if_neg q1, decide_eq_false (by omega)]
    by_cases q : 1 ≤ r ∧ r ≤ R ∧ 1 ≤ c ∧ c ≤ C
    · obtain ⟨v, e1, e2⟩ := at_both R C V gs r c q
      refine ev_bind e1 (ev_bind (ev_some fun _ => hin) ?_)
      rw [decide_eq_true q]
      refine ev_neg (by simp) (ev_pos rfl (ev_bind (ev_some fun _ => e2) (ev_neg (by simp) j1)))
    · have e1 := at_none R C V gs r c q
      refine ev_bind e1 (ev_bind (ev_some fun _ => hin) ?_)
      rw [decide_eq_false q]
      refine ev_neg (by simp) (ev_neg (by simp) ?_)
      have e3 : (!((0 : Int) == 0) || (!((0 : Int) == 0) || (!((⟨#[]⟩ : ByteArray).toList == ([] : List UInt8))))) = false := by rw [toList_by]; rfl
      show Ev (fun k => oculuslaw18_LookFinds.j1 k (!((0 : Int) == 0) || (!((0 : Int) == 0) || (!((⟨#[]⟩ : ByteArray).toList == ([] : List UInt8))))) R C V a1.f0 a1.f1 a1.f2) true
      rw [e3]
      exact j1
  · rw [Bool.eq_false_iff.2 hx]
    exact jt (0, 0)
end Go.Proofs.Ytejkoenlfcghbaa.Pure
/- The row of the law LookFinds: for every input the call returns true and each argument reads afterwards as before, out of its pure statement and the contract of its function. Conditions: none beyond the given statement. -/
namespace Go.Proofs.Ytejkoenlfcghbaa.lookFinds
open Go.ChangeShapes Go.WideShapes Go.ChangeAt Go.RowKit
open Go.ChangeMaps (open_string shut_string)
open Go.Proofs.Ytejkoenlfcghbaa.Opn Go.Proofs.Ytejkoenlfcghbaa.X
open Go.Proofs.YtejkoenlfcghbaaW.PrintWords (Kd Drawn0)
set_option linter.unusedVariables false
theorem own : ownKnob Try.prog.godebug = none := by kernel_rfl
theorem laidOut : laidOutB Try.prog = true := by kernel_rfl
set_option maxRecDepth 100000 in
set_option maxHeartbeats 1000000 in
theorem lifted (os : Os) (started : os.Started) (H : Type) (enc : TypeId × Value → H) :
    ReturnsInHanded {} Try.checked os 4 .any (Rows.lookFindsSpec.pre6 enc Try.prog Try.f4 Rows.lookFindsRow.domain false) (Rows.lookFindsSpec.post enc Try.prog Try.f4 false true false false) := by
  refine returnsInHanded_of_change_sized (C := Try.checked) own started (by kernel_rfl) Try.func4
    (ChangeSpec.witness6 (enc := enc) (C := Try.checked) false ⟨#[], #[.agg #[.int .i64 0, .int .i64 0, .slice none 0 0], .agg #[.int .i64 0, .int .i64 0, .string ByteArray.empty], .agg #[.int .i64 0, .int .i64 0]], []⟩ 8 (by kernel_rfl) (by kernel_rfl) (by kernel_rfl) (by kernel_rfl)) ?_
  intro W base args ds gs before hval0 hW hcnd hsz0 _
  have hsz : (DataW.weightsEach Try.prog (Try.f4.params.toList ++ Rows.lookFindsSpec.plain.varTypes Try.prog) (ds ++ gs)).all (· ≤ reachBytes) = true := hsz0
  have hval : ∀ (j : Nat) t v, Try.f4.params[j]? = some t → args[j]? = some v → Value.okWide Try.prog W .any base t v := hval0
  have hW' := hW
  obtain ⟨p, q, hA0, hV, rfl, hfz, hnd⟩ := hW
  have hA : DataW.TrodAll enc Try.prog W 0 (fun _ => true) true Try.f4.params.toList args.toList ds p := hA0
  rw [Try.params4] at hA hval hsz
  obtain ⟨v0, vs0, d0, ds0, p0, q0, hargs, rfl, rfl, h0, r0⟩ := trodAll_cons hA
  obtain ⟨v1, vs1, d1, ds1, p1, q1, rfl, rfl, rfl, h1, r1⟩ := trodAll_cons r0
  obtain ⟨v2, vs2, d2, ds2, p2, q2, rfl, rfl, rfl, h2, r2⟩ := trodAll_cons r1
  obtain ⟨rfl, rfl, rfl⟩ := trodAll_nil r2
  obtain rfl : args = #[v0, v1, v2] := by cases args; simp_all
  obtain ⟨rfl, rfl⟩ := trodVars_none hV
  have lt0 : ∀ x ∈ p0, x.block < W.heap.size := by obtain ⟨m, hm⟩ := h0; exact DataW.trod_lt m _ _ _ hm
  have hw0 : ∀ m ∈ d0.weights Try.prog 24, m ≤ reachBytes := fun m hm => of_decide_eq_true (List.all_eq_true.1 hsz m (DataW.weights_mem_each (j := 0) (t := 24) rfl rfl m hm))
  obtain ⟨a0, K0, g0⟩ : ∃ a, (k24 : Kd S24).K W a v0.cells.toList ∧ (good24 a) := by
    obtain ⟨fuel, hf⟩ := h0
    exact opens24 hf hw0
  obtain ⟨cs0, rfl, _⟩ := okWide_struct Try.underlying24 (hval 0 24 v0 rfl rfl)
  have KO0 := k24_open K0
  obtain ⟨A0_0, c0_0, KE0, hc0_0, C0_0⟩ := KO0
  obtain rfl : cs0 = #[.int .i64 a0.f0, .int .i64 a0.f1, .slice A0_0 (a0.f2).length c0_0] := by
    have : cs0.toList = _ := KE0
    cases cs0; simp_all
  have lt1 : ∀ x ∈ p1, x.block < W.heap.size := by obtain ⟨m, hm⟩ := h1; exact DataW.trod_lt m _ _ _ hm
  have hw1 : ∀ m ∈ d1.weights Try.prog 26, m ≤ reachBytes := fun m hm => of_decide_eq_true (List.all_eq_true.1 hsz m (DataW.weights_mem_each (j := 1) (t := 26) rfl rfl m hm))
  obtain ⟨a1, K1, g1⟩ : ∃ a, (k26 : Kd S26).K W a v1.cells.toList ∧ (good26 a) := by
    obtain ⟨fuel, hf⟩ := h1
    exact opens26 hf hw1
  obtain ⟨cs1, rfl, _⟩ := okWide_struct Try.underlying26 (hval 1 26 v1 rfl rfl)
  have KO1 := k26_open K1
  obtain rfl : cs1 = #[.int .i64 a1.f0, .int .i64 a1.f1, .string a1.f2] := by
    have : cs1.toList = _ := KO1
    cases cs1; simp_all
  have lt2 : ∀ x ∈ p2, x.block < W.heap.size := by obtain ⟨m, hm⟩ := h2; exact DataW.trod_lt m _ _ _ hm
  have hw2 : ∀ m ∈ d2.weights Try.prog 33, m ≤ reachBytes := fun m hm => of_decide_eq_true (List.all_eq_true.1 hsz m (DataW.weights_mem_each (j := 2) (t := 33) rfl rfl m hm))
  obtain ⟨a2, K2, g2⟩ : ∃ a, (k33 : Kd S33).K W a v2.cells.toList ∧ (good33 a) := by
    obtain ⟨fuel, hf⟩ := h2
    exact opens33 hf hw2
  obtain ⟨cs2, rfl, _⟩ := okWide_array Try.underlying33 (hval 2 33 v2 rfl rfl)
  have KO2 := k33_open K2
  obtain rfl : cs2 = #[.int .i64 a2.f0, .int .i64 a2.f1] := by
    have : cs2.toList = _ := KO2
    cases cs2; simp_all
  obtain ⟨k, hk⟩ := Pure.LookFinds a0 a1 a2 g0 g1 g2
  clear hA0 hval0 hsz0 hsz
  refine (oculuslaw18_LookFinds.calls k (a0.f0) (a0.f1) A0_0 c0_0 (a0.f2) (a1.f0) (a1.f1) (a1.f2) (a2.f0) (a2.f1) true W C0_0 hc0_0 hk).mono fun e W' ⟨he, bel0⟩ => ?_
  have bel : Below W.heap.size W W' := bel0
  subst he
  exact ⟨_, rfl, _, _, _, [], _, [], hW', trodAll_mk1 (shut_bool Try.underlying4 _), (trodAll_cons_mk (Below.trod laidOut (by kernel_rfl) (of_decide_eq_true (by kernel_rfl)) h0 bel lt0) (trodAll_cons_mk (Below.trod laidOut (by kernel_rfl) (of_decide_eq_true (by kernel_rfl)) h1 bel lt1) (trodAll_cons_mk (Below.trod laidOut (by kernel_rfl) (of_decide_eq_true (by kernel_rfl)) h2 bel lt2) trodAll_mk0))), rfl, bel.frame _, fun h => by cases h⟩
theorem over : Rows.lookFindsRow.holds Try.pinned (OpenSpec.ofChange Rows.lookFindsSpec) :=
  OpenClaim.holds_of_wide 4 Try.f4 rfl rfl rfl rfl rfl rfl rfl ⟨rfl, rfl, rfl, rfl, rfl⟩ rfl rfl rfl rfl rfl (by kernel_rfl) Try.func4 (by kernel_rfl)
    (of_decide_eq_true (by kernel_rfl)) (by unfold Func.isWrapper; first | (rw [if_pos (by decide +kernel)]; kernel_rfl) | (rw [if_neg (by decide +kernel)]; exact ⟨rfl, rfl⟩))
    (fun os started H enc _ => lifted os started H enc)
theorem proved : Rows.LookFindsSaid := over
end Go.Proofs.Ytejkoenlfcghbaa.lookFinds
namespace Go.Proofs.Ytejkoenlfcghbaa
/-- The row, under a short name, for the claim. -/
theorem lookFinds_holds : Rows.LookFindsSaid := lookFinds.proved
#print axioms lookFinds_holds
end Go.Proofs.Ytejkoenlfcghbaa
