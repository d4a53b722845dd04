/- Contracts of the functions that the law LookAcross reaches, and what they answer (a session's own texts, joined; part 7). -/
import Derived.Deep.Slices
import Derived.ChangeArms
import Derived.SizedLaws
import Derived.OpenShut
import Derived.Laws.BitsAllLaws
import Derived.Lib.Strings
import Derived.Lib.IndexBytes
import Derived.Test.YtejkoenlfcghbaaBLookAcross6
namespace Go.Proofs.Ytejkoenlfcghbaa.X
open Go.RowKit Go.Proofs.YtejkoenlfcghbaaW.PrintWords Go.Proofs.YtejkoenlfcghbaaW.PrintLast Go.Proofs.YtejkoenlfcghbaaW.PrintMore
attribute [local go_sem] max2_int min2_int max_two min_two max_three min_three max_four min_four
set_option linter.unusedVariables false
set_option linter.unusedSimpArgs false
attribute [local go_sem high] eqA26
mutual
def oculuslaw18_LookAcross.j0 : Nat → Int → Bool → Int → Int → List (S26) → Int → Int → ByteArray → Option (Bool)
 | 0, _, _, _, _, _, _, _, _ => none
 | k + 1, x2, x25, x102000, x102001, x102002, x103000, x103001, x103002 => if x25 = true then ((oculuslaw18_alive.f k).bind fun t105 => (some t105)) else (oculuslaw18_LookAcross.l0 k x2 1 x102000 x102001 x102002 x103000 x103001 x103002 x102001 x102000 ([] : List (S26)))
def oculuslaw18_LookAcross.l0 : Nat → Int → Int → Int → Int → List (S26) → Int → Int → ByteArray → Int → Int → List (S26) → Option (Bool)
 | 0, _, _, _, _, _, _, _, _, _, _, _ => none
 | k + 1, x2, x8, x102000, x102001, x102002, x103000, x103001, x103002, x107000, x107001, x107002 => if x8 ≤ x102001 then (oculuslaw18_LookAcross.l1 k x2 x8 1 x102000 x102001 x102002 x103000 x103001 x103002 x107000 x107001 x107002) else ((look_Down.f k x103000 x103001 x103002 x102000 x102001 x102002 x2).bind fun bt113 => ((look_Across.f k x103000 x103001 x103002 x102000 x102001 x102002 x2).bind fun bt116 => ((oculusref18_Down.f k x103000 x103001 x103002 x102000 x102001 x102002 x2).bind fun bt121 => (if (bt113.1 == bt121.1 && (bt113.2.1 == bt121.2.1 && (bt113.2.2.toList == bt121.2.2.toList))) = true then ((oculusref18_Across.f k x103000 x103001 x103002 x102000 x102001 x102002 x2).bind fun bt124 => (if (bt116.1 == bt124.1 && (bt116.2.1 == bt124.2.1 && (bt116.2.2.toList == bt124.2.2.toList))) = true then ((look_Across.f k x103000 x103001 x103002 x107000 x107001 x107002 x2).bind fun bt127 => (if (bt127.1 == bt113.1 && (bt127.2.1 == bt113.2.1 && (bt127.2.2.toList == bt113.2.2.toList))) = true then ((look_Down.f k x103000 x103001 x103002 x107000 x107001 x107002 x2).bind fun bt130 => (if (bt130.1 == bt116.1 && (bt130.2.1 == bt116.2.1 && (bt130.2.2.toList == bt116.2.2.toList))) = true then ((oculuslaw18_alive.f k).bind fun t133 => (some t133)) else (none))) else (none))) else (none))) else (none)))))
def oculuslaw18_LookAcross.l1 : Nat → Int → Int → Int → Int → Int → List (S26) → Int → Int → ByteArray → Int → Int → List (S26) → Option (Bool)
 | 0, _, _, _, _, _, _, _, _, _, _, _, _ => none
 | k + 1, x2, x8, x9, x102000, x102001, x102002, x103000, x103001, x103002, x107000, x107001, x107002 => if x9 ≤ x102000 then ((oculusref18_At.f x102000 x102001 x102002 x9 x8).bind fun bt107 => (if x107002.length < 4398046511104 then (oculuslaw18_LookAcross.l1 k x2 x8 (wrap64 (x9 + 1)) x102000 x102001 x102002 x103000 x103001 x103002 x107000 x107001 (x107002 ++ [(⟨bt107.1, bt107.2.1, bt107.2.2⟩ : S26)])) else (none))) else (oculuslaw18_LookAcross.l0 k x2 (wrap64 (x8 + 1)) x102000 x102001 x102002 x103000 x103001 x103002 x107000 x107001 x107002)
end
def oculuslaw18_LookAcross.f (k : Nat) (a0_0 : Int) (a0_1 : Int) (l0_2 : List (S26)) (a1_0 : Int) (a1_1 : Int) (a1_2 : ByteArray) (a2 : Int) : Option (Bool) := (oculuslaw18_small.f k a0_0 a0_1 l0_2).bind fun t103 => (if t103 = true then ((oculusref12_May.f a1_0 a1_1 a1_2).bind fun t104 => (if t104 = true then (oculuslaw18_LookAcross.j0 k a2 (decide ((a1_2.size : Int) > 60)) a0_0 a0_1 l0_2 a1_0 a1_1 a1_2) else (oculuslaw18_LookAcross.j0 k a2 true a0_0 a0_1 l0_2 a1_0 a1_1 a1_2))) else (oculuslaw18_LookAcross.j0 k a2 true a0_0 a0_1 l0_2 a1_0 a1_1 a1_2))
def oculuslaw18_LookAcross.T10 : Bool × List (List Nat × List Nat) := (true, [([], []), ([0], [0]), ([], []), ([], []), ([], []), ([2, 3, 4], [2, 3, 4]), ([5], [5]), ([1, 6, 5], [1, 6]), ([0, 1, 2, 3, 4, 5, 6, 7], []), ([8, 7, 7, 0, 1, 2, 3, 4, 5, 6, 7], [7, 8])])
def oculuslaw18_LookAcross.B10 : List Nat := [0, 1, 0, 0, 0, 28, 60, 127, 255, 511]
theorem oculuslaw18_LookAcross.tab10 : rtab .any (opsOf Try.f3 10) = oculuslaw18_LookAcross.T10 := by kernel_rfl
theorem oculuslaw18_LookAcross.bits10 : waitsOk oculuslaw18_LookAcross.T10.2 oculuslaw18_LookAcross.B10 = true := by kernel_rfl
def oculuslaw18_LookAcross.T11 : Bool × List (List Nat × List Nat) := (true, [([], []), ([], []), ([], []), ([0, 1, 2], [0, 1, 2]), ([], []), ([], []), ([], []), ([4, 5, 6, 3], [4, 5, 6]), ([], []), ([], []), ([8, 3, 7, 0, 1, 2, 3, 8, 9], [3, 8]), ([9, 7, 10, 0, 1, 2, 3, 4, 5, 6, 7, 8, 9, 10], [7, 9])])
def oculuslaw18_LookAcross.B11 : List Nat := [0, 0, 0, 7, 0, 0, 0, 127, 0, 0, 1023, 2047]
theorem oculuslaw18_LookAcross.tab11 : rtab .any (opsOf Try.f3 11) = oculuslaw18_LookAcross.T11 := by kernel_rfl
theorem oculuslaw18_LookAcross.bits11 : waitsOk oculuslaw18_LookAcross.T11.2 oculuslaw18_LookAcross.B11 = true := by kernel_rfl
def oculuslaw18_LookAcross.T12 : Bool × List (List Nat × List Nat) := (true, [([], []), ([], []), ([], []), ([], []), ([1, 2, 3], [1, 2, 3]), ([0, 4], [0, 4]), ([5, 4], [5]), ([6], [6]), ([6], [6]), ([6], [6]), ([6], [6]), ([8, 9, 10, 6, 6], [6, 8, 9, 10]), ([7, 11, 6], [6, 7, 11]), ([6, 12], [6, 12]), ([13, 11], [13]), ([14], [14]), ([14], [14]), ([14], [14]), ([15, 16, 17, 14, 14], [14, 15, 16, 17]), ([14], [14]), ([18, 19, 14], [14, 18, 19]), ([14, 20], [14, 20]), ([21, 18], [21]), ([22], [22]), ([22], [22]), ([22], [22]), ([23, 24, 25, 22, 22], [22, 23, 24, 25]), ([22], [22]), ([26, 27, 22], [22, 26, 27]), ([22, 28], [22, 28]), ([29, 26], [29]), ([30, 30], [30]), ([30, 31], [30, 31]), ([32, 31, 0, 1, 2, 3, 4, 5, 6, 7, 8, 9, 10, 11, 12, 13, 14, 15, 16, 17, 18, 19, 20, 21, 22, 23, 24, 25, 26, 27, 28, 29, 30, 31, 32], [32])])
def oculuslaw18_LookAcross.B12 : List Nat := [0, 0, 0, 0, 14, 31, 63, 127, 127, 127, 127, 1919, 4095, 8191, 16383, 32767, 32767, 32767, 262143, 32767, 1048575, 2097151, 4194303, 8388607, 8388607, 8388607, 67108863, 8388607, 268435455, 536870911, 1073741823, 2147483647, 4294967295, 8589934591]
theorem oculuslaw18_LookAcross.tab12 : rtab .any (opsOf Try.f3 12) = oculuslaw18_LookAcross.T12 := by kernel_rfl
theorem oculuslaw18_LookAcross.bits12 : waitsOk oculuslaw18_LookAcross.T12.2 oculuslaw18_LookAcross.B12 = true := by kernel_rfl
set_option maxHeartbeats 8000000 in
set_option maxRecDepth 100000 in
theorem oculuslaw18_LookAcross.calls (k : Nat) (a0_0 : Int) (a0_1 : Int) (A0_2 : Option Addr) (c0_2 : Nat) (l0_2 : List (S26)) (a1_0 : Int) (a1_1 : Int) (a1_2 : ByteArray) (a2 : Int) (r : Bool) (w : World) (hr0_2 : Kd.C k26 w A0_2 l0_2.length l0_2) (hc0_2 : l0_2.length ≤ c0_2) (h : oculuslaw18_LookAcross.f k a0_0 a0_1 l0_2 a1_0 a1_1 a1_2 a2 = some r) :
  Calls Try.prog 3 #[.agg #[.int .i64 a0_0, .int .i64 a0_1, .slice A0_2 l0_2.length c0_2], .agg #[.int .i64 a1_0, .int .i64 a1_1, .string a1_2], .int .i64 a2] w fun e w' => e = .returned (.bool r) ∧ Below w.heap.size w w' := by
 have hu24 := Try.underlying24; have hu26 := Try.underlying26; have HR0_2 := Aside0.mk hr0_2; have HC0_2 := Aside0.mk hc0_2; clear hr0_2 hc0_2; have HB := Aside0.mk (Below.refl w.heap.size w)
 have H : ((oculuslaw18_small.f k a0_0 a0_1 l0_2).bind fun t103 => (if t103 = true then ((oculusref12_May.f a1_0 a1_1 a1_2).bind fun t104 => (if t104 = true then (oculuslaw18_LookAcross.j0 k a2 (decide ((a1_2.size : Int) > 60)) a0_0 a0_1 l0_2 a1_0 a1_1 a1_2) else (oculuslaw18_LookAcross.j0 k a2 true a0_0 a0_1 l0_2 a1_0 a1_1 a1_2))) else (oculuslaw18_LookAcross.j0 k a2 true a0_0 a0_1 l0_2 a1_0 a1_1 a1_2))) = some r := h
 clear h; have HC4 := Aside0.mk H; clear H
 go_enter Try.func3, Try.ntmps3
 go_upto_region 1 with (first | ((with_reducible refine gate_dst (N:=3) rfl ?_); (try (refine gate_guard (by rfl) ?_; dsimp only)); refine be_ (N:=3) (cs := #[.int .i64 a0_0, .int .i64 a0_1, .slice A0_2 l0_2.length c0_2]) (t:=24) ?_; intro gb101 hg w5 hbox hb; have BK101 := Aside0.mk (hbox); have GW101 := hs_ HB hg; have GE101 := hs_ HB hg; replace HB := bs_ HB hb; clear hb hbox hg) | ((with_reducible refine gate_dst (N:=4) rfl ?_); (try (refine gate_guard (by rfl) ?_; dsimp only)); refine be_ (N:=4) (cs := #[.int .i64 a1_0, .int .i64 a1_1, .string a1_2]) (t:=26) ?_; intro gb102 hg w6 hbox hb; have BK102 := Aside0.mk (hbox); have GW102 := hs_ HB hg; have GE102 := hs_ HB hg; have NB101_102 := hl_ BK101 hg; have NB102_101 := hr_ BK101 hg; replace BK101 := bb_ BK101 hb; replace HB := bs_ HB hb; clear hb hbox hg))
 (try simp only [q_])
 go_cut [25] (fun v25 wc => ∃ (kq : Nat) (x25_3 : Bool), v25 = .bool x25_3 ∧ Aside0 (oculuslaw18_LookAcross.j0 kq a2 x25_3 a0_0 a0_1 l0_2 a1_0 a1_1 a1_2 = some r) ∧ Aside0 (kq ≤ k) ∧ Aside0 (wc.heap[gb101]? = some (.cells #[.int .i64 a0_0, .int .i64 a0_1, (.slice A0_2 l0_2.length c0_2)] 24 (0, 0))) ∧ Aside0 (wc.heap[gb102]? = some (.cells #[.int .i64 a1_0, .int .i64 a1_1, .string a1_2] 26 (0, 0))) ∧ Aside0 (Below w.heap.size w wc))
 case first =>
  have H := HC4.out; clear HC4; replace H := Option.bind_eq_some_iff.mp H; obtain ⟨t103, A70, H⟩ := H
  replace H : (if t103 = true then ((oculusref12_May.f a1_0 a1_1 a1_2).bind fun t104 => (if t104 = true then (oculuslaw18_LookAcross.j0 k a2 (decide ((a1_2.size : Int) > 60)) a0_0 a0_1 l0_2 a1_0 a1_1 a1_2) else (oculuslaw18_LookAcross.j0 k a2 true a0_0 a0_1 l0_2 a1_0 a1_1 a1_2))) else (oculuslaw18_LookAcross.j0 k a2 true a0_0 a0_1 l0_2 a1_0 a1_1 a1_2)) = some r := H
  have A7 := Aside0.mk A70; clear A70
  by_cases c8 : t103 = true
  ·subst c8
   have H1 : ((oculusref12_May.f a1_0 a1_1 a1_2).bind fun t104 => (if t104 = true then (oculuslaw18_LookAcross.j0 k a2 (decide ((a1_2.size : Int) > 60)) a0_0 a0_1 l0_2 a1_0 a1_1 a1_2) else (oculuslaw18_LookAcross.j0 k a2 true a0_0 a0_1 l0_2 a1_0 a1_1 a1_2))) = some r := by rw [if_pos rfl] at H; exact H
   clear H; have H := H1; clear H1; replace H := Option.bind_eq_some_iff.mp H; obtain ⟨t104, A90, H⟩ := H
   replace H : (if t104 = true then (oculuslaw18_LookAcross.j0 k a2 (decide ((a1_2.size : Int) > 60)) a0_0 a0_1 l0_2 a1_0 a1_1 a1_2) else (oculuslaw18_LookAcross.j0 k a2 true a0_0 a0_1 l0_2 a1_0 a1_1 a1_2)) = some r := H
   have A9 := Aside0.mk A90; clear A90
   by_cases c10 : t104 = true
   ·subst c10
    have H1 : (oculuslaw18_LookAcross.j0 k a2 (decide ((a1_2.size : Int) > 60)) a0_0 a0_1 l0_2 a1_0 a1_1 a1_2) = some r := by rw [if_pos rfl] at H; exact H
    clear H; have H := H1; clear H1
    have H' := Aside0.mk H
    clear H; have hnb11 := NB101_102.out; have hnc11 := NB102_101.out
    have hcz12_0 : w6.cell? ⟨gb101, 0, none⟩ = some (.int .i64 a0_0) := bc_ BK101 0 rfl
    have hcz12_1 : w6.cell? ⟨gb101, 1, none⟩ = some (.int .i64 a0_1) := bc_ BK101 1 rfl
    have hcz12_2 : w6.cell? ⟨gb101, 2, none⟩ = some (.slice A0_2 l0_2.length c0_2) := bc_ BK101 2 rfl
    have hfz12_0 := blk_frozen BK101.out 0; have hfz12_1 := blk_frozen BK101.out 1; have hfz12_2 := blk_frozen BK101.out 2
    go_wp2_with (first | ((with_reducible refine gate_callee (f:=5) rfl ?_); refine gL_ (some 13) rfl rfl Try.func5 rfl #[.agg #[.int .i64 a0_0, .int .i64 a0_1, .slice A0_2 l0_2.length c0_2]] rfl ?_; (with_reducible refine (oculuslaw18_small.calls k a0_0 a0_1 _ _ l0_2 true _ ?side1 ?side2 A7.out).mono ?_); (case side1 => repeat (first | exact (Kd.C_below HR0_2.out HB.out) | (with_reducible refine Kd.C_alloc ?_ _) | (with_reducible refine Kd.C_drewN ?_ _) | (with_reducible refine Kd.C_drew ?_))); (case side2 => exact HC0_2.out); rintro e w13 ⟨rfl, hb⟩; refine ⟨_, rfl, ?_⟩; replace BK101 := bb_ BK101 hb; replace BK102 := bb_ BK102 hb; replace HB := bs_ HB hb; (try clear hb); (try clear hb2); (try clear hk); (try clear hi); have hcz14_0 : w13.cell? ⟨gb102, 0, none⟩ = some (.int .i64 a1_0) := bc_ BK102 0 rfl; have hcz14_1 : w13.cell? ⟨gb102, 1, none⟩ = some (.int .i64 a1_1) := bc_ BK102 1 rfl; have hcz14_2 : w13.cell? ⟨gb102, 2, none⟩ = some (.string a1_2) := bc_ BK102 2 rfl; have hfz14_0 := blk_frozen BK102.out 0; have hfz14_1 := blk_frozen BK102.out 1; have hfz14_2 := blk_frozen BK102.out 2) | (go_at_call 6; (with_reducible refine (oculusref12_May.calls a1_0 a1_1 a1_2 true _ A9.out).mono ?_); rintro e w15 ⟨rfl, hb⟩; replace BK101 := bb_ BK101 hb; replace BK102 := bb_ BK102 hb; replace HB := bs_ HB hb; (try clear hb); (try clear hb2); (try clear hk); (try clear hi); have hcz16_0 : w15.cell? ⟨gb102, 0, none⟩ = some (.int .i64 a1_0) := bc_ BK102 0 rfl; have hcz16_1 : w15.cell? ⟨gb102, 1, none⟩ = some (.int .i64 a1_1) := bc_ BK102 1 rfl; have hcz16_2 : w15.cell? ⟨gb102, 2, none⟩ = some (.string a1_2) := bc_ BK102 2 rfl; have hfz16_0 := blk_frozen BK102.out 0; have hfz16_1 := blk_frozen BK102.out 1; have hfz16_2 := blk_frozen BK102.out 2))
    go_meet
    case rel => exact ⟨_, (decide ((a1_2.size : Int) > 60)), (by first | rfl | (simp; done) | (simp [*]; done)), H', ⟨by first | omega | exact Nat.le_refl _⟩, ⟨pkx BK101⟩, ⟨pkx BK102⟩, ⟨pbx HB⟩⟩
   ·replace c10 := Bool.eq_false_iff.mpr c10; subst c10
    have H1 : (oculuslaw18_LookAcross.j0 k a2 true a0_0 a0_1 l0_2 a1_0 a1_1 a1_2) = some r := by rw [if_neg (show ¬ (false = true) by decide)] at H; exact H
    clear H; have H := H1; clear H1
    have H' := Aside0.mk H
    clear H; have hnb17 := NB101_102.out; have hnc17 := NB102_101.out
    have hcz18_0 : w6.cell? ⟨gb101, 0, none⟩ = some (.int .i64 a0_0) := bc_ BK101 0 rfl
    have hcz18_1 : w6.cell? ⟨gb101, 1, none⟩ = some (.int .i64 a0_1) := bc_ BK101 1 rfl
    have hcz18_2 : w6.cell? ⟨gb101, 2, none⟩ = some (.slice A0_2 l0_2.length c0_2) := bc_ BK101 2 rfl
    have hfz18_0 := blk_frozen BK101.out 0; have hfz18_1 := blk_frozen BK101.out 1; have hfz18_2 := blk_frozen BK101.out 2
    go_wp2_with (first | ((with_reducible refine gate_callee (f:=5) rfl ?_); refine gL_ (some 13) rfl rfl Try.func5 rfl #[.agg #[.int .i64 a0_0, .int .i64 a0_1, .slice A0_2 l0_2.length c0_2]] rfl ?_; (with_reducible refine (oculuslaw18_small.calls k a0_0 a0_1 _ _ l0_2 true _ ?side1 ?side2 A7.out).mono ?_); (case side1 => repeat (first | exact (Kd.C_below HR0_2.out HB.out) | (with_reducible refine Kd.C_alloc ?_ _) | (with_reducible refine Kd.C_drewN ?_ _) | (with_reducible refine Kd.C_drew ?_))); (case side2 => exact HC0_2.out); rintro e w19 ⟨rfl, hb⟩; refine ⟨_, rfl, ?_⟩; replace BK101 := bb_ BK101 hb; replace BK102 := bb_ BK102 hb; replace HB := bs_ HB hb; (try clear hb); (try clear hb2); (try clear hk); (try clear hi); have hcz20_0 : w19.cell? ⟨gb102, 0, none⟩ = some (.int .i64 a1_0) := bc_ BK102 0 rfl; have hcz20_1 : w19.cell? ⟨gb102, 1, none⟩ = some (.int .i64 a1_1) := bc_ BK102 1 rfl; have hcz20_2 : w19.cell? ⟨gb102, 2, none⟩ = some (.string a1_2) := bc_ BK102 2 rfl; have hfz20_0 := blk_frozen BK102.out 0; have hfz20_1 := blk_frozen BK102.out 1; have hfz20_2 := blk_frozen BK102.out 2) | (go_at_call 6; (with_reducible refine (oculusref12_May.calls a1_0 a1_1 a1_2 false _ A9.out).mono ?_); rintro e w21 ⟨rfl, hb⟩; replace BK101 := bb_ BK101 hb; replace BK102 := bb_ BK102 hb; replace HB := bs_ HB hb; (try clear hb); (try clear hb2); (try clear hk); (try clear hi)))
    go_meet
    case rel => exact ⟨_, (true), (by first | rfl | (simp; done) | (simp [*]; done)), H', ⟨by first | omega | exact Nat.le_refl _⟩, ⟨pkx BK101⟩, ⟨pkx BK102⟩, ⟨pbx HB⟩⟩
  ·replace c8 := Bool.eq_false_iff.mpr c8; subst c8
   have H1 : (oculuslaw18_LookAcross.j0 k a2 true a0_0 a0_1 l0_2 a1_0 a1_1 a1_2) = some r := by rw [if_neg (show ¬ (false = true) by decide)] at H; exact H
   clear H; have H := H1; clear H1
   have H' := Aside0.mk H
   clear H; have hnb22 := NB101_102.out; have hnc22 := NB102_101.out
   have hcz23_0 : w6.cell? ⟨gb101, 0, none⟩ = some (.int .i64 a0_0) := bc_ BK101 0 rfl
   have hcz23_1 : w6.cell? ⟨gb101, 1, none⟩ = some (.int .i64 a0_1) := bc_ BK101 1 rfl
   have hcz23_2 : w6.cell? ⟨gb101, 2, none⟩ = some (.slice A0_2 l0_2.length c0_2) := bc_ BK101 2 rfl
   have hfz23_0 := blk_frozen BK101.out 0; have hfz23_1 := blk_frozen BK101.out 1; have hfz23_2 := blk_frozen BK101.out 2
   go_wp2_with (first | ((with_reducible refine gate_callee (f:=5) rfl ?_); refine gL_ (some 13) rfl rfl Try.func5 rfl #[.agg #[.int .i64 a0_0, .int .i64 a0_1, .slice A0_2 l0_2.length c0_2]] rfl ?_; (with_reducible refine (oculuslaw18_small.calls k a0_0 a0_1 _ _ l0_2 false _ ?side1 ?side2 A7.out).mono ?_); (case side1 => repeat (first | exact (Kd.C_below HR0_2.out HB.out) | (with_reducible refine Kd.C_alloc ?_ _) | (with_reducible refine Kd.C_drewN ?_ _) | (with_reducible refine Kd.C_drew ?_))); (case side2 => exact HC0_2.out); rintro e w24 ⟨rfl, hb⟩; refine ⟨_, rfl, ?_⟩; replace BK101 := bb_ BK101 hb; replace BK102 := bb_ BK102 hb; replace HB := bs_ HB hb; (try clear hb); (try clear hb2); (try clear hk); (try clear hi)))
   go_meet
   case rel => exact ⟨_, (true), (by first | rfl | (simp; done) | (simp [*]; done)), H', ⟨by first | omega | exact Nat.le_refl _⟩, ⟨pkx BK101⟩, ⟨pkx BK102⟩, ⟨pbx HB⟩⟩
 case rest =>
  clear HC4; (try clear c1); (try clear c2); (try clear p2); (try clear c3); (try clear c5); (try clear c8); (try clear c10); (try clear c11); (try clear c17); (try clear c22); (try clear hcz12_0); (try clear hcz12_1); (try clear hcz12_2); (try clear hcz14_0); (try clear hcz14_1); (try clear hcz14_2); (try clear hcz16_0); (try clear hcz16_1); (try clear hcz16_2); (try clear hcz18_0); (try clear hcz18_1); (try clear hcz18_2); (try clear hcz20_0); (try clear hcz20_1); (try clear hcz20_2); (try clear hcz23_0); (try clear hcz23_1); (try clear hcz23_2); (try clear hfz12_0); (try clear hfz12_1); (try clear hfz12_2); (try clear hfz14_0); (try clear hfz14_1); (try clear hfz14_2); (try clear hfz16_0); (try clear hfz16_1); (try clear hfz16_2); (try clear hfz18_0); (try clear hfz18_1); (try clear hfz18_2); (try clear hfz20_0); (try clear hfz20_1); (try clear hfz20_2); (try clear hfz23_0); (try clear hfz23_1)
  (try clear hfz23_2); obtain ⟨kq, x25_3, rfl, HA, HJ3, BK101, BK102, HB⟩ := hcut
  cases kq with
  | zero => exact absurd HA.out (by simp [oculuslaw18_LookAcross.j0])
  | succ kj3 =>
   have H := HA.out; clear HA
   simp only [oculuslaw18_LookAcross.j0] at H
   by_cases c25 : x25_3 = true
   ·subst c25
    have H1 : ((oculuslaw18_alive.f kj3).bind fun t105 => (some t105)) = some r := by rw [if_pos rfl] at H; exact H
    clear H; have H := H1; clear H1; replace H := Option.bind_eq_some_iff.mp H; obtain ⟨t105, A260, H⟩ := H
    replace H : (some t105) = some r := H
    have A26 := Aside0.mk A260; clear A260; obtain rfl := Option.some.inj H
    go_wp2_with (first | ((with_reducible refine gate_callee (f:=7) rfl ?_); refine gL_ (some 26) rfl rfl Try.func7 rfl #[] rfl ?_; (with_reducible refine (oculuslaw18_alive.calls kj3  t105 _ A26.out).mono ?_); rintro e w27 ⟨rfl, hb⟩; refine ⟨_, rfl, ?_⟩; replace BK101 := bb_ BK101 hb; replace BK102 := bb_ BK102 hb; replace HB := bs_ HB hb; (try clear hb); (try clear hb2); (try clear hk); (try clear hi)))
    go_ret
    exact ⟨by first | rfl | (simp [errW_none, errW_some] <;> rfl) | (simp [*, errW_none, errW_some] <;> rfl), pbx HB⟩
   ·replace c25 := Bool.eq_false_iff.mpr c25; subst c25
    have H1 : (oculuslaw18_LookAcross.l0 kj3 a2 1 a0_0 a0_1 l0_2 a1_0 a1_1 a1_2 a0_1 a0_0 ([] : List (S26))) = some r := by rw [if_neg (show ¬ (false = true) by decide)] at H; exact H
    clear H; have H := H1; clear H1
    have H' := Aside0.mk H
    clear H; have hnb28 := NB101_102.out; have hnc28 := NB102_101.out
    have hcz29_0 : wc.cell? ⟨gb101, 0, none⟩ = some (.int .i64 a0_0) := bc_ BK101 0 rfl
    have hcz29_1 : wc.cell? ⟨gb101, 1, none⟩ = some (.int .i64 a0_1) := bc_ BK101 1 rfl
    have hcz29_2 : wc.cell? ⟨gb101, 2, none⟩ = some (.slice A0_2 l0_2.length c0_2) := bc_ BK101 2 rfl
    have hfz29_0 := blk_frozen BK101.out 0; have hfz29_1 := blk_frozen BK101.out 1; have hfz29_2 := blk_frozen BK101.out 2
    go_wp2_with (first | ((with_reducible refine gate_dst (N:=7) rfl ?_); (try (refine gate_guard (by rfl) ?_; dsimp only)); refine be_ (N:=7) (cs := #[.int .i64 0, .int .i64 0, .slice none 0 0]) (t:=24) ?_; intro gb106 hg w30 hbox hb; have BK106 := Aside0.mk (hbox); have GW106 := hs_ HB hg; have GE106 := hs_ HB hg; have NB101_106 := hl_ BK101 hg; have NB106_101 := hr_ BK101 hg; have NB102_106 := hl_ BK102 hg; have NB106_102 := hr_ BK102 hg; replace BK101 := bb_ BK101 hb; replace BK102 := bb_ BK102 hb; replace HB := bs_ HB hb; clear hb hbox hg; have hnb31 := NB106_101.out; have hnc31 := NB101_106.out; have hnb32 := NB106_102.out; have hnc32 := NB102_106.out; have hcz33_0 : w30.cell? ⟨gb106, 0, none⟩ = some (.int .i64 0) := bc_ BK106 0 rfl; have hcz33_1 : w30.cell? ⟨gb106, 1, none⟩ = some (.int .i64 0) := bc_ BK106 1 rfl; have hcz33_2 : w30.cell? ⟨gb106, 2, none⟩ = some (.slice none 0 0) := bc_ BK106 2 rfl; have hfz33_0 := blk_frozen BK106.out 0; have hfz33_1 := blk_frozen BK106.out 1; have hfz33_2 := blk_frozen BK106.out 2))
    go_loopg [8] kj3 (fun kq v8 w' => ∃ (x8_2 : Int) (x107002_2 : List (S26)) (u107002 : Value), v8 = .int .i64 x8_2 ∧ Aside0 (oculuslaw18_LookAcross.l0 kq a2 x8_2 a0_0 a0_1 l0_2 a1_0 a1_1 a1_2 a0_1 a0_0 x107002_2 = some r) ∧ Aside0 (kq ≤ kj3) ∧ Aside0 (Kd.R k26 26 w' w.heap.size (fun k_ => k_ ≠ gb102) u107002 x107002_2) ∧ Aside0 (w'.heap[gb101]? = some (.cells #[.int .i64 a0_0, .int .i64 a0_1, (.slice A0_2 l0_2.length c0_2)] 24 (0, 0))) ∧ Aside0 (w'.heap[gb102]? = some (.cells #[.int .i64 a1_0, .int .i64 a1_1, .string a1_2] 26 (0, 0))) ∧ Aside0 (w'.heap[gb106]? = some (.cells #[.int .i64 a0_1, .int .i64 a0_0, u107002] 24 (0, 0))) ∧ Aside0 (Below w.heap.size w w'))
    case atStart => exact ⟨(1), (([] : List (S26))), (.slice none 0 0), (by first | rfl | (simp; done) | (simp [*]; done)), H', ⟨Nat.le_refl _⟩, ⟨by first | exact Kd.R_nil _ _ _ _ _ | exact Kd.N_nil _ _ _ _ _ | exact Kd.V_nil _ _ _ _ _ | exact Kd.Q_nil _ _ _ _ _ | exact Kd.S_nil _ _ _ _ _⟩, ⟨by refine pf_ ?_ NB101_106.out; refine blk_far ?_ NB101_106.out _; refine blk_far ?_ NB101_106.out _; exact pkx BK101⟩, ⟨by refine pf_ ?_ NB102_106.out; refine blk_far ?_ NB102_106.out _; refine blk_far ?_ NB102_106.out _; exact pkx BK102⟩, ⟨by refine pp_ (cs := #[.int .i64 a0_1, .int .i64 a0_0, .slice none 0 0]) 2 ?_ rfl; refine blk_put (cs := #[.int .i64 a0_1, .int .i64 0, .slice none 0 0]) ?_ 1 _ rfl; refine blk_put (cs := #[.int .i64 0, .int .i64 0, .slice none 0 0]) ?_ 0 _ rfl; exact pkx BK106⟩, ⟨by repeat (first | (with_reducible first | exact HB.out | apply below_alloc | apply pw_below_drewN | apply below_drew1 | refine below_set ?_ GE101.out | refine below_set ?_ GE102.out | refine below_set ?_ GE106.out) | exact HB.out)⟩⟩
    case round =>
     clear H'; (try clear c1); (try clear c2); (try clear p2); (try clear c3); (try clear c5); (try clear c7); (try clear c8); (try clear c10); (try clear c11); (try clear c17); (try clear c22); (try clear c25); (try clear c28); (try clear c31); (try clear c32); (try clear hcz12_0); (try clear hcz12_1); (try clear hcz12_2); (try clear hcz14_0); (try clear hcz14_1); (try clear hcz14_2); (try clear hcz16_0); (try clear hcz16_1); (try clear hcz16_2); (try clear hcz18_0); (try clear hcz18_1); (try clear hcz18_2); (try clear hcz20_0); (try clear hcz20_1); (try clear hcz20_2); (try clear hcz23_0); (try clear hcz23_1); (try clear hcz23_2); (try clear hcz29_0); (try clear hcz29_1); (try clear hcz29_2); (try clear hcz33_0); (try clear hcz33_1); (try clear hcz33_2); (try clear hfz12_0); (try clear hfz12_1); (try clear hfz12_2); (try clear hfz14_0); (try clear hfz14_1); (try clear hfz14_2); (try clear hfz16_0)
     (try clear hfz16_1); (try clear hfz16_2); (try clear hfz18_0); (try clear hfz18_1); (try clear hfz18_2); (try clear hfz20_0); (try clear hfz20_1); (try clear hfz20_2); (try clear hfz23_0); (try clear hfz23_1); (try clear hfz23_2); (try clear hfz29_0); (try clear hfz29_1); (try clear hfz29_2); (try clear hfz33_0); (try clear hfz33_1); (try clear hfz33_2); (try clear p2); obtain ⟨x8_2, x107002_2, u107002, rfl, HA, HK2, HO_107002, BK101, BK102, BK106, HB⟩ := hrel
     cases gk with
     | zero => exact absurd HA.out (by simp [oculuslaw18_LookAcross.l0])
     | succ k2 =>
      have H := HA.out; clear HA
      simp only [oculuslaw18_LookAcross.l0] at H
      by_cases c34 : x8_2 ≤ a0_1
      ·rw [if_pos c34] at H; have c34b0 : decide (x8_2 ≤ a0_1) = true := decide_eq_true c34; clear c34
       have H' := Aside0.mk H
       clear H; have hnb35 := NB101_102.out; have hnc35 := NB102_101.out; have hnb36 := NB101_106.out; have hnc36 := NB106_101.out
       have hcz37_0 : wr.cell? ⟨gb101, 0, none⟩ = some (.int .i64 a0_0) := bc_ BK101 0 rfl
       have hcz37_1 : wr.cell? ⟨gb101, 1, none⟩ = some (.int .i64 a0_1) := bc_ BK101 1 rfl
       have hcz37_2 : wr.cell? ⟨gb101, 2, none⟩ = some (.slice A0_2 l0_2.length c0_2) := bc_ BK101 2 rfl
       have hfz37_0 := blk_frozen BK101.out 0; have hfz37_1 := blk_frozen BK101.out 1; have hfz37_2 := blk_frozen BK101.out 2
       go_wp2
       go_loopg [9] k2 (fun kq v9 w' => ∃ (x9_3 : Int) (x107002_3 : List (S26)) (u107002 : Value), v9 = .int .i64 x9_3 ∧ Aside0 (oculuslaw18_LookAcross.l1 kq a2 x8_2 x9_3 a0_0 a0_1 l0_2 a1_0 a1_1 a1_2 a0_1 a0_0 x107002_3 = some r) ∧ Aside0 (kq ≤ k2) ∧ Aside0 (Kd.R k26 26 w' w.heap.size (fun k_ => k_ ≠ gb102) u107002 x107002_3) ∧ Aside0 (w'.heap[gb101]? = some (.cells #[.int .i64 a0_0, .int .i64 a0_1, (.slice A0_2 l0_2.length c0_2)] 24 (0, 0))) ∧ Aside0 (w'.heap[gb102]? = some (.cells #[.int .i64 a1_0, .int .i64 a1_1, .string a1_2] 26 (0, 0))) ∧ Aside0 (w'.heap[gb106]? = some (.cells #[.int .i64 a0_1, .int .i64 a0_0, u107002] 24 (0, 0))) ∧ Aside0 (Below w.heap.size w w'))
       case atStart => exact ⟨(1), (x107002_2), (u107002), (by first | rfl | (simp; done) | (simp [*]; done)), H', ⟨Nat.le_refl _⟩, ⟨by (with_reducible repeat (first | apply Kd.R_alloc | apply Kd.R_drewN | apply Kd.R_drew)); exact HO_107002.out⟩, ⟨pkx BK101⟩, ⟨pkx BK102⟩, ⟨pkx BK106⟩, ⟨pbx HB⟩⟩
       case round =>
        clear H'; (try clear c1); (try clear c2); (try clear p2); (try clear c3); (try clear c5); (try clear c7); (try clear c8); (try clear c10); (try clear c11); (try clear c17); (try clear c22); (try clear c25); (try clear c28); (try clear c31); (try clear c32); (try clear c34); (try clear c34b0); (try clear c35); (try clear c36); (try clear hcz12_0); (try clear hcz12_1); (try clear hcz12_2); (try clear hcz14_0); (try clear hcz14_1); (try clear hcz14_2); (try clear hcz16_0); (try clear hcz16_1); (try clear hcz16_2); (try clear hcz18_0); (try clear hcz18_1); (try clear hcz18_2); (try clear hcz20_0); (try clear hcz20_1); (try clear hcz20_2); (try clear hcz23_0); (try clear hcz23_1); (try clear hcz23_2); (try clear hcz29_0); (try clear hcz29_1); (try clear hcz29_2); (try clear hcz33_0); (try clear hcz33_1); (try clear hcz33_2); (try clear hcz37_0); (try clear hcz37_1); (try clear hcz37_2)
        (try clear hfz12_0); (try clear hfz12_1); (try clear hfz12_2); (try clear hfz14_0); (try clear hfz14_1); (try clear hfz14_2); (try clear hfz16_0); (try clear hfz16_1); (try clear hfz16_2); (try clear hfz18_0); (try clear hfz18_1); (try clear hfz18_2); (try clear hfz20_0); (try clear hfz20_1); (try clear hfz20_2); (try clear hfz23_0); (try clear hfz23_1); (try clear hfz23_2); (try clear hfz29_0); (try clear hfz29_1); (try clear hfz29_2); (try clear hfz33_0); (try clear hfz33_1); (try clear hfz33_2); (try clear hfz37_0); (try clear hfz37_1); (try clear hfz37_2); (try clear p2); obtain ⟨x9_3, x107002_3, u107002, rfl, HA, HK3, HO_107002, BK101, BK102, BK106, HB⟩ := hrel
        cases gk with
        | zero => exact absurd HA.out (by simp [oculuslaw18_LookAcross.l1])
        | succ k3 =>
         have H := HA.out; clear HA
         simp only [oculuslaw18_LookAcross.l1] at H
         by_cases c38 : x9_3 ≤ a0_0
         ·rw [if_pos c38] at H; have c38b0 : decide (x9_3 ≤ a0_0) = true := decide_eq_true c38; clear c38; replace H := Option.bind_eq_some_iff.mp H; obtain ⟨⟨t107, t108, t109⟩, A390, H⟩ := H
          replace H : (if x107002_3.length < 4398046511104 then (oculuslaw18_LookAcross.l1 k3 a2 x8_2 (wrap64 (x9_3 + 1)) a0_0 a0_1 l0_2 a1_0 a1_1 a1_2 a0_1 a0_0 (x107002_3 ++ [(⟨t107, t108, t109⟩ : S26)])) else (none)) = some r := H
          have A39 := Aside0.mk A390; clear A390
          by_cases c40 : x107002_3.length < 4398046511104
          ·rw [if_pos c40] at H; have LMc40 := Aside0.mk c40; clear c40; obtain ⟨y110, hy110⟩ : ∃ y_ : List (S26), y_ = (x107002_3 ++ [(⟨t107, t108, t109⟩ : S26)]) := ⟨_, rfl⟩
           replace H : (oculuslaw18_LookAcross.l1 k3 a2 x8_2 (wrap64 (x9_3 + 1)) a0_0 a0_1 l0_2 a1_0 a1_1 a1_2 a0_1 a0_0 y110) = some r := by first | (rw [hy110]; with_reducible exact H) | (have H2_ := (Option.bind_some _ _).symm.trans H; rw [hy110]; with_reducible exact H2_) | (have H2_ := (Option.bind_some _ _).symm.trans H; with_reducible exact H2_) | with_reducible exact H | (rw [hy110]; exact H) | exact H
           have Ny110 := Aside0.mk hy110; clear hy110
           have H' := Aside0.mk H
           clear H; have hnb41 := NB101_102.out; have hnc41 := NB102_101.out; have hnb42 := NB101_106.out; have hnc42 := NB106_101.out
           have hcz43_0 : wr.cell? ⟨gb101, 0, none⟩ = some (.int .i64 a0_0) := bc_ BK101 0 rfl
           have hcz43_1 : wr.cell? ⟨gb101, 1, none⟩ = some (.int .i64 a0_1) := bc_ BK101 1 rfl
           have hcz43_2 : wr.cell? ⟨gb101, 2, none⟩ = some (.slice A0_2 l0_2.length c0_2) := bc_ BK101 2 rfl
           have hfz43_0 := blk_frozen BK101.out 0; have hfz43_1 := blk_frozen BK101.out 1; have hfz43_2 := blk_frozen BK101.out 2
           try go_wp2
           (try (rw [drewN_self wr]; generalize hq_ : World.drewN wr _ = wr; have n0_ : Aside0 (Kd.R k26 26 wr w.heap.size (fun k_ => k_ ≠ gb102) u107002 x107002_3) := ⟨by rw [← hq_]; exact (by (with_reducible repeat (first | apply Kd.R_alloc | apply Kd.R_drewN | apply Kd.R_drew)); exact HO_107002.out)⟩; have n1_ : Aside0 (wr.heap[gb101]? = some (.cells #[.int .i64 a0_0, .int .i64 a0_1, .slice A0_2 l0_2.length c0_2] 24 (0, 0))) := ⟨by rw [← hq_]; exact (pkx BK101)⟩; have n2_ : Aside0 (wr.heap[gb102]? = some (.cells #[.int .i64 a1_0, .int .i64 a1_1, .string a1_2] 26 (0, 0))) := ⟨by rw [← hq_]; exact (pkx BK102)⟩; have n3_ : Aside0 (wr.heap[gb106]? = some (.cells #[.int .i64 a0_1, .int .i64 a0_0, u107002] 24 (0, 0))) := ⟨by rw [← hq_]; exact (pkx BK106)⟩; have n4_ : Aside0 (Below w.heap.size w wr) := ⟨by rw [← hq_]; exact (pbx HB)⟩; clear HO_107002 BK101 BK102 BK106 HB hq_; have HO_107002 := n0_; have BK101 := n1_; have BK102 := n2_; have BK106 := n3_; have HB := n4_; clear n0_ n1_ n2_ n3_ n4_))
           replace HO_107002 := Aside0.mk (Kd.R_drew HO_107002.out); replace BK101 := Aside0.mk (blk_drew BK101.out); replace BK102 := Aside0.mk (blk_drew BK102.out); replace BK106 := Aside0.mk (blk_drew BK106.out); replace HB := Aside0.mk (below_drew1 HB.out)
           refine start_ (n:=10) (S := fun w' => w'.cell? ⟨gb106, 0, none⟩ = some (.int .i64 a0_1) ∧ w'.cell? ⟨gb106, 1, none⟩ = some (.int .i64 a0_0) ∧ w'.cell? ⟨gb106, 2, none⟩ = some (u107002) ∧ w'.cell? ⟨gb101, 0, none⟩ = some (.int .i64 a0_0) ∧ w'.cell? ⟨gb101, 1, none⟩ = some (.int .i64 a0_1) ∧ w'.cell? ⟨gb101, 2, none⟩ = some (.slice A0_2 l0_2.length c0_2)) (ds := [9]) #[F,F,F,F,F,F,F,F,F,F] (by kernel_rfl) rfl rfl ⟨bc_ BK106 0 rfl, bc_ BK106 1 rfl, bc_ BK106 2 rfl, bc_ BK101 0 rfl, bc_ BK101 1 rfl, bc_ BK101 2 rfl⟩ (fun hHeld => ?_); refine with_tabW oculuslaw18_LookAcross.tab10 oculuslaw18_LookAcross.bits10 (fun HT_ HW_ => ?_)
           generalize wr.drew = w44 at HO_107002 BK101 BK102 BK106 HB hHeld ⊢; refine pure_ (i:=0) (N:=some 44) (v:=?_) (a':=?_) ⟨m_ 10 1⟩ rfl rfl (any_of HT_.out (by kernel_rfl)) (fun _ _ _ h=>h) (Or.inl ⟨rfl, ?_⟩) ?_ ?_; rotate_left
           ·intro w'; go_simp; with_reducible rfl
           rotate_left
           ·simp only [q_, i64_w, i32_w]; rfl
           refine pure_ (i:=3) (N:=some 47) (v:=?_) (a':=?_) ⟨m_ 10 9⟩ rfl rfl (any_of HT_.out (by kernel_rfl)) (fun _ _ _ h=>h) (Or.inl ⟨rfl, ?_⟩) ?_ ?_; rotate_left
           ·intro w'; go_simp; with_reducible rfl
           rotate_left
           ·simp only [q_, i64_w, i32_w]; rfl
           refine pure_ (i:=4) (N:=some 48) (v:=?_) (a':=?_) ⟨m_ 10 25⟩ rfl rfl (any_of HT_.out (by kernel_rfl)) (fun _ _ _ h=>h) (Or.inl ⟨rfl, ?_⟩) ?_ ?_; rotate_left
           ·intro w'; go_simp; with_reducible rfl
           rotate_left
           ·simp only [q_, i64_w, i32_w]; rfl
           refine take_ (i:=1) (N:=some 45) (v:=?_) (a':=?_) ⟨m_ 10 27⟩ rfl rfl (take_ofW HT_.out HW_.out (by kernel_rfl)) (fun _ _ _ h=>h) (Or.inl ⟨rfl, ?_⟩) hHeld ?_ ?_; rotate_left
           ·rintro w' ⟨s0, s1, s2, s3, s4, s5⟩; go_simp; with_reducible rfl
           rotate_left
           ·simp only [q_, i64_w, i32_w]; rfl
           refine take_ (i:=2) (N:=some 46) (v:=?_) (a':=?_) ⟨m_ 10 31⟩ rfl rfl (take_ofW HT_.out HW_.out (by kernel_rfl)) (fun _ _ _ h=>h) (Or.inl ⟨rfl, ?_⟩) hHeld ?_ ?_; rotate_left
           ·rintro w' ⟨s0, s1, s2, s3, s4, s5⟩; go_simp; with_reducible rfl
           rotate_left
           ·simp only [q_, i64_w, i32_w]; rfl
           refine one_ (i:=5) (N:=some 49) ⟨m_ 10 63⟩ rfl rfl (one_of HT_.out (by kernel_rfl)) (by decide) (fun K hK => ?_); refine goes_ Try.func8 (by kernel_rfl) rfl #[.agg #[.int .i64 a0_0, .int .i64 a0_1, .slice A0_2 l0_2.length c0_2], .int .i64 x9_3, .int .i64 x8_2] (by rfl) rfl rfl (by (try simp only [List.map_toArray, List.map_cons, List.map_nil]); first | done | rfl | (simp only [List.length_drop, List.length_take]; rfl)) ?_; with_reducible refine (oculusref18_At.calls a0_0 a0_1 _ _ l0_2 x9_3 x8_2 t107 t108 t109 _ ?side1 ?side2 A39.out).mono ?_; (case side1 => repeat (first | exact (Kd.C_below HR0_2.out HB.out) | (with_reducible refine Kd.C_alloc ?_ _) | (with_reducible refine Kd.C_drewN ?_ _) | (with_reducible refine Kd.C_drew ?_))); (case side2 => exact HC0_2.out); rintro e w45 ⟨rfl, hb⟩; refine ⟨_, rfl, ?_⟩
           replace HO_107002 := Aside0.mk (Kd.R_below (by (with_reducible repeat (first | apply Kd.R_alloc | apply Kd.R_drewN | apply Kd.R_drew)); exact HO_107002.out) hb); replace BK101 := bb_ BK101 hb; replace BK102 := bb_ BK102 hb; replace BK106 := bb_ BK106 hb; replace HB := bs_ HB hb
           (try clear hb); (try clear hb2); (try clear hk); (try clear hi); refine hK.out _ _ ⟨bc_ BK106 0 rfl, bc_ BK106 1 rfl, bc_ BK106 2 rfl, bc_ BK101 0 rfl, bc_ BK101 1 rfl, bc_ BK101 2 rfl⟩ (fun hHeld => ?_); clear hK K; refine norm_ (a':=?_) ?_ ?_; rotate_left
           ·show Act.put _ (some 49) _ = _; simp only [q_, i64_w, i32_w]; rfl
           refine one_ (i:=6) (N:=some 50) ⟨m_ 10 127⟩ rfl rfl (one_of HT_.out (by kernel_rfl)) (by decide) (fun K hK => ?_)
           refine value_ (w1 := ?_) (v:=?_) (by rfl) rfl ?_ ?_
           rotate_left 2
           ·go_simp
            constructor
            ·rfl
            ·rfl
           refine hK.out _ _ ⟨(blk_cell (blk_alloc BK106.out _) 0).trans rfl, (blk_cell (blk_alloc BK106.out _) 1).trans rfl, (blk_cell (blk_alloc BK106.out _) 2).trans rfl, (blk_cell (blk_alloc BK101.out _) 0).trans rfl, (blk_cell (blk_alloc BK101.out _) 1).trans rfl, (blk_cell (blk_alloc BK101.out _) 2).trans rfl⟩ (fun hHeld => ?_); clear hK K; refine norm_ (a':=?_) ?_ ?_; rotate_left
           ·show Act.put _ (some 50) _ = _; simp only [q_, i64_w, i32_w]; rfl
           refine one_ (i:=7) (N:=some 51) ⟨m_ 10 255⟩ rfl rfl (one_of HT_.out (by kernel_rfl)) (by decide) (fun K hK => ?_)
           refine Kd.R_append_step k26 (w0 := w) w.heap.size (by rfl) (.tmp 45) (.tmp 50) 22 26 (.agg #[(.int .i64 0), (.int .i64 0), (.string ⟨#[]⟩)]) 32 rfl Try.underlying22 info26 rfl (by decide) (by omega) u107002 x107002_3 (⟨t107, t108, t109⟩ : S26) [.int .i64 t107, .int .i64 t108, .string t109] (fun k_ => k_ ≠ gb102) (fun _ => False) rfl rfl ?aP (fun _ hk => hk.elim) ?aF ?aO ?aB ?aS ?aL ?_
           (case aP => exact k26_mkM _ _ _ (⟨t107, t108, t109⟩ : S26)); (case aB => exact (pbx HB)); (case aF => exact (fun k_ hk => Kd.freshB (pkx BK102) k_ hk)); (case aO => exact (by (with_reducible repeat (first | apply Kd.R_alloc | apply Kd.R_drewN | apply Kd.R_drew)); exact HO_107002.out)); (case aS => exact (below_size (pbx HB))); (case aL => have := LMc40.out; omega); intro v111 w46 ho hb hg hat
           rw [← Ny110.out] at ho; have HO112 := Aside0.mk (ho); replace BK101 := Aside0.mk (blk_grown (pkx BK101) hg (Kd.R_ne HO_107002.out BK101.out (by decide))); replace BK102 := Aside0.mk (blk_grown (pkx BK102) hg (Kd.R_away HO_107002.out (fun _ hk => hk))); replace BK106 := Aside0.mk (blk_grown (pkx BK106) hg (Kd.R_ne HO_107002.out BK106.out (by decide))); replace HB := Aside0.mk (hb); clear HO_107002; clear ho hb hg hat; obtain ⟨Ao47, co47, eo47⟩ := Kd.R_slice HO112.out; (first | subst eo47 | (injection eo47 with f1_ f2_ f3_; have f4_ := f1_.symm; have f5_ := f3_.symm; clear f1_ f2_ f3_; subst f4_; subst f5_)); refine hK.out _ _ ⟨bc_ BK106 0 rfl, bc_ BK106 1 rfl, bc_ BK106 2 rfl, bc_ BK101 0 rfl, bc_ BK101 1 rfl, bc_ BK101 2 rfl⟩ (fun hHeld => ?_); clear hK K; refine norm_ (a':=?_) ?_ ?_; rotate_left
           ·show Act.put _ (some 51) _ = _; simp only [q_, i64_w, i32_w]; rfl
           refine pure_ (i:=8) (N:=some 52) (v:=?_) (a':=?_) ⟨m_ 10 511⟩ rfl rfl (any_of HT_.out (by kernel_rfl)) (fun _ _ _ h=>h) (Or.inl ⟨rfl, ?_⟩) ?_ ?_; rotate_left
           ·intro w'; go_simp; with_reducible rfl
           rotate_left
           ·simp only [q_, i64_w, i32_w]; rfl
           refine last_ (i:=9) (N:=none) ⟨m_ 10 1023⟩ rfl rfl (one_of HT_.out (by kernel_rfl)) (by decide) (fun K hK => ?_)
           have hs48 : w46.cell? ⟨gb106, 2, none⟩ = some (u107002) := bc_ BK106 2 rfl
           have hfs48 := blk_frozen BK106.out 2; have hns48_0 := NB101_106.out; have hns48_1 := NB102_106.out; have hms48_0 := NB106_101.out; have hms48_1 := NB106_102.out
           refine skip_ (w1 := ?_) (by rfl) rfl ?_ ?_
           rotate_left
           ·go_simp; rfl
           refine hK.out _ _ ?_; clear hK K
           refine done_ (done_of HT_.out (by kernel_rfl)) ?_
           try go_wp2
           go_roundg k3
           case measure => have := HJ3.out; have := HK2.out; have := HK3.out; omega
           case rel => exact ⟨(wrap64 (x9_3 + 1)), (y110), (.slice Ao47 y110.length co47), (by first | rfl | (simp; done) | (simp [*]; done)), H', ⟨by have := HJ3.out; have := HK2.out; have := HK3.out; omega⟩, ⟨by (with_reducible repeat (first | apply Kd.R_alloc | apply Kd.R_drewN | apply Kd.R_drew)); exact Kd.R_mono (Kd.R_far (p := ⟨gb106, 2, none⟩) (Kd.R_types HO112.out BK106.out (by decide)) (fun _ hk => hk.2) (.slice Ao47 y110.length co47)) (fun _ hk => hk.1)⟩, ⟨by refine pf_ ?_ NB101_106.out; exact pkx BK101⟩, ⟨by refine pf_ ?_ NB102_106.out; exact pkx BK102⟩, ⟨by refine pp_ (cs := #[.int .i64 a0_1, .int .i64 a0_0, u107002]) 2 ?_ rfl; exact pkx BK106⟩, ⟨by repeat (first | (with_reducible first | exact HB.out | apply below_alloc | apply pw_below_drewN | apply below_drew1 | refine below_set ?_ GE101.out | refine below_set ?_ GE102.out | refine below_set ?_ GE106.out) | exact HB.out)⟩⟩
          ·rw [if_neg c40] at H
           exact absurd H (by simp)
         ·rw [if_neg c38] at H; have c38b0 : decide (x9_3 ≤ a0_0) = false := decide_eq_false c38; clear c38
          have H' := Aside0.mk H
          clear H; have hnb49 := NB101_102.out; have hnc49 := NB102_101.out; have hnb50 := NB101_106.out; have hnc50 := NB106_101.out
          have hcz51_0 : wr.cell? ⟨gb101, 0, none⟩ = some (.int .i64 a0_0) := bc_ BK101 0 rfl
          have hcz51_1 : wr.cell? ⟨gb101, 1, none⟩ = some (.int .i64 a0_1) := bc_ BK101 1 rfl
          have hcz51_2 : wr.cell? ⟨gb101, 2, none⟩ = some (.slice A0_2 l0_2.length c0_2) := bc_ BK101 2 rfl
          have hfz51_0 := blk_frozen BK101.out 0; have hfz51_1 := blk_frozen BK101.out 1; have hfz51_2 := blk_frozen BK101.out 2
          go_wp2
          go_roundg k3
          case measure => have := HJ3.out; have := HK2.out; have := HK3.out; omega
          case rel => exact ⟨(wrap64 (x8_2 + 1)), (x107002_3), (u107002), (by first | rfl | (simp; done) | (simp [*]; done)), H', ⟨by have := HJ3.out; have := HK2.out; have := HK3.out; omega⟩, ⟨by (with_reducible repeat (first | apply Kd.R_alloc | apply Kd.R_drewN | apply Kd.R_drew)); exact HO_107002.out⟩, ⟨pkx BK101⟩, ⟨pkx BK102⟩, ⟨pkx BK106⟩, ⟨pbx HB⟩⟩
      ·rw [if_neg c34] at H; have c34b0 : decide (x8_2 ≤ a0_1) = false := decide_eq_false c34; clear c34; replace H := Option.bind_eq_some_iff.mp H; obtain ⟨⟨t113, t114, t115⟩, A520, H⟩ := H
       replace H : ((look_Across.f k2 a1_0 a1_1 a1_2 a0_0 a0_1 l0_2 a2).bind fun bt116 => ((oculusref18_Down.f k2 a1_0 a1_1 a1_2 a0_0 a0_1 l0_2 a2).bind fun bt121 => (if (t113 == bt121.1 && (t114 == bt121.2.1 && (t115.toList == bt121.2.2.toList))) = true then ((oculusref18_Across.f k2 a1_0 a1_1 a1_2 a0_0 a0_1 l0_2 a2).bind fun bt124 => (if (bt116.1 == bt124.1 && (bt116.2.1 == bt124.2.1 && (bt116.2.2.toList == bt124.2.2.toList))) = true then ((look_Across.f k2 a1_0 a1_1 a1_2 a0_1 a0_0 x107002_2 a2).bind fun bt127 => (if (bt127.1 == t113 && (bt127.2.1 == t114 && (bt127.2.2.toList == t115.toList))) = true then ((look_Down.f k2 a1_0 a1_1 a1_2 a0_1 a0_0 x107002_2 a2).bind fun bt130 => (if (bt130.1 == bt116.1 && (bt130.2.1 == bt116.2.1 && (bt130.2.2.toList == bt116.2.2.toList))) = true then ((oculuslaw18_alive.f k2).bind fun t133 => (some t133)) else (none))) else (none))) else (none))) else (none)))) = some r := H
       have A52 := Aside0.mk A520; clear A520; replace H := Option.bind_eq_some_iff.mp H; obtain ⟨⟨t116, t117, t118⟩, A530, H⟩ := H
       replace H : ((oculusref18_Down.f k2 a1_0 a1_1 a1_2 a0_0 a0_1 l0_2 a2).bind fun bt121 => (if (t113 == bt121.1 && (t114 == bt121.2.1 && (t115.toList == bt121.2.2.toList))) = true then ((oculusref18_Across.f k2 a1_0 a1_1 a1_2 a0_0 a0_1 l0_2 a2).bind fun bt124 => (if (t116 == bt124.1 && (t117 == bt124.2.1 && (t118.toList == bt124.2.2.toList))) = true then ((look_Across.f k2 a1_0 a1_1 a1_2 a0_1 a0_0 x107002_2 a2).bind fun bt127 => (if (bt127.1 == t113 && (bt127.2.1 == t114 && (bt127.2.2.toList == t115.toList))) = true then ((look_Down.f k2 a1_0 a1_1 a1_2 a0_1 a0_0 x107002_2 a2).bind fun bt130 => (if (bt130.1 == t116 && (bt130.2.1 == t117 && (bt130.2.2.toList == t118.toList))) = true then ((oculuslaw18_alive.f k2).bind fun t133 => (some t133)) else (none))) else (none))) else (none))) else (none))) = some r := H
       have A53 := Aside0.mk A530; clear A530; replace H := Option.bind_eq_some_iff.mp H; obtain ⟨⟨t121, t122, t123⟩, A540, H⟩ := H
       replace H : (if (t113 == t121 && (t114 == t122 && (t115.toList == t123.toList))) = true then ((oculusref18_Across.f k2 a1_0 a1_1 a1_2 a0_0 a0_1 l0_2 a2).bind fun bt124 => (if (t116 == bt124.1 && (t117 == bt124.2.1 && (t118.toList == bt124.2.2.toList))) = true then ((look_Across.f k2 a1_0 a1_1 a1_2 a0_1 a0_0 x107002_2 a2).bind fun bt127 => (if (bt127.1 == t113 && (bt127.2.1 == t114 && (bt127.2.2.toList == t115.toList))) = true then ((look_Down.f k2 a1_0 a1_1 a1_2 a0_1 a0_0 x107002_2 a2).bind fun bt130 => (if (bt130.1 == t116 && (bt130.2.1 == t117 && (bt130.2.2.toList == t118.toList))) = true then ((oculuslaw18_alive.f k2).bind fun t133 => (some t133)) else (none))) else (none))) else (none))) else (none)) = some r := H
       have A54 := Aside0.mk A540; clear A540
       by_cases c55 : (t113 == t121 && (t114 == t122 && (t115.toList == t123.toList))) = true
       ·rw [if_pos c55] at H
        have c55b0 : (t113 == t121 && (t114 == t122 && (t115.toList == t123.toList))) = true := c55
        (try (have c55b1 : decide (t113 = t121 && (t114 == t122 && (t115.toList == t123.toList))) = true := by simpa using c55)); (try (have c55b2 : (t113 == t121 && (t114 == t122 && (t115.toList == t123.toList))) = true := by simpa using c55))
        clear c55; replace H := Option.bind_eq_some_iff.mp H; obtain ⟨⟨t124, t125, t126⟩, A560, H⟩ := H
        replace H : (if (t116 == t124 && (t117 == t125 && (t118.toList == t126.toList))) = true then ((look_Across.f k2 a1_0 a1_1 a1_2 a0_1 a0_0 x107002_2 a2).bind fun bt127 => (if (bt127.1 == t113 && (bt127.2.1 == t114 && (bt127.2.2.toList == t115.toList))) = true then ((look_Down.f k2 a1_0 a1_1 a1_2 a0_1 a0_0 x107002_2 a2).bind fun bt130 => (if (bt130.1 == t116 && (bt130.2.1 == t117 && (bt130.2.2.toList == t118.toList))) = true then ((oculuslaw18_alive.f k2).bind fun t133 => (some t133)) else (none))) else (none))) else (none)) = some r := H
        have A56 := Aside0.mk A560; clear A560
        by_cases c57 : (t116 == t124 && (t117 == t125 && (t118.toList == t126.toList))) = true
        ·rw [if_pos c57] at H
         have c57b0 : (t116 == t124 && (t117 == t125 && (t118.toList == t126.toList))) = true := c57
         (try (have c57b1 : decide (t116 = t124 && (t117 == t125 && (t118.toList == t126.toList))) = true := by simpa using c57)); (try (have c57b2 : (t116 == t124 && (t117 == t125 && (t118.toList == t126.toList))) = true := by simpa using c57))
         clear c57; replace H := Option.bind_eq_some_iff.mp H; obtain ⟨⟨t127, t128, t129⟩, A580, H⟩ := H
         replace H : (if (t127 == t113 && (t128 == t114 && (t129.toList == t115.toList))) = true then ((look_Down.f k2 a1_0 a1_1 a1_2 a0_1 a0_0 x107002_2 a2).bind fun bt130 => (if (bt130.1 == t116 && (bt130.2.1 == t117 && (bt130.2.2.toList == t118.toList))) = true then ((oculuslaw18_alive.f k2).bind fun t133 => (some t133)) else (none))) else (none)) = some r := H
         have A58 := Aside0.mk A580; clear A580
         by_cases c59 : (t127 == t113 && (t128 == t114 && (t129.toList == t115.toList))) = true
         ·rw [if_pos c59] at H
          have c59b0 : (t127 == t113 && (t128 == t114 && (t129.toList == t115.toList))) = true := c59
          (try (have c59b1 : decide (t127 = t113 && (t128 == t114 && (t129.toList == t115.toList))) = true := by simpa using c59)); (try (have c59b2 : (t127 == t113 && (t128 == t114 && (t129.toList == t115.toList))) = true := by simpa using c59))
          clear c59; replace H := Option.bind_eq_some_iff.mp H; obtain ⟨⟨t130, t131, t132⟩, A600, H⟩ := H
          replace H : (if (t130 == t116 && (t131 == t117 && (t132.toList == t118.toList))) = true then ((oculuslaw18_alive.f k2).bind fun t133 => (some t133)) else (none)) = some r := H
          have A60 := Aside0.mk A600; clear A600
          by_cases c61 : (t130 == t116 && (t131 == t117 && (t132.toList == t118.toList))) = true
          ·rw [if_pos c61] at H
           have c61b0 : (t130 == t116 && (t131 == t117 && (t132.toList == t118.toList))) = true := c61
           (try (have c61b1 : decide (t130 = t116 && (t131 == t117 && (t132.toList == t118.toList))) = true := by simpa using c61)); (try (have c61b2 : (t130 == t116 && (t131 == t117 && (t132.toList == t118.toList))) = true := by simpa using c61))
           clear c61; replace H := Option.bind_eq_some_iff.mp H; obtain ⟨t133, A620, H⟩ := H
           replace H : (some t133) = some r := H
           have A62 := Aside0.mk A620; clear A620; obtain rfl := Option.some.inj H; have hnb63 := NB101_102.out; have hnc63 := NB102_101.out; have hnb64 := NB101_106.out; have hnc64 := NB106_101.out
           have hcz65_0 : wr.cell? ⟨gb101, 0, none⟩ = some (.int .i64 a0_0) := bc_ BK101 0 rfl
           have hcz65_1 : wr.cell? ⟨gb101, 1, none⟩ = some (.int .i64 a0_1) := bc_ BK101 1 rfl
           have hcz65_2 : wr.cell? ⟨gb101, 2, none⟩ = some (.slice A0_2 l0_2.length c0_2) := bc_ BK101 2 rfl
           have hfz65_0 := blk_frozen BK101.out 0; have hfz65_1 := blk_frozen BK101.out 1; have hfz65_2 := blk_frozen BK101.out 2
           try go_wp2
           (try (rw [drewN_self wr]; generalize hq_ : World.drewN wr _ = wr; have n0_ : Aside0 (Kd.R k26 26 wr w.heap.size (fun k_ => k_ ≠ gb102) u107002 x107002_2) := ⟨by rw [← hq_]; exact (by (with_reducible repeat (first | apply Kd.R_alloc | apply Kd.R_drewN | apply Kd.R_drew)); exact HO_107002.out)⟩; have n1_ : Aside0 (wr.heap[gb101]? = some (.cells #[.int .i64 a0_0, .int .i64 a0_1, .slice A0_2 l0_2.length c0_2] 24 (0, 0))) := ⟨by rw [← hq_]; exact (pkx BK101)⟩; have n2_ : Aside0 (wr.heap[gb102]? = some (.cells #[.int .i64 a1_0, .int .i64 a1_1, .string a1_2] 26 (0, 0))) := ⟨by rw [← hq_]; exact (pkx BK102)⟩; have n3_ : Aside0 (wr.heap[gb106]? = some (.cells #[.int .i64 a0_1, .int .i64 a0_0, u107002] 24 (0, 0))) := ⟨by rw [← hq_]; exact (pkx BK106)⟩; have n4_ : Aside0 (Below w.heap.size w wr) := ⟨by rw [← hq_]; exact (pbx HB)⟩; clear HO_107002 BK101 BK102 BK106 HB hq_; have HO_107002 := n0_; have BK101 := n1_; have BK102 := n2_; have BK106 := n3_; have HB := n4_; clear n0_ n1_ n2_ n3_ n4_))
           replace HO_107002 := Aside0.mk (Kd.R_drew HO_107002.out); replace BK101 := Aside0.mk (blk_drew BK101.out); replace BK102 := Aside0.mk (blk_drew BK102.out); replace BK106 := Aside0.mk (blk_drew BK106.out); replace HB := Aside0.mk (below_drew1 HB.out)
           refine start_ (n:=12) (S := fun w' => w'.cell? ⟨gb102, 0, none⟩ = some (.int .i64 a1_0) ∧ w'.cell? ⟨gb102, 1, none⟩ = some (.int .i64 a1_1) ∧ w'.cell? ⟨gb102, 2, none⟩ = some (.string a1_2) ∧ w'.cell? ⟨gb101, 0, none⟩ = some (.int .i64 a0_0) ∧ w'.cell? ⟨gb101, 1, none⟩ = some (.int .i64 a0_1) ∧ w'.cell? ⟨gb101, 2, none⟩ = some (.slice A0_2 l0_2.length c0_2)) (ds := []) #[F,F,F,F,F,F,F,F,F,F,F,F] (by kernel_rfl) rfl rfl ⟨bc_ BK102 0 rfl, bc_ BK102 1 rfl, bc_ BK102 2 rfl, bc_ BK101 0 rfl, bc_ BK101 1 rfl, bc_ BK101 2 rfl⟩ (fun hHeld => ?_); refine with_tabW oculuslaw18_LookAcross.tab11 oculuslaw18_LookAcross.bits11 (fun HT_ HW_ => ?_)
           generalize wr.drew = w66 at HO_107002 BK101 BK102 BK106 HB hHeld ⊢; refine pure_ (i:=2) (N:=some 55) (v:=?_) (a':=?_) ⟨m_ 12 4⟩ rfl rfl (any_of HT_.out (by kernel_rfl)) (fun _ _ _ h=>h) (Or.inl ⟨rfl, ?_⟩) ?_ ?_; rotate_left
           ·intro w'; go_simp; with_reducible rfl
           rotate_left
           ·simp only [q_, i64_w, i32_w]; rfl
           refine pure_ (i:=6) (N:=some 59) (v:=?_) (a':=?_) ⟨m_ 12 68⟩ rfl rfl (any_of HT_.out (by kernel_rfl)) (fun _ _ _ h=>h) (Or.inl ⟨rfl, ?_⟩) ?_ ?_; rotate_left
           ·intro w'; go_simp; with_reducible rfl
           rotate_left
           ·simp only [q_, i64_w, i32_w]; rfl
           refine take_ (i:=0) (N:=some 53) (v:=?_) (a':=?_) ⟨m_ 12 69⟩ rfl rfl (take_ofW HT_.out HW_.out (by kernel_rfl)) (fun _ _ _ h=>h) (Or.inl ⟨rfl, ?_⟩) hHeld ?_ ?_; rotate_left
           ·rintro w' ⟨s0, s1, s2, s3, s4, s5⟩; go_simp; with_reducible rfl
           rotate_left
           ·simp only [q_, i64_w, i32_w]; rfl
           refine take_ (i:=1) (N:=some 54) (v:=?_) (a':=?_) ⟨m_ 12 71⟩ rfl rfl (take_ofW HT_.out HW_.out (by kernel_rfl)) (fun _ _ _ h=>h) (Or.inl ⟨rfl, ?_⟩) hHeld ?_ ?_; rotate_left
           ·rintro w' ⟨s0, s1, s2, s3, s4, s5⟩; go_simp; with_reducible rfl
           rotate_left
           ·simp only [q_, i64_w, i32_w]; rfl
           refine take_ (i:=4) (N:=some 57) (v:=?_) (a':=?_) ⟨m_ 12 87⟩ rfl rfl (take_ofW HT_.out HW_.out (by kernel_rfl)) (fun _ _ _ h=>h) (Or.inl ⟨rfl, ?_⟩) hHeld ?_ ?_; rotate_left
           ·rintro w' ⟨s0, s1, s2, s3, s4, s5⟩; go_simp; with_reducible rfl
           rotate_left
           ·simp only [q_, i64_w, i32_w]; rfl
           refine take_ (i:=5) (N:=some 58) (v:=?_) (a':=?_) ⟨m_ 12 119⟩ rfl rfl (take_ofW HT_.out HW_.out (by kernel_rfl)) (fun _ _ _ h=>h) (Or.inl ⟨rfl, ?_⟩) hHeld ?_ ?_; rotate_left
           ·rintro w' ⟨s0, s1, s2, s3, s4, s5⟩; go_simp; with_reducible rfl
           rotate_left
           ·simp only [q_, i64_w, i32_w]; rfl
           refine join_ (σ := Nat × Nat) 2 #[T,T,T,T,T,T,T,T,T,T,F,F] (fun s_ => [(56, .agg #[.int .i64 t113, .int .i64 t114, .string t115]), (60, .agg #[.int .i64 t116, .int .i64 t117, .string t118]), (10, .pointer (some ⟨s_.1, 0, none⟩)), (11, .pointer (some ⟨s_.2, 0, none⟩))]) (fun s_ w' => (w'.cell? ⟨gb102, 0, none⟩ = some (.int .i64 a1_0) ∧ w'.cell? ⟨gb102, 1, none⟩ = some (.int .i64 a1_1) ∧ w'.cell? ⟨gb102, 2, none⟩ = some (.string a1_2) ∧ w'.cell? ⟨gb101, 0, none⟩ = some (.int .i64 a0_0) ∧ w'.cell? ⟨gb101, 1, none⟩ = some (.int .i64 a0_1) ∧ w'.cell? ⟨gb101, 2, none⟩ = some (.slice A0_2 l0_2.length c0_2)) ∧ (Kd.R k26 26 w' w.heap.size (fun k_ => k_ ≠ gb102 ∧ k_ ≠ s_.1 ∧ k_ ≠ s_.2) u107002 x107002_2) ∧ (w'.heap[gb101]? = some (.cells #[.int .i64 a0_0, .int .i64 a0_1, .slice A0_2 l0_2.length c0_2] 24 (0, 0))) ∧ (w'.heap[gb102]? = some (.cells #[.int .i64 a1_0, .int .i64 a1_1, .string a1_2] 26 (0, 0))) ∧ (w'.heap[gb106]? = some (.cells #[.int .i64 a0_1, .int .i64 a0_0, u107002] 24 (0, 0))) ∧ (w'.heap[s_.1]? = some (.cells #[.int .i64 0, .int .i64 0, .string (⟨#[]⟩ : ByteArray)] 26 (0, 0))) ∧ (w'.heap[s_.2]? = some (.cells #[.int .i64 0, .int .i64 0, .string (⟨#[]⟩ : ByteArray)] 26 (0, 0))) ∧ (w.heap.size ≤ s_.1) ∧ (w.heap.size ≤ s_.1) ∧ (gb101 ≠ s_.1) ∧ (s_.1 ≠ gb101) ∧ (gb102 ≠ s_.1) ∧ (s_.1 ≠ gb102) ∧ (gb106 ≠ s_.1) ∧ (s_.1 ≠ gb106) ∧ (s_.2 ≠ s_.1) ∧ (s_.1 ≠ s_.2) ∧ (w.heap.size ≤ s_.2) ∧ (w.heap.size ≤ s_.2) ∧ (gb101 ≠ s_.2) ∧ (s_.2 ≠ gb101) ∧ (gb102 ≠ s_.2) ∧ (s_.2 ≠ gb102) ∧ (gb106 ≠ s_.2) ∧ (s_.2 ≠ gb106) ∧ (Below w.heap.size w w')) ?_ ?_
           rotate_left
           ·intro hJ3_7_8_9
            refine join_ (σ:=Nat) 3 #[T,T,T,T,T,T,T,T,T,F,F,F] (fun s_ => [(56, .agg #[.int .i64 t113, .int .i64 t114, .string t115]), (60, .agg #[.int .i64 t116, .int .i64 t117, .string t118]), (10, .pointer (some ⟨s_, 0, none⟩))]) (fun s_ w' => (w'.cell? ⟨gb102, 0, none⟩ = some (.int .i64 a1_0) ∧ w'.cell? ⟨gb102, 1, none⟩ = some (.int .i64 a1_1) ∧ w'.cell? ⟨gb102, 2, none⟩ = some (.string a1_2) ∧ w'.cell? ⟨gb101, 0, none⟩ = some (.int .i64 a0_0) ∧ w'.cell? ⟨gb101, 1, none⟩ = some (.int .i64 a0_1) ∧ w'.cell? ⟨gb101, 2, none⟩ = some (.slice A0_2 l0_2.length c0_2)) ∧ (Kd.R k26 26 w' w.heap.size (fun k_ => k_ ≠ gb102 ∧ k_ ≠ s_) u107002 x107002_2) ∧ (w'.heap[gb101]? = some (.cells #[.int .i64 a0_0, .int .i64 a0_1, .slice A0_2 l0_2.length c0_2] 24 (0, 0))) ∧ (w'.heap[gb102]? = some (.cells #[.int .i64 a1_0, .int .i64 a1_1, .string a1_2] 26 (0, 0))) ∧ (w'.heap[gb106]? = some (.cells #[.int .i64 a0_1, .int .i64 a0_0, u107002] 24 (0, 0))) ∧ (w'.heap[s_]? = some (.cells #[.int .i64 0, .int .i64 0, .string (⟨#[]⟩ : ByteArray)] 26 (0, 0))) ∧ (w.heap.size ≤ s_) ∧ (w.heap.size ≤ s_) ∧ (gb101 ≠ s_) ∧ (s_ ≠ gb101) ∧ (gb102 ≠ s_) ∧ (s_ ≠ gb102) ∧ (gb106 ≠ s_) ∧ (s_ ≠ gb106) ∧ (Below w.heap.size w w')) ?_ ?_
            rotate_left
            ·intro hJ3_7_8
             refine join_ (σ:=Nat) 3 #[T,T,T,T,T,T,T,T,F,T,F,F] (fun s_ => [(56, .agg #[.int .i64 t113, .int .i64 t114, .string t115]), (60, .agg #[.int .i64 t116, .int .i64 t117, .string t118]), (11, .pointer (some ⟨s_, 0, none⟩))]) (fun s_ w' => (w'.cell? ⟨gb102, 0, none⟩ = some (.int .i64 a1_0) ∧ w'.cell? ⟨gb102, 1, none⟩ = some (.int .i64 a1_1) ∧ w'.cell? ⟨gb102, 2, none⟩ = some (.string a1_2) ∧ w'.cell? ⟨gb101, 0, none⟩ = some (.int .i64 a0_0) ∧ w'.cell? ⟨gb101, 1, none⟩ = some (.int .i64 a0_1) ∧ w'.cell? ⟨gb101, 2, none⟩ = some (.slice A0_2 l0_2.length c0_2)) ∧ (Kd.R k26 26 w' w.heap.size (fun k_ => k_ ≠ gb102 ∧ k_ ≠ s_) u107002 x107002_2) ∧ (w'.heap[gb101]? = some (.cells #[.int .i64 a0_0, .int .i64 a0_1, .slice A0_2 l0_2.length c0_2] 24 (0, 0))) ∧ (w'.heap[gb102]? = some (.cells #[.int .i64 a1_0, .int .i64 a1_1, .string a1_2] 26 (0, 0))) ∧ (w'.heap[gb106]? = some (.cells #[.int .i64 a0_1, .int .i64 a0_0, u107002] 24 (0, 0))) ∧ (w'.heap[s_]? = some (.cells #[.int .i64 0, .int .i64 0, .string (⟨#[]⟩ : ByteArray)] 26 (0, 0))) ∧ (w.heap.size ≤ s_) ∧ (w.heap.size ≤ s_) ∧ (gb101 ≠ s_) ∧ (s_ ≠ gb101) ∧ (gb102 ≠ s_) ∧ (s_ ≠ gb102) ∧ (gb106 ≠ s_) ∧ (s_ ≠ gb106) ∧ (Below w.heap.size w w')) ?_ ?_
             rotate_left
             ·intro hJ3_7_9
              refine join_ (σ := Nat × Nat) 3 #[T,T,T,T,T,T,T,F,T,T,F,F] (fun s_ => [(56, .agg #[.int .i64 t113, .int .i64 t114, .string t115]), (10, .pointer (some ⟨s_.1, 0, none⟩)), (11, .pointer (some ⟨s_.2, 0, none⟩))]) (fun s_ w' => (w'.cell? ⟨gb102, 0, none⟩ = some (.int .i64 a1_0) ∧ w'.cell? ⟨gb102, 1, none⟩ = some (.int .i64 a1_1) ∧ w'.cell? ⟨gb102, 2, none⟩ = some (.string a1_2) ∧ w'.cell? ⟨gb101, 0, none⟩ = some (.int .i64 a0_0) ∧ w'.cell? ⟨gb101, 1, none⟩ = some (.int .i64 a0_1) ∧ w'.cell? ⟨gb101, 2, none⟩ = some (.slice A0_2 l0_2.length c0_2)) ∧ (Kd.R k26 26 w' w.heap.size (fun k_ => k_ ≠ gb102 ∧ k_ ≠ s_.1 ∧ k_ ≠ s_.2) u107002 x107002_2) ∧ (w'.heap[gb101]? = some (.cells #[.int .i64 a0_0, .int .i64 a0_1, .slice A0_2 l0_2.length c0_2] 24 (0, 0))) ∧ (w'.heap[gb102]? = some (.cells #[.int .i64 a1_0, .int .i64 a1_1, .string a1_2] 26 (0, 0))) ∧ (w'.heap[gb106]? = some (.cells #[.int .i64 a0_1, .int .i64 a0_0, u107002] 24 (0, 0))) ∧ (w'.heap[s_.1]? = some (.cells #[.int .i64 0, .int .i64 0, .string (⟨#[]⟩ : ByteArray)] 26 (0, 0))) ∧ (w'.heap[s_.2]? = some (.cells #[.int .i64 0, .int .i64 0, .string (⟨#[]⟩ : ByteArray)] 26 (0, 0))) ∧ (w.heap.size ≤ s_.1) ∧ (w.heap.size ≤ s_.1) ∧ (gb101 ≠ s_.1) ∧ (s_.1 ≠ gb101) ∧ (gb102 ≠ s_.1) ∧ (s_.1 ≠ gb102) ∧ (gb106 ≠ s_.1) ∧ (s_.1 ≠ gb106) ∧ (s_.2 ≠ s_.1) ∧ (s_.1 ≠ s_.2) ∧ (w.heap.size ≤ s_.2) ∧ (w.heap.size ≤ s_.2) ∧ (gb101 ≠ s_.2) ∧ (s_.2 ≠ gb101) ∧ (gb102 ≠ s_.2) ∧ (s_.2 ≠ gb102) ∧ (gb106 ≠ s_.2) ∧ (s_.2 ≠ gb106) ∧ (Below w.heap.size w w')) ?_ ?_
              rotate_left
              ·intro hJ3_8_9
               refine join_ (σ:=Unit) 4 #[T,T,T,T,T,T,T,T,F,F,F,F] (fun s_ => [(56, .agg #[.int .i64 t113, .int .i64 t114, .string t115]), (60, .agg #[.int .i64 t116, .int .i64 t117, .string t118])]) (fun s_ w' => (w'.cell? ⟨gb102, 0, none⟩ = some (.int .i64 a1_0) ∧ w'.cell? ⟨gb102, 1, none⟩ = some (.int .i64 a1_1) ∧ w'.cell? ⟨gb102, 2, none⟩ = some (.string a1_2) ∧ w'.cell? ⟨gb101, 0, none⟩ = some (.int .i64 a0_0) ∧ w'.cell? ⟨gb101, 1, none⟩ = some (.int .i64 a0_1) ∧ w'.cell? ⟨gb101, 2, none⟩ = some (.slice A0_2 l0_2.length c0_2)) ∧ (Kd.R k26 26 w' w.heap.size (fun k_ => k_ ≠ gb102) u107002 x107002_2) ∧ (w'.heap[gb101]? = some (.cells #[.int .i64 a0_0, .int .i64 a0_1, .slice A0_2 l0_2.length c0_2] 24 (0, 0))) ∧ (w'.heap[gb102]? = some (.cells #[.int .i64 a1_0, .int .i64 a1_1, .string a1_2] 26 (0, 0))) ∧ (w'.heap[gb106]? = some (.cells #[.int .i64 a0_1, .int .i64 a0_0, u107002] 24 (0, 0))) ∧ (Below w.heap.size w w')) ?_ ?_
               rotate_left
               ·intro hJ3_7
                refine join_ (σ:=Nat) 4 #[T,T,T,T,T,T,T,F,T,F,F,F] (fun s_ => [(56, .agg #[.int .i64 t113, .int .i64 t114, .string t115]), (10, .pointer (some ⟨s_, 0, none⟩))]) (fun s_ w' => (w'.cell? ⟨gb102, 0, none⟩ = some (.int .i64 a1_0) ∧ w'.cell? ⟨gb102, 1, none⟩ = some (.int .i64 a1_1) ∧ w'.cell? ⟨gb102, 2, none⟩ = some (.string a1_2) ∧ w'.cell? ⟨gb101, 0, none⟩ = some (.int .i64 a0_0) ∧ w'.cell? ⟨gb101, 1, none⟩ = some (.int .i64 a0_1) ∧ w'.cell? ⟨gb101, 2, none⟩ = some (.slice A0_2 l0_2.length c0_2)) ∧ (Kd.R k26 26 w' w.heap.size (fun k_ => k_ ≠ gb102 ∧ k_ ≠ s_) u107002 x107002_2) ∧ (w'.heap[gb101]? = some (.cells #[.int .i64 a0_0, .int .i64 a0_1, .slice A0_2 l0_2.length c0_2] 24 (0, 0))) ∧ (w'.heap[gb102]? = some (.cells #[.int .i64 a1_0, .int .i64 a1_1, .string a1_2] 26 (0, 0))) ∧ (w'.heap[gb106]? = some (.cells #[.int .i64 a0_1, .int .i64 a0_0, u107002] 24 (0, 0))) ∧ (w'.heap[s_]? = some (.cells #[.int .i64 0, .int .i64 0, .string (⟨#[]⟩ : ByteArray)] 26 (0, 0))) ∧ (w.heap.size ≤ s_) ∧ (w.heap.size ≤ s_) ∧ (gb101 ≠ s_) ∧ (s_ ≠ gb101) ∧ (gb102 ≠ s_) ∧ (s_ ≠ gb102) ∧ (gb106 ≠ s_) ∧ (s_ ≠ gb106) ∧ (Below w.heap.size w w')) ?_ ?_
                rotate_left
                ·intro hJ3_8
                 refine join_ (σ:=Nat) 4 #[T,T,T,T,T,T,T,F,F,T,F,F] (fun s_ => [(56, .agg #[.int .i64 t113, .int .i64 t114, .string t115]), (11, .pointer (some ⟨s_, 0, none⟩))]) (fun s_ w' => (w'.cell? ⟨gb102, 0, none⟩ = some (.int .i64 a1_0) ∧ w'.cell? ⟨gb102, 1, none⟩ = some (.int .i64 a1_1) ∧ w'.cell? ⟨gb102, 2, none⟩ = some (.string a1_2) ∧ w'.cell? ⟨gb101, 0, none⟩ = some (.int .i64 a0_0) ∧ w'.cell? ⟨gb101, 1, none⟩ = some (.int .i64 a0_1) ∧ w'.cell? ⟨gb101, 2, none⟩ = some (.slice A0_2 l0_2.length c0_2)) ∧ (Kd.R k26 26 w' w.heap.size (fun k_ => k_ ≠ gb102 ∧ k_ ≠ s_) u107002 x107002_2) ∧ (w'.heap[gb101]? = some (.cells #[.int .i64 a0_0, .int .i64 a0_1, .slice A0_2 l0_2.length c0_2] 24 (0, 0))) ∧ (w'.heap[gb102]? = some (.cells #[.int .i64 a1_0, .int .i64 a1_1, .string a1_2] 26 (0, 0))) ∧ (w'.heap[gb106]? = some (.cells #[.int .i64 a0_1, .int .i64 a0_0, u107002] 24 (0, 0))) ∧ (w'.heap[s_]? = some (.cells #[.int .i64 0, .int .i64 0, .string (⟨#[]⟩ : ByteArray)] 26 (0, 0))) ∧ (w.heap.size ≤ s_) ∧ (w.heap.size ≤ s_) ∧ (gb101 ≠ s_) ∧ (s_ ≠ gb101) ∧ (gb102 ≠ s_) ∧ (s_ ≠ gb102) ∧ (gb106 ≠ s_) ∧ (s_ ≠ gb106) ∧ (Below w.heap.size w w')) ?_ ?_
                 rotate_left
                 ·intro hJ3_9
                  refine join_ (σ := Nat × Nat) 4 #[T,T,T,F,T,T,T,F,T,T,F,F] (fun s_ => [(10, .pointer (some ⟨s_.1, 0, none⟩)), (11, .pointer (some ⟨s_.2, 0, none⟩))]) (fun s_ w' => (w'.cell? ⟨gb102, 0, none⟩ = some (.int .i64 a1_0) ∧ w'.cell? ⟨gb102, 1, none⟩ = some (.int .i64 a1_1) ∧ w'.cell? ⟨gb102, 2, none⟩ = some (.string a1_2) ∧ w'.cell? ⟨gb101, 0, none⟩ = some (.int .i64 a0_0) ∧ w'.cell? ⟨gb101, 1, none⟩ = some (.int .i64 a0_1) ∧ w'.cell? ⟨gb101, 2, none⟩ = some (.slice A0_2 l0_2.length c0_2)) ∧ (Kd.R k26 26 w' w.heap.size (fun k_ => k_ ≠ gb102 ∧ k_ ≠ s_.1 ∧ k_ ≠ s_.2) u107002 x107002_2) ∧ (w'.heap[gb101]? = some (.cells #[.int .i64 a0_0, .int .i64 a0_1, .slice A0_2 l0_2.length c0_2] 24 (0, 0))) ∧ (w'.heap[gb102]? = some (.cells #[.int .i64 a1_0, .int .i64 a1_1, .string a1_2] 26 (0, 0))) ∧ (w'.heap[gb106]? = some (.cells #[.int .i64 a0_1, .int .i64 a0_0, u107002] 24 (0, 0))) ∧ (w'.heap[s_.1]? = some (.cells #[.int .i64 0, .int .i64 0, .string (⟨#[]⟩ : ByteArray)] 26 (0, 0))) ∧ (w'.heap[s_.2]? = some (.cells #[.int .i64 0, .int .i64 0, .string (⟨#[]⟩ : ByteArray)] 26 (0, 0))) ∧ (w.heap.size ≤ s_.1) ∧ (w.heap.size ≤ s_.1) ∧ (gb101 ≠ s_.1) ∧ (s_.1 ≠ gb101) ∧ (gb102 ≠ s_.1) ∧ (s_.1 ≠ gb102) ∧ (gb106 ≠ s_.1) ∧ (s_.1 ≠ gb106) ∧ (s_.2 ≠ s_.1) ∧ (s_.1 ≠ s_.2) ∧ (w.heap.size ≤ s_.2) ∧ (w.heap.size ≤ s_.2) ∧ (gb101 ≠ s_.2) ∧ (s_.2 ≠ gb101) ∧ (gb102 ≠ s_.2) ∧ (s_.2 ≠ gb102) ∧ (gb106 ≠ s_.2) ∧ (s_.2 ≠ gb106) ∧ (Below w.heap.size w w')) ?_ ?_
                  rotate_left
                  ·intro hJ8_9
                   refine join_ (σ:=Unit) 5 #[T,T,T,T,T,T,T,F,F,F,F,F] (fun s_ => [(56, .agg #[.int .i64 t113, .int .i64 t114, .string t115])]) (fun s_ w' => (w'.cell? ⟨gb102, 0, none⟩ = some (.int .i64 a1_0) ∧ w'.cell? ⟨gb102, 1, none⟩ = some (.int .i64 a1_1) ∧ w'.cell? ⟨gb102, 2, none⟩ = some (.string a1_2) ∧ w'.cell? ⟨gb101, 0, none⟩ = some (.int .i64 a0_0) ∧ w'.cell? ⟨gb101, 1, none⟩ = some (.int .i64 a0_1) ∧ w'.cell? ⟨gb101, 2, none⟩ = some (.slice A0_2 l0_2.length c0_2)) ∧ (Kd.R k26 26 w' w.heap.size (fun k_ => k_ ≠ gb102) u107002 x107002_2) ∧ (w'.heap[gb101]? = some (.cells #[.int .i64 a0_0, .int .i64 a0_1, .slice A0_2 l0_2.length c0_2] 24 (0, 0))) ∧ (w'.heap[gb102]? = some (.cells #[.int .i64 a1_0, .int .i64 a1_1, .string a1_2] 26 (0, 0))) ∧ (w'.heap[gb106]? = some (.cells #[.int .i64 a0_1, .int .i64 a0_0, u107002] 24 (0, 0))) ∧ (Below w.heap.size w w')) ?_ ?_
                   rotate_left
                   ·intro hJ3
                    refine join_ (σ:=Nat) 5 #[T,T,T,F,T,T,T,F,T,F,F,F] (fun s_ => [(10, .pointer (some ⟨s_, 0, none⟩))]) (fun s_ w' => (w'.cell? ⟨gb102, 0, none⟩ = some (.int .i64 a1_0) ∧ w'.cell? ⟨gb102, 1, none⟩ = some (.int .i64 a1_1) ∧ w'.cell? ⟨gb102, 2, none⟩ = some (.string a1_2) ∧ w'.cell? ⟨gb101, 0, none⟩ = some (.int .i64 a0_0) ∧ w'.cell? ⟨gb101, 1, none⟩ = some (.int .i64 a0_1) ∧ w'.cell? ⟨gb101, 2, none⟩ = some (.slice A0_2 l0_2.length c0_2)) ∧ (Kd.R k26 26 w' w.heap.size (fun k_ => k_ ≠ gb102 ∧ k_ ≠ s_) u107002 x107002_2) ∧ (w'.heap[gb101]? = some (.cells #[.int .i64 a0_0, .int .i64 a0_1, .slice A0_2 l0_2.length c0_2] 24 (0, 0))) ∧ (w'.heap[gb102]? = some (.cells #[.int .i64 a1_0, .int .i64 a1_1, .string a1_2] 26 (0, 0))) ∧ (w'.heap[gb106]? = some (.cells #[.int .i64 a0_1, .int .i64 a0_0, u107002] 24 (0, 0))) ∧ (w'.heap[s_]? = some (.cells #[.int .i64 0, .int .i64 0, .string (⟨#[]⟩ : ByteArray)] 26 (0, 0))) ∧ (w.heap.size ≤ s_) ∧ (w.heap.size ≤ s_) ∧ (gb101 ≠ s_) ∧ (s_ ≠ gb101) ∧ (gb102 ≠ s_) ∧ (s_ ≠ gb102) ∧ (gb106 ≠ s_) ∧ (s_ ≠ gb106) ∧ (Below w.heap.size w w')) ?_ ?_
                    rotate_left
                    ·intro hJ8
                     refine join_ (σ:=Nat) 5 #[T,T,T,F,T,T,T,F,F,T,F,F] (fun s_ => [(11, .pointer (some ⟨s_, 0, none⟩))]) (fun s_ w' => (w'.cell? ⟨gb102, 0, none⟩ = some (.int .i64 a1_0) ∧ w'.cell? ⟨gb102, 1, none⟩ = some (.int .i64 a1_1) ∧ w'.cell? ⟨gb102, 2, none⟩ = some (.string a1_2) ∧ w'.cell? ⟨gb101, 0, none⟩ = some (.int .i64 a0_0) ∧ w'.cell? ⟨gb101, 1, none⟩ = some (.int .i64 a0_1) ∧ w'.cell? ⟨gb101, 2, none⟩ = some (.slice A0_2 l0_2.length c0_2)) ∧ (Kd.R k26 26 w' w.heap.size (fun k_ => k_ ≠ gb102 ∧ k_ ≠ s_) u107002 x107002_2) ∧ (w'.heap[gb101]? = some (.cells #[.int .i64 a0_0, .int .i64 a0_1, .slice A0_2 l0_2.length c0_2] 24 (0, 0))) ∧ (w'.heap[gb102]? = some (.cells #[.int .i64 a1_0, .int .i64 a1_1, .string a1_2] 26 (0, 0))) ∧ (w'.heap[gb106]? = some (.cells #[.int .i64 a0_1, .int .i64 a0_0, u107002] 24 (0, 0))) ∧ (w'.heap[s_]? = some (.cells #[.int .i64 0, .int .i64 0, .string (⟨#[]⟩ : ByteArray)] 26 (0, 0))) ∧ (w.heap.size ≤ s_) ∧ (w.heap.size ≤ s_) ∧ (gb101 ≠ s_) ∧ (s_ ≠ gb101) ∧ (gb102 ≠ s_) ∧ (s_ ≠ gb102) ∧ (gb106 ≠ s_) ∧ (s_ ≠ gb106) ∧ (Below w.heap.size w w')) ?_ ?_
                     rotate_left
                     ·intro hJ9
                      refine three_ (i:=3) (j:=8) (k:=9) (Ni := some 56) (Nj := some 10) (Nk := some 11) #[T,T,T,T,T,T,T,F,F,F,F,F] #[T,T,T,F,T,T,T,F,T,F,F,F] ⟨m_ 12 631⟩ rfl rfl rfl rfl rfl rfl (three_of HT_.out (by kernel_rfl)) (by decide) (by decide) (by decide) (fun K hK => ?_) (fun K hK => ?_) (fun K hK => ?_)
                      ·skip
                       refine goes_ Try.func9 (by kernel_rfl) rfl #[.agg #[.int .i64 a1_0, .int .i64 a1_1, .string a1_2], .agg #[.int .i64 a0_0, .int .i64 a0_1, .slice A0_2 l0_2.length c0_2], .int .i64 a2] (by rfl) rfl rfl (by (try simp only [List.map_toArray, List.map_cons, List.map_nil]); first | done | rfl | (simp only [List.length_drop, List.length_take]; rfl)) ?_; with_reducible refine (look_Down.calls k2 a1_0 a1_1 a1_2 a0_0 a0_1 _ _ l0_2 a2 t113 t114 t115 _ ?side1 ?side2 A52.out).mono ?_; (case side1 => repeat (first | exact (Kd.C_below HR0_2.out HB.out) | (with_reducible refine Kd.C_alloc ?_ _) | (with_reducible refine Kd.C_drewN ?_ _) | (with_reducible refine Kd.C_drew ?_))); (case side2 => exact HC0_2.out); rintro e w67 ⟨rfl, hb⟩; refine ⟨_, rfl, ?_⟩
                       replace HO_107002 := Aside0.mk (Kd.R_below (by (with_reducible repeat (first | apply Kd.R_alloc | apply Kd.R_drewN | apply Kd.R_drew)); exact HO_107002.out) hb); replace BK101 := bb_ BK101 hb; replace BK102 := bb_ BK102 hb; replace BK106 := bb_ BK106 hb; replace HB := bs_ HB hb
                       (try clear hb); (try clear hb2); (try clear hk); (try clear hi); refine hK.out _ _ ⟨bc_ BK102 0 rfl, bc_ BK102 1 rfl, bc_ BK102 2 rfl, bc_ BK101 0 rfl, bc_ BK101 1 rfl, bc_ BK101 2 rfl⟩ (fun hHeld => ?_); clear hK K; refine norm_ (a':=?_) ?_ ?_; rotate_left
                       ·show Act.put _ (some 56) _ = _; simp only [q_, i64_w, i32_w]; rfl
                       exact norm_ (by simp only [putAll, q_] <;> rfl) (hJ3 () _ ⟨hHeld, (by (with_reducible repeat (first | apply Kd.R_alloc | apply Kd.R_drewN | apply Kd.R_drew)); exact HO_107002.out), (pkx BK101), (pkx BK102), (pkx BK106), (pbx HB)⟩)
                      ·skip
                       refine box_step ?hg (N:=10) ?hd (cs := #[.int .i64 0, .int .i64 0, .string (⟨#[]⟩ : ByteArray)]) (t:=26) ?hr ?_; (case hd => rfl); (case hg => rfl); (case hr => first | (go_simp; done) | (go_simp; rfl))
                       intro gb119 hg w67 hbox hb
                       have BK119 := Aside0.mk (hbox); have GW119 := hs_ HB hg; have GE119 := hs_ HB hg; have NB101_119 := hl_ BK101 hg; have NB119_101 := hr_ BK101 hg; have NB102_119 := hl_ BK102 hg; have NB119_102 := hr_ BK102 hg; have NB106_119 := hl_ BK106 hg; have NB119_106 := hr_ BK106 hg; replace HO_107002 := Aside0.mk (Kd.R_below (Kd.R_elderB (by (with_reducible repeat (first | apply Kd.R_alloc | apply Kd.R_drewN | apply Kd.R_drew)); exact HO_107002.out) gb119 (Nat.le_of_eq hg.symm)) hb); replace BK101 := bb_ BK101 hb; replace BK102 := bb_ BK102 hb; replace BK106 := bb_ BK106 hb; replace HB := bs_ HB hb; clear hb hbox hg
                       refine hK.out _ _ ⟨bc_ BK102 0 rfl, bc_ BK102 1 rfl, bc_ BK102 2 rfl, bc_ BK101 0 rfl, bc_ BK101 1 rfl, bc_ BK101 2 rfl⟩ (fun hHeld => ?_); clear hK K; refine norm_ (a':=?_) ?_ ?_; rotate_left
                       ·show Act.put _ (some 10) _ = _; simp only [q_, i64_w, i32_w]; rfl
                       exact norm_ (by simp only [putAll, q_] <;> rfl) (hJ8 (gb119) _ ⟨hHeld, (by (with_reducible repeat (first | apply Kd.R_alloc | apply Kd.R_drewN | apply Kd.R_drew)); exact HO_107002.out), (pkx BK101), (pkx BK102), (pkx BK106), (pkx BK119), GW119.out, GE119.out, NB101_119.out, NB119_101.out, NB102_119.out, NB119_102.out, NB106_119.out, NB119_106.out, (pbx HB)⟩)
                      ·skip
                       refine box_step ?hg (N:=11) ?hd (cs := #[.int .i64 0, .int .i64 0, .string (⟨#[]⟩ : ByteArray)]) (t:=26) ?hr ?_; (case hd => rfl); (case hg => rfl); (case hr => first | (go_simp; done) | (go_simp; rfl))
                       intro gb120 hg w67 hbox hb
                       have BK120 := Aside0.mk (hbox); have GW120 := hs_ HB hg; have GE120 := hs_ HB hg; have NB101_120 := hl_ BK101 hg; have NB120_101 := hr_ BK101 hg; have NB102_120 := hl_ BK102 hg; have NB120_102 := hr_ BK102 hg; have NB106_120 := hl_ BK106 hg; have NB120_106 := hr_ BK106 hg; replace HO_107002 := Aside0.mk (Kd.R_below (Kd.R_elderB (by (with_reducible repeat (first | apply Kd.R_alloc | apply Kd.R_drewN | apply Kd.R_drew)); exact HO_107002.out) gb120 (Nat.le_of_eq hg.symm)) hb); replace BK101 := bb_ BK101 hb; replace BK102 := bb_ BK102 hb; replace BK106 := bb_ BK106 hb; replace HB := bs_ HB hb; clear hb hbox hg
                       refine hK.out _ _ ⟨bc_ BK102 0 rfl, bc_ BK102 1 rfl, bc_ BK102 2 rfl, bc_ BK101 0 rfl, bc_ BK101 1 rfl, bc_ BK101 2 rfl⟩ (fun hHeld => ?_); clear hK K; refine norm_ (a':=?_) ?_ ?_; rotate_left
                       ·show Act.put _ (some 11) _ = _; simp only [q_, i64_w, i32_w]; rfl
                       exact norm_ (by simp only [putAll, q_] <;> rfl) (hJ9 (gb120) _ ⟨hHeld, (by (with_reducible repeat (first | apply Kd.R_alloc | apply Kd.R_drewN | apply Kd.R_drew)); exact HO_107002.out), (pkx BK101), (pkx BK102), (pkx BK106), (pkx BK120), GW120.out, GE120.out, NB101_120.out, NB120_101.out, NB102_120.out, NB120_102.out, NB106_120.out, NB120_106.out, (pbx HB)⟩)
                     ·skip
                      rintro gb120 w68 ⟨hS_, h0_, h1_, h2_, h3_, h4_, h5_, h6_, h7_, h8_, h9_, h10_, h11_, h12_, h13_⟩
                      have BK120 := Aside0.mk h4_; have GW120 := Aside0.mk h5_; have GE120 := Aside0.mk h6_; have NB101_120 := Aside0.mk h7_; have NB120_101 := Aside0.mk h8_; have NB102_120 := Aside0.mk h9_; have NB120_102 := Aside0.mk h10_; have NB106_120 := Aside0.mk h11_; have NB120_106 := Aside0.mk h12_; replace HO_107002 := Aside0.mk h0_; replace BK101 := Aside0.mk h1_; replace BK102 := Aside0.mk h2_; replace BK106 := Aside0.mk h3_; replace HB := Aside0.mk h13_; clear h0_ h1_ h2_ h3_ h4_ h5_ h6_ h7_ h8_ h9_ h10_ h11_ h12_ h13_
                      have hHeld : w68.cell? ⟨gb102, 0, none⟩ = some (.int .i64 a1_0) ∧ w68.cell? ⟨gb102, 1, none⟩ = some (.int .i64 a1_1) ∧ w68.cell? ⟨gb102, 2, none⟩ = some (.string a1_2) ∧ w68.cell? ⟨gb101, 0, none⟩ = some (.int .i64 a0_0) ∧ w68.cell? ⟨gb101, 1, none⟩ = some (.int .i64 a0_1) ∧ w68.cell? ⟨gb101, 2, none⟩ = some (.slice A0_2 l0_2.length c0_2) := hS_
                      refine norm_ (a':=?_) ?_ ?_; rotate_left
                      ·simp only [putAll, q_]; rfl
                      refine two_ (i:=3) (j:=8) (Ni := some 56) (Nj := some 10) #[T,T,T,T,T,T,T,F,F,T,F,F] ⟨m_ 12 887⟩ rfl rfl rfl rfl (two_of HT_.out (by kernel_rfl)) (by decide) (by decide) (fun K hK => ?_) (fun K hK => ?_)
                      ·skip
                       refine goes_ Try.func9 (by kernel_rfl) rfl #[.agg #[.int .i64 a1_0, .int .i64 a1_1, .string a1_2], .agg #[.int .i64 a0_0, .int .i64 a0_1, .slice A0_2 l0_2.length c0_2], .int .i64 a2] (by rfl) rfl rfl (by (try simp only [List.map_toArray, List.map_cons, List.map_nil]); first | done | rfl | (simp only [List.length_drop, List.length_take]; rfl)) ?_; with_reducible refine (look_Down.calls k2 a1_0 a1_1 a1_2 a0_0 a0_1 _ _ l0_2 a2 t113 t114 t115 _ ?side1 ?side2 A52.out).mono ?_; (case side1 => repeat (first | exact (Kd.C_below HR0_2.out HB.out) | (with_reducible refine Kd.C_alloc ?_ _) | (with_reducible refine Kd.C_drewN ?_ _) | (with_reducible refine Kd.C_drew ?_))); (case side2 => exact HC0_2.out); rintro e w69 ⟨rfl, hb⟩; refine ⟨_, rfl, ?_⟩
                       replace HO_107002 := Aside0.mk (Kd.R_below (by (with_reducible repeat (first | apply Kd.R_alloc | apply Kd.R_drewN | apply Kd.R_drew)); exact HO_107002.out) hb); replace BK101 := bb_ BK101 hb; replace BK102 := bb_ BK102 hb; replace BK106 := bb_ BK106 hb; replace BK120 := bb_ BK120 hb; replace HB := bs_ HB hb
                       (try clear hb); (try clear hb2); (try clear hk); (try clear hi); refine hK.out _ _ ⟨bc_ BK102 0 rfl, bc_ BK102 1 rfl, bc_ BK102 2 rfl, bc_ BK101 0 rfl, bc_ BK101 1 rfl, bc_ BK101 2 rfl⟩ (fun hHeld => ?_); clear hK K; refine norm_ (a':=?_) ?_ ?_; rotate_left
                       ·show Act.put _ (some 56) _ = _; simp only [q_, i64_w, i32_w]; rfl
                       exact norm_ (by simp only [putAll, q_] <;> rfl) (hJ3_9 (gb120) _ ⟨hHeld, (by (with_reducible repeat (first | apply Kd.R_alloc | apply Kd.R_drewN | apply Kd.R_drew)); exact HO_107002.out), (pkx BK101), (pkx BK102), (pkx BK106), (pkx BK120), GW120.out, GE120.out, NB101_120.out, NB120_101.out, NB102_120.out, NB120_102.out, NB106_120.out, NB120_106.out, (pbx HB)⟩)
                      ·skip
                       refine box_step ?hg (N:=10) ?hd (cs := #[.int .i64 0, .int .i64 0, .string (⟨#[]⟩ : ByteArray)]) (t:=26) ?hr ?_; (case hd => rfl); (case hg => rfl); (case hr => first | (go_simp; done) | (go_simp; rfl))
                       intro gb119 hg w69 hbox hb
                       have BK119 := Aside0.mk (hbox); have GW119 := hs_ HB hg; have GE119 := hs_ HB hg; have NB101_119 := hl_ BK101 hg; have NB119_101 := hr_ BK101 hg; have NB102_119 := hl_ BK102 hg; have NB119_102 := hr_ BK102 hg; have NB106_119 := hl_ BK106 hg; have NB119_106 := hr_ BK106 hg; have NB120_119 := hl_ BK120 hg; have NB119_120 := hr_ BK120 hg; replace HO_107002 := Aside0.mk (Kd.R_below (Kd.R_elderB (by (with_reducible repeat (first | apply Kd.R_alloc | apply Kd.R_drewN | apply Kd.R_drew)); exact HO_107002.out) gb119 (Nat.le_of_eq hg.symm)) hb); replace BK101 := bb_ BK101 hb; replace BK102 := bb_ BK102 hb; replace BK106 := bb_ BK106 hb; replace BK120 := bb_ BK120 hb; replace HB := bs_ HB hb
                       clear hb hbox hg; refine hK.out _ _ ⟨bc_ BK102 0 rfl, bc_ BK102 1 rfl, bc_ BK102 2 rfl, bc_ BK101 0 rfl, bc_ BK101 1 rfl, bc_ BK101 2 rfl⟩ (fun hHeld => ?_); clear hK K; refine norm_ (a':=?_) ?_ ?_; rotate_left
                       ·show Act.put _ (some 10) _ = _; simp only [q_, i64_w, i32_w]; rfl
                       exact norm_ (by simp only [putAll, q_] <;> rfl) (hJ8_9 (gb119, gb120) _ ⟨hHeld, (by (with_reducible repeat (first | apply Kd.R_alloc | apply Kd.R_drewN | apply Kd.R_drew)); exact Kd.R_mono HO_107002.out (fun _ hk => ⟨hk.1.1, ⟨hk.2, hk.1.2⟩⟩)), (pkx BK101), (pkx BK102), (pkx BK106), (pkx BK119), (pkx BK120), GW119.out, GE119.out, NB101_119.out, NB119_101.out, NB102_119.out, NB119_102.out, NB106_119.out, NB119_106.out, NB120_119.out, NB119_120.out, GW120.out, GE120.out, NB101_120.out, NB120_101.out, NB102_120.out, NB120_102.out, NB106_120.out, NB120_106.out, (pbx HB)⟩)
                    ·skip
                     rintro gb119 w68 ⟨hS_, h0_, h1_, h2_, h3_, h4_, h5_, h6_, h7_, h8_, h9_, h10_, h11_, h12_, h13_⟩
                     have BK119 := Aside0.mk h4_; have GW119 := Aside0.mk h5_; have GE119 := Aside0.mk h6_; have NB101_119 := Aside0.mk h7_; have NB119_101 := Aside0.mk h8_; have NB102_119 := Aside0.mk h9_; have NB119_102 := Aside0.mk h10_; have NB106_119 := Aside0.mk h11_; have NB119_106 := Aside0.mk h12_; replace HO_107002 := Aside0.mk h0_; replace BK101 := Aside0.mk h1_; replace BK102 := Aside0.mk h2_; replace BK106 := Aside0.mk h3_; replace HB := Aside0.mk h13_; clear h0_ h1_ h2_ h3_ h4_ h5_ h6_ h7_ h8_ h9_ h10_ h11_ h12_ h13_
                     have hHeld : w68.cell? ⟨gb102, 0, none⟩ = some (.int .i64 a1_0) ∧ w68.cell? ⟨gb102, 1, none⟩ = some (.int .i64 a1_1) ∧ w68.cell? ⟨gb102, 2, none⟩ = some (.string a1_2) ∧ w68.cell? ⟨gb101, 0, none⟩ = some (.int .i64 a0_0) ∧ w68.cell? ⟨gb101, 1, none⟩ = some (.int .i64 a0_1) ∧ w68.cell? ⟨gb101, 2, none⟩ = some (.slice A0_2 l0_2.length c0_2) := hS_
                     refine norm_ (a':=?_) ?_ ?_; rotate_left
                     ·simp only [putAll, q_]; rfl
                     refine two_ (i:=3) (j:=9) (Ni := some 56) (Nj := some 11) #[T,T,T,T,T,T,T,F,T,F,F,F] ⟨m_ 12 887⟩ rfl rfl rfl rfl (two_of HT_.out (by kernel_rfl)) (by decide) (by decide) (fun K hK => ?_) (fun K hK => ?_)
                     ·skip
                      refine goes_ Try.func9 (by kernel_rfl) rfl #[.agg #[.int .i64 a1_0, .int .i64 a1_1, .string a1_2], .agg #[.int .i64 a0_0, .int .i64 a0_1, .slice A0_2 l0_2.length c0_2], .int .i64 a2] (by rfl) rfl rfl (by (try simp only [List.map_toArray, List.map_cons, List.map_nil]); first | done | rfl | (simp only [List.length_drop, List.length_take]; rfl)) ?_; with_reducible refine (look_Down.calls k2 a1_0 a1_1 a1_2 a0_0 a0_1 _ _ l0_2 a2 t113 t114 t115 _ ?side1 ?side2 A52.out).mono ?_; (case side1 => repeat (first | exact (Kd.C_below HR0_2.out HB.out) | (with_reducible refine Kd.C_alloc ?_ _) | (with_reducible refine Kd.C_drewN ?_ _) | (with_reducible refine Kd.C_drew ?_))); (case side2 => exact HC0_2.out); rintro e w69 ⟨rfl, hb⟩; refine ⟨_, rfl, ?_⟩
                      replace HO_107002 := Aside0.mk (Kd.R_below (by (with_reducible repeat (first | apply Kd.R_alloc | apply Kd.R_drewN | apply Kd.R_drew)); exact HO_107002.out) hb); replace BK101 := bb_ BK101 hb; replace BK102 := bb_ BK102 hb; replace BK106 := bb_ BK106 hb; replace BK119 := bb_ BK119 hb; replace HB := bs_ HB hb
                      (try clear hb); (try clear hb2); (try clear hk); (try clear hi); refine hK.out _ _ ⟨bc_ BK102 0 rfl, bc_ BK102 1 rfl, bc_ BK102 2 rfl, bc_ BK101 0 rfl, bc_ BK101 1 rfl, bc_ BK101 2 rfl⟩ (fun hHeld => ?_); clear hK K; refine norm_ (a':=?_) ?_ ?_; rotate_left
                      ·show Act.put _ (some 56) _ = _; simp only [q_, i64_w, i32_w]; rfl
                      exact norm_ (by simp only [putAll, q_] <;> rfl) (hJ3_8 (gb119) _ ⟨hHeld, (by (with_reducible repeat (first | apply Kd.R_alloc | apply Kd.R_drewN | apply Kd.R_drew)); exact HO_107002.out), (pkx BK101), (pkx BK102), (pkx BK106), (pkx BK119), GW119.out, GE119.out, NB101_119.out, NB119_101.out, NB102_119.out, NB119_102.out, NB106_119.out, NB119_106.out, (pbx HB)⟩)
                     ·skip
                      refine box_step ?hg (N:=11) ?hd (cs := #[.int .i64 0, .int .i64 0, .string (⟨#[]⟩ : ByteArray)]) (t:=26) ?hr ?_; (case hd => rfl); (case hg => rfl); (case hr => first | (go_simp; done) | (go_simp; rfl))
                      intro gb120 hg w69 hbox hb
                      have BK120 := Aside0.mk (hbox); have GW120 := hs_ HB hg; have GE120 := hs_ HB hg; have NB101_120 := hl_ BK101 hg; have NB120_101 := hr_ BK101 hg; have NB102_120 := hl_ BK102 hg; have NB120_102 := hr_ BK102 hg; have NB106_120 := hl_ BK106 hg; have NB120_106 := hr_ BK106 hg; have NB119_120 := hl_ BK119 hg; have NB120_119 := hr_ BK119 hg; replace HO_107002 := Aside0.mk (Kd.R_below (Kd.R_elderB (by (with_reducible repeat (first | apply Kd.R_alloc | apply Kd.R_drewN | apply Kd.R_drew)); exact HO_107002.out) gb120 (Nat.le_of_eq hg.symm)) hb); replace BK101 := bb_ BK101 hb; replace BK102 := bb_ BK102 hb; replace BK106 := bb_ BK106 hb; replace BK119 := bb_ BK119 hb; replace HB := bs_ HB hb
                      clear hb hbox hg; refine hK.out _ _ ⟨bc_ BK102 0 rfl, bc_ BK102 1 rfl, bc_ BK102 2 rfl, bc_ BK101 0 rfl, bc_ BK101 1 rfl, bc_ BK101 2 rfl⟩ (fun hHeld => ?_); clear hK K; refine norm_ (a':=?_) ?_ ?_; rotate_left
                      ·show Act.put _ (some 11) _ = _; simp only [q_, i64_w, i32_w]; rfl
                      exact norm_ (by simp only [putAll, q_] <;> rfl) (hJ8_9 (gb119, gb120) _ ⟨hHeld, (by (with_reducible repeat (first | apply Kd.R_alloc | apply Kd.R_drewN | apply Kd.R_drew)); exact Kd.R_mono HO_107002.out (fun _ hk => ⟨hk.1.1, ⟨hk.1.2, hk.2⟩⟩)), (pkx BK101), (pkx BK102), (pkx BK106), (pkx BK119), (pkx BK120), GW119.out, GE119.out, NB101_119.out, NB119_101.out, NB102_119.out, NB119_102.out, NB106_119.out, NB119_106.out, NB120_119.out, NB119_120.out, GW120.out, GE120.out, NB101_120.out, NB120_101.out, NB102_120.out, NB120_102.out, NB106_120.out, NB120_106.out, (pbx HB)⟩)
                   ·skip
                    rintro _ w68 ⟨hS_, h0_, h1_, h2_, h3_, h4_⟩
                    replace HO_107002 := Aside0.mk h0_; replace BK101 := Aside0.mk h1_; replace BK102 := Aside0.mk h2_; replace BK106 := Aside0.mk h3_; replace HB := Aside0.mk h4_; clear h0_ h1_ h2_ h3_ h4_
                    have hHeld : w68.cell? ⟨gb102, 0, none⟩ = some (.int .i64 a1_0) ∧ w68.cell? ⟨gb102, 1, none⟩ = some (.int .i64 a1_1) ∧ w68.cell? ⟨gb102, 2, none⟩ = some (.string a1_2) ∧ w68.cell? ⟨gb101, 0, none⟩ = some (.int .i64 a0_0) ∧ w68.cell? ⟨gb101, 1, none⟩ = some (.int .i64 a0_1) ∧ w68.cell? ⟨gb101, 2, none⟩ = some (.slice A0_2 l0_2.length c0_2) := hS_
                    refine norm_ (a':=?_) ?_ ?_; rotate_left
                    ·simp only [putAll, q_]; rfl
                    refine three_ (i:=7) (j:=8) (k:=9) (Ni := some 60) (Nj := some 10) (Nk := some 11) #[T,T,T,T,T,T,T,T,F,F,F,F] #[T,T,T,T,T,T,T,F,T,F,F,F] ⟨m_ 12 639⟩ rfl rfl rfl rfl rfl rfl (three_of HT_.out (by kernel_rfl)) (by decide) (by decide) (by decide) (fun K hK => ?_) (fun K hK => ?_) (fun K hK => ?_)
                    ·skip
                     refine goes_ Try.func10 (by kernel_rfl) rfl #[.agg #[.int .i64 a1_0, .int .i64 a1_1, .string a1_2], .agg #[.int .i64 a0_0, .int .i64 a0_1, .slice A0_2 l0_2.length c0_2], .int .i64 a2] (by rfl) rfl rfl (by (try simp only [List.map_toArray, List.map_cons, List.map_nil]); first | done | rfl | (simp only [List.length_drop, List.length_take]; rfl)) ?_; with_reducible refine (look_Across.calls k2 a1_0 a1_1 a1_2 a0_0 a0_1 _ _ l0_2 a2 t116 t117 t118 _ ?side1 ?side2 A53.out).mono ?_; (case side1 => repeat (first | exact (Kd.C_below HR0_2.out HB.out) | (with_reducible refine Kd.C_alloc ?_ _) | (with_reducible refine Kd.C_drewN ?_ _) | (with_reducible refine Kd.C_drew ?_))); (case side2 => exact HC0_2.out); rintro e w69 ⟨rfl, hb⟩; refine ⟨_, rfl, ?_⟩
                     replace HO_107002 := Aside0.mk (Kd.R_below (by (with_reducible repeat (first | apply Kd.R_alloc | apply Kd.R_drewN | apply Kd.R_drew)); exact HO_107002.out) hb); replace BK101 := bb_ BK101 hb; replace BK102 := bb_ BK102 hb; replace BK106 := bb_ BK106 hb; replace HB := bs_ HB hb
                     (try clear hb); (try clear hb2); (try clear hk); (try clear hi); refine hK.out _ _ ⟨bc_ BK102 0 rfl, bc_ BK102 1 rfl, bc_ BK102 2 rfl, bc_ BK101 0 rfl, bc_ BK101 1 rfl, bc_ BK101 2 rfl⟩ (fun hHeld => ?_); clear hK K; refine norm_ (a':=?_) ?_ ?_; rotate_left
                     ·show Act.put _ (some 60) _ = _; simp only [q_, i64_w, i32_w]; rfl
                     exact norm_ (by simp only [putAll, q_] <;> rfl) (hJ3_7 () _ ⟨hHeld, (by (with_reducible repeat (first | apply Kd.R_alloc | apply Kd.R_drewN | apply Kd.R_drew)); exact HO_107002.out), (pkx BK101), (pkx BK102), (pkx BK106), (pbx HB)⟩)
                    ·skip
                     refine box_step ?hg (N:=10) ?hd (cs := #[.int .i64 0, .int .i64 0, .string (⟨#[]⟩ : ByteArray)]) (t:=26) ?hr ?_; (case hd => rfl); (case hg => rfl); (case hr => first | (go_simp; done) | (go_simp; rfl))
                     intro gb119 hg w69 hbox hb
                     have BK119 := Aside0.mk (hbox); have GW119 := hs_ HB hg; have GE119 := hs_ HB hg; have NB101_119 := hl_ BK101 hg; have NB119_101 := hr_ BK101 hg; have NB102_119 := hl_ BK102 hg; have NB119_102 := hr_ BK102 hg; have NB106_119 := hl_ BK106 hg; have NB119_106 := hr_ BK106 hg; replace HO_107002 := Aside0.mk (Kd.R_below (Kd.R_elderB (by (with_reducible repeat (first | apply Kd.R_alloc | apply Kd.R_drewN | apply Kd.R_drew)); exact HO_107002.out) gb119 (Nat.le_of_eq hg.symm)) hb); replace BK101 := bb_ BK101 hb; replace BK102 := bb_ BK102 hb; replace BK106 := bb_ BK106 hb; replace HB := bs_ HB hb; clear hb hbox hg
                     refine hK.out _ _ ⟨bc_ BK102 0 rfl, bc_ BK102 1 rfl, bc_ BK102 2 rfl, bc_ BK101 0 rfl, bc_ BK101 1 rfl, bc_ BK101 2 rfl⟩ (fun hHeld => ?_); clear hK K; refine norm_ (a':=?_) ?_ ?_; rotate_left
                     ·show Act.put _ (some 10) _ = _; simp only [q_, i64_w, i32_w]; rfl
                     exact norm_ (by simp only [putAll, q_] <;> rfl) (hJ3_8 (gb119) _ ⟨hHeld, (by (with_reducible repeat (first | apply Kd.R_alloc | apply Kd.R_drewN | apply Kd.R_drew)); exact HO_107002.out), (pkx BK101), (pkx BK102), (pkx BK106), (pkx BK119), GW119.out, GE119.out, NB101_119.out, NB119_101.out, NB102_119.out, NB119_102.out, NB106_119.out, NB119_106.out, (pbx HB)⟩)
                    ·skip
                     refine box_step ?hg (N:=11) ?hd (cs := #[.int .i64 0, .int .i64 0, .string (⟨#[]⟩ : ByteArray)]) (t:=26) ?hr ?_; (case hd => rfl); (case hg => rfl); (case hr => first | (go_simp; done) | (go_simp; rfl))
                     intro gb120 hg w69 hbox hb
                     have BK120 := Aside0.mk (hbox); have GW120 := hs_ HB hg; have GE120 := hs_ HB hg; have NB101_120 := hl_ BK101 hg; have NB120_101 := hr_ BK101 hg; have NB102_120 := hl_ BK102 hg; have NB120_102 := hr_ BK102 hg; have NB106_120 := hl_ BK106 hg; have NB120_106 := hr_ BK106 hg; replace HO_107002 := Aside0.mk (Kd.R_below (Kd.R_elderB (by (with_reducible repeat (first | apply Kd.R_alloc | apply Kd.R_drewN | apply Kd.R_drew)); exact HO_107002.out) gb120 (Nat.le_of_eq hg.symm)) hb); replace BK101 := bb_ BK101 hb; replace BK102 := bb_ BK102 hb; replace BK106 := bb_ BK106 hb; replace HB := bs_ HB hb; clear hb hbox hg
                     refine hK.out _ _ ⟨bc_ BK102 0 rfl, bc_ BK102 1 rfl, bc_ BK102 2 rfl, bc_ BK101 0 rfl, bc_ BK101 1 rfl, bc_ BK101 2 rfl⟩ (fun hHeld => ?_); clear hK K; refine norm_ (a':=?_) ?_ ?_; rotate_left
                     ·show Act.put _ (some 11) _ = _; simp only [q_, i64_w, i32_w]; rfl
                     exact norm_ (by simp only [putAll, q_] <;> rfl) (hJ3_9 (gb120) _ ⟨hHeld, (by (with_reducible repeat (first | apply Kd.R_alloc | apply Kd.R_drewN | apply Kd.R_drew)); exact HO_107002.out), (pkx BK101), (pkx BK102), (pkx BK106), (pkx BK120), GW120.out, GE120.out, NB101_120.out, NB120_101.out, NB102_120.out, NB120_102.out, NB106_120.out, NB120_106.out, (pbx HB)⟩)
                  ·skip
                   rintro ⟨gb119, gb120⟩ w69 ⟨hS_, h0_, h1_, h2_, h3_, h4_, h5_, h6_, h7_, h8_, h9_, h10_, h11_, h12_, h13_, h14_, h15_, h16_, h17_, h18_, h19_, h20_, h21_, h22_, h23_, h24_⟩
                   have BK119 := Aside0.mk h4_; have BK120 := Aside0.mk h5_; have GW119 := Aside0.mk h6_; have GE119 := Aside0.mk h7_; have NB101_119 := Aside0.mk h8_; have NB119_101 := Aside0.mk h9_; have NB102_119 := Aside0.mk h10_; have NB119_102 := Aside0.mk h11_; have NB106_119 := Aside0.mk h12_; have NB119_106 := Aside0.mk h13_; have NB120_119 := Aside0.mk h14_; have NB119_120 := Aside0.mk h15_; have GW120 := Aside0.mk h16_; have GE120 := Aside0.mk h17_; have NB101_120 := Aside0.mk h18_; have NB120_101 := Aside0.mk h19_; have NB102_120 := Aside0.mk h20_; have NB120_102 := Aside0.mk h21_; have NB106_120 := Aside0.mk h22_; have NB120_106 := Aside0.mk h23_; replace HO_107002 := Aside0.mk h0_; replace BK101 := Aside0.mk h1_; replace BK102 := Aside0.mk h2_; replace BK106 := Aside0.mk h3_; replace HB := Aside0.mk h24_; clear h0_ h1_ h2_ h3_ h4_ h5_ h6_ h7_ h8_ h9_ h10_ h11_ h12_ h13_ h14_ h15_ h16_ h17_ h18_ h19_ h20_ h21_ h22_ h23_ h24_
                   have hHeld : w69.cell? ⟨gb102, 0, none⟩ = some (.int .i64 a1_0) ∧ w69.cell? ⟨gb102, 1, none⟩ = some (.int .i64 a1_1) ∧ w69.cell? ⟨gb102, 2, none⟩ = some (.string a1_2) ∧ w69.cell? ⟨gb101, 0, none⟩ = some (.int .i64 a0_0) ∧ w69.cell? ⟨gb101, 1, none⟩ = some (.int .i64 a0_1) ∧ w69.cell? ⟨gb101, 2, none⟩ = some (.slice A0_2 l0_2.length c0_2) := hS_
                   refine norm_ (a':=?_) ?_ ?_; rotate_left
                   ·simp only [putAll, q_]; rfl
                   refine one_ (i:=3) (N:=some 56) ⟨m_ 12 895⟩ rfl rfl (one_of HT_.out (by kernel_rfl)) (by decide) (fun K hK => ?_); refine goes_ Try.func9 (by kernel_rfl) rfl #[.agg #[.int .i64 a1_0, .int .i64 a1_1, .string a1_2], .agg #[.int .i64 a0_0, .int .i64 a0_1, .slice A0_2 l0_2.length c0_2], .int .i64 a2] (by rfl) rfl rfl (by (try simp only [List.map_toArray, List.map_cons, List.map_nil]); first | done | rfl | (simp only [List.length_drop, List.length_take]; rfl)) ?_; with_reducible refine (look_Down.calls k2 a1_0 a1_1 a1_2 a0_0 a0_1 _ _ l0_2 a2 t113 t114 t115 _ ?side1 ?side2 A52.out).mono ?_; (case side1 => repeat (first | exact (Kd.C_below HR0_2.out HB.out) | (with_reducible refine Kd.C_alloc ?_ _) | (with_reducible refine Kd.C_drewN ?_ _) | (with_reducible refine Kd.C_drew ?_))); (case side2 => exact HC0_2.out); rintro e w70 ⟨rfl, hb⟩; refine ⟨_, rfl, ?_⟩
                   replace HO_107002 := Aside0.mk (Kd.R_below (by (with_reducible repeat (first | apply Kd.R_alloc | apply Kd.R_drewN | apply Kd.R_drew)); exact HO_107002.out) hb); replace BK101 := bb_ BK101 hb; replace BK102 := bb_ BK102 hb; replace BK106 := bb_ BK106 hb; replace BK119 := bb_ BK119 hb; replace BK120 := bb_ BK120 hb; replace HB := bs_ HB hb
                   (try clear hb); (try clear hb2); (try clear hk); (try clear hi); refine hK.out _ _ ⟨bc_ BK102 0 rfl, bc_ BK102 1 rfl, bc_ BK102 2 rfl, bc_ BK101 0 rfl, bc_ BK101 1 rfl, bc_ BK101 2 rfl⟩ (fun hHeld => ?_); clear hK K; refine norm_ (a':=?_) ?_ ?_; rotate_left
                   ·show Act.put _ (some 56) _ = _; simp only [q_, i64_w, i32_w]; rfl
                   exact norm_ (by simp only [putAll, q_] <;> rfl) (hJ3_8_9 (gb119, gb120) _ ⟨hHeld, (by (with_reducible repeat (first | apply Kd.R_alloc | apply Kd.R_drewN | apply Kd.R_drew)); exact HO_107002.out), (pkx BK101), (pkx BK102), (pkx BK106), (pkx BK119), (pkx BK120), GW119.out, GE119.out, NB101_119.out, NB119_101.out, NB102_119.out, NB119_102.out, NB106_119.out, NB119_106.out, NB120_119.out, NB119_120.out, GW120.out, GE120.out, NB101_120.out, NB120_101.out, NB102_120.out, NB120_102.out, NB106_120.out, NB120_106.out, (pbx HB)⟩)
                 ·skip
                  rintro gb120 w69 ⟨hS_, h0_, h1_, h2_, h3_, h4_, h5_, h6_, h7_, h8_, h9_, h10_, h11_, h12_, h13_⟩
                  have BK120 := Aside0.mk h4_; have GW120 := Aside0.mk h5_; have GE120 := Aside0.mk h6_; have NB101_120 := Aside0.mk h7_; have NB120_101 := Aside0.mk h8_; have NB102_120 := Aside0.mk h9_; have NB120_102 := Aside0.mk h10_; have NB106_120 := Aside0.mk h11_; have NB120_106 := Aside0.mk h12_; replace HO_107002 := Aside0.mk h0_; replace BK101 := Aside0.mk h1_; replace BK102 := Aside0.mk h2_; replace BK106 := Aside0.mk h3_; replace HB := Aside0.mk h13_; clear h0_ h1_ h2_ h3_ h4_ h5_ h6_ h7_ h8_ h9_ h10_ h11_ h12_ h13_
                  have hHeld : w69.cell? ⟨gb102, 0, none⟩ = some (.int .i64 a1_0) ∧ w69.cell? ⟨gb102, 1, none⟩ = some (.int .i64 a1_1) ∧ w69.cell? ⟨gb102, 2, none⟩ = some (.string a1_2) ∧ w69.cell? ⟨gb101, 0, none⟩ = some (.int .i64 a0_0) ∧ w69.cell? ⟨gb101, 1, none⟩ = some (.int .i64 a0_1) ∧ w69.cell? ⟨gb101, 2, none⟩ = some (.slice A0_2 l0_2.length c0_2) := hS_
                  refine norm_ (a':=?_) ?_ ?_; rotate_left
                  ·simp only [putAll, q_]; rfl
                  refine two_ (i:=7) (j:=8) (Ni := some 60) (Nj := some 10) #[T,T,T,T,T,T,T,T,F,T,F,F] ⟨m_ 12 895⟩ rfl rfl rfl rfl (two_of HT_.out (by kernel_rfl)) (by decide) (by decide) (fun K hK => ?_) (fun K hK => ?_)
                  ·skip
                   refine goes_ Try.func10 (by kernel_rfl) rfl #[.agg #[.int .i64 a1_0, .int .i64 a1_1, .string a1_2], .agg #[.int .i64 a0_0, .int .i64 a0_1, .slice A0_2 l0_2.length c0_2], .int .i64 a2] (by rfl) rfl rfl (by (try simp only [List.map_toArray, List.map_cons, List.map_nil]); first | done | rfl | (simp only [List.length_drop, List.length_take]; rfl)) ?_; with_reducible refine (look_Across.calls k2 a1_0 a1_1 a1_2 a0_0 a0_1 _ _ l0_2 a2 t116 t117 t118 _ ?side1 ?side2 A53.out).mono ?_; (case side1 => repeat (first | exact (Kd.C_below HR0_2.out HB.out) | (with_reducible refine Kd.C_alloc ?_ _) | (with_reducible refine Kd.C_drewN ?_ _) | (with_reducible refine Kd.C_drew ?_))); (case side2 => exact HC0_2.out); rintro e w70 ⟨rfl, hb⟩; refine ⟨_, rfl, ?_⟩
                   replace HO_107002 := Aside0.mk (Kd.R_below (by (with_reducible repeat (first | apply Kd.R_alloc | apply Kd.R_drewN | apply Kd.R_drew)); exact HO_107002.out) hb); replace BK101 := bb_ BK101 hb; replace BK102 := bb_ BK102 hb; replace BK106 := bb_ BK106 hb; replace BK120 := bb_ BK120 hb; replace HB := bs_ HB hb
                   (try clear hb); (try clear hb2); (try clear hk); (try clear hi); refine hK.out _ _ ⟨bc_ BK102 0 rfl, bc_ BK102 1 rfl, bc_ BK102 2 rfl, bc_ BK101 0 rfl, bc_ BK101 1 rfl, bc_ BK101 2 rfl⟩ (fun hHeld => ?_); clear hK K; refine norm_ (a':=?_) ?_ ?_; rotate_left
                   ·show Act.put _ (some 60) _ = _; simp only [q_, i64_w, i32_w]; rfl
                   exact norm_ (by simp only [putAll, q_] <;> rfl) (hJ3_7_9 (gb120) _ ⟨hHeld, (by (with_reducible repeat (first | apply Kd.R_alloc | apply Kd.R_drewN | apply Kd.R_drew)); exact HO_107002.out), (pkx BK101), (pkx BK102), (pkx BK106), (pkx BK120), GW120.out, GE120.out, NB101_120.out, NB120_101.out, NB102_120.out, NB120_102.out, NB106_120.out, NB120_106.out, (pbx HB)⟩)
                  ·skip
                   refine box_step ?hg (N:=10) ?hd (cs := #[.int .i64 0, .int .i64 0, .string (⟨#[]⟩ : ByteArray)]) (t:=26) ?hr ?_; (case hd => rfl); (case hg => rfl); (case hr => first | (go_simp; done) | (go_simp; rfl))
                   intro gb119 hg w70 hbox hb
                   have BK119 := Aside0.mk (hbox); have GW119 := hs_ HB hg; have GE119 := hs_ HB hg; have NB101_119 := hl_ BK101 hg; have NB119_101 := hr_ BK101 hg; have NB102_119 := hl_ BK102 hg; have NB119_102 := hr_ BK102 hg; have NB106_119 := hl_ BK106 hg; have NB119_106 := hr_ BK106 hg; have NB120_119 := hl_ BK120 hg; have NB119_120 := hr_ BK120 hg; replace HO_107002 := Aside0.mk (Kd.R_below (Kd.R_elderB (by (with_reducible repeat (first | apply Kd.R_alloc | apply Kd.R_drewN | apply Kd.R_drew)); exact HO_107002.out) gb119 (Nat.le_of_eq hg.symm)) hb); replace BK101 := bb_ BK101 hb; replace BK102 := bb_ BK102 hb; replace BK106 := bb_ BK106 hb; replace BK120 := bb_ BK120 hb; replace HB := bs_ HB hb
                   clear hb hbox hg; refine hK.out _ _ ⟨bc_ BK102 0 rfl, bc_ BK102 1 rfl, bc_ BK102 2 rfl, bc_ BK101 0 rfl, bc_ BK101 1 rfl, bc_ BK101 2 rfl⟩ (fun hHeld => ?_); clear hK K; refine norm_ (a':=?_) ?_ ?_; rotate_left
                   ·show Act.put _ (some 10) _ = _; simp only [q_, i64_w, i32_w]; rfl
                   exact norm_ (by simp only [putAll, q_] <;> rfl) (hJ3_8_9 (gb119, gb120) _ ⟨hHeld, (by (with_reducible repeat (first | apply Kd.R_alloc | apply Kd.R_drewN | apply Kd.R_drew)); exact Kd.R_mono HO_107002.out (fun _ hk => ⟨hk.1.1, ⟨hk.2, hk.1.2⟩⟩)), (pkx BK101), (pkx BK102), (pkx BK106), (pkx BK119), (pkx BK120), GW119.out, GE119.out, NB101_119.out, NB119_101.out, NB102_119.out, NB119_102.out, NB106_119.out, NB119_106.out, NB120_119.out, NB119_120.out, GW120.out, GE120.out, NB101_120.out, NB120_101.out, NB102_120.out, NB120_102.out, NB106_120.out, NB120_106.out, (pbx HB)⟩)
                ·skip
                 rintro gb119 w69 ⟨hS_, h0_, h1_, h2_, h3_, h4_, h5_, h6_, h7_, h8_, h9_, h10_, h11_, h12_, h13_⟩
                 have BK119 := Aside0.mk h4_; have GW119 := Aside0.mk h5_; have GE119 := Aside0.mk h6_; have NB101_119 := Aside0.mk h7_; have NB119_101 := Aside0.mk h8_; have NB102_119 := Aside0.mk h9_; have NB119_102 := Aside0.mk h10_; have NB106_119 := Aside0.mk h11_; have NB119_106 := Aside0.mk h12_; replace HO_107002 := Aside0.mk h0_; replace BK101 := Aside0.mk h1_; replace BK102 := Aside0.mk h2_; replace BK106 := Aside0.mk h3_; replace HB := Aside0.mk h13_; clear h0_ h1_ h2_ h3_ h4_ h5_ h6_ h7_ h8_ h9_ h10_ h11_ h12_ h13_
                 have hHeld : w69.cell? ⟨gb102, 0, none⟩ = some (.int .i64 a1_0) ∧ w69.cell? ⟨gb102, 1, none⟩ = some (.int .i64 a1_1) ∧ w69.cell? ⟨gb102, 2, none⟩ = some (.string a1_2) ∧ w69.cell? ⟨gb101, 0, none⟩ = some (.int .i64 a0_0) ∧ w69.cell? ⟨gb101, 1, none⟩ = some (.int .i64 a0_1) ∧ w69.cell? ⟨gb101, 2, none⟩ = some (.slice A0_2 l0_2.length c0_2) := hS_
                 refine norm_ (a':=?_) ?_ ?_; rotate_left
                 ·simp only [putAll, q_]; rfl
                 refine two_ (i:=7) (j:=9) (Ni := some 60) (Nj := some 11) #[T,T,T,T,T,T,T,T,T,F,F,F] ⟨m_ 12 895⟩ rfl rfl rfl rfl (two_of HT_.out (by kernel_rfl)) (by decide) (by decide) (fun K hK => ?_) (fun K hK => ?_)
                 ·skip
                  refine goes_ Try.func10 (by kernel_rfl) rfl #[.agg #[.int .i64 a1_0, .int .i64 a1_1, .string a1_2], .agg #[.int .i64 a0_0, .int .i64 a0_1, .slice A0_2 l0_2.length c0_2], .int .i64 a2] (by rfl) rfl rfl (by (try simp only [List.map_toArray, List.map_cons, List.map_nil]); first | done | rfl | (simp only [List.length_drop, List.length_take]; rfl)) ?_; with_reducible refine (look_Across.calls k2 a1_0 a1_1 a1_2 a0_0 a0_1 _ _ l0_2 a2 t116 t117 t118 _ ?side1 ?side2 A53.out).mono ?_; (case side1 => repeat (first | exact (Kd.C_below HR0_2.out HB.out) | (with_reducible refine Kd.C_alloc ?_ _) | (with_reducible refine Kd.C_drewN ?_ _) | (with_reducible refine Kd.C_drew ?_))); (case side2 => exact HC0_2.out); rintro e w70 ⟨rfl, hb⟩; refine ⟨_, rfl, ?_⟩
                  replace HO_107002 := Aside0.mk (Kd.R_below (by (with_reducible repeat (first | apply Kd.R_alloc | apply Kd.R_drewN | apply Kd.R_drew)); exact HO_107002.out) hb); replace BK101 := bb_ BK101 hb; replace BK102 := bb_ BK102 hb; replace BK106 := bb_ BK106 hb; replace BK119 := bb_ BK119 hb; replace HB := bs_ HB hb
                  (try clear hb); (try clear hb2); (try clear hk); (try clear hi); refine hK.out _ _ ⟨bc_ BK102 0 rfl, bc_ BK102 1 rfl, bc_ BK102 2 rfl, bc_ BK101 0 rfl, bc_ BK101 1 rfl, bc_ BK101 2 rfl⟩ (fun hHeld => ?_); clear hK K; refine norm_ (a':=?_) ?_ ?_; rotate_left
                  ·show Act.put _ (some 60) _ = _; simp only [q_, i64_w, i32_w]; rfl
                  exact norm_ (by simp only [putAll, q_] <;> rfl) (hJ3_7_8 (gb119) _ ⟨hHeld, (by (with_reducible repeat (first | apply Kd.R_alloc | apply Kd.R_drewN | apply Kd.R_drew)); exact HO_107002.out), (pkx BK101), (pkx BK102), (pkx BK106), (pkx BK119), GW119.out, GE119.out, NB101_119.out, NB119_101.out, NB102_119.out, NB119_102.out, NB106_119.out, NB119_106.out, (pbx HB)⟩)
                 ·skip
                  refine box_step ?hg (N:=11) ?hd (cs := #[.int .i64 0, .int .i64 0, .string (⟨#[]⟩ : ByteArray)]) (t:=26) ?hr ?_; (case hd => rfl); (case hg => rfl); (case hr => first | (go_simp; done) | (go_simp; rfl))
                  intro gb120 hg w70 hbox hb
                  have BK120 := Aside0.mk (hbox); have GW120 := hs_ HB hg; have GE120 := hs_ HB hg; have NB101_120 := hl_ BK101 hg; have NB120_101 := hr_ BK101 hg; have NB102_120 := hl_ BK102 hg; have NB120_102 := hr_ BK102 hg; have NB106_120 := hl_ BK106 hg; have NB120_106 := hr_ BK106 hg; have NB119_120 := hl_ BK119 hg; have NB120_119 := hr_ BK119 hg; replace HO_107002 := Aside0.mk (Kd.R_below (Kd.R_elderB (by (with_reducible repeat (first | apply Kd.R_alloc | apply Kd.R_drewN | apply Kd.R_drew)); exact HO_107002.out) gb120 (Nat.le_of_eq hg.symm)) hb); replace BK101 := bb_ BK101 hb; replace BK102 := bb_ BK102 hb; replace BK106 := bb_ BK106 hb; replace BK119 := bb_ BK119 hb; replace HB := bs_ HB hb
                  clear hb hbox hg; refine hK.out _ _ ⟨bc_ BK102 0 rfl, bc_ BK102 1 rfl, bc_ BK102 2 rfl, bc_ BK101 0 rfl, bc_ BK101 1 rfl, bc_ BK101 2 rfl⟩ (fun hHeld => ?_); clear hK K; refine norm_ (a':=?_) ?_ ?_; rotate_left
                  ·show Act.put _ (some 11) _ = _; simp only [q_, i64_w, i32_w]; rfl
                  exact norm_ (by simp only [putAll, q_] <;> rfl) (hJ3_8_9 (gb119, gb120) _ ⟨hHeld, (by (with_reducible repeat (first | apply Kd.R_alloc | apply Kd.R_drewN | apply Kd.R_drew)); exact Kd.R_mono HO_107002.out (fun _ hk => ⟨hk.1.1, ⟨hk.1.2, hk.2⟩⟩)), (pkx BK101), (pkx BK102), (pkx BK106), (pkx BK119), (pkx BK120), GW119.out, GE119.out, NB101_119.out, NB119_101.out, NB102_119.out, NB119_102.out, NB106_119.out, NB119_106.out, NB120_119.out, NB119_120.out, GW120.out, GE120.out, NB101_120.out, NB120_101.out, NB102_120.out, NB120_102.out, NB106_120.out, NB120_106.out, (pbx HB)⟩)
               ·skip
                rintro _ w69 ⟨hS_, h0_, h1_, h2_, h3_, h4_⟩
                replace HO_107002 := Aside0.mk h0_; replace BK101 := Aside0.mk h1_; replace BK102 := Aside0.mk h2_; replace BK106 := Aside0.mk h3_; replace HB := Aside0.mk h4_; clear h0_ h1_ h2_ h3_ h4_
                have hHeld : w69.cell? ⟨gb102, 0, none⟩ = some (.int .i64 a1_0) ∧ w69.cell? ⟨gb102, 1, none⟩ = some (.int .i64 a1_1) ∧ w69.cell? ⟨gb102, 2, none⟩ = some (.string a1_2) ∧ w69.cell? ⟨gb101, 0, none⟩ = some (.int .i64 a0_0) ∧ w69.cell? ⟨gb101, 1, none⟩ = some (.int .i64 a0_1) ∧ w69.cell? ⟨gb101, 2, none⟩ = some (.slice A0_2 l0_2.length c0_2) := hS_
                refine norm_ (a':=?_) ?_ ?_; rotate_left
                ·simp only [putAll, q_]; rfl
                refine two_ (i:=8) (j:=9) (Ni := some 10) (Nj := some 11) #[T,T,T,T,T,T,T,T,T,F,F,F] ⟨m_ 12 767⟩ rfl rfl rfl rfl (two_of HT_.out (by kernel_rfl)) (by decide) (by decide) (fun K hK => ?_) (fun K hK => ?_)
                ·skip
                 refine box_step ?hg (N:=10) ?hd (cs := #[.int .i64 0, .int .i64 0, .string (⟨#[]⟩ : ByteArray)]) (t:=26) ?hr ?_; (case hd => rfl); (case hg => rfl); (case hr => first | (go_simp; done) | (go_simp; rfl))
                 intro gb119 hg w70 hbox hb
                 have BK119 := Aside0.mk (hbox); have GW119 := hs_ HB hg; have GE119 := hs_ HB hg; have NB101_119 := hl_ BK101 hg; have NB119_101 := hr_ BK101 hg; have NB102_119 := hl_ BK102 hg; have NB119_102 := hr_ BK102 hg; have NB106_119 := hl_ BK106 hg; have NB119_106 := hr_ BK106 hg; replace HO_107002 := Aside0.mk (Kd.R_below (Kd.R_elderB (by (with_reducible repeat (first | apply Kd.R_alloc | apply Kd.R_drewN | apply Kd.R_drew)); exact HO_107002.out) gb119 (Nat.le_of_eq hg.symm)) hb); replace BK101 := bb_ BK101 hb; replace BK102 := bb_ BK102 hb; replace BK106 := bb_ BK106 hb; replace HB := bs_ HB hb; clear hb hbox hg
                 refine hK.out _ _ ⟨bc_ BK102 0 rfl, bc_ BK102 1 rfl, bc_ BK102 2 rfl, bc_ BK101 0 rfl, bc_ BK101 1 rfl, bc_ BK101 2 rfl⟩ (fun hHeld => ?_); clear hK K; refine norm_ (a':=?_) ?_ ?_; rotate_left
                 ·show Act.put _ (some 10) _ = _; simp only [q_, i64_w, i32_w]; rfl
                 exact norm_ (by simp only [putAll, q_] <;> rfl) (hJ3_7_8 (gb119) _ ⟨hHeld, (by (with_reducible repeat (first | apply Kd.R_alloc | apply Kd.R_drewN | apply Kd.R_drew)); exact HO_107002.out), (pkx BK101), (pkx BK102), (pkx BK106), (pkx BK119), GW119.out, GE119.out, NB101_119.out, NB119_101.out, NB102_119.out, NB119_102.out, NB106_119.out, NB119_106.out, (pbx HB)⟩)
                ·skip
                 refine box_step ?hg (N:=11) ?hd (cs := #[.int .i64 0, .int .i64 0, .string (⟨#[]⟩ : ByteArray)]) (t:=26) ?hr ?_; (case hd => rfl); (case hg => rfl); (case hr => first | (go_simp; done) | (go_simp; rfl))
                 intro gb120 hg w70 hbox hb
                 have BK120 := Aside0.mk (hbox); have GW120 := hs_ HB hg; have GE120 := hs_ HB hg; have NB101_120 := hl_ BK101 hg; have NB120_101 := hr_ BK101 hg; have NB102_120 := hl_ BK102 hg; have NB120_102 := hr_ BK102 hg; have NB106_120 := hl_ BK106 hg; have NB120_106 := hr_ BK106 hg; replace HO_107002 := Aside0.mk (Kd.R_below (Kd.R_elderB (by (with_reducible repeat (first | apply Kd.R_alloc | apply Kd.R_drewN | apply Kd.R_drew)); exact HO_107002.out) gb120 (Nat.le_of_eq hg.symm)) hb); replace BK101 := bb_ BK101 hb; replace BK102 := bb_ BK102 hb; replace BK106 := bb_ BK106 hb; replace HB := bs_ HB hb; clear hb hbox hg
                 refine hK.out _ _ ⟨bc_ BK102 0 rfl, bc_ BK102 1 rfl, bc_ BK102 2 rfl, bc_ BK101 0 rfl, bc_ BK101 1 rfl, bc_ BK101 2 rfl⟩ (fun hHeld => ?_); clear hK K; refine norm_ (a':=?_) ?_ ?_; rotate_left
                 ·show Act.put _ (some 11) _ = _; simp only [q_, i64_w, i32_w]; rfl
                 exact norm_ (by simp only [putAll, q_] <;> rfl) (hJ3_7_9 (gb120) _ ⟨hHeld, (by (with_reducible repeat (first | apply Kd.R_alloc | apply Kd.R_drewN | apply Kd.R_drew)); exact HO_107002.out), (pkx BK101), (pkx BK102), (pkx BK106), (pkx BK120), GW120.out, GE120.out, NB101_120.out, NB120_101.out, NB102_120.out, NB120_102.out, NB106_120.out, NB120_106.out, (pbx HB)⟩)
              ·skip
               rintro ⟨gb119, gb120⟩ w70 ⟨hS_, h0_, h1_, h2_, h3_, h4_, h5_, h6_, h7_, h8_, h9_, h10_, h11_, h12_, h13_, h14_, h15_, h16_, h17_, h18_, h19_, h20_, h21_, h22_, h23_, h24_⟩
               have BK119 := Aside0.mk h4_; have BK120 := Aside0.mk h5_; have GW119 := Aside0.mk h6_; have GE119 := Aside0.mk h7_; have NB101_119 := Aside0.mk h8_; have NB119_101 := Aside0.mk h9_; have NB102_119 := Aside0.mk h10_; have NB119_102 := Aside0.mk h11_; have NB106_119 := Aside0.mk h12_; have NB119_106 := Aside0.mk h13_; have NB120_119 := Aside0.mk h14_; have NB119_120 := Aside0.mk h15_; have GW120 := Aside0.mk h16_; have GE120 := Aside0.mk h17_; have NB101_120 := Aside0.mk h18_; have NB120_101 := Aside0.mk h19_; have NB102_120 := Aside0.mk h20_; have NB120_102 := Aside0.mk h21_; have NB106_120 := Aside0.mk h22_; have NB120_106 := Aside0.mk h23_; replace HO_107002 := Aside0.mk h0_; replace BK101 := Aside0.mk h1_; replace BK102 := Aside0.mk h2_; replace BK106 := Aside0.mk h3_; replace HB := Aside0.mk h24_; clear h0_ h1_ h2_ h3_ h4_ h5_ h6_ h7_ h8_ h9_ h10_ h11_ h12_ h13_ h14_ h15_ h16_ h17_ h18_ h19_ h20_ h21_ h22_ h23_ h24_
               have hHeld : w70.cell? ⟨gb102, 0, none⟩ = some (.int .i64 a1_0) ∧ w70.cell? ⟨gb102, 1, none⟩ = some (.int .i64 a1_1) ∧ w70.cell? ⟨gb102, 2, none⟩ = some (.string a1_2) ∧ w70.cell? ⟨gb101, 0, none⟩ = some (.int .i64 a0_0) ∧ w70.cell? ⟨gb101, 1, none⟩ = some (.int .i64 a0_1) ∧ w70.cell? ⟨gb101, 2, none⟩ = some (.slice A0_2 l0_2.length c0_2) := hS_
               refine norm_ (a':=?_) ?_ ?_; rotate_left
               ·simp only [putAll, q_]; rfl
               refine one_ (i:=7) (N:=some 60) ⟨m_ 12 1023⟩ rfl rfl (one_of HT_.out (by kernel_rfl)) (by decide) (fun K hK => ?_); refine goes_ Try.func10 (by kernel_rfl) rfl #[.agg #[.int .i64 a1_0, .int .i64 a1_1, .string a1_2], .agg #[.int .i64 a0_0, .int .i64 a0_1, .slice A0_2 l0_2.length c0_2], .int .i64 a2] (by rfl) rfl rfl (by (try simp only [List.map_toArray, List.map_cons, List.map_nil]); first | done | rfl | (simp only [List.length_drop, List.length_take]; rfl)) ?_; with_reducible refine (look_Across.calls k2 a1_0 a1_1 a1_2 a0_0 a0_1 _ _ l0_2 a2 t116 t117 t118 _ ?side1 ?side2 A53.out).mono ?_; (case side1 => repeat (first | exact (Kd.C_below HR0_2.out HB.out) | (with_reducible refine Kd.C_alloc ?_ _) | (with_reducible refine Kd.C_drewN ?_ _) | (with_reducible refine Kd.C_drew ?_))); (case side2 => exact HC0_2.out); rintro e w71 ⟨rfl, hb⟩; refine ⟨_, rfl, ?_⟩
               replace HO_107002 := Aside0.mk (Kd.R_below (by (with_reducible repeat (first | apply Kd.R_alloc | apply Kd.R_drewN | apply Kd.R_drew)); exact HO_107002.out) hb); replace BK101 := bb_ BK101 hb; replace BK102 := bb_ BK102 hb; replace BK106 := bb_ BK106 hb; replace BK119 := bb_ BK119 hb; replace BK120 := bb_ BK120 hb; replace HB := bs_ HB hb
               (try clear hb); (try clear hb2); (try clear hk); (try clear hi); refine hK.out _ _ ⟨bc_ BK102 0 rfl, bc_ BK102 1 rfl, bc_ BK102 2 rfl, bc_ BK101 0 rfl, bc_ BK101 1 rfl, bc_ BK101 2 rfl⟩ (fun hHeld => ?_); clear hK K; refine norm_ (a':=?_) ?_ ?_; rotate_left
               ·show Act.put _ (some 60) _ = _; simp only [q_, i64_w, i32_w]; rfl
               exact norm_ (by simp only [putAll, q_] <;> rfl) (hJ3_7_8_9 (gb119, gb120) _ ⟨hHeld, (by (with_reducible repeat (first | apply Kd.R_alloc | apply Kd.R_drewN | apply Kd.R_drew)); exact HO_107002.out), (pkx BK101), (pkx BK102), (pkx BK106), (pkx BK119), (pkx BK120), GW119.out, GE119.out, NB101_119.out, NB119_101.out, NB102_119.out, NB119_102.out, NB106_119.out, NB119_106.out, NB120_119.out, NB119_120.out, GW120.out, GE120.out, NB101_120.out, NB120_101.out, NB102_120.out, NB120_102.out, NB106_120.out, NB120_106.out, (pbx HB)⟩)
             ·skip
              rintro gb120 w70 ⟨hS_, h0_, h1_, h2_, h3_, h4_, h5_, h6_, h7_, h8_, h9_, h10_, h11_, h12_, h13_⟩
              have BK120 := Aside0.mk h4_; have GW120 := Aside0.mk h5_; have GE120 := Aside0.mk h6_; have NB101_120 := Aside0.mk h7_; have NB120_101 := Aside0.mk h8_; have NB102_120 := Aside0.mk h9_; have NB120_102 := Aside0.mk h10_; have NB106_120 := Aside0.mk h11_; have NB120_106 := Aside0.mk h12_; replace HO_107002 := Aside0.mk h0_; replace BK101 := Aside0.mk h1_; replace BK102 := Aside0.mk h2_; replace BK106 := Aside0.mk h3_; replace HB := Aside0.mk h13_; clear h0_ h1_ h2_ h3_ h4_ h5_ h6_ h7_ h8_ h9_ h10_ h11_ h12_ h13_
              have hHeld : w70.cell? ⟨gb102, 0, none⟩ = some (.int .i64 a1_0) ∧ w70.cell? ⟨gb102, 1, none⟩ = some (.int .i64 a1_1) ∧ w70.cell? ⟨gb102, 2, none⟩ = some (.string a1_2) ∧ w70.cell? ⟨gb101, 0, none⟩ = some (.int .i64 a0_0) ∧ w70.cell? ⟨gb101, 1, none⟩ = some (.int .i64 a0_1) ∧ w70.cell? ⟨gb101, 2, none⟩ = some (.slice A0_2 l0_2.length c0_2) := hS_
              refine norm_ (a':=?_) ?_ ?_; rotate_left
              ·simp only [putAll, q_]; rfl
              refine one_ (i:=8) (N:=some 10) ⟨m_ 12 1023⟩ rfl rfl (one_of HT_.out (by kernel_rfl)) (by decide) (fun K hK => ?_)
              refine box_step ?hg (N:=10) ?hd (cs := #[.int .i64 0, .int .i64 0, .string (⟨#[]⟩ : ByteArray)]) (t:=26) ?hr ?_; (case hd => rfl); (case hg => rfl); (case hr => first | (go_simp; done) | (go_simp; rfl))
              intro gb119 hg w71 hbox hb
              have BK119 := Aside0.mk (hbox); have GW119 := hs_ HB hg; have GE119 := hs_ HB hg; have NB101_119 := hl_ BK101 hg; have NB119_101 := hr_ BK101 hg; have NB102_119 := hl_ BK102 hg; have NB119_102 := hr_ BK102 hg; have NB106_119 := hl_ BK106 hg; have NB119_106 := hr_ BK106 hg; have NB120_119 := hl_ BK120 hg; have NB119_120 := hr_ BK120 hg; replace HO_107002 := Aside0.mk (Kd.R_below (Kd.R_elderB (by (with_reducible repeat (first | apply Kd.R_alloc | apply Kd.R_drewN | apply Kd.R_drew)); exact HO_107002.out) gb119 (Nat.le_of_eq hg.symm)) hb); replace BK101 := bb_ BK101 hb; replace BK102 := bb_ BK102 hb; replace BK106 := bb_ BK106 hb; replace BK120 := bb_ BK120 hb; replace HB := bs_ HB hb
              clear hb hbox hg; refine hK.out _ _ ⟨bc_ BK102 0 rfl, bc_ BK102 1 rfl, bc_ BK102 2 rfl, bc_ BK101 0 rfl, bc_ BK101 1 rfl, bc_ BK101 2 rfl⟩ (fun hHeld => ?_); clear hK K; refine norm_ (a':=?_) ?_ ?_; rotate_left
              ·show Act.put _ (some 10) _ = _; simp only [q_, i64_w, i32_w]; rfl
              exact norm_ (by simp only [putAll, q_] <;> rfl) (hJ3_7_8_9 (gb119, gb120) _ ⟨hHeld, (by (with_reducible repeat (first | apply Kd.R_alloc | apply Kd.R_drewN | apply Kd.R_drew)); exact Kd.R_mono HO_107002.out (fun _ hk => ⟨hk.1.1, ⟨hk.2, hk.1.2⟩⟩)), (pkx BK101), (pkx BK102), (pkx BK106), (pkx BK119), (pkx BK120), GW119.out, GE119.out, NB101_119.out, NB119_101.out, NB102_119.out, NB119_102.out, NB106_119.out, NB119_106.out, NB120_119.out, NB119_120.out, GW120.out, GE120.out, NB101_120.out, NB120_101.out, NB102_120.out, NB120_102.out, NB106_120.out, NB120_106.out, (pbx HB)⟩)
            ·skip
             rintro gb119 w70 ⟨hS_, h0_, h1_, h2_, h3_, h4_, h5_, h6_, h7_, h8_, h9_, h10_, h11_, h12_, h13_⟩
             have BK119 := Aside0.mk h4_; have GW119 := Aside0.mk h5_; have GE119 := Aside0.mk h6_; have NB101_119 := Aside0.mk h7_; have NB119_101 := Aside0.mk h8_; have NB102_119 := Aside0.mk h9_; have NB119_102 := Aside0.mk h10_; have NB106_119 := Aside0.mk h11_; have NB119_106 := Aside0.mk h12_; replace HO_107002 := Aside0.mk h0_; replace BK101 := Aside0.mk h1_; replace BK102 := Aside0.mk h2_; replace BK106 := Aside0.mk h3_; replace HB := Aside0.mk h13_; clear h0_ h1_ h2_ h3_ h4_ h5_ h6_ h7_ h8_ h9_ h10_ h11_ h12_ h13_
             have hHeld : w70.cell? ⟨gb102, 0, none⟩ = some (.int .i64 a1_0) ∧ w70.cell? ⟨gb102, 1, none⟩ = some (.int .i64 a1_1) ∧ w70.cell? ⟨gb102, 2, none⟩ = some (.string a1_2) ∧ w70.cell? ⟨gb101, 0, none⟩ = some (.int .i64 a0_0) ∧ w70.cell? ⟨gb101, 1, none⟩ = some (.int .i64 a0_1) ∧ w70.cell? ⟨gb101, 2, none⟩ = some (.slice A0_2 l0_2.length c0_2) := hS_
             refine norm_ (a':=?_) ?_ ?_; rotate_left
             ·simp only [putAll, q_]; rfl
             refine one_ (i:=9) (N:=some 11) ⟨m_ 12 1023⟩ rfl rfl (one_of HT_.out (by kernel_rfl)) (by decide) (fun K hK => ?_)
             refine box_step ?hg (N:=11) ?hd (cs := #[.int .i64 0, .int .i64 0, .string (⟨#[]⟩ : ByteArray)]) (t:=26) ?hr ?_; (case hd => rfl); (case hg => rfl); (case hr => first | (go_simp; done) | (go_simp; rfl))
             intro gb120 hg w71 hbox hb
             have BK120 := Aside0.mk (hbox); have GW120 := hs_ HB hg; have GE120 := hs_ HB hg; have NB101_120 := hl_ BK101 hg; have NB120_101 := hr_ BK101 hg; have NB102_120 := hl_ BK102 hg; have NB120_102 := hr_ BK102 hg; have NB106_120 := hl_ BK106 hg; have NB120_106 := hr_ BK106 hg; have NB119_120 := hl_ BK119 hg; have NB120_119 := hr_ BK119 hg; replace HO_107002 := Aside0.mk (Kd.R_below (Kd.R_elderB (by (with_reducible repeat (first | apply Kd.R_alloc | apply Kd.R_drewN | apply Kd.R_drew)); exact HO_107002.out) gb120 (Nat.le_of_eq hg.symm)) hb); replace BK101 := bb_ BK101 hb; replace BK102 := bb_ BK102 hb; replace BK106 := bb_ BK106 hb; replace BK119 := bb_ BK119 hb; replace HB := bs_ HB hb
             clear hb hbox hg; refine hK.out _ _ ⟨bc_ BK102 0 rfl, bc_ BK102 1 rfl, bc_ BK102 2 rfl, bc_ BK101 0 rfl, bc_ BK101 1 rfl, bc_ BK101 2 rfl⟩ (fun hHeld => ?_); clear hK K; refine norm_ (a':=?_) ?_ ?_; rotate_left
             ·show Act.put _ (some 11) _ = _; simp only [q_, i64_w, i32_w]; rfl
             exact norm_ (by simp only [putAll, q_] <;> rfl) (hJ3_7_8_9 (gb119, gb120) _ ⟨hHeld, (by (with_reducible repeat (first | apply Kd.R_alloc | apply Kd.R_drewN | apply Kd.R_drew)); exact Kd.R_mono HO_107002.out (fun _ hk => ⟨hk.1.1, ⟨hk.1.2, hk.2⟩⟩)), (pkx BK101), (pkx BK102), (pkx BK106), (pkx BK119), (pkx BK120), GW119.out, GE119.out, NB101_119.out, NB119_101.out, NB102_119.out, NB119_102.out, NB106_119.out, NB119_106.out, NB120_119.out, NB119_120.out, GW120.out, GE120.out, NB101_120.out, NB120_101.out, NB102_120.out, NB120_102.out, NB106_120.out, NB120_106.out, (pbx HB)⟩)
           rintro ⟨gb119, gb120⟩ w71 ⟨hS_, h0_, h1_, h2_, h3_, h4_, h5_, h6_, h7_, h8_, h9_, h10_, h11_, h12_, h13_, h14_, h15_, h16_, h17_, h18_, h19_, h20_, h21_, h22_, h23_, h24_⟩
           have BK119 := Aside0.mk h4_; have BK120 := Aside0.mk h5_; have GW119 := Aside0.mk h6_; have GE119 := Aside0.mk h7_; have NB101_119 := Aside0.mk h8_; have NB119_101 := Aside0.mk h9_; have NB102_119 := Aside0.mk h10_; have NB119_102 := Aside0.mk h11_; have NB106_119 := Aside0.mk h12_; have NB119_106 := Aside0.mk h13_; have NB120_119 := Aside0.mk h14_; have NB119_120 := Aside0.mk h15_; have GW120 := Aside0.mk h16_; have GE120 := Aside0.mk h17_; have NB101_120 := Aside0.mk h18_; have NB120_101 := Aside0.mk h19_; have NB102_120 := Aside0.mk h20_; have NB120_102 := Aside0.mk h21_; have NB106_120 := Aside0.mk h22_; have NB120_106 := Aside0.mk h23_; replace HO_107002 := Aside0.mk h0_; replace BK101 := Aside0.mk h1_; replace BK102 := Aside0.mk h2_; replace BK106 := Aside0.mk h3_; replace HB := Aside0.mk h24_; clear h0_ h1_ h2_ h3_ h4_ h5_ h6_ h7_ h8_ h9_ h10_ h11_ h12_ h13_ h14_ h15_ h16_ h17_ h18_ h19_ h20_ h21_ h22_ h23_ h24_
           have hHeld : w71.cell? ⟨gb102, 0, none⟩ = some (.int .i64 a1_0) ∧ w71.cell? ⟨gb102, 1, none⟩ = some (.int .i64 a1_1) ∧ w71.cell? ⟨gb102, 2, none⟩ = some (.string a1_2) ∧ w71.cell? ⟨gb101, 0, none⟩ = some (.int .i64 a0_0) ∧ w71.cell? ⟨gb101, 1, none⟩ = some (.int .i64 a0_1) ∧ w71.cell? ⟨gb101, 2, none⟩ = some (.slice A0_2 l0_2.length c0_2) := hS_
           refine norm_ (a':=?_) ?_ ?_; rotate_left
           ·simp only [putAll, q_]; rfl
           refine one_ (i:=10) (N:=none) ⟨m_ 12 2047⟩ rfl rfl (one_of HT_.out (by kernel_rfl)) (by decide) (fun K hK => ?_)
           have hs72 : w71.cell? ⟨gb119, 0, none⟩ = some (.int .i64 0) := bc_ BK119 0 rfl
           have hfs72 := blk_frozen BK119.out 0; have hns72_0 := NB101_119.out; have hns72_1 := NB102_119.out; have hns72_2 := NB106_119.out; have hns72_4 := NB120_119.out; have hms72_0 := NB119_101.out; have hms72_1 := NB119_102.out; have hms72_2 := NB119_106.out; have hms72_4 := NB119_120.out
           have hs73 : w71.cell? ⟨gb119, 1, none⟩ = some (.int .i64 0) := bc_ BK119 1 rfl
           have hfs73 := blk_frozen BK119.out 1; have hns73_0 := NB101_119.out; have hns73_1 := NB102_119.out; have hns73_2 := NB106_119.out; have hns73_4 := NB120_119.out; have hms73_0 := NB119_101.out; have hms73_1 := NB119_102.out; have hms73_2 := NB119_106.out; have hms73_4 := NB119_120.out
           have hs74 : w71.cell? ⟨gb119, 2, none⟩ = some (.string (⟨#[]⟩ : ByteArray)) := bc_ BK119 2 rfl
           have hfs74 := blk_frozen BK119.out 2; have hns74_0 := NB101_119.out; have hns74_1 := NB102_119.out; have hns74_2 := NB106_119.out; have hns74_4 := NB120_119.out; have hms74_0 := NB119_101.out; have hms74_1 := NB119_102.out; have hms74_2 := NB119_106.out; have hms74_4 := NB119_120.out
           refine skip_ (w1 := ?_) (by rfl) rfl ?_ ?_
           rotate_left
           ·go_simp; rfl
           refine hK.out _ _ ⟨((cell_far (p := ⟨gb119, _, none⟩) NB102_119.out _).trans (((cell_far (p := ⟨gb119, _, none⟩) NB102_119.out _).trans (((cell_far (p := ⟨gb119, _, none⟩) NB102_119.out _).trans (hHeld.1)))))), ((cell_far (p := ⟨gb119, _, none⟩) NB102_119.out _).trans (((cell_far (p := ⟨gb119, _, none⟩) NB102_119.out _).trans (((cell_far (p := ⟨gb119, _, none⟩) NB102_119.out _).trans (hHeld.2.1)))))), ((cell_far (p := ⟨gb119, _, none⟩) NB102_119.out _).trans (((cell_far (p := ⟨gb119, _, none⟩) NB102_119.out _).trans (((cell_far (p := ⟨gb119, _, none⟩) NB102_119.out _).trans (hHeld.2.2.1)))))), ((cell_far (p := ⟨gb119, _, none⟩) NB101_119.out _).trans (((cell_far (p := ⟨gb119, _, none⟩) NB101_119.out _).trans (((cell_far (p := ⟨gb119, _, none⟩) NB101_119.out _).trans (hHeld.2.2.2.1)))))), ((cell_far (p := ⟨gb119, _, none⟩) NB101_119.out _).trans (((cell_far (p := ⟨gb119, _, none⟩) NB101_119.out _).trans (((cell_far (p := ⟨gb119, _, none⟩) NB101_119.out _).trans (hHeld.2.2.2.2.1)))))), ((cell_far (p := ⟨gb119, _, none⟩) NB101_119.out _).trans (((cell_far (p := ⟨gb119, _, none⟩) NB101_119.out _).trans (((cell_far (p := ⟨gb119, _, none⟩) NB101_119.out _).trans (hHeld.2.2.2.2.2))))))⟩ (fun hHeld => ?_); clear hK K; refine one_ (i:=11) (N:=none) ⟨m_ 12 4095⟩ rfl rfl (one_of HT_.out (by kernel_rfl)) (by decide) (fun K hK => ?_)
           have hs75 : w71.cell? ⟨gb120, 0, none⟩ = some (.int .i64 0) := bc_ BK120 0 rfl
           have hfs75 := blk_frozen BK120.out 0; have hns75_0 := NB101_120.out; have hns75_1 := NB102_120.out; have hns75_2 := NB106_120.out; have hns75_3 := NB119_120.out; have hms75_0 := NB120_101.out; have hms75_1 := NB120_102.out; have hms75_2 := NB120_106.out; have hms75_3 := NB120_119.out
           have hs76 : w71.cell? ⟨gb120, 1, none⟩ = some (.int .i64 0) := bc_ BK120 1 rfl
           have hfs76 := blk_frozen BK120.out 1; have hns76_0 := NB101_120.out; have hns76_1 := NB102_120.out; have hns76_2 := NB106_120.out; have hns76_3 := NB119_120.out; have hms76_0 := NB120_101.out; have hms76_1 := NB120_102.out; have hms76_2 := NB120_106.out; have hms76_3 := NB120_119.out
           have hs77 : w71.cell? ⟨gb120, 2, none⟩ = some (.string (⟨#[]⟩ : ByteArray)) := bc_ BK120 2 rfl
           have hfs77 := blk_frozen BK120.out 2; have hns77_0 := NB101_120.out; have hns77_1 := NB102_120.out; have hns77_2 := NB106_120.out; have hns77_3 := NB119_120.out; have hms77_0 := NB120_101.out; have hms77_1 := NB120_102.out; have hms77_2 := NB120_106.out; have hms77_3 := NB120_119.out
           refine skip_ (w1 := ?_) (by rfl) rfl ?_ ?_
           rotate_left
           ·go_simp; rfl
           refine hK.out _ _ ⟨((cell_far (p := ⟨gb120, _, none⟩) NB102_120.out _).trans (((cell_far (p := ⟨gb120, _, none⟩) NB102_120.out _).trans (((cell_far (p := ⟨gb120, _, none⟩) NB102_120.out _).trans (hHeld.1)))))), ((cell_far (p := ⟨gb120, _, none⟩) NB102_120.out _).trans (((cell_far (p := ⟨gb120, _, none⟩) NB102_120.out _).trans (((cell_far (p := ⟨gb120, _, none⟩) NB102_120.out _).trans (hHeld.2.1)))))), ((cell_far (p := ⟨gb120, _, none⟩) NB102_120.out _).trans (((cell_far (p := ⟨gb120, _, none⟩) NB102_120.out _).trans (((cell_far (p := ⟨gb120, _, none⟩) NB102_120.out _).trans (hHeld.2.2.1)))))), ((cell_far (p := ⟨gb120, _, none⟩) NB101_120.out _).trans (((cell_far (p := ⟨gb120, _, none⟩) NB101_120.out _).trans (((cell_far (p := ⟨gb120, _, none⟩) NB101_120.out _).trans (hHeld.2.2.2.1)))))), ((cell_far (p := ⟨gb120, _, none⟩) NB101_120.out _).trans (((cell_far (p := ⟨gb120, _, none⟩) NB101_120.out _).trans (((cell_far (p := ⟨gb120, _, none⟩) NB101_120.out _).trans (hHeld.2.2.2.2.1)))))), ((cell_far (p := ⟨gb120, _, none⟩) NB101_120.out _).trans (((cell_far (p := ⟨gb120, _, none⟩) NB101_120.out _).trans (((cell_far (p := ⟨gb120, _, none⟩) NB101_120.out _).trans (hHeld.2.2.2.2.2))))))⟩ (fun hHeld => ?_); clear hK K
           refine done_ (done_of HT_.out (by kernel_rfl)) ?_
           try go_wp2
           have n0_ : Aside0 (Kd.R k26 26 ((((((w71.setCell ⟨gb119, 0, none⟩ (.int .i64 t113)).setCell ⟨gb119, 1, none⟩ (.int .i64 t114)).setCell ⟨gb119, 2, none⟩ (.string t115)).setCell ⟨gb120, 0, none⟩ (.int .i64 t116)).setCell ⟨gb120, 1, none⟩ (.int .i64 t117)).setCell ⟨gb120, 2, none⟩ (.string t118)) w.heap.size (fun k_ => k_ ≠ gb102 ∧ k_ ≠ gb119 ∧ k_ ≠ gb120) u107002 x107002_2) := ⟨by (with_reducible repeat (first | apply Kd.R_alloc | apply Kd.R_drewN | apply Kd.R_drew)); exact Kd.R_mono (Kd.R_far (p := ⟨gb120, 2, none⟩) (Kd.R_far (p := ⟨gb120, 1, none⟩) (Kd.R_far (p := ⟨gb120, 0, none⟩) (Kd.R_far (p := ⟨gb119, 2, none⟩) (Kd.R_far (p := ⟨gb119, 1, none⟩) (Kd.R_far (p := ⟨gb119, 0, none⟩) (Kd.R_mono (Kd.R_mono HO_107002.out (fun k_ hk => (⟨hk, hk.2.1⟩ : _ ∧ k_ ≠ gb119))) (fun k_ hk => (⟨hk, hk.1.2.2⟩ : _ ∧ k_ ≠ gb120))) (fun _ hk => hk.1.2) (.int .i64 t113)) (fun _ hk => hk.1.2) (.int .i64 t114)) (fun _ hk => hk.1.2) (.string t115)) (fun _ hk => hk.2) (.int .i64 t116)) (fun _ hk => hk.2) (.int .i64 t117)) (fun _ hk => hk.2) (.string t118)) (fun _ hk => ⟨hk.1.1.1, ⟨hk.1.1.2.1, hk.1.1.2.2⟩⟩)⟩; have n1_ : Aside0 (((((((w71.setCell ⟨gb119, 0, none⟩ (.int .i64 t113)).setCell ⟨gb119, 1, none⟩ (.int .i64 t114)).setCell ⟨gb119, 2, none⟩ (.string t115)).setCell ⟨gb120, 0, none⟩ (.int .i64 t116)).setCell ⟨gb120, 1, none⟩ (.int .i64 t117)).setCell ⟨gb120, 2, none⟩ (.string t118)).heap[gb101]? = some (.cells #[.int .i64 a0_0, .int .i64 a0_1, .slice A0_2 l0_2.length c0_2] 24 (0, 0))) := ⟨by refine pf_ ?_ NB101_120.out; refine blk_far ?_ NB101_120.out _; refine blk_far ?_ NB101_120.out _; refine pf_ ?_ NB101_119.out; refine blk_far ?_ NB101_119.out _; refine blk_far ?_ NB101_119.out _; exact pkx BK101⟩
           have n2_ : Aside0 (((((((w71.setCell ⟨gb119, 0, none⟩ (.int .i64 t113)).setCell ⟨gb119, 1, none⟩ (.int .i64 t114)).setCell ⟨gb119, 2, none⟩ (.string t115)).setCell ⟨gb120, 0, none⟩ (.int .i64 t116)).setCell ⟨gb120, 1, none⟩ (.int .i64 t117)).setCell ⟨gb120, 2, none⟩ (.string t118)).heap[gb102]? = some (.cells #[.int .i64 a1_0, .int .i64 a1_1, .string a1_2] 26 (0, 0))) := ⟨by refine pf_ ?_ NB102_120.out; refine blk_far ?_ NB102_120.out _; refine blk_far ?_ NB102_120.out _; refine pf_ ?_ NB102_119.out; refine blk_far ?_ NB102_119.out _; refine blk_far ?_ NB102_119.out _; exact pkx BK102⟩; have n3_ : Aside0 (((((((w71.setCell ⟨gb119, 0, none⟩ (.int .i64 t113)).setCell ⟨gb119, 1, none⟩ (.int .i64 t114)).setCell ⟨gb119, 2, none⟩ (.string t115)).setCell ⟨gb120, 0, none⟩ (.int .i64 t116)).setCell ⟨gb120, 1, none⟩ (.int .i64 t117)).setCell ⟨gb120, 2, none⟩ (.string t118)).heap[gb106]? = some (.cells #[.int .i64 a0_1, .int .i64 a0_0, u107002] 24 (0, 0))) := ⟨by refine pf_ ?_ NB106_120.out; refine blk_far ?_ NB106_120.out _; refine blk_far ?_ NB106_120.out _; refine pf_ ?_ NB106_119.out; refine blk_far ?_ NB106_119.out _; refine blk_far ?_ NB106_119.out _; exact pkx BK106⟩
           have n4_ : Aside0 (((((((w71.setCell ⟨gb119, 0, none⟩ (.int .i64 t113)).setCell ⟨gb119, 1, none⟩ (.int .i64 t114)).setCell ⟨gb119, 2, none⟩ (.string t115)).setCell ⟨gb120, 0, none⟩ (.int .i64 t116)).setCell ⟨gb120, 1, none⟩ (.int .i64 t117)).setCell ⟨gb120, 2, none⟩ (.string t118)).heap[gb119]? = some (.cells #[.int .i64 t113, .int .i64 t114, .string t115] 26 (0, 0))) := ⟨by refine pf_ ?_ NB119_120.out; refine blk_far ?_ NB119_120.out _; refine blk_far ?_ NB119_120.out _; refine pp_ (cs := #[.int .i64 t113, .int .i64 t114, .string (⟨#[]⟩ : ByteArray)]) 2 ?_ rfl; refine pp_ (cs := #[.int .i64 t113, .int .i64 0, .string (⟨#[]⟩ : ByteArray)]) 1 ?_ rfl; refine pp_ (cs := #[.int .i64 0, .int .i64 0, .string (⟨#[]⟩ : ByteArray)]) 0 ?_ rfl; exact pkx BK119⟩
           have n5_ : Aside0 (((((((w71.setCell ⟨gb119, 0, none⟩ (.int .i64 t113)).setCell ⟨gb119, 1, none⟩ (.int .i64 t114)).setCell ⟨gb119, 2, none⟩ (.string t115)).setCell ⟨gb120, 0, none⟩ (.int .i64 t116)).setCell ⟨gb120, 1, none⟩ (.int .i64 t117)).setCell ⟨gb120, 2, none⟩ (.string t118)).heap[gb120]? = some (.cells #[.int .i64 t116, .int .i64 t117, .string t118] 26 (0, 0))) := ⟨by refine pp_ (cs := #[.int .i64 t116, .int .i64 t117, .string (⟨#[]⟩ : ByteArray)]) 2 ?_ rfl; refine pp_ (cs := #[.int .i64 t116, .int .i64 0, .string (⟨#[]⟩ : ByteArray)]) 1 ?_ rfl; refine pp_ (cs := #[.int .i64 0, .int .i64 0, .string (⟨#[]⟩ : ByteArray)]) 0 ?_ rfl; refine pf_ ?_ NB120_119.out; refine blk_far ?_ NB120_119.out _; refine blk_far ?_ NB120_119.out _; exact pkx BK120⟩
           have n6_ : Aside0 (Below w.heap.size w ((((((w71.setCell ⟨gb119, 0, none⟩ (.int .i64 t113)).setCell ⟨gb119, 1, none⟩ (.int .i64 t114)).setCell ⟨gb119, 2, none⟩ (.string t115)).setCell ⟨gb120, 0, none⟩ (.int .i64 t116)).setCell ⟨gb120, 1, none⟩ (.int .i64 t117)).setCell ⟨gb120, 2, none⟩ (.string t118))) := ⟨by repeat (first | (with_reducible first | exact HB.out | apply below_alloc | apply pw_below_drewN | apply below_drew1 | refine below_set ?_ GE101.out | refine below_set ?_ GE102.out | refine below_set ?_ GE106.out | refine below_set ?_ GE119.out | refine below_set ?_ GE120.out) | exact HB.out)⟩; (try clear HO_107002); (try clear BK101); (try clear BK102); (try clear BK106); (try clear BK119); (try clear BK120); (try clear HB)
           generalize ((((((w71.setCell ⟨gb119, 0, none⟩ (.int .i64 t113)).setCell ⟨gb119, 1, none⟩ (.int .i64 t114)).setCell ⟨gb119, 2, none⟩ (.string t115)).setCell ⟨gb120, 0, none⟩ (.int .i64 t116)).setCell ⟨gb120, 1, none⟩ (.int .i64 t117)).setCell ⟨gb120, 2, none⟩ (.string t118)) = w78 at n0_ n1_ n2_ n3_ n4_ n5_ n6_ ⊢; have HO_107002 := n0_; have BK101 := n1_; have BK102 := n2_; have BK106 := n3_; have BK119 := n4_; have BK120 := n5_; have HB := n6_; clear n0_ n1_ n2_ n3_ n4_ n5_ n6_; (try (rw [drewN_self w78]; generalize hq_ : World.drewN w78 _ = w78; have n0_ : Aside0 (Kd.R k26 26 w78 w.heap.size (fun k_ => k_ ≠ gb102 ∧ k_ ≠ gb119 ∧ k_ ≠ gb120) u107002 x107002_2) := ⟨by rw [← hq_]; exact (by (with_reducible repeat (first | apply Kd.R_alloc | apply Kd.R_drewN | apply Kd.R_drew)); exact HO_107002.out)⟩; have n1_ : Aside0 (w78.heap[gb101]? = some (.cells #[.int .i64 a0_0, .int .i64 a0_1, .slice A0_2 l0_2.length c0_2] 24 (0, 0))) := ⟨by rw [← hq_]; exact (pkx BK101)⟩; have n2_ : Aside0 (w78.heap[gb102]? = some (.cells #[.int .i64 a1_0, .int .i64 a1_1, .string a1_2] 26 (0, 0))) := ⟨by rw [← hq_]; exact (pkx BK102)⟩; have n3_ : Aside0 (w78.heap[gb106]? = some (.cells #[.int .i64 a0_1, .int .i64 a0_0, u107002] 24 (0, 0))) := ⟨by rw [← hq_]; exact (pkx BK106)⟩; have n4_ : Aside0 (w78.heap[gb119]? = some (.cells #[.int .i64 t113, .int .i64 t114, .string t115] 26 (0, 0))) := ⟨by rw [← hq_]; exact (pkx BK119)⟩; have n5_ : Aside0 (w78.heap[gb120]? = some (.cells #[.int .i64 t116, .int .i64 t117, .string t118] 26 (0, 0))) := ⟨by rw [← hq_]; exact (pkx BK120)⟩; have n6_ : Aside0 (Below w.heap.size w w78) := ⟨by rw [← hq_]; exact (pbx HB)⟩; clear HO_107002 BK101 BK102 BK106 BK119 BK120 HB hq_; have HO_107002 := n0_; have BK101 := n1_; have BK102 := n2_; have BK106 := n3_; have BK119 := n4_; have BK120 := n5_; have HB := n6_; clear n0_ n1_ n2_ n3_ n4_ n5_ n6_))
           replace HO_107002 := Aside0.mk (Kd.R_drew HO_107002.out); replace BK101 := Aside0.mk (blk_drew BK101.out); replace BK102 := Aside0.mk (blk_drew BK102.out); replace BK106 := Aside0.mk (blk_drew BK106.out); replace BK119 := Aside0.mk (blk_drew BK119.out); replace BK120 := Aside0.mk (blk_drew BK120.out); replace HB := Aside0.mk (below_drew1 HB.out)
           refine start_ (n:=34) (S := fun w' => w'.cell? ⟨gb119, 0, none⟩ = some (.int .i64 t113) ∧ w'.cell? ⟨gb119, 1, none⟩ = some (.int .i64 t114) ∧ w'.cell? ⟨gb119, 2, none⟩ = some (.string t115) ∧ w'.cell? ⟨gb102, 0, none⟩ = some (.int .i64 a1_0) ∧ w'.cell? ⟨gb102, 1, none⟩ = some (.int .i64 a1_1) ∧ w'.cell? ⟨gb102, 2, none⟩ = some (.string a1_2) ∧ w'.cell? ⟨gb101, 0, none⟩ = some (.int .i64 a0_0) ∧ w'.cell? ⟨gb101, 1, none⟩ = some (.int .i64 a0_1) ∧ w'.cell? ⟨gb101, 2, none⟩ = some (.slice A0_2 l0_2.length c0_2) ∧ w'.cell? ⟨gb120, 0, none⟩ = some (.int .i64 t116) ∧ w'.cell? ⟨gb120, 1, none⟩ = some (.int .i64 t117) ∧ w'.cell? ⟨gb120, 2, none⟩ = some (.string t118) ∧ w'.cell? ⟨gb106, 0, none⟩ = some (.int .i64 a0_1) ∧ w'.cell? ⟨gb106, 1, none⟩ = some (.int .i64 a0_0) ∧ w'.cell? ⟨gb106, 2, none⟩ = some (u107002)) (ds := []) #[F,F,F,F,F,F,F,F,F,F,F,F,F,F,F,F,F,F,F,F,F,F,F,F,F,F,F,F,F,F,F,F,F,F] (by kernel_rfl) rfl rfl ⟨bc_ BK119 0 rfl, bc_ BK119 1 rfl, bc_ BK119 2 rfl, bc_ BK102 0 rfl, bc_ BK102 1 rfl, bc_ BK102 2 rfl, bc_ BK101 0 rfl, bc_ BK101 1 rfl, bc_ BK101 2 rfl, bc_ BK120 0 rfl, bc_ BK120 1 rfl, bc_ BK120 2 rfl, bc_ BK106 0 rfl, bc_ BK106 1 rfl, bc_ BK106 2 rfl⟩ (fun hHeld => ?_); refine with_tabW oculuslaw18_LookAcross.tab12 oculuslaw18_LookAcross.bits12 (fun HT_ HW_ => ?_)
           generalize w78.drew = w79 at HO_107002 BK101 BK102 BK106 BK119 BK120 HB hHeld ⊢; refine pure_ (i:=3) (N:=some 64) (v:=?_) (a':=?_) ⟨m_ 34 8⟩ rfl rfl (any_of HT_.out (by kernel_rfl)) (fun _ _ _ h=>h) (Or.inl ⟨rfl, ?_⟩) ?_ ?_; rotate_left
           ·intro w'; go_simp; with_reducible rfl
           rotate_left
           ·simp only [q_, i64_w, i32_w]; rfl
           refine take_ (i:=0) (N:=some 61) (v:=?_) (a':=?_) ⟨m_ 34 9⟩ rfl rfl (take_ofW HT_.out HW_.out (by kernel_rfl)) (fun _ _ _ h=>h) (Or.inl ⟨rfl, ?_⟩) hHeld ?_ ?_; rotate_left
           ·rintro w' ⟨s0, s1, s2, s3, s4, s5, s6, s7, s8, s9, s10, s11, s12, s13, s14⟩; go_simp; with_reducible rfl
           rotate_left
           ·simp only [q_, i64_w, i32_w]; rfl
           refine take_ (i:=1) (N:=some 62) (v:=?_) (a':=?_) ⟨m_ 34 11⟩ rfl rfl (take_ofW HT_.out HW_.out (by kernel_rfl)) (fun _ _ _ h=>h) (Or.inl ⟨rfl, ?_⟩) hHeld ?_ ?_; rotate_left
           ·rintro w' ⟨s0, s1, s2, s3, s4, s5, s6, s7, s8, s9, s10, s11, s12, s13, s14⟩; go_simp; with_reducible rfl
           rotate_left
           ·simp only [q_, i64_w, i32_w]; rfl
           refine take_ (i:=2) (N:=some 63) (v:=?_) (a':=?_) ⟨m_ 34 15⟩ rfl rfl (take_ofW HT_.out HW_.out (by kernel_rfl)) (fun _ _ _ h=>h) (Or.inl ⟨rfl, ?_⟩) hHeld ?_ ?_; rotate_left
           ·rintro w' ⟨s0, s1, s2, s3, s4, s5, s6, s7, s8, s9, s10, s11, s12, s13, s14⟩; go_simp; with_reducible rfl
           rotate_left
           ·simp only [q_, i64_w, i32_w]; rfl
           refine one_ (i:=4) (N:=some 65) ⟨m_ 34 31⟩ rfl rfl (one_of HT_.out (by kernel_rfl)) (by decide) (fun K hK => ?_); refine goes_ Try.func11 (by kernel_rfl) rfl #[.agg #[.int .i64 a1_0, .int .i64 a1_1, .string a1_2], .agg #[.int .i64 a0_0, .int .i64 a0_1, .slice A0_2 l0_2.length c0_2], .int .i64 a2] (by rfl) rfl rfl (by (try simp only [List.map_toArray, List.map_cons, List.map_nil]); first | done | rfl | (simp only [List.length_drop, List.length_take]; rfl)) ?_; with_reducible refine (oculusref18_Down.calls k2 a1_0 a1_1 a1_2 a0_0 a0_1 _ _ l0_2 a2 t121 t122 t123 _ ?side1 ?side2 A54.out).mono ?_; (case side1 => repeat (first | exact (Kd.C_below HR0_2.out HB.out) | (with_reducible refine Kd.C_alloc ?_ _) | (with_reducible refine Kd.C_drewN ?_ _) | (with_reducible refine Kd.C_drew ?_))); (case side2 => exact HC0_2.out); rintro e w80 ⟨rfl, hb⟩; refine ⟨_, rfl, ?_⟩
           replace HO_107002 := Aside0.mk (Kd.R_below (by (with_reducible repeat (first | apply Kd.R_alloc | apply Kd.R_drewN | apply Kd.R_drew)); exact HO_107002.out) hb); replace BK101 := bb_ BK101 hb; replace BK102 := bb_ BK102 hb; replace BK106 := bb_ BK106 hb; replace BK119 := bb_ BK119 hb; replace BK120 := bb_ BK120 hb; replace HB := bs_ HB hb
           (try clear hb); (try clear hb2); (try clear hk); (try clear hi); refine hK.out _ _ ⟨bc_ BK119 0 rfl, bc_ BK119 1 rfl, bc_ BK119 2 rfl, bc_ BK102 0 rfl, bc_ BK102 1 rfl, bc_ BK102 2 rfl, bc_ BK101 0 rfl, bc_ BK101 1 rfl, bc_ BK101 2 rfl, bc_ BK120 0 rfl, bc_ BK120 1 rfl, bc_ BK120 2 rfl, bc_ BK106 0 rfl, bc_ BK106 1 rfl, bc_ BK106 2 rfl⟩ (fun hHeld => ?_); clear hK K; refine norm_ (a':=?_) ?_ ?_; rotate_left
           ·show Act.put _ (some 65) _ = _; simp only [q_, i64_w, i32_w]; rfl
           refine pure_ (i:=5) (N:=some 66) (v:=?_) (a':=?_) ⟨m_ 34 63⟩ rfl rfl (any_of HT_.out (by kernel_rfl)) (fun _ _ _ h=>h) (Or.inl ⟨rfl, ?_⟩) ?_ ?_; rotate_left
           ·intro w'; go_simp; with_reducible rfl
           rotate_left
           ·simp only [q_, i64_w, i32_w]; rfl
           refine pure_ (i:=6) (N:=some 67) (v:=?_) (a':=?_) ⟨m_ 34 127⟩ rfl rfl (any_of HT_.out (by kernel_rfl)) (fun _ _ _ h=>h) (Or.inl ⟨rfl, ?_⟩) ?_ ?_; rotate_left
           ·intro w'; go_simp; with_reducible rfl
           rotate_left
           ·simp only [q_, i64_w, i32_w]; rfl
           refine pure_ (i:=10) (N:=some 71) (v:=?_) (a':=?_) ⟨m_ 34 1151⟩ rfl rfl (any_of HT_.out (by kernel_rfl)) (fun _ _ _ h=>h) (Or.inl ⟨rfl, ?_⟩) ?_ ?_; rotate_left
           ·intro w'; go_simp; with_reducible rfl
           rotate_left
           ·simp only [q_, i64_w, i32_w]; rfl
           refine take_ (i:=7) (N:=some 68) (v:=?_) (a':=?_) ⟨m_ 34 1279⟩ rfl rfl (take_ofW HT_.out HW_.out (by kernel_rfl)) (fun _ _ _ h=>h) (Or.inl ⟨rfl, ?_⟩) hHeld ?_ ?_; rotate_left
           ·rintro w' ⟨s0, s1, s2, s3, s4, s5, s6, s7, s8, s9, s10, s11, s12, s13, s14⟩; go_simp; with_reducible rfl
           rotate_left
           ·simp only [q_, i64_w, i32_w]; rfl
           refine take_ (i:=8) (N:=some 69) (v:=?_) (a':=?_) ⟨m_ 34 1535⟩ rfl rfl (take_ofW HT_.out HW_.out (by kernel_rfl)) (fun _ _ _ h=>h) (Or.inl ⟨rfl, ?_⟩) hHeld ?_ ?_; rotate_left
           ·rintro w' ⟨s0, s1, s2, s3, s4, s5, s6, s7, s8, s9, s10, s11, s12, s13, s14⟩; go_simp; with_reducible rfl
           rotate_left
           ·simp only [q_, i64_w, i32_w]; rfl
           refine take_ (i:=9) (N:=some 70) (v:=?_) (a':=?_) ⟨m_ 34 2047⟩ rfl rfl (take_ofW HT_.out HW_.out (by kernel_rfl)) (fun _ _ _ h=>h) (Or.inl ⟨rfl, ?_⟩) hHeld ?_ ?_; rotate_left
           ·rintro w' ⟨s0, s1, s2, s3, s4, s5, s6, s7, s8, s9, s10, s11, s12, s13, s14⟩; go_simp; with_reducible rfl
           rotate_left
           ·simp only [q_, i64_w, i32_w]; rfl
           refine one_ (i:=11) (N:=some 72) ⟨m_ 34 4095⟩ rfl rfl (one_of HT_.out (by kernel_rfl)) (by decide) (fun K hK => ?_); refine goes_ Try.func12 (by kernel_rfl) rfl #[.agg #[.int .i64 a1_0, .int .i64 a1_1, .string a1_2], .agg #[.int .i64 a0_0, .int .i64 a0_1, .slice A0_2 l0_2.length c0_2], .int .i64 a2] (by rfl) rfl rfl (by (try simp only [List.map_toArray, List.map_cons, List.map_nil]); first | done | rfl | (simp only [List.length_drop, List.length_take]; rfl)) ?_; with_reducible refine (oculusref18_Across.calls k2 a1_0 a1_1 a1_2 a0_0 a0_1 _ _ l0_2 a2 t124 t125 t126 _ ?side1 ?side2 A56.out).mono ?_; (case side1 => repeat (first | exact (Kd.C_below HR0_2.out HB.out) | (with_reducible refine Kd.C_alloc ?_ _) | (with_reducible refine Kd.C_drewN ?_ _) | (with_reducible refine Kd.C_drew ?_))); (case side2 => exact HC0_2.out); rintro e w81 ⟨rfl, hb⟩; refine ⟨_, rfl, ?_⟩
           replace HO_107002 := Aside0.mk (Kd.R_below (by (with_reducible repeat (first | apply Kd.R_alloc | apply Kd.R_drewN | apply Kd.R_drew)); exact HO_107002.out) hb); replace BK101 := bb_ BK101 hb; replace BK102 := bb_ BK102 hb; replace BK106 := bb_ BK106 hb; replace BK119 := bb_ BK119 hb; replace BK120 := bb_ BK120 hb; replace HB := bs_ HB hb
           (try clear hb); (try clear hb2); (try clear hk); (try clear hi); obtain ⟨Ao82, co82, eo82⟩ := Kd.R_slice HO_107002.out; (first | subst eo82 | (injection eo82 with f1_ f2_ f3_; have f4_ := f1_.symm; have f5_ := f3_.symm; clear f1_ f2_ f3_; subst f4_; subst f5_)); refine hK.out _ _ ⟨bc_ BK119 0 rfl, bc_ BK119 1 rfl, bc_ BK119 2 rfl, bc_ BK102 0 rfl, bc_ BK102 1 rfl, bc_ BK102 2 rfl, bc_ BK101 0 rfl, bc_ BK101 1 rfl, bc_ BK101 2 rfl, bc_ BK120 0 rfl, bc_ BK120 1 rfl, bc_ BK120 2 rfl, bc_ BK106 0 rfl, bc_ BK106 1 rfl, bc_ BK106 2 rfl⟩ (fun hHeld => ?_); clear hK K; refine norm_ (a':=?_) ?_ ?_; rotate_left
           ·show Act.put _ (some 72) _ = _; simp only [q_, i64_w, i32_w]; rfl
           refine pure_ (i:=12) (N:=some 73) (v:=?_) (a':=?_) ⟨m_ 34 8191⟩ rfl rfl (any_of HT_.out (by kernel_rfl)) (fun _ _ _ h=>h) (Or.inl ⟨rfl, ?_⟩) ?_ ?_; rotate_left
           ·intro w'; go_simp; with_reducible rfl
           rotate_left
           ·simp only [q_, i64_w, i32_w]; rfl
           refine pure_ (i:=13) (N:=some 74) (v:=?_) (a':=?_) ⟨m_ 34 16383⟩ rfl rfl (any_of HT_.out (by kernel_rfl)) (fun _ _ _ h=>h) (Or.inl ⟨rfl, ?_⟩) ?_ ?_; rotate_left
           ·intro w'; go_simp; with_reducible rfl
           rotate_left
           ·simp only [q_, i64_w, i32_w]; rfl
           refine pure_ (i:=14) (N:=some 75) (v:=?_) (a':=?_) ⟨m_ 34 32767⟩ rfl rfl (any_of HT_.out (by kernel_rfl)) (fun _ _ _ h=>h) (Or.inl ⟨rfl, ?_⟩) ?_ ?_; rotate_left
           ·intro w'; go_simp; with_reducible rfl
           rotate_left
           ·simp only [q_, i64_w, i32_w]; rfl
           refine pure_ (i:=17) (N:=some 78) (v:=?_) (a':=?_) ⟨m_ 34 163839⟩ rfl rfl (any_of HT_.out (by kernel_rfl)) (fun _ _ _ h=>h) (Or.inl ⟨rfl, ?_⟩) ?_ ?_; rotate_left
           ·intro w'; go_simp; with_reducible rfl
           rotate_left
           ·simp only [q_, i64_w, i32_w]; rfl
           refine take_ (i:=15) (N:=some 76) (v:=?_) (a':=?_) ⟨m_ 34 196607⟩ rfl rfl (take_ofW HT_.out HW_.out (by kernel_rfl)) (fun _ _ _ h=>h) (Or.inl ⟨rfl, ?_⟩) hHeld ?_ ?_; rotate_left
           ·rintro w' ⟨s0, s1, s2, s3, s4, s5, s6, s7, s8, s9, s10, s11, s12, s13, s14⟩; go_simp; with_reducible rfl
           rotate_left
           ·simp only [q_, i64_w, i32_w]; rfl
           refine take_ (i:=16) (N:=some 77) (v:=?_) (a':=?_) ⟨m_ 34 262143⟩ rfl rfl (take_ofW HT_.out HW_.out (by kernel_rfl)) (fun _ _ _ h=>h) (Or.inl ⟨rfl, ?_⟩) hHeld ?_ ?_; rotate_left
           ·rintro w' ⟨s0, s1, s2, s3, s4, s5, s6, s7, s8, s9, s10, s11, s12, s13, s14⟩; go_simp; with_reducible rfl
           rotate_left
           ·simp only [q_, i64_w, i32_w]; rfl
           refine take_ (i:=19) (N:=some 80) (v:=?_) (a':=?_) ⟨m_ 34 786431⟩ rfl rfl (take_ofW HT_.out HW_.out (by kernel_rfl)) (fun _ _ _ h=>h) (Or.inl ⟨rfl, ?_⟩) hHeld ?_ ?_; rotate_left
           ·rintro w' ⟨s0, s1, s2, s3, s4, s5, s6, s7, s8, s9, s10, s11, s12, s13, s14⟩; go_simp; with_reducible rfl
           rotate_left
           ·simp only [q_, i64_w, i32_w]; rfl
           refine one_ (i:=18) (N:=some 79) ⟨m_ 34 1048575⟩ rfl rfl (one_of HT_.out (by kernel_rfl)) (by decide) (fun K hK => ?_); refine goes_ Try.func10 (by kernel_rfl) rfl #[.agg #[.int .i64 a1_0, .int .i64 a1_1, .string a1_2], .agg #[.int .i64 a0_1, .int .i64 a0_0, .slice Ao82 x107002_2.length co82], .int .i64 a2] (by rfl) rfl rfl (by (try simp only [List.map_toArray, List.map_cons, List.map_nil]); first | done | rfl | (simp only [List.length_drop, List.length_take]; rfl)) ?_; with_reducible refine (look_Across.calls k2 a1_0 a1_1 a1_2 a0_1 a0_0 _ _ x107002_2 a2 t127 t128 t129 _ ?side1 ?side2 A58.out).mono ?_; (case side1 => repeat (first | exact (Kd.R_reads' HO_107002.out).2.2 | (with_reducible refine Kd.C_alloc ?_ _) | (with_reducible refine Kd.C_drewN ?_ _) | (with_reducible refine Kd.C_drew ?_))); (case side2 => exact (Kd.R_reads' HO_107002.out).2.1); rintro e w83 ⟨rfl, hb⟩; refine ⟨_, rfl, ?_⟩
           replace HO_107002 := Aside0.mk (Kd.R_below (by (with_reducible repeat (first | apply Kd.R_alloc | apply Kd.R_drewN | apply Kd.R_drew)); exact HO_107002.out) hb); replace BK101 := bb_ BK101 hb; replace BK102 := bb_ BK102 hb; replace BK106 := bb_ BK106 hb; replace BK119 := bb_ BK119 hb; replace BK120 := bb_ BK120 hb; replace HB := bs_ HB hb
           (try clear hb); (try clear hb2); (try clear hk); (try clear hi); refine hK.out _ _ ⟨bc_ BK119 0 rfl, bc_ BK119 1 rfl, bc_ BK119 2 rfl, bc_ BK102 0 rfl, bc_ BK102 1 rfl, bc_ BK102 2 rfl, bc_ BK101 0 rfl, bc_ BK101 1 rfl, bc_ BK101 2 rfl, bc_ BK120 0 rfl, bc_ BK120 1 rfl, bc_ BK120 2 rfl, bc_ BK106 0 rfl, bc_ BK106 1 rfl, bc_ BK106 2 rfl⟩ (fun hHeld => ?_); clear hK K; refine norm_ (a':=?_) ?_ ?_; rotate_left
           ·show Act.put _ (some 79) _ = _; simp only [q_, i64_w, i32_w]; rfl
           refine pure_ (i:=20) (N:=some 81) (v:=?_) (a':=?_) ⟨m_ 34 2097151⟩ rfl rfl (any_of HT_.out (by kernel_rfl)) (fun _ _ _ h=>h) (Or.inl ⟨rfl, ?_⟩) ?_ ?_; rotate_left
           ·intro w'; go_simp; with_reducible rfl
           rotate_left
           ·simp only [q_, i64_w, i32_w]; rfl
           refine pure_ (i:=21) (N:=some 82) (v:=?_) (a':=?_) ⟨m_ 34 4194303⟩ rfl rfl (any_of HT_.out (by kernel_rfl)) (fun _ _ _ h=>h) (Or.inl ⟨rfl, ?_⟩) ?_ ?_; rotate_left
           ·intro w'; go_simp; with_reducible rfl
           rotate_left
           ·simp only [q_, i64_w, i32_w]; rfl
           refine pure_ (i:=22) (N:=some 83) (v:=?_) (a':=?_) ⟨m_ 34 8388607⟩ rfl rfl (any_of HT_.out (by kernel_rfl)) (fun _ _ _ h=>h) (Or.inl ⟨rfl, ?_⟩) ?_ ?_; rotate_left
           ·intro w'; go_simp; with_reducible rfl
           rotate_left
           ·simp only [q_, i64_w, i32_w]; rfl
           refine pure_ (i:=25) (N:=some 86) (v:=?_) (a':=?_) ⟨m_ 34 41943039⟩ rfl rfl (any_of HT_.out (by kernel_rfl)) (fun _ _ _ h=>h) (Or.inl ⟨rfl, ?_⟩) ?_ ?_; rotate_left
           ·intro w'; go_simp; with_reducible rfl
           rotate_left
           ·simp only [q_, i64_w, i32_w]; rfl
           refine take_ (i:=23) (N:=some 84) (v:=?_) (a':=?_) ⟨m_ 34 50331647⟩ rfl rfl (take_ofW HT_.out HW_.out (by kernel_rfl)) (fun _ _ _ h=>h) (Or.inl ⟨rfl, ?_⟩) hHeld ?_ ?_; rotate_left
           ·rintro w' ⟨s0, s1, s2, s3, s4, s5, s6, s7, s8, s9, s10, s11, s12, s13, s14⟩; go_simp; with_reducible rfl
           rotate_left
           ·simp only [q_, i64_w, i32_w]; rfl
           refine take_ (i:=24) (N:=some 85) (v:=?_) (a':=?_) ⟨m_ 34 67108863⟩ rfl rfl (take_ofW HT_.out HW_.out (by kernel_rfl)) (fun _ _ _ h=>h) (Or.inl ⟨rfl, ?_⟩) hHeld ?_ ?_; rotate_left
           ·rintro w' ⟨s0, s1, s2, s3, s4, s5, s6, s7, s8, s9, s10, s11, s12, s13, s14⟩; go_simp; with_reducible rfl
           rotate_left
           ·simp only [q_, i64_w, i32_w]; rfl
           refine take_ (i:=27) (N:=some 88) (v:=?_) (a':=?_) ⟨m_ 34 201326591⟩ rfl rfl (take_ofW HT_.out HW_.out (by kernel_rfl)) (fun _ _ _ h=>h) (Or.inl ⟨rfl, ?_⟩) hHeld ?_ ?_; rotate_left
           ·rintro w' ⟨s0, s1, s2, s3, s4, s5, s6, s7, s8, s9, s10, s11, s12, s13, s14⟩; go_simp; with_reducible rfl
           rotate_left
           ·simp only [q_, i64_w, i32_w]; rfl
           refine one_ (i:=26) (N:=some 87) ⟨m_ 34 268435455⟩ rfl rfl (one_of HT_.out (by kernel_rfl)) (by decide) (fun K hK => ?_); refine goes_ Try.func9 (by kernel_rfl) rfl #[.agg #[.int .i64 a1_0, .int .i64 a1_1, .string a1_2], .agg #[.int .i64 a0_1, .int .i64 a0_0, .slice Ao82 x107002_2.length co82], .int .i64 a2] (by rfl) rfl rfl (by (try simp only [List.map_toArray, List.map_cons, List.map_nil]); first | done | rfl | (simp only [List.length_drop, List.length_take]; rfl)) ?_; with_reducible refine (look_Down.calls k2 a1_0 a1_1 a1_2 a0_1 a0_0 _ _ x107002_2 a2 t130 t131 t132 _ ?side1 ?side2 A60.out).mono ?_; (case side1 => repeat (first | exact (Kd.R_reads' HO_107002.out).2.2 | (with_reducible refine Kd.C_alloc ?_ _) | (with_reducible refine Kd.C_drewN ?_ _) | (with_reducible refine Kd.C_drew ?_))); (case side2 => exact (Kd.R_reads' HO_107002.out).2.1); rintro e w84 ⟨rfl, hb⟩; refine ⟨_, rfl, ?_⟩
           replace HO_107002 := Aside0.mk (Kd.R_below (by (with_reducible repeat (first | apply Kd.R_alloc | apply Kd.R_drewN | apply Kd.R_drew)); exact HO_107002.out) hb); replace BK101 := bb_ BK101 hb; replace BK102 := bb_ BK102 hb; replace BK106 := bb_ BK106 hb; replace BK119 := bb_ BK119 hb; replace BK120 := bb_ BK120 hb; replace HB := bs_ HB hb
           (try clear hb); (try clear hb2); (try clear hk); (try clear hi); refine hK.out _ _ ⟨bc_ BK119 0 rfl, bc_ BK119 1 rfl, bc_ BK119 2 rfl, bc_ BK102 0 rfl, bc_ BK102 1 rfl, bc_ BK102 2 rfl, bc_ BK101 0 rfl, bc_ BK101 1 rfl, bc_ BK101 2 rfl, bc_ BK120 0 rfl, bc_ BK120 1 rfl, bc_ BK120 2 rfl, bc_ BK106 0 rfl, bc_ BK106 1 rfl, bc_ BK106 2 rfl⟩ (fun hHeld => ?_); clear hK K; refine norm_ (a':=?_) ?_ ?_; rotate_left
           ·show Act.put _ (some 87) _ = _; simp only [q_, i64_w, i32_w]; rfl
           refine pure_ (i:=28) (N:=some 89) (v:=?_) (a':=?_) ⟨m_ 34 536870911⟩ rfl rfl (any_of HT_.out (by kernel_rfl)) (fun _ _ _ h=>h) (Or.inl ⟨rfl, ?_⟩) ?_ ?_; rotate_left
           ·intro w'; go_simp; with_reducible rfl
           rotate_left
           ·simp only [q_, i64_w, i32_w]; rfl
           refine pure_ (i:=29) (N:=some 90) (v:=?_) (a':=?_) ⟨m_ 34 1073741823⟩ rfl rfl (any_of HT_.out (by kernel_rfl)) (fun _ _ _ h=>h) (Or.inl ⟨rfl, ?_⟩) ?_ ?_; rotate_left
           ·intro w'; go_simp; with_reducible rfl
           rotate_left
           ·simp only [q_, i64_w, i32_w]; rfl
           refine pure_ (i:=30) (N:=some 91) (v:=?_) (a':=?_) ⟨m_ 34 2147483647⟩ rfl rfl (any_of HT_.out (by kernel_rfl)) (fun _ _ _ h=>h) (Or.inl ⟨rfl, ?_⟩) ?_ ?_; rotate_left
           ·intro w'; go_simp; with_reducible rfl
           rotate_left
           ·simp only [q_, i64_w, i32_w]; rfl
           refine one_ (i:=31) (N:=some 92) ⟨m_ 34 4294967295⟩ rfl rfl (one_of HT_.out (by kernel_rfl)) (by decide) (fun K hK => ?_); refine goes_ Try.func7 (by kernel_rfl) rfl #[] (by rfl) rfl rfl (by (try simp only [List.map_toArray, List.map_cons, List.map_nil]); first | done | rfl | (simp only [List.length_drop, List.length_take]; rfl)) ?_; with_reducible refine (oculuslaw18_alive.calls k2  t133 _ A62.out).mono ?_; rintro e w85 ⟨rfl, hb⟩; refine ⟨_, rfl, ?_⟩
           replace HO_107002 := Aside0.mk (Kd.R_below (by (with_reducible repeat (first | apply Kd.R_alloc | apply Kd.R_drewN | apply Kd.R_drew)); exact HO_107002.out) hb); replace BK101 := bb_ BK101 hb; replace BK102 := bb_ BK102 hb; replace BK106 := bb_ BK106 hb; replace BK119 := bb_ BK119 hb; replace BK120 := bb_ BK120 hb; replace HB := bs_ HB hb
           (try clear hb); (try clear hb2); (try clear hk); (try clear hi); refine hK.out _ _ ⟨bc_ BK119 0 rfl, bc_ BK119 1 rfl, bc_ BK119 2 rfl, bc_ BK102 0 rfl, bc_ BK102 1 rfl, bc_ BK102 2 rfl, bc_ BK101 0 rfl, bc_ BK101 1 rfl, bc_ BK101 2 rfl, bc_ BK120 0 rfl, bc_ BK120 1 rfl, bc_ BK120 2 rfl, bc_ BK106 0 rfl, bc_ BK106 1 rfl, bc_ BK106 2 rfl⟩ (fun hHeld => ?_); clear hK K; refine norm_ (a':=?_) ?_ ?_; rotate_left
           ·show Act.put _ (some 92) _ = _; simp only [q_, i64_w, i32_w]; rfl
           refine pure_ (i:=32) (N:=some 93) (v:=?_) (a':=?_) ⟨m_ 34 8589934591⟩ rfl rfl (any_of HT_.out (by kernel_rfl)) (fun _ _ _ h=>h) (Or.inl ⟨rfl, ?_⟩) ?_ ?_; rotate_left
           ·intro w'; go_simp; with_reducible rfl
           rotate_left
           ·simp only [q_, i64_w, i32_w]; rfl
           refine pure_ (i:=33) (N:=some 6) (v:=?_) (a':=?_) ⟨m_ 34 17179869183⟩ rfl rfl (any_of HT_.out (by kernel_rfl)) (fun _ _ _ h=>h) (Or.inl ⟨rfl, ?_⟩) ?_ ?_; rotate_left
           ·intro w'; go_simp; with_reducible rfl
           rotate_left
           ·simp only [q_, i64_w, i32_w]; rfl
           refine done_ (done_of HT_.out (by kernel_rfl)) ?_
           try go_wp2
           go_ret
           exact ⟨by first | rfl | (simp [errW_none, errW_some] <;> rfl) | (simp [*, errW_none, errW_some] <;> rfl), pbx HB⟩
          ·rw [if_neg c61] at H
           have c61b0 : (t130 == t116 && (t131 == t117 && (t132.toList == t118.toList))) = false := by simpa using c61
           (try (have c61b1 : decide (t130 = t116 && (t131 == t117 && (t132.toList == t118.toList))) = false := by simpa using c61)); (try (have c61b2 : (t130 == t116 && (t131 == t117 && (t132.toList == t118.toList))) = false := by simpa using c61)); (try (have c61b3 : ¬ (t130 = t116 && (t131 == t117 && (t132.toList == t118.toList))) := by simpa using c61)); clear c61
           exact absurd H (by simp)
         ·rw [if_neg c59] at H
          have c59b0 : (t127 == t113 && (t128 == t114 && (t129.toList == t115.toList))) = false := by simpa using c59
          (try (have c59b1 : decide (t127 = t113 && (t128 == t114 && (t129.toList == t115.toList))) = false := by simpa using c59)); (try (have c59b2 : (t127 == t113 && (t128 == t114 && (t129.toList == t115.toList))) = false := by simpa using c59)); (try (have c59b3 : ¬ (t127 = t113 && (t128 == t114 && (t129.toList == t115.toList))) := by simpa using c59)); clear c59
          exact absurd H (by simp)
        ·rw [if_neg c57] at H
         have c57b0 : (t116 == t124 && (t117 == t125 && (t118.toList == t126.toList))) = false := by simpa using c57
         (try (have c57b1 : decide (t116 = t124 && (t117 == t125 && (t118.toList == t126.toList))) = false := by simpa using c57)); (try (have c57b2 : (t116 == t124 && (t117 == t125 && (t118.toList == t126.toList))) = false := by simpa using c57)); (try (have c57b3 : ¬ (t116 = t124 && (t117 == t125 && (t118.toList == t126.toList))) := by simpa using c57)); clear c57
         exact absurd H (by simp)
       ·rw [if_neg c55] at H
        have c55b0 : (t113 == t121 && (t114 == t122 && (t115.toList == t123.toList))) = false := by simpa using c55
        (try (have c55b1 : decide (t113 = t121 && (t114 == t122 && (t115.toList == t123.toList))) = false := by simpa using c55)); (try (have c55b2 : (t113 == t121 && (t114 == t122 && (t115.toList == t123.toList))) = false := by simpa using c55)); (try (have c55b3 : ¬ (t113 = t121 && (t114 == t122 && (t115.toList == t123.toList))) := by simpa using c55)); clear c55
        exact absurd H (by simp)

end Go.Proofs.Ytejkoenlfcghbaa.X
/- A general opening of a row's arguments: what a value of a type reads as, as a term of a kind 'Kd', with the bounds that the row's reach gives. -/
set_option linter.unusedVariables false
set_option linter.unusedSimpArgs false
namespace Go.Proofs.Ytejkoenlfcghbaa.Opn
open Go.ChangeShapes Go.WideShapes Go.RowKit Go.Proofs.YtejkoenlfcghbaaW.PrintWords

def Opens {α : Type} (P : Program) (t : TypeId) (d : Kd α) (good : α → Prop) : Prop :=
  ∀ {H : Type} {enc : TypeId × Value → H} {w : World} {base : Nat} {spare : Nat → Bool} {held : Bool} {fuel : Nat} {cs : List Value} {x : DataW H × List MemPlace},
    DataW.trod enc P w base spare held fuel t cs = some x → (∀ m ∈ x.1.weights P t, m ≤ reachBytes) → ∃ a, d.K w a cs ∧ good a

theorem opens_int {P : Program} {t : TypeId} {k : IntKind} (ht : P.underlying t = some (.int k)) : Opens P t (Kd.int k) (fun n => (Lit.int k n).wf = true) := by
  intro H enc w base spare held fuel cs x hx _
  obtain ⟨n, rfl, rfl, hn⟩ := DataW.trod_int ht hx
  exact ⟨n, rfl, hn⟩
theorem opens_string {P : Program} {t : TypeId} (ht : P.underlying t = some .string) : Opens P t Kd.string (fun s => s.size ≤ reachBytes) := by
  intro H enc w base spare held fuel cs x hx hw
  obtain ⟨s, rfl, rfl, _⟩ := DataW.trod_string ht hx
  refine ⟨s, rfl, ?_⟩
  have := hw s.data.toList.length (by simp [DataW.weights])
  simpa using this

theorem weightsAll_mem {H : Type} {P : Program} {e : TypeId} : ∀ {l : List (DataW H)} {d : DataW H}, d ∈ l → ∀ m ∈ d.weights P e, m ∈ DataW.weightsAll P e l
  | d0 :: l, d, hd, m, hm => by
    simp only [DataW.weightsAll, List.mem_append]
    rcases List.mem_cons.1 hd with rfl | hd
    · exact Or.inl hm
    · exact Or.inr (weightsAll_mem hd m hm)
  | [], _, hd, _, _ => by simp at hd

theorem opens_slice {α : Type} {P : Program} {t e : TypeId} {d : Kd α} {good : α → Prop} (ht : P.underlying t = some (.slice e)) (hc : P.cellsOf e = d.sz) {B : Nat} (hB : P.bytesOf e = B) (z : α) (h : Opens P e d good) :
    Opens P t (Kd.slice e d) (fun xs => (∀ x ∈ xs, good x) ∧ xs.length * B ≤ reachBytes) := by
  intro H enc w base spare held fuel cs x hx hw
  rcases Go.Deep.open_slice ht hx with ⟨rfl, rfl⟩ | ⟨a, len, cap, m, n, D, Pl, rfl, hb, hl, hm, hmm, rfl, hel⟩
  · exact ⟨[], ⟨none, 0, rfl, Nat.le_refl _, rfl, by simp, fun h0 => absurd h0 (by simp)⟩, by simp, by simp⟩
  · have hlm : len ≤ m := by rw [hmm]; split <;> omega
    have hmx : len ≤ 9223372036854775807 := by unfold maxLen at hm; omega
    have hw' : ∀ i, i < len → ∀ q ∈ (D i).weights P e, q ≤ reachBytes := by
      intro i hi q hq
      refine hw q ?_
      simp only [DataW.weights, ht]
      refine List.mem_cons_of_mem _ (List.mem_append.2 (Or.inl ?_))
      exact weightsAll_mem (d := D i) (List.mem_map.2 ⟨i, List.mem_range.2 hi, rfl⟩) q hq
    have hB' : len * B ≤ reachBytes := by
      have h0 := hw ((((List.range len).map D).length + ((List.range (m - len)).map fun j => D (len + j)).length) * P.bytesOf e) (by simp only [DataW.weights, ht]; exact List.mem_cons_self ..)
      rw [hB] at h0
      simp only [List.length_map, List.length_range] at h0
      exact Nat.le_trans (Nat.mul_le_mul_right B (by omega)) h0
    have key : ∀ i, i < len → ∃ y : α × List Value, d.K w y.1 y.2 ∧ good y.1 ∧ w.cells? base (a.add (i * P.cellsOf e)) (P.cellsOf e) = some y.2 := by
      intro i hi
      obtain ⟨cs', h1, h2⟩ := hel i (by omega)
      obtain ⟨y, h3, h4⟩ := h h2 (hw' i hi)
      exact ⟨(y, cs'), h3, h4, h1⟩
    haveI : Inhabited (α × List Value) := ⟨(z, [])⟩
    obtain ⟨F, hF⟩ := Go.Deep.choose_lt key
    refine ⟨(List.range len).map fun i => (F i).1, ⟨some a, cap, by simp, by simpa using hl, by simp, by simpa using hmx, fun h0 => ⟨a, rfl, ?_⟩⟩, ?_, by simpa using hB'⟩
    · intro j p hj
      have hjl : j < len := by
        have := (List.getElem?_eq_some_iff.1 hj).1
        simpa using this
      have hp : p = (F j).1 := by
        rw [List.getElem?_map, List.getElem?_range hjl] at hj
        simpa using hj.symm
      subst hp
      obtain ⟨h1, h2, h3⟩ := hF j hjl
      obtain ⟨_, hlen, hcell⟩ := World.cells?_some h3
      refine ⟨(F j).2, by rw [hlen, hc], h1, fun i u hu => ?_⟩
      have hi : i < P.cellsOf e := by
        have := (List.getElem?_eq_some_iff.1 hu).1
        omega
      have := hcell i hi
      rw [Go.Deep.add_add] at this
      rw [← hc, this, hu]
    · intro x hx
      obtain ⟨i, hi, rfl⟩ := List.mem_map.1 hx
      exact (hF i (List.mem_range.1 hi)).2.1

def OpensTail {α : Type} (P : Program) (fs : List Field) (o len : Nat) (d : Kd α) (good : α → Prop) : Prop :=
  ∀ {H : Type} {enc : TypeId × Value → H} {w : World} {base : Nat} {spare : Nat → Bool} {held : Bool} {n : Nat} {cs : List Value} {xs : List (DataW H × List MemPlace)},
    cs.length = len → xs.length = fs.length →
    (∀ (i : Nat) (f : Field), fs[i]? = some f → DataW.trod enc P w base spare held n f.type ((cs.drop f.offset).take (P.cellsOf f.type)) = xs[i]?) →
    (∀ m ∈ DataW.weightsEach P (fs.map (·.type)) (xs.map (·.1)), m ≤ reachBytes) → ∃ a, d.K w a (cs.drop o) ∧ good a

theorem tail_one {α : Type} {P : Program} {f : Field} {o len : Nat} {d : Kd α} {good : α → Prop} (ho : f.offset = o) (hl : len ≤ o + P.cellsOf f.type) (h : Opens P f.type d good) : OpensTail P [f] o len d good := by
  intro H enc w base spare held n cs xs hcs hxs hall hw
  obtain ⟨x, rfl⟩ : ∃ x, xs = [x] := by
    match xs, hxs with
    | [x], _ => exact ⟨x, rfl⟩
  have h0 := hall 0 f rfl
  rw [ho, List.take_of_length_le (by rw [List.length_drop]; omega)] at h0
  exact h h0 (fun m hm => hw m (by simp only [List.map_cons, List.map_nil, DataW.weightsEach, List.mem_append]; exact Or.inl hm))
theorem tail_cons {α β : Type} {P : Program} {f : Field} {fs : List Field} {o o' len : Nat} {a : Kd α} {b : Kd β} {ga : α → Prop} {gb : β → Prop} (ho : f.offset = o) (ho' : o' = o + P.cellsOf f.type)
    (h : Opens P f.type a ga) (ht : OpensTail P fs o' len b gb) : OpensTail P (f :: fs) o len (Kd.pair a b) (fun x => ga x.1 ∧ gb x.2) := by
  intro H enc w base spare held n cs xs hcs hxs hall hw
  obtain ⟨x, xs, rfl⟩ : ∃ x r, xs = x :: r := by
    match xs, hxs with
    | x :: r, _ => exact ⟨x, r, rfl⟩
  have h0 := hall 0 f rfl
  rw [ho] at h0
  obtain ⟨y, hy, hgy⟩ := h h0 (fun m hm => hw m (by simp only [List.map_cons, DataW.weightsEach, List.mem_append]; exact Or.inl hm))
  obtain ⟨z, hz, hgz⟩ := ht (xs := xs) hcs (by simpa using hxs) (fun i g hg => by simpa using hall (i + 1) g (by simpa using hg))
    (fun m hm => hw m (by simp only [List.map_cons, DataW.weightsEach, List.mem_append]; exact Or.inr hm))
  refine ⟨(y, z), ⟨(cs.drop o).take (P.cellsOf f.type), cs.drop o', ?_, hy, hz⟩, hgy, hgz⟩
  rw [ho', ← List.drop_drop, List.take_append_drop]
theorem opens_struct {α β : Type} {P : Program} {t : TypeId} {fs : Array Field} {len : Nat} {d : Kd α} {good : α → Prop} (ht : P.underlying t = some (.struct fs)) (hl : P.cellsOf t = len) (h : OpensTail P fs.toList 0 len d good) (f : β → α) (g : α → β) (hfg : ∀ a, f (g a) = a) :
    Opens P t (Kd.iso d f) (fun x => good (f x)) := by
  intro H enc w base spare held fuel cs x hx hw
  obtain ⟨xs, n, rfl, rfl, hcs, hxs, hall⟩ := DataW.trod_struct ht hx
  obtain ⟨a, ha, hga⟩ := h (xs := xs) (hcs.trans hl) (by simpa using hxs) (fun i f hf => hall i f (by simpa using hf)) (fun m hm => hw m (by simp only [DataW.weights, ht]; exact hm))
  refine ⟨g a, ?_, by show good (f (g a)); rw [hfg]; exact hga⟩
  show d.K w (f (g a)) cs
  rw [hfg]
  simpa using ha
theorem Opens.iso {α β : Type} {P : Program} {t : TypeId} {d : Kd α} {good : α → Prop} (h : Opens P t d good) (f : β → α) (g : α → β) (hfg : ∀ a, f (g a) = a) : Opens P t (Kd.iso d f) (fun x => good (f x)) := by
  intro H enc w base spare held fuel cs x hx hw
  obtain ⟨a, ha, hga⟩ := h hx hw
  refine ⟨g a, ?_, by show good (f (g a)); rw [hfg]; exact hga⟩
  show d.K w (f (g a)) cs
  rw [hfg]
  exact ha
end Go.Proofs.Ytejkoenlfcghbaa.Opn
/- The openings of the arguments of the law LookAcross, and its pure statement. -/
set_option linter.unusedVariables false
namespace Go.Proofs.Ytejkoenlfcghbaa.X
open Go.RowKit Go.Proofs.YtejkoenlfcghbaaW.PrintWords Go.Proofs.YtejkoenlfcghbaaW.PrintLast Go.Proofs.YtejkoenlfcghbaaW.PrintMore Go.Proofs.Ytejkoenlfcghbaa.Opn
def good26 (x : S26) : Prop := ((Lit.int .i64 x.f0).wf = true) ∧ ((Lit.int .i64 x.f1).wf = true) ∧ (x.f2.size ≤ reachBytes)
theorem opens26 : Opens Try.prog 26 k26 good26 := opens_struct Try.underlying26 (len := 3) (by kernel_rfl) (tail_cons rfl (by kernel_rfl) (opens_int Try.underlying3) (tail_cons rfl (by kernel_rfl) (opens_int Try.underlying2) (tail_one rfl (Nat.le_of_eq (by kernel_rfl)) (opens_string Try.underlying9)))) (fun x : S26 => (x.f0, x.f1, x.f2)) (fun a => ⟨a.1, a.2.1, a.2.2⟩) (fun _ => rfl)
def good24 (x : S24) : Prop := ((Lit.int .i64 x.f0).wf = true) ∧ ((Lit.int .i64 x.f1).wf = true) ∧ ((∀ y ∈ x.f2, good26 y) ∧ x.f2.length * 32 ≤ reachBytes)
theorem opens24 : Opens Try.prog 24 k24 good24 := opens_struct Try.underlying24 (len := 3) (by kernel_rfl) (tail_cons rfl (by kernel_rfl) (opens_int Try.underlying3) (tail_cons rfl (by kernel_rfl) (opens_int Try.underlying3) (tail_one rfl (Nat.le_of_eq (by kernel_rfl)) (opens_slice Try.underlying22 (by kernel_rfl) (B := 32) (by kernel_rfl) z26 opens26)))) (fun x : S24 => (x.f0, x.f1, x.f2)) (fun a => ⟨a.1, a.2.1, a.2.2⟩) (fun _ => rfl)
def oculuslaw18_LookAcross.PureX : Prop := ∀ (a0 : S24) (a1 : S26) (a2 : Int), (good24 a0) → (good26 a1) → ((Lit.int .i64 a2).wf = true) → ∃ k, oculuslaw18_LookAcross.f k (a0.f0) (a0.f1) (a0.f2) (a1.f0) (a1.f1) (a1.f2) a2 = some true
end Go.Proofs.Ytejkoenlfcghbaa.X
/- Plain facts on whole numbers, bits and lists that the pure statements use. -/
set_option linter.unusedVariables false
set_option linter.unusedSimpArgs false
namespace Go.Proofs.Ytejkoenlfcghbaa.X
open Go.RowKit Go.Proofs.YtejkoenlfcghbaaW.PrintWords Go.Proofs.YtejkoenlfcghbaaW.PrintLast Go.Proofs.YtejkoenlfcghbaaW.PrintMore

theorem w64 {x : Int} (h0 : -9223372036854775808 ≤ x) (h1 : x ≤ 9223372036854775807) : wrap64 x = x := by unfold wrap64; omega
theorem w64s {i n : Nat} (h : i < n) (hn : n ≤ 9223372036854775807) : wrap64 ((i : Int) + 1) = ((i + 1 : Nat) : Int) := by unfold wrap64; omega

theorem ev_some {α : Type} {g : Nat → Option α} {r : α} (h : ∀ k, g k = some r) : Ev g r := ⟨0, fun k _ => h k⟩
theorem ev_ite {α : Type} {c : Prop} [Decidable c] {f g : Nat → Option α} {r : α} (h1 : c → Ev f r) (h2 : ¬ c → Ev g r) : Ev (fun k => if c then f k else g k) r := by
  by_cases h : c
  · simp only [if_pos h]; exact h1 h
  · simp only [if_neg h]; exact h2 h
theorem ev_pos {α : Type} {c : Prop} [Decidable c] {f g : Nat → Option α} {r : α} (h : c) (h1 : Ev f r) : Ev (fun k => if c then f k else g k) r := by simp only [if_pos h]; exact h1
theorem ev_neg {α : Type} {c : Prop} [Decidable c] {f g : Nat → Option α} {r : α} (h : ¬ c) (h1 : Ev g r) : Ev (fun k => if c then f k else g k) r := by simp only [if_neg h]; exact h1
theorem ev_bind {α β : Type} {g : Nat → Option α} {f : Nat → α → Option β} {a : α} {r : β} (h : Ev g a) (k : Ev (fun n => f n a) r) : Ev (fun n => (g n).bind (f n)) r := Ev.bind h k
end Go.Proofs.Ytejkoenlfcghbaa.X
/- Plain facts on texts as lists of bytes. -/
set_option linter.unusedVariables false
set_option linter.unusedSimpArgs false
namespace Go.Proofs.Ytejkoenlfcghbaa.X
open Go.RowKit Go.Proofs.YtejkoenlfcghbaaW.PrintWords Go.Proofs.YtejkoenlfcghbaaW.PrintLast Go.Proofs.YtejkoenlfcghbaaW.PrintMore
def by_ (s : ByteArray) : List UInt8 := s.data.toList
def tx (l : List UInt8) : ByteArray := ⟨l.toArray⟩
theorem by_tx (l : List UInt8) : by_ (tx l) = l := by simp [by_, tx]
theorem tx_by (s : ByteArray) : tx (by_ s) = s := by
  obtain ⟨⟨l⟩⟩ := s
  rfl
theorem by_inj {s t : ByteArray} (h : by_ s = by_ t) : s = t := by rw [← tx_by s, ← tx_by t, h]
theorem toList_by (s : ByteArray) : s.toList = by_ s := ByteArray.toList_eq s
theorem size_by (s : ByteArray) : s.size = (by_ s).length := by
  obtain ⟨⟨l⟩⟩ := s
  rfl
theorem size_tx (l : List UInt8) : (tx l).size = l.length := by rw [size_by, by_tx]
theorem bt_by (s : ByteArray) (i : Nat) (h : i < (by_ s).length) : bt s (i : Int) = ((by_ s)[i].toNat : Int) := by
  obtain ⟨⟨l⟩⟩ := s
  have h' : (i : Int).toNat < (⟨⟨l⟩⟩ : ByteArray).size := by rw [Int.toNat_natCast]; exact h
  unfold bt
  rw [dif_pos h']
  simp only [Int.toNat_natCast]
  rfl
theorem bt_tx (l : List UInt8) (i : Nat) (h : i < l.length) : bt (tx l) (i : Int) = (l[i].toNat : Int) := by
  rw [bt_by (tx l) i (by rw [by_tx]; exact h)]
  simp only [by_tx]
end Go.Proofs.Ytejkoenlfcghbaa.X
/- Tables: what is found, down and across: the program's answers and the reference's, told once. -/
set_option linter.unusedVariables false
set_option linter.unusedSimpArgs false
namespace Go.Proofs.Ytejkoenlfcghbaa.X
open Go.RowKit Go.Proofs.YtejkoenlfcghbaaW.PrintWords Go.Proofs.YtejkoenlfcghbaaW.PrintLast Go.Proofs.YtejkoenlfcghbaaW.PrintMore
theorem alive18_ev : Ev (fun k => oculuslaw18_alive.f k) true := Ev.of (fun k => oculuslaw18_alive.mono k) (k := 60) (by decide +kernel)
theorem nil_of (t : ByteArray) (h : t.toList = []) : t = tx [] := by rw [toList_by] at h; exact by_inj (by rw [h, by_tx])
theorem cmp_vals : ∀ a b : List UInt8, Lib.compareBytes a b = -1 ∨ Lib.compareBytes a b = 0 ∨ Lib.compareBytes a b = 1
  | [], [] => Or.inr (Or.inl rfl)
  | [], _ :: _ => Or.inl rfl
  | _ :: _, [] => Or.inr (Or.inr rfl)
  | a :: xs, b :: ys => by
    rw [Lib.compareBytes]
    split
    · exact Or.inl rfl
    · split
      · exact Or.inr (Or.inr rfl)
      · exact cmp_vals xs ys
theorem cmp_swap : ∀ a b : List UInt8, Lib.compareBytes b a = -1 ↔ Lib.compareBytes a b = 1
  | [], [] => by simp [Lib.compareBytes]
  | [], _ :: _ => by simp [Lib.compareBytes]
  | _ :: _, [] => by simp [Lib.compareBytes]
  | a :: xs, b :: ys => by
    rw [Lib.compareBytes, Lib.compareBytes]
    by_cases h1 : a < b
    · have h2 : ¬ b < a := by rw [UInt8.lt_iff_toNat_lt] at *; omega
      simp only [h1, h2, if_true, if_false]; decide
    · by_cases h2 : b < a
      · simp only [h1, h2, if_true, if_false]
      · simp only [h1, h2, if_false]; exact cmp_swap xs ys
theorem less_l0 (a b : List UInt8) (ha : a.length ≤ 1000) : ∀ (n i : Nat), i + n = a.length → i ≤ b.length → Ev (fun k => oculusref12_Less.l0 k (tx a) (tx b) (i : Int)) (decide (Lib.compareBytes (a.drop i) (b.drop i) = -1))
  | 0, i, hi, hb => by
    refine Ev.step (fun k => oculusref12_Less.l0.eq_2 ..) ?_
    rw [size_tx, size_tx]
    refine ev_neg (by omega) (Ev.step (fun k => oculusref12_Less.j1.eq_2 ..) (ev_neg (by simp) (ev_some fun _ => ?_)))
    rw [size_tx, size_tx, List.drop_eq_nil_of_le (show a.length ≤ i by omega)]
    congr 1
    rw [Bool.eq_iff_iff, decide_eq_true_eq, decide_eq_true_eq]
    by_cases h : i < b.length
    · rw [List.drop_eq_getElem_cons h]
      exact ⟨fun _ => rfl, fun _ => by omega⟩
    · rw [List.drop_eq_nil_of_le (by omega)]
      exact ⟨fun k => by omega, fun k => by cases k⟩
  | n + 1, i, hi, hb => by
    have h : i < a.length := by omega
    refine Ev.step (fun k => oculusref12_Less.l0.eq_2 ..) ?_
    rw [size_tx, size_tx]
    refine ev_pos (by omega) ?_
    by_cases h2 : i < b.length
    · rw [decide_eq_true (show (i : Int) < (b.length : Int) by omega)]
      refine Ev.step (fun k => oculusref12_Less.j1.eq_2 ..) (ev_pos rfl ?_)
      rw [size_tx, size_tx, bt_tx a i h, bt_tx b i h2, w64s (n := 10000) (by omega) (by omega), List.drop_eq_getElem_cons h, List.drop_eq_getElem_cons h2, Lib.compareBytes]
      refine ev_pos (by omega) (ev_pos (by omega) (ev_pos (by omega) (ev_ite (fun g => ?_) (fun g => ?_))))
      · have e1 : ¬ a[i] < b[i] := by rw [UInt8.lt_iff_toNat_lt]; omega
        have e2 : ¬ b[i] < a[i] := by rw [UInt8.lt_iff_toNat_lt]; omega
        rw [if_neg e1, if_neg e2]
        exact less_l0 a b ha n (i + 1) (by omega) (by omega)
      · refine ev_some fun _ => ?_
        congr 1
        rw [Bool.eq_iff_iff, decide_eq_true_eq, decide_eq_true_eq]
        by_cases e1 : a[i] < b[i]
        · rw [if_pos e1]
          rw [UInt8.lt_iff_toNat_lt] at e1
          exact ⟨fun _ => rfl, fun _ => by omega⟩
        · rw [if_neg e1]
          have e2 : b[i] < a[i] := by rw [UInt8.lt_iff_toNat_lt] at *; omega
          rw [if_pos e2]
          rw [UInt8.lt_iff_toNat_lt] at e1
          exact ⟨fun k => by omega, fun k => by cases k⟩
    · rw [decide_eq_false (show ¬ (i : Int) < (b.length : Int) by omega)]
      refine Ev.step (fun k => oculusref12_Less.j1.eq_2 ..) (ev_neg (by simp) (ev_some fun _ => ?_))
      rw [size_tx, size_tx, List.drop_eq_getElem_cons h, List.drop_eq_nil_of_le (show b.length ≤ i by omega)]
      congr 1
      rw [Bool.eq_iff_iff, decide_eq_true_eq, decide_eq_true_eq]
      exact ⟨fun k => by omega, fun k => by cases k⟩
theorem less_ev (a b : List UInt8) (ha : a.length ≤ 1000) : Ev (fun k => oculusref12_Less.f k (tx a) (tx b)) (decide (Lib.compareBytes a b = -1)) := by
  unfold oculusref12_Less.f
  have := less_l0 a b ha a.length 0 (by omega) (by omega)
  rw [List.drop_zero, List.drop_zero] at this
  exact this
theorem cmp_eq : ∀ a b : List UInt8, Lib.compareBytes a b = 0 ↔ a = b
  | [], [] => by simp [Lib.compareBytes]
  | [], _ :: _ => by simp [Lib.compareBytes]
  | _ :: _, [] => by simp [Lib.compareBytes]
  | a :: xs, b :: ys => by
    rw [Lib.compareBytes]
    by_cases h1 : a < b
    · rw [if_pos h1]
      refine ⟨fun h => (by cases h), fun h => ?_⟩
      injection h with h2 _
      rw [h2, UInt8.lt_iff_toNat_lt] at h1; omega
    · by_cases h2 : b < a
      · rw [if_neg h1, if_pos h2]
        refine ⟨fun h => (by cases h), fun h => ?_⟩
        injection h with h3 _
        rw [h3, UInt8.lt_iff_toNat_lt] at h2; omega
      · rw [if_neg h1, if_neg h2, cmp_eq xs ys]
        have e : a = b := by
          rw [UInt8.lt_iff_toNat_lt] at h1 h2
          exact UInt8.toNat_inj.1 (by omega)
        rw [e]; simp
abbrev mayS (x : S26) : Bool := mayV x.f0 x.f1 x.f2
theorem may_cases (x : S26) (h : mayS x = true) : (0 ≤ x.f0 ∧ x.f0 ≤ 4) ∧ (x.f0 = 0 ∨ x.f0 = 2 → x.f1 = 0) ∧ (x.f0 ≠ 2 → x.f2.toList = []) ∧ x.f2.size ≤ 256 := by
  rw [mayS, mayV, decide_eq_true_eq] at h
  rcases h with ⟨a, b, c⟩ | ⟨a, b, c⟩ | ⟨a, b, c⟩ | ⟨a, b, c⟩ | ⟨a, b, c⟩
  · exact ⟨by omega, fun _ => c, fun _ => b, by rw [nil_of _ b]; decide⟩
  · exact ⟨by omega, fun h => by omega, fun _ => b, by rw [nil_of _ b]; decide⟩
  · exact ⟨by omega, fun _ => b, fun h => absurd a h, by omega⟩
  · exact ⟨by omega, fun h => by omega, fun _ => b, by rw [nil_of _ b]; decide⟩
  · exact ⟨by omega, fun h => by omega, fun _ => b, by rw [nil_of _ b]; decide⟩
def kk (a b : Int) : Int := if a = 0 then b else a
def fnd (x v : S26) : Bool := decide (x.f0 ≠ 4 ∧ v.f0 ≠ 4 ∧ kk x.f0 v.f0 = kk v.f0 x.f0 ∧ x.f1 = v.f1 ∧ x.f2.toList = v.f2.toList)
theorem like_eq (a b : Int) (n m : Int) (s t : ByteArray) : value_like.f a n s b m t = some (kk a b, n, s) := by
  unfold value_like.f kk
  split <;> rfl
theorem kk_2 {a b : Int} (h : kk a b = kk b a) (h2 : kk a b ≠ 2) : a ≠ 2 ∧ b ≠ 2 := by
  unfold kk at h h2
  split at h <;> split at h <;> simp_all <;> omega
theorem kk_is2 {a b : Int} (h : kk a b = kk b a) (h2 : kk a b = 2) : (a = 0 ∨ a = 2) ∧ (b = 0 ∨ b = 2) := by
  unfold kk at h h2
  split at h <;> split at h <;> simp_all <;> omega
theorem kk_bd {a b : Int} (ha : 0 ≤ a ∧ a ≤ 4) (hb : 0 ≤ b ∧ b ≤ 4) : 0 ≤ kk a b ∧ kk a b ≤ 4 := by unfold kk; split <;> omega
theorem cmpF (a b : ByteArray) : strings_Compare.f a b = some (Lib.compareBytes (by_ a) (by_ b)) := by
  have h : strings_Compare.f (tx (by_ a)) (tx (by_ b)) = some (Lib.compareBytes (by_ a) (by_ b)) := rfl
  rw [tx_by, tx_by] at h
  exact h
theorem lfound_ev (x v : S26) (hx : mayS x = true) (hv : mayS v = true) : Ev (fun j => look_found.f j x.f0 x.f1 x.f2 v.f0 v.f1 v.f2) (fnd x v) := by
  obtain ⟨bx, zx, tx0, sx⟩ := may_cases x hx
  obtain ⟨bv, zv, tv0, sv⟩ := may_cases v hv
  unfold look_found.f
  refine ev_ite (fun g => ?_) (fun g => ?_)
  · rw [fnd, decide_eq_false (fun h => h.1 g)]; exact Ev.now _
  refine ev_ite (fun g2 => ?_) (fun g2 => ?_)
  · rw [fnd, decide_eq_false (fun h => h.2.1 g2)]; exact Ev.now _
  have key : ∃ c : Int, Ev (fun j => value_Compare.f j x.f0 x.f1 x.f2 v.f0 v.f1 v.f2) c ∧ (c == 0) = fnd x v := by
    have st : ∀ c : Int, Ev (fun j => value_Compare.j1 j (kk x.f0 v.f0) x.f1 x.f2 (kk v.f0 x.f0) v.f1 v.f2) c → Ev (fun j => value_Compare.f j x.f0 x.f1 x.f2 v.f0 v.f1 v.f2) c := by
      intro c hc
      unfold value_Compare.f
      refine ev_neg g ?_
      rw [beq_eq_false_iff_ne.2 g2]
      refine Ev.step (fun k => value_Compare.j0.eq_2 ..) (ev_neg (by simp) ?_)
      exact ev_bind (ev_some fun _ => like_eq _ _ _ _ _ _) (ev_bind (ev_some fun _ => like_eq _ _ _ _ _ _) hc)
    by_cases e : kk x.f0 v.f0 = kk v.f0 x.f0
    · by_cases e2 : kk x.f0 v.f0 = 2
      · obtain ⟨i1, i2⟩ := kk_is2 e e2
        refine ⟨Lib.compareBytes (by_ x.f2) (by_ v.f2), st _ (Ev.step (fun k => value_Compare.j1.eq_2 ..) (ev_pos e (ev_pos e2 (ev_bind (ev_some fun _ => cmpF _ _) (Ev.now _))))), ?_⟩
        rw [Bool.eq_iff_iff, beq_iff_eq, cmp_eq, fnd, decide_eq_true_eq, zx i1, zv i2, toList_by, toList_by]
        exact ⟨fun h => ⟨g, g2, e, rfl, h⟩, fun h => h.2.2.2.2⟩
      · obtain ⟨i1, i2⟩ := kk_2 e e2
        have ht : x.f2.toList = v.f2.toList := by rw [tx0 i1, tv0 i2]
        refine ⟨if x.f1 < v.f1 then -1 else if x.f1 > v.f1 then 1 else 0, st _ (Ev.step (fun k => value_Compare.j1.eq_2 ..) (ev_pos e (ev_neg e2 ?_))), ?_⟩
        · refine ev_ite (fun g => ?_) (fun g => ?_)
          · rw [if_pos g]; exact Ev.now _
          · rw [if_neg g]
            refine ev_ite (fun g2 => ?_) (fun g2 => ?_)
            · rw [if_pos g2]; exact Ev.now _
            · rw [if_neg g2]; exact Ev.now _
        · rw [Bool.eq_iff_iff, beq_iff_eq, fnd, decide_eq_true_eq]
          constructor
          · intro h
            refine ⟨g, g2, e, ?_, ht⟩
            split at h
            · cases h
            · split at h
              · cases h
              · omega
          · intro h
            rw [if_neg (by omega), if_neg (by omega)]
    · have hb1 := kk_bd bx bv
      have hb2 := kk_bd bv bx
      have hw : wrap64 (kk x.f0 v.f0 - kk v.f0 x.f0) = kk x.f0 v.f0 - kk v.f0 x.f0 := w64 (by omega) (by omega)
      refine ⟨if kk x.f0 v.f0 - kk v.f0 x.f0 < 0 then -1 else 1, st _ (Ev.step (fun k => value_Compare.j1.eq_2 ..) (ev_neg e (ev_bind (ev_some fun _ => ?_) (Ev.now _)))), ?_⟩
      · rw [hw, dec_Sign.f]
        split
        · rfl
        · rw [if_pos (by omega)]
      · rw [fnd, decide_eq_false (fun h => e h.2.2.1), beq_eq_false_iff_ne]
        split <;> omega
  obtain ⟨c, h1, h2⟩ := key
  refine ev_bind h1 ?_
  rw [h2]
  exact Ev.now _
def ahd (x v : S26) : Bool := if kk x.f0 v.f0 = kk v.f0 x.f0 then (decide (x.f1 < v.f1) || decide (Lib.compareBytes (by_ x.f2) (by_ v.f2) = -1)) else decide (kk x.f0 v.f0 < kk v.f0 x.f0)
theorem ahd_ev (x v : S26) (sx : x.f2.size ≤ 256) : Ev (fun j => oculusref12_ahead.f j x.f0 x.f1 x.f2 v.f0 v.f1 v.f2) (ahd x v) := by
  have j1 : Ev (fun j => oculusref12_ahead.j1 j (kk x.f0 v.f0) (kk v.f0 x.f0) x.f0 x.f1 x.f2 v.f0 v.f1 v.f2) (ahd x v) := by
    refine Ev.step (fun k => oculusref12_ahead.j1.eq_2 ..) ?_
    unfold ahd
    refine ev_ite (fun e => ?_) (fun e => ?_)
    · rw [if_pos e]
      refine ev_ite (fun g => ?_) (fun g => ?_)
      · rw [decide_eq_true g, Bool.true_or]; exact Ev.now _
      · rw [decide_eq_false g, Bool.false_or]
        have := less_ev (by_ x.f2) (by_ v.f2) (by rw [← size_by]; omega)
        rw [tx_by, tx_by] at this
        exact ev_bind this (Ev.now _)
    · rw [if_neg e]; exact Ev.now _
  unfold oculusref12_ahead.f
  refine ev_ite (fun e => ?_) (fun e => ?_)
  · refine Ev.step (fun k => oculusref12_ahead.j0.eq_2 ..) (ev_ite (fun e2 => ?_) (fun e2 => ?_))
    · have a1 : kk x.f0 v.f0 = v.f0 := by rw [kk, if_pos e]
      have a2 : kk v.f0 x.f0 = v.f0 := by rw [kk, if_pos e2, e, e2]
      rw [a1, a2] at j1
      exact j1
    · have a1 : kk x.f0 v.f0 = v.f0 := by rw [kk, if_pos e]
      have a2 : kk v.f0 x.f0 = v.f0 := by rw [kk, if_neg e2]
      rw [a1, a2] at j1
      exact j1
  · refine Ev.step (fun k => oculusref12_ahead.j0.eq_2 ..) (ev_ite (fun e2 => ?_) (fun e2 => ?_))
    · have a1 : kk x.f0 v.f0 = x.f0 := by rw [kk, if_neg e]
      have a2 : kk v.f0 x.f0 = x.f0 := by rw [kk, if_pos e2]
      rw [a1, a2] at j1
      exact j1
    · have a1 : kk x.f0 v.f0 = x.f0 := by rw [kk, if_neg e]
      have a2 : kk v.f0 x.f0 = v.f0 := by rw [kk, if_neg e2]
      rw [a1, a2] at j1
      exact j1
theorem rfound_ev (x v : S26) (hx : mayS x = true) (hv : mayS v = true) : Ev (fun j => oculusref18_found.f j x.f0 x.f1 x.f2 v.f0 v.f1 v.f2) (fnd x v) := by
  obtain ⟨bx, zx, tx0, sx⟩ := may_cases x hx
  obtain ⟨bv, zv, tv0, sv⟩ := may_cases v hv
  unfold oculusref18_found.f
  refine ev_ite (fun g => ?_) (fun g => ?_)
  · rw [fnd, decide_eq_false (fun h => h.1 g)]; exact Ev.now _
  refine ev_ite (fun g2 => ?_) (fun g2 => ?_)
  · rw [fnd, decide_eq_false (fun h => h.2.1 g2)]; exact Ev.now _
  have hc : Ev (fun j => oculusref12_Compare.f j x.f0 x.f1 x.f2 v.f0 v.f1 v.f2) (if ahd x v = true then -1 else if ahd v x = true then 1 else 0) := by
    unfold oculusref12_Compare.f
    refine ev_neg g ?_
    rw [beq_eq_false_iff_ne.2 g2]
    refine Ev.step (fun k => oculusref12_Compare.j0.eq_2 ..) (ev_neg (by simp) (ev_bind (ahd_ev x v sx) ?_))
    refine ev_ite (fun e => ?_) (fun e => ?_)
    · rw [if_pos e]; exact Ev.now _
    · rw [if_neg e]
      refine ev_bind (ahd_ev v x sv) (ev_ite (fun e2 => ?_) (fun e2 => ?_))
      · rw [if_pos e2]; exact Ev.now _
      · rw [if_neg e2]; exact Ev.now _
  refine ev_bind hc ?_
  have : ((if ahd x v = true then (-1 : Int) else if ahd v x = true then 1 else 0) == 0) = fnd x v := by
    rw [Bool.eq_iff_iff, beq_iff_eq, fnd, decide_eq_true_eq]
    have hcv := cmp_vals (by_ x.f2) (by_ v.f2)
    have hsw := cmp_swap (by_ x.f2) (by_ v.f2)
    have heq := cmp_eq (by_ x.f2) (by_ v.f2)
    by_cases e : kk x.f0 v.f0 = kk v.f0 x.f0
    · have e1 : ahd x v = (decide (x.f1 < v.f1) || decide (Lib.compareBytes (by_ x.f2) (by_ v.f2) = -1)) := by rw [ahd, if_pos e]
      have e2 : ahd v x = (decide (v.f1 < x.f1) || decide (Lib.compareBytes (by_ v.f2) (by_ x.f2) = -1)) := by rw [ahd, if_pos e.symm]
      constructor
      · intro h
        have h1 : ¬ ahd x v = true := fun h' => by rw [if_pos h'] at h; cases h
        rw [if_neg h1] at h
        have h2 : ¬ ahd v x = true := fun h' => by rw [if_pos h'] at h; cases h
        rw [e1, Bool.or_eq_true, decide_eq_true_eq, decide_eq_true_eq] at h1
        rw [e2, Bool.or_eq_true, decide_eq_true_eq, decide_eq_true_eq, hsw] at h2
        refine ⟨g, g2, e, by omega, ?_⟩
        rw [toList_by, toList_by]
        exact heq.1 (by omega)
      · intro h
        have h4 := heq.2 (by have := h.2.2.2.2; rw [toList_by, toList_by] at this; exact this)
        have h3 := h.2.2.2.1
        rw [if_neg, if_neg]
        · rw [e2, Bool.or_eq_true, decide_eq_true_eq, decide_eq_true_eq, hsw]; omega
        · rw [e1, Bool.or_eq_true, decide_eq_true_eq, decide_eq_true_eq]; omega
    · have e1 : ahd x v = decide (kk x.f0 v.f0 < kk v.f0 x.f0) := by rw [ahd, if_neg e]
      have e2 : ahd v x = decide (kk v.f0 x.f0 < kk x.f0 v.f0) := by rw [ahd, if_neg (fun h => e h.symm)]
      constructor
      · intro h
        exfalso
        rw [e1, e2] at h
        by_cases c : kk x.f0 v.f0 < kk v.f0 x.f0
        · rw [if_pos (decide_eq_true c)] at h; cases h
        · rw [if_neg (by simpa using c), if_pos (decide_eq_true (by omega))] at h; cases h
      · intro h; exact absurd h.2.2.1 e
  rw [this]
  exact Ev.now _
theorem rdS (V : List S26) (i : Nat) (h : i < V.length) : rd_T26 V (i : Int) = V[i] := by
  unfold rd_T26
  rw [Int.toNat_natCast, List.getD_eq_getElem?_getD, List.getElem?_eq_getElem h]
  rfl
def mayT (V : List S26) : Bool := V.all mayS
theorem mayT_get {V : List S26} (h : mayT V = true) (i : Nat) (hi : i < V.length) : mayS V[i] = true := List.all_eq_true.1 h _ (List.getElem_mem hi)
def shp (R C : Int) (V : List S26) : Bool := decide (1 ≤ R ∧ 1 ≤ C ∧ R ≤ 1000 ∧ C ≤ 1000 ∧ V.length ≤ 1000 ∧ R * C = (V.length : Int))
theorem prodw {R C : Int} (h1 : 1 ≤ R) (h2 : 1 ≤ C) (h3 : R ≤ 1000) (h4 : C ≤ 1000) : wrap64 (R * C) = R * C := by
  have a : 0 ≤ R * C := Int.mul_nonneg (by omega) (by omega)
  have b : R * C ≤ 1000 * 1000 := Int.mul_le_mul h3 h4 (by omega) (by omega)
  exact w64 (by omega) (by omega)
theorem shaped_eq (R C : Int) (V : List S26) : look_shaped.f R C V = some (shp R C V) := by
  unfold look_shaped.f shp
  by_cases h1 : R ≥ 1
  · by_cases h2 : C ≥ 1
    · by_cases h3 : R ≤ 1000
      · by_cases h4 : C ≤ 1000
        · by_cases h5 : (V.length : Int) ≤ 1000
          · rw [if_pos h1, if_pos h2, if_pos h3, if_pos h4, if_pos h5, prodw h1 h2 h3 h4]
            congr 1
            rw [Bool.eq_iff_iff, beq_iff_eq, decide_eq_true_eq]
            exact ⟨fun h => ⟨h1, h2, h3, h4, by omega, h⟩, fun h => h.2.2.2.2.2⟩
          · rw [if_pos h1, if_pos h2, if_pos h3, if_pos h4, if_neg h5, decide_eq_false (by omega)]
        · rw [if_pos h1, if_pos h2, if_pos h3, if_neg h4, decide_eq_false (by omega)]
      · rw [if_pos h1, if_pos h2, if_neg h3, decide_eq_false (by omega)]
    · rw [if_pos h1, if_neg h2, decide_eq_false (by omega)]
  · rw [if_neg h1, decide_eq_false (by omega)]
end Go.Proofs.Ytejkoenlfcghbaa.X
