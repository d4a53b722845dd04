/- Contracts of the functions that the law NodeTells reaches, and what they answer (a session's own texts, joined; part 7). -/
import Derived.Deep.Slices
import Derived.ChangeArms
import Derived.SizedLaws
import Derived.OpenShut
import Derived.Laws.BitsAllLaws
import Derived.Lib.Strings
import Derived.Lib.IndexBytes
import Derived.Lib.TrailingZeros
import Derived.Test.YtdddhabemdbooaaDoorBNodeTells6
set_option maxHeartbeats 8000000
set_option maxRecDepth 100000
namespace Go.Proofs.YtdddhabemdbooaaDoor.X
open Go.RowKit Go.Proofs.YtdddhabemdbooaaDoorW.PrintWords Go.Proofs.YtdddhabemdbooaaDoorW.PrintLast Go.Proofs.YtdddhabemdbooaaDoorW.PrintMore
attribute [local go_sem] max2_int min2_int max_two min_two max_three min_three max_four min_four
set_option linter.unusedVariables false
set_option linter.unusedSimpArgs false
mutual
def oculuslaw22_NodeTells.j0 : Nat → List (S28) → List (S28) → Bool → Option (Bool)
 | 0, _, _, _ => none
 | k + 1, x3, x4, x47 => if x47 = true then (none) else (oculuslaw22_NodeTells.l0 k x4 x3 (x3.length : Int) 0)
def oculuslaw22_NodeTells.l0 : Nat → List (S28) → List (S28) → Int → Int → Option (Bool)
 | 0, _, _, _, _ => none
 | k + 1, x4, x48, x49, x50 => if x50 < x49 then (if 0 ≤ x50 then (if x50 < (x48.length : Int) then (if x50 < (x4.length : Int) then ((oculusref22_Same.f k ((rd_T28 x48 x50).f0) ((rd_T28 x48 x50).f1) ((rd_T28 x48 x50).f2.f0) ((rd_T28 x48 x50).f2.f1) ((rd_T28 x48 x50).f2.f2) ((rd_T28 x48 x50).f3.f0) ((rd_T28 x48 x50).f3.f1) ((rd_T28 x48 x50).f3.f2) ((rd_T28 x48 x50).f3.f3) ((rd_T28 x48 x50).f4.f0) ((rd_T28 x48 x50).f4.f1) ((rd_T28 x48 x50).f4.f2) ((rd_T28 x48 x50).f4.f3) ((rd_T28 x48 x50).f5) ((rd_T28 x4 x50).f0) ((rd_T28 x4 x50).f1) ((rd_T28 x4 x50).f2.f0) ((rd_T28 x4 x50).f2.f1) ((rd_T28 x4 x50).f2.f2) ((rd_T28 x4 x50).f3.f0) ((rd_T28 x4 x50).f3.f1) ((rd_T28 x4 x50).f3.f2) ((rd_T28 x4 x50).f3.f3) ((rd_T28 x4 x50).f4.f0) ((rd_T28 x4 x50).f4.f1) ((rd_T28 x4 x50).f4.f2) ((rd_T28 x4 x50).f4.f3) ((rd_T28 x4 x50).f5)).bind fun t120 => (if t120 = true then (oculuslaw22_NodeTells.l0 k x4 x48 x49 (wrap64 (x50 + 1))) else (none))) else (none)) else (none)) else (none)) else ((oculuslaw22_alive.f k).bind fun t121 => (some t121))
end
def oculuslaw22_NodeTells.f (k : Nat) (a0_0 : Int) (a0_1 : Int) (a0_2 : Int) (a0_3 : Int) (a0_4 : ByteArray) (a0_5 : Int) (a0_6 : Int) (a0_7 : Bool) (a0_8 : Bool) (a0_9 : Int) (a0_10 : Int) (a0_11 : Bool) (a0_12 : Bool) (l0_13 : List (S28)) : Option (Bool) := (oculuslaw22_few.f k a0_0 a0_1 a0_2 a0_3 a0_4 a0_5 a0_6 a0_7 a0_8 a0_9 a0_10 a0_11 a0_12 l0_13 200).bind fun t102 => (if t102 = true then ((node_List.f k a0_0 a0_1 a0_2 a0_3 a0_4 a0_5 a0_6 a0_7 a0_8 a0_9 a0_10 a0_11 a0_12 l0_13).bind fun t104 => ((oculusref22_List.f k a0_0 a0_1 a0_2 a0_3 a0_4 a0_5 a0_6 a0_7 a0_8 a0_9 a0_10 a0_11 a0_12 l0_13).bind fun t107 => (if (t104.length : Int) = (t107.length : Int) then ((node_Count.f k a0_0 a0_1 a0_2 a0_3 a0_4 a0_5 a0_6 a0_7 a0_8 a0_9 a0_10 a0_11 a0_12 l0_13).bind fun t110 => (if t110 = (t107.length : Int) then ((node_Deep.f k a0_0 a0_1 a0_2 a0_3 a0_4 a0_5 a0_6 a0_7 a0_8 a0_9 a0_10 a0_11 a0_12 l0_13).bind fun t111 => ((oculusref22_Deep.f k a0_0 a0_1 a0_2 a0_3 a0_4 a0_5 a0_6 a0_7 a0_8 a0_9 a0_10 a0_11 a0_12 l0_13).bind fun t112 => (if t111 = t112 then ((node_Right.f k a0_0 a0_1 a0_2 a0_3 a0_4 a0_5 a0_6 a0_7 a0_8 a0_9 a0_10 a0_11 a0_12 l0_13).bind fun t113 => ((oculusref22_Right.f k a0_0 a0_1 a0_2 a0_3 a0_4 a0_5 a0_6 a0_7 a0_8 a0_9 a0_10 a0_11 a0_12 l0_13).bind fun t114 => (if (t113 != t114) = true then (oculuslaw22_NodeTells.j0 k t104 t107 true) else ((node_Formula.f k a0_0 a0_1 a0_2 a0_3 a0_4 a0_5 a0_6 a0_7 a0_8 a0_9 a0_10 a0_11 a0_12 l0_13).bind fun t115 => ((oculusref22_Formula.f k a0_0 a0_1 a0_2 a0_3 a0_4 a0_5 a0_6 a0_7 a0_8 a0_9 a0_10 a0_11 a0_12 l0_13).bind fun t116 => (oculuslaw22_NodeTells.j0 k t104 t107 (t115 != t116))))))) else (oculuslaw22_NodeTells.j0 k t104 t107 true)))) else (oculuslaw22_NodeTells.j0 k t104 t107 true))) else (oculuslaw22_NodeTells.j0 k t104 t107 true)))) else ((oculuslaw22_alive.f k).bind fun t103 => (some t103)))
def oculuslaw22_NodeTells.T4 : Bool × List (List Nat × List Nat) := (true, [([], []), ([0], [0]), ([], []), ([2], [2]), ([1, 3], [1, 3]), ([4], [4]), ([5], [5]), ([6, 5, 5], [5, 6]), ([5], [5]), ([8, 5], [5, 8]), ([7, 9, 5], [5, 7, 9]), ([5, 10], [5, 10]), ([11, 7], [11]), ([12], [12]), ([13, 12, 12], [12, 13]), ([12], [12]), ([15, 14, 12], [12, 15]), ([14, 16, 12], [12, 14, 16]), ([12, 17], [12, 17]), ([18, 16], [18]), ([19], [19]), ([20, 19, 19], [19, 20]), ([19], [19]), ([22, 21, 19], [19, 22]), ([21, 23, 19], [19, 21, 23]), ([19, 24], [19, 24]), ([25, 23], [25]), ([26], [26]), ([27, 26, 26], [26, 27]), ([26], [26]), ([29, 28, 26], [26, 29]), ([28, 30, 26], [26, 28, 30]), ([26, 31], [26, 31])])
def oculuslaw22_NodeTells.B4 : List Nat := [0, 1, 0, 4, 15, 31, 63, 127, 63, 319, 1023, 2047, 4095, 8191, 16383, 8191, 65535, 131071, 262143, 524287, 1048575, 2097151, 1048575, 8388607, 16777215, 33554431, 67108863, 134217727, 268435455, 134217727, 1073741823, 2147483647, 4294967295]
theorem oculuslaw22_NodeTells.tab4 : rtab .any (opsOf Tryd.f3 4) = oculuslaw22_NodeTells.T4 := by kernel_rfl
theorem oculuslaw22_NodeTells.bits4 : waitsOk oculuslaw22_NodeTells.T4.2 oculuslaw22_NodeTells.B4 = true := by kernel_rfl
set_option maxHeartbeats 40000000 in
theorem oculuslaw22_NodeTells.calls (k : Nat) (a0_0 : Int) (a0_1 : Int) (a0_2 : Int) (a0_3 : Int) (a0_4 : ByteArray) (a0_5 : Int) (a0_6 : Int) (a0_7 : Bool) (a0_8 : Bool) (a0_9 : Int) (a0_10 : Int) (a0_11 : Bool) (a0_12 : Bool) (A0_13 : Option Addr) (c0_13 : Nat) (l0_13 : List (S28)) (r : Bool) (w : World) (hT : Aside0 (Tab w)) (hr0_13 : Kd.C k28 w A0_13 l0_13.length l0_13) (hc0_13 : l0_13.length ≤ c0_13) (h : oculuslaw22_NodeTells.f k a0_0 a0_1 a0_2 a0_3 a0_4 a0_5 a0_6 a0_7 a0_8 a0_9 a0_10 a0_11 a0_12 l0_13 = some r) :
  Calls Tryd.prog 3 #[.agg #[.int .i64 a0_0, .int .i64 a0_1, .int .i64 a0_2, .int .i64 a0_3, .string a0_4, .int .i64 a0_5, .int .i64 a0_6, .bool a0_7, .bool a0_8, .int .i64 a0_9, .int .i64 a0_10, .bool a0_11, .bool a0_12, .slice A0_13 l0_13.length c0_13]] w fun e w' => e = .returned (.bool r) ∧ Below w.heap.size w w' := by
 have hu28 := Tryd.underlying28; have HR0_13 := A_ hr0_13; have HC0_13 := A_ hc0_13; clear hr0_13 hc0_13; have HB := A_ (Below.refl w.heap.size w)
 have H : ((oculuslaw22_few.f k a0_0 a0_1 a0_2 a0_3 a0_4 a0_5 a0_6 a0_7 a0_8 a0_9 a0_10 a0_11 a0_12 l0_13 200).bind fun t102 => (if t102 = true then ((node_List.f k a0_0 a0_1 a0_2 a0_3 a0_4 a0_5 a0_6 a0_7 a0_8 a0_9 a0_10 a0_11 a0_12 l0_13).bind fun t104 => ((oculusref22_List.f k a0_0 a0_1 a0_2 a0_3 a0_4 a0_5 a0_6 a0_7 a0_8 a0_9 a0_10 a0_11 a0_12 l0_13).bind fun t107 => (if (t104.length : Int) = (t107.length : Int) then ((node_Count.f k a0_0 a0_1 a0_2 a0_3 a0_4 a0_5 a0_6 a0_7 a0_8 a0_9 a0_10 a0_11 a0_12 l0_13).bind fun t110 => (if t110 = (t107.length : Int) then ((node_Deep.f k a0_0 a0_1 a0_2 a0_3 a0_4 a0_5 a0_6 a0_7 a0_8 a0_9 a0_10 a0_11 a0_12 l0_13).bind fun t111 => ((oculusref22_Deep.f k a0_0 a0_1 a0_2 a0_3 a0_4 a0_5 a0_6 a0_7 a0_8 a0_9 a0_10 a0_11 a0_12 l0_13).bind fun t112 => (if t111 = t112 then ((node_Right.f k a0_0 a0_1 a0_2 a0_3 a0_4 a0_5 a0_6 a0_7 a0_8 a0_9 a0_10 a0_11 a0_12 l0_13).bind fun t113 => ((oculusref22_Right.f k a0_0 a0_1 a0_2 a0_3 a0_4 a0_5 a0_6 a0_7 a0_8 a0_9 a0_10 a0_11 a0_12 l0_13).bind fun t114 => (if (t113 != t114) = true then (oculuslaw22_NodeTells.j0 k t104 t107 true) else ((node_Formula.f k a0_0 a0_1 a0_2 a0_3 a0_4 a0_5 a0_6 a0_7 a0_8 a0_9 a0_10 a0_11 a0_12 l0_13).bind fun t115 => ((oculusref22_Formula.f k a0_0 a0_1 a0_2 a0_3 a0_4 a0_5 a0_6 a0_7 a0_8 a0_9 a0_10 a0_11 a0_12 l0_13).bind fun t116 => (oculuslaw22_NodeTells.j0 k t104 t107 (t115 != t116))))))) else (oculuslaw22_NodeTells.j0 k t104 t107 true)))) else (oculuslaw22_NodeTells.j0 k t104 t107 true))) else (oculuslaw22_NodeTells.j0 k t104 t107 true)))) else ((oculuslaw22_alive.f k).bind fun t103 => (some t103)))) = some r := h
 clear h; obtain ⟨t102, A2, H⟩ := bo_ H
 replace H := ib_ H; rcases H with ⟨rfl,H⟩|⟨rfl,H⟩
 ·obtain ⟨t104, A4, H⟩ := bo_ H; obtain ⟨t107, A5, H⟩ := bo_ H; have HC6 := A_ H; clear H
  go_enter Tryd.func3, Tryd.ntmps3
  try go_wp2_with (first | ((with_reducible refine gd_ 1 ?_); (try (refine gate_guard (by rfl) ?_; dsimp only)); refine be_ (N:=1) (cs := #[.int .i64 a0_0, .int .i64 a0_1, .int .i64 a0_2, .int .i64 a0_3, .string a0_4, .int .i64 a0_5, .int .i64 a0_6, .bool a0_7, .bool a0_8, .int .i64 a0_9, .int .i64 a0_10, .bool a0_11, .bool a0_12, .slice A0_13 l0_13.length c0_13]) (t:=28) ?_; intro g1 hg w7 hbox hb; have B1 := A_ (hbox); have GW101 := hs_ HB hg; have GE101 := hs_ HB hg; replace HB := bs_ HB hb; clear hb hbox hg; have hcz8_0 : w7.cell? ⟨g1, 0, none⟩ = some (.int .i64 a0_0) := bc_ B1 0 rfl; have hcz8_1 : w7.cell? ⟨g1, 1, none⟩ = some (.int .i64 a0_1) := bc_ B1 1 rfl; have hcz8_2 : w7.cell? ⟨g1, 2, none⟩ = some (.int .i64 a0_2) := bc_ B1 2 rfl; have hcz8_3 : w7.cell? ⟨g1, 3, none⟩ = some (.int .i64 a0_3) := bc_ B1 3 rfl; have hcz8_4 : w7.cell? ⟨g1, 4, none⟩ = some (.string a0_4) := bc_ B1 4 rfl; have hcz8_5 : w7.cell? ⟨g1, 5, none⟩ = some (.int .i64 a0_5) := bc_ B1 5 rfl; have hcz8_6 : w7.cell? ⟨g1, 6, none⟩ = some (.int .i64 a0_6) := bc_ B1 6 rfl; have hcz8_7 : w7.cell? ⟨g1, 7, none⟩ = some (.bool a0_7) := bc_ B1 7 rfl; have hcz8_8 : w7.cell? ⟨g1, 8, none⟩ = some (.bool a0_8) := bc_ B1 8 rfl; have hcz8_9 : w7.cell? ⟨g1, 9, none⟩ = some (.int .i64 a0_9) := bc_ B1 9 rfl; have hcz8_10 : w7.cell? ⟨g1, 10, none⟩ = some (.int .i64 a0_10) := bc_ B1 10 rfl; have hcz8_11 : w7.cell? ⟨g1, 11, none⟩ = some (.bool a0_11) := bc_ B1 11 rfl; have hcz8_12 : w7.cell? ⟨g1, 12, none⟩ = some (.bool a0_12) := bc_ B1 12 rfl; have hcz8_13 : w7.cell? ⟨g1, 13, none⟩ = some (.slice A0_13 l0_13.length c0_13) := bc_ B1 13 rfl; have hfz8_0 := blk_frozen B1.out 0; have hfz8_1 := blk_frozen B1.out 1; have hfz8_2 := blk_frozen B1.out 2; have hfz8_3 := blk_frozen B1.out 3; have hfz8_4 := blk_frozen B1.out 4; have hfz8_5 := blk_frozen B1.out 5; have hfz8_6 := blk_frozen B1.out 6; have hfz8_7 := blk_frozen B1.out 7; have hfz8_8 := blk_frozen B1.out 8; have hfz8_9 := blk_frozen B1.out 9; have hfz8_10 := blk_frozen B1.out 10; have hfz8_11 := blk_frozen B1.out 11; have hfz8_12 := blk_frozen B1.out 12; have hfz8_13 := blk_frozen B1.out 13) | ((with_reducible refine gate_callee (f:=6) rfl ?_); refine gL_ (some 8) rfl rfl Tryd.func6 rfl #[.agg #[.int .i64 a0_0, .int .i64 a0_1, .int .i64 a0_2, .int .i64 a0_3, .string a0_4, .int .i64 a0_5, .int .i64 a0_6, .bool a0_7, .bool a0_8, .int .i64 a0_9, .int .i64 a0_10, .bool a0_11, .bool a0_12, .slice A0_13 l0_13.length c0_13], .int .i64 200] rfl ?_; (with_reducible refine (oculuslaw22_few.calls k a0_0 a0_1 a0_2 a0_3 a0_4 a0_5 a0_6 a0_7 a0_8 a0_9 a0_10 a0_11 a0_12 _ _ l0_13 200 true _ ?side1 ?side2 A2.out).mono ?_); (case side1 => exact ca_ (Kd.C_below HR0_13.out HB.out)); (case side2 => exact HC0_13.out); rintro e w9 ⟨rfl, hb⟩; refine ⟨_, rfl, ?_⟩; replace B1 := bb_ B1 hb; replace HB := bs_ HB hb; ))
  (try (rw [drewN_self w9]; generalize hq_ : World.drewN w9 _ = w9; have n0_ : Aside0 (w9.heap[g1]? = some (.cells #[.int .i64 a0_0, .int .i64 a0_1, .int .i64 a0_2, .int .i64 a0_3, .string a0_4, .int .i64 a0_5, .int .i64 a0_6, .bool a0_7, .bool a0_8, .int .i64 a0_9, .int .i64 a0_10, .bool a0_11, .bool a0_12, .slice A0_13 l0_13.length c0_13] 28 (0, 0))) := ⟨by rw [← hq_]; exact (pkx B1)⟩; have n1_ : Aside0 (Below w.heap.size w w9) := ⟨by rw [← hq_]; exact (pbx HB)⟩; clear B1 HB hq_; have B1 := n0_; have HB := n1_; clear n0_ n1_))
  replace B1 := A_ (blk_drew B1.out); replace HB := A_ (below_drew1 HB.out)
  refine start_ (n:=6) (S := fun w' => w'.cell? ⟨g1, 0, none⟩ = some (.int .i64 a0_0) ∧ w'.cell? ⟨g1, 1, none⟩ = some (.int .i64 a0_1) ∧ w'.cell? ⟨g1, 2, none⟩ = some (.int .i64 a0_2) ∧ w'.cell? ⟨g1, 3, none⟩ = some (.int .i64 a0_3) ∧ w'.cell? ⟨g1, 4, none⟩ = some (.string a0_4) ∧ w'.cell? ⟨g1, 5, none⟩ = some (.int .i64 a0_5) ∧ w'.cell? ⟨g1, 6, none⟩ = some (.int .i64 a0_6) ∧ w'.cell? ⟨g1, 7, none⟩ = some (.bool a0_7) ∧ w'.cell? ⟨g1, 8, none⟩ = some (.bool a0_8) ∧ w'.cell? ⟨g1, 9, none⟩ = some (.int .i64 a0_9) ∧ w'.cell? ⟨g1, 10, none⟩ = some (.int .i64 a0_10) ∧ w'.cell? ⟨g1, 11, none⟩ = some (.bool a0_11) ∧ w'.cell? ⟨g1, 12, none⟩ = some (.bool a0_12) ∧ w'.cell? ⟨g1, 13, none⟩ = some (.slice A0_13 l0_13.length c0_13)) (ds := []) #[F,F,F,F,F,F] (by kernel_rfl) rfl rfl ⟨bc_ B1 0 rfl, bc_ B1 1 rfl, bc_ B1 2 rfl, bc_ B1 3 rfl, bc_ B1 4 rfl, bc_ B1 5 rfl, bc_ B1 6 rfl, bc_ B1 7 rfl, bc_ B1 8 rfl, bc_ B1 9 rfl, bc_ B1 10 rfl, bc_ B1 11 rfl, bc_ B1 12 rfl, bc_ B1 13 rfl⟩ (fun hHeld => ?_)
  generalize w9.drew = w10 at B1 HB hHeld ⊢; refine take_ (i:=0) (N:=some 11) (v:=?_) (a':=?_) ⟨m_ 6 1⟩ rfl rfl (by kernel_rfl) (fun _ _ _ h=>h) (Or.inl ⟨rfl, ?_⟩) hHeld ?_ ?_; rotate_left
  ·rintro w' ⟨s0, s1, s2, s3, s4, s5, s6, s7, s8, s9, s10, s11, s12, s13⟩; go_simp; with_reducible rfl
  rotate_left
  ·simp only [q_, i64_w, i32_w]; rfl
  refine take_ (i:=2) (N:=some 13) (v:=?_) (a':=?_) ⟨m_ 6 5⟩ rfl rfl (by kernel_rfl) (fun _ _ _ h=>h) (Or.inl ⟨rfl, ?_⟩) hHeld ?_ ?_; rotate_left
  ·rintro w' ⟨s0, s1, s2, s3, s4, s5, s6, s7, s8, s9, s10, s11, s12, s13⟩; go_simp; with_reducible rfl
  rotate_left
  ·simp only [q_, i64_w, i32_w]; rfl
  refine one_ (i:=1) (N:=some 12) ⟨m_ 6 7⟩ rfl rfl (by kernel_rfl) (by decide) (fun K hK => ?_); refine goes_ Tryd.func8 (by kernel_rfl) rfl #[.agg #[.int .i64 a0_0, .int .i64 a0_1, .int .i64 a0_2, .int .i64 a0_3, .string a0_4, .int .i64 a0_5, .int .i64 a0_6, .bool a0_7, .bool a0_8, .int .i64 a0_9, .int .i64 a0_10, .bool a0_11, .bool a0_12, .slice A0_13 l0_13.length c0_13]] (by rfl) rfl rfl ha_ ?_; with_reducible refine (node_List.calls k a0_0 a0_1 a0_2 a0_3 a0_4 a0_5 a0_6 a0_7 a0_8 a0_9 a0_10 a0_11 a0_12 (fun k_ => k_ < w.heap.size) _ _ l0_13 t104 _ ?side1 A4.out).mono ?_; (case side1 => exact Kd.V_mk HC0_13.out (Kd.F_below (Kd.C_F k28_heap HR0_13.out) (pbx HB))); rintro e w11 ⟨v105, rfl, ho0, hb⟩; refine ⟨_, rfl, ?_⟩
  have HO106 := A_ (Kd.N_lower (Kd.N_mono (ok' := fun k_ => k_ ≠ g1) ho0 (fun k_ hk_ => Or.elim hk_ (fun hs_ => fun e_ => Nat.not_le.2 hs_ (by rw [e_]; exact GW101.out)) (fun hn_ => (Kd.freshB (pkx B1) k_ hn_)))) (below_size (pbx HB))); replace B1 := bb_ B1 hb; replace HB := bs_ HB hb
  (try clear hb); (try clear ho0); refine hK.out _ _ ⟨bc_ B1 0 rfl, bc_ B1 1 rfl, bc_ B1 2 rfl, bc_ B1 3 rfl, bc_ B1 4 rfl, bc_ B1 5 rfl, bc_ B1 6 rfl, bc_ B1 7 rfl, bc_ B1 8 rfl, bc_ B1 9 rfl, bc_ B1 10 rfl, bc_ B1 11 rfl, bc_ B1 12 rfl, bc_ B1 13 rfl⟩ (fun hHeld => ?_); clear hK K; refine norm_ (a':=?_) ?_ ?_; rotate_left
  ·show Act.put _ (some 12) _ = _; simp only [q_, i64_w, i32_w]; rfl
  refine one_ (i:=3) (N:=some 14) ⟨m_ 6 15⟩ rfl rfl (by kernel_rfl) (by decide) (fun K hK => ?_); refine goes_ Tryd.func9 (by kernel_rfl) rfl #[.agg #[.int .i64 a0_0, .int .i64 a0_1, .int .i64 a0_2, .int .i64 a0_3, .string a0_4, .int .i64 a0_5, .int .i64 a0_6, .bool a0_7, .bool a0_8, .int .i64 a0_9, .int .i64 a0_10, .bool a0_11, .bool a0_12, .slice A0_13 l0_13.length c0_13]] (by rfl) rfl rfl ha_ ?_; with_reducible refine (oculusref22_List.calls k a0_0 a0_1 a0_2 a0_3 a0_4 a0_5 a0_6 a0_7 a0_8 a0_9 a0_10 a0_11 a0_12 (fun k_ => k_ < w.heap.size) _ _ l0_13 t107 _ ?side1 A5.out).mono ?_; (case side1 => exact Kd.V_mk HC0_13.out (Kd.F_below (Kd.C_F k28_heap HR0_13.out) (pbx HB))); rintro e w12 ⟨v108, rfl, ho0, hb⟩; refine ⟨_, rfl, ?_⟩
  have HO109 := A_ (Kd.N_lower (Kd.N_mono (ok' := fun k_ => some k_ ≠ (v105 : Value).ownBlock ∧ k_ ≠ g1) ho0 (fun k_ hk_ => ⟨Or.elim hk_ (fun hs_ => fun e_ => Nat.not_le.2 hs_ (Kd.N_base HO106.out k_ e_.symm)) (fun hn_ => (Kd.fresh' (Kd.N_lt (by (with_reducible repeat (first | apply Kd.N_alloc | apply Kd.N_drewN | apply Kd.N_drew)); exact HO106.out)) k_ hn_)), Or.elim hk_ (fun hs_ => fun e_ => Nat.not_le.2 hs_ (by rw [e_]; exact GW101.out)) (fun hn_ => (Kd.freshB (pkx B1) k_ hn_))⟩)) (below_size (pbx HB))); replace HO106 := A_ (Kd.N_elder' (by (with_reducible repeat (first | apply Kd.N_alloc | apply Kd.N_drewN | apply Kd.N_drew)); exact HO106.out) (Kd.N_base ho0) hb); replace B1 := bb_ B1 hb; replace HB := bs_ HB hb
  (try clear hb); (try clear ho0); refine hK.out _ _ ⟨bc_ B1 0 rfl, bc_ B1 1 rfl, bc_ B1 2 rfl, bc_ B1 3 rfl, bc_ B1 4 rfl, bc_ B1 5 rfl, bc_ B1 6 rfl, bc_ B1 7 rfl, bc_ B1 8 rfl, bc_ B1 9 rfl, bc_ B1 10 rfl, bc_ B1 11 rfl, bc_ B1 12 rfl, bc_ B1 13 rfl⟩ (fun hHeld => ?_); clear hK K; refine norm_ (a':=?_) ?_ ?_; rotate_left
  ·show Act.put _ (some 14) _ = _; simp only [q_, i64_w, i32_w]; rfl
  refine pure_ (i:=4) (N:=some 3) (v:=?_) (a':=?_) ⟨m_ 6 31⟩ rfl rfl (by kernel_rfl) (fun _ _ _ h=>h) (Or.inl ⟨rfl, ?_⟩) ?_ ?_; rotate_left
  ·intro w'; go_simp; with_reducible rfl
  rotate_left
  ·simp only [q_, i64_w, i32_w]; rfl
  refine pure_ (i:=5) (N:=some 4) (v:=?_) (a':=?_) ⟨m_ 6 63⟩ rfl rfl (by kernel_rfl) (fun _ _ _ h=>h) (Or.inl ⟨rfl, ?_⟩) ?_ ?_; rotate_left
  ·intro w'; go_simp; with_reducible rfl
  rotate_left
  ·simp only [q_, i64_w, i32_w]; rfl
  refine done_ (by kernel_rfl) ?_
  go_upto_region 4 with (fail)
  go_cut [47] (fun v47 wc => ∃ (kq : Nat) (x47_5 : Bool), v47 = .bool x47_5 ∧ Aside0 (oculuslaw22_NodeTells.j0 kq t104 t107 x47_5 = some r) ∧ Aside0 (kq ≤ k) ∧ Aside0 (Kd.N k28 28 wc w.heap.size (fun k_ => some k_ ≠ (v108 : Value).ownBlock ∧ k_ ≠ g1) v105 t104) ∧ Aside0 (Kd.N k28 28 wc w.heap.size (fun k_ => some k_ ≠ (v105 : Value).ownBlock ∧ k_ ≠ g1) v108 t107) ∧ Aside0 (wc.heap[g1]? = some (.cells #[.int .i64 a0_0, .int .i64 a0_1, .int .i64 a0_2, .int .i64 a0_3, .string a0_4, .int .i64 a0_5, .int .i64 a0_6, .bool a0_7, .bool a0_8, .int .i64 a0_9, .int .i64 a0_10, .bool a0_11, .bool a0_12, (.slice A0_13 l0_13.length c0_13)] 28 (0, 0))) ∧ Aside0 (Below w.heap.size w wc))
  case first =>
   have H := HC6.out; clear HC6
   by_cases c13 : (t104.length : Int) = (t107.length : Int)
   ·rw [if_pos c13] at H; have ⟨c13b0,c13b1⟩ := e1_ c13
    have c13b2 : (t104.length == t107.length) = true := by first | simpa using c13 | (simp at c13 ⊢; omega)
    clear c13; (first | rw [c13b0] | (simp only [i64_w, i32_w]; rw [c13b0]) | skip)
    obtain ⟨t110, A14, H⟩ := bo_ H
    by_cases c15 : t110 = (t107.length : Int)
    ·rw [if_pos c15] at H; have ⟨c15b0,c15b1⟩ := e1_ c15; clear c15; obtain ⟨t111, A16, H⟩ := bo_ H; obtain ⟨t112, A17, H⟩ := bo_ H
     by_cases c18 : t111 = t112
     ·rw [if_pos c18] at H; have ⟨c18b0,c18b1⟩ := e1_ c18; clear c18; obtain ⟨t113, A19, H⟩ := bo_ H; obtain ⟨t114, A20, H⟩ := bo_ H
      by_cases c21 : (t113 != t114) = true
      ·rw [if_pos c21] at H
       have c21b0 : (t113 != t114) = true := c21
       (try (have c21b1 : decide (t113 = t114) = false := by simpa using c21)); (try (have c21b2 : (t113 == t114) = false := by simpa using c21)); (try (have c21b3 : ¬ (t113 = t114) := by simpa using c21)); clear c21
       have H' := A_ H
       clear H
       try go_wp2
       (try (rw [drewN_self w12]; generalize hq_ : World.drewN w12 _ = w12; have n0_ : Aside0 (Kd.N k28 28 w12 w.heap.size (fun k_ => some k_ ≠ (v108 : Value).ownBlock ∧ k_ ≠ g1) v105 t104) := ⟨by rw [← hq_]; exact (by (with_reducible repeat (first | apply Kd.N_alloc | apply Kd.N_drewN | apply Kd.N_drew)); exact Kd.N_mono HO106.out (fun _ hk => ⟨hk.2, hk.1⟩))⟩; have n1_ : Aside0 (Kd.N k28 28 w12 w.heap.size (fun k_ => some k_ ≠ (v105 : Value).ownBlock ∧ k_ ≠ g1) v108 t107) := ⟨by rw [← hq_]; exact (by (with_reducible repeat (first | apply Kd.N_alloc | apply Kd.N_drewN | apply Kd.N_drew)); exact HO109.out)⟩; have n2_ : Aside0 (w12.heap[g1]? = some (.cells #[.int .i64 a0_0, .int .i64 a0_1, .int .i64 a0_2, .int .i64 a0_3, .string a0_4, .int .i64 a0_5, .int .i64 a0_6, .bool a0_7, .bool a0_8, .int .i64 a0_9, .int .i64 a0_10, .bool a0_11, .bool a0_12, .slice A0_13 l0_13.length c0_13] 28 (0, 0))) := ⟨by rw [← hq_]; exact (pkx B1)⟩; have n3_ : Aside0 (Below w.heap.size w w12) := ⟨by rw [← hq_]; exact (pbx HB)⟩; clear HO106 HO109 B1 HB hq_; have HO106 := n0_; have HO109 := n1_; have B1 := n2_; have HB := n3_; clear n0_ n1_ n2_ n3_))
       replace HO106 := A_ (Kd.N_drew HO106.out); replace HO109 := A_ (Kd.N_drew HO109.out); replace B1 := A_ (blk_drew B1.out); replace HB := A_ (below_drew1 HB.out); obtain ⟨Ao23, co23, eo23⟩ := Kd.N_slice HO106.out; (first | subst eo23 | (injection eo23 with f1_ f2_ f3_; have f4_ := f1_.symm; have f5_ := f3_.symm; clear f1_ f2_ f3_; subst f4_; subst f5_)); obtain ⟨Ao24, co24, eo24⟩ := Kd.N_slice HO109.out; (first | subst eo24 | (injection eo24 with f1_ f2_ f3_; have f4_ := f1_.symm; have f5_ := f3_.symm; clear f1_ f2_ f3_; subst f4_; subst f5_))
       as_aux_lemma =>
        have hQB : ∀ (d : Nat) (os : Array Obj), Below w.heap.size w (Go.Sort.grow (redrawn w12 d) os) := fun d os => below_step (⟨HB.out.os, HB.out.tape, HB.out.output, HB.out.size, HB.out.block⟩ : Below w.heap.size w w12) (below_regrown w12 d os)
        have q0_ := cell_regrown (show w12.cell? ⟨g1, 0, none⟩ = some (.int .i64 a0_0) from bc_ B1 0 rfl); have q1_ := cell_regrown (show w12.cell? ⟨g1, 1, none⟩ = some (.int .i64 a0_1) from bc_ B1 1 rfl); have q2_ := cell_regrown (show w12.cell? ⟨g1, 2, none⟩ = some (.int .i64 a0_2) from bc_ B1 2 rfl); have q3_ := cell_regrown (show w12.cell? ⟨g1, 3, none⟩ = some (.int .i64 a0_3) from bc_ B1 3 rfl); have q4_ := cell_regrown (show w12.cell? ⟨g1, 4, none⟩ = some (.string a0_4) from bc_ B1 4 rfl); have q5_ := cell_regrown (show w12.cell? ⟨g1, 5, none⟩ = some (.int .i64 a0_5) from bc_ B1 5 rfl); have q6_ := cell_regrown (show w12.cell? ⟨g1, 6, none⟩ = some (.int .i64 a0_6) from bc_ B1 6 rfl); have q7_ := cell_regrown (show w12.cell? ⟨g1, 7, none⟩ = some (.bool a0_7) from bc_ B1 7 rfl); have q8_ := cell_regrown (show w12.cell? ⟨g1, 8, none⟩ = some (.bool a0_8) from bc_ B1 8 rfl)
        have q9_ := cell_regrown (show w12.cell? ⟨g1, 9, none⟩ = some (.int .i64 a0_9) from bc_ B1 9 rfl); have q10_ := cell_regrown (show w12.cell? ⟨g1, 10, none⟩ = some (.int .i64 a0_10) from bc_ B1 10 rfl); have q11_ := cell_regrown (show w12.cell? ⟨g1, 11, none⟩ = some (.bool a0_11) from bc_ B1 11 rfl); have q12_ := cell_regrown (show w12.cell? ⟨g1, 12, none⟩ = some (.bool a0_12) from bc_ B1 12 rfl); have q13_ := cell_regrown (show w12.cell? ⟨g1, 13, none⟩ = some (.slice A0_13 l0_13.length c0_13) from bc_ B1 13 rfl)
        refine wp_region_quiet_below (by kernel_rfl) (by kernel_rfl) ?_
        generalize hz : Act.mk _ _ = z
        repeat (first | (refine wpQuiet_skip (by subst hz; rfl) ?_; generalize hy : Act.put _ _ undef = y; subst hz; simp only [q_] at hy; have hz := hy; clear hy) | (refine wpQuiet_step (fun K hK => ?_); subst hz; go_simp; (try simp only [i64_w, i32_w]); first | (generalize hz : Act.mk _ _ = z; refine hK z ?_; clear hK K) | (apply Exists.intro; refine ⟨fun _ => ?_, ?_⟩; (first | (focus ((with_reducible refine Calls.regrown_of (node_Count.calls k a0_0 a0_1 a0_2 a0_3 a0_4 a0_5 a0_6 a0_7 a0_8 a0_9 a0_10 a0_11 a0_12 _ _ l0_13 t110 _ ?side1 ?side2 A14.out)); (case side1 => exact ca_ (Kd.C_below HR0_13.out (hQB _ _))); (case side2 => exact HC0_13.out); done)) | (focus ((with_reducible refine Calls.regrown_of (node_Deep.calls k a0_0 a0_1 a0_2 a0_3 a0_4 a0_5 a0_6 a0_7 a0_8 a0_9 a0_10 a0_11 a0_12 _ _ l0_13 t111 _ ?side1 ?side2 A16.out)); (case side1 => exact ca_ (Kd.C_below HR0_13.out (hQB _ _))); (case side2 => exact HC0_13.out); done)) | (focus ((with_reducible refine Calls.regrown_of (oculusref22_Deep.calls k a0_0 a0_1 a0_2 a0_3 a0_4 a0_5 a0_6 a0_7 a0_8 a0_9 a0_10 a0_11 a0_12 _ _ l0_13 t112 _ ?side1 ?side2 A17.out)); (case side1 => exact ca_ (Kd.C_below HR0_13.out (hQB _ _))); (case side2 => exact HC0_13.out); done)) | (focus ((with_reducible refine Calls.regrown_of (node_Right.calls k a0_0 a0_1 a0_2 a0_3 a0_4 a0_5 a0_6 a0_7 a0_8 a0_9 a0_10 a0_11 a0_12 _ _ l0_13 t113 _ (by refine tb_ ?_ hT; repeat' (first | exact (hQB _ _) | exact Below.refl _ _ | assumption | refine below_set ?_ (Aside0.out ?_))) ?side1 ?side2 A19.out)); (case side1 => exact ca_ (Kd.C_below HR0_13.out (hQB _ _))); (case side2 => exact HC0_13.out); done)) | (focus ((with_reducible refine Calls.regrown_of (oculusref22_Right.calls k a0_0 a0_1 a0_2 a0_3 a0_4 a0_5 a0_6 a0_7 a0_8 a0_9 a0_10 a0_11 a0_12 _ _ l0_13 t114 _ ?side1 ?side2 A20.out)); (case side1 => exact ca_ (Kd.C_below HR0_13.out (hQB _ _))); (case side2 => exact HC0_13.out); done))); (try simp only [i64_w, i32_w]); generalize hz : Act.mk _ _ = z; refine hK z ?_; clear hK K)))
        refine wpQuiet_nil ?_
        rintro _ ⟨⟨dq, osq⟩, rfl⟩
        subst hz; have hb0_ := below_regrown w12 dq osq; generalize Go.Sort.grow (redrawn w12 dq) osq = w29 at hb0_ ⊢; have hb : Below w12.drew.heap.size w12.drew w29 := ⟨hb0_.os, hb0_.tape, hb0_.output, hb0_.size, hb0_.block⟩; replace HO106 := A_ (Kd.N_below (by (with_reducible repeat (first | apply Kd.N_alloc | apply Kd.N_drewN | apply Kd.N_drew)); exact HO106.out) hb); replace HO109 := A_ (Kd.N_below (by (with_reducible repeat (first | apply Kd.N_alloc | apply Kd.N_drewN | apply Kd.N_drew)); exact HO109.out) hb); replace B1 := bb_ B1 hb; replace HB := bs_ HB hb
        (try clear hb); (try clear hk); clear hQB hb0_ q0_ q1_ q2_ q3_ q4_ q5_ q6_ q7_ q8_ q9_ q10_ q11_ q12_ q13_
        try go_wp2
        go_meet
        case rel => exact ⟨_, (true), sq_, H', le_, ⟨by (with_reducible repeat (first | apply Kd.N_alloc | apply Kd.N_drewN | apply Kd.N_drew)); exact Kd.N_mono HO106.out (fun _ hk => ⟨hk.2, hk.1⟩)⟩, ⟨by (with_reducible repeat (first | apply Kd.N_alloc | apply Kd.N_drewN | apply Kd.N_drew)); exact HO109.out⟩, ⟨pkx B1⟩, ⟨pbx HB⟩⟩
      ·rw [if_neg c21] at H
       have c21b0 : (t113 != t114) = false := by simpa using c21
       (try (have c21b1 : decide (t113 = t114) = true := by simpa using c21)); (try (have c21b2 : (t113 == t114) = true := by simpa using c21))
       clear c21; obtain ⟨t115, A30, H⟩ := bo_ H; obtain ⟨t116, A31, H⟩ := bo_ H
       have H' := A_ H
       clear H
       try go_wp2
       (try (rw [drewN_self w12]; generalize hq_ : World.drewN w12 _ = w12; have n0_ : Aside0 (Kd.N k28 28 w12 w.heap.size (fun k_ => some k_ ≠ (v108 : Value).ownBlock ∧ k_ ≠ g1) v105 t104) := ⟨by rw [← hq_]; exact (by (with_reducible repeat (first | apply Kd.N_alloc | apply Kd.N_drewN | apply Kd.N_drew)); exact Kd.N_mono HO106.out (fun _ hk => ⟨hk.2, hk.1⟩))⟩; have n1_ : Aside0 (Kd.N k28 28 w12 w.heap.size (fun k_ => some k_ ≠ (v105 : Value).ownBlock ∧ k_ ≠ g1) v108 t107) := ⟨by rw [← hq_]; exact (by (with_reducible repeat (first | apply Kd.N_alloc | apply Kd.N_drewN | apply Kd.N_drew)); exact HO109.out)⟩; have n2_ : Aside0 (w12.heap[g1]? = some (.cells #[.int .i64 a0_0, .int .i64 a0_1, .int .i64 a0_2, .int .i64 a0_3, .string a0_4, .int .i64 a0_5, .int .i64 a0_6, .bool a0_7, .bool a0_8, .int .i64 a0_9, .int .i64 a0_10, .bool a0_11, .bool a0_12, .slice A0_13 l0_13.length c0_13] 28 (0, 0))) := ⟨by rw [← hq_]; exact (pkx B1)⟩; have n3_ : Aside0 (Below w.heap.size w w12) := ⟨by rw [← hq_]; exact (pbx HB)⟩; clear HO106 HO109 B1 HB hq_; have HO106 := n0_; have HO109 := n1_; have B1 := n2_; have HB := n3_; clear n0_ n1_ n2_ n3_))
       replace HO106 := A_ (Kd.N_drew HO106.out); replace HO109 := A_ (Kd.N_drew HO109.out); replace B1 := A_ (blk_drew B1.out); replace HB := A_ (below_drew1 HB.out); obtain ⟨Ao33, co33, eo33⟩ := Kd.N_slice HO106.out; (first | subst eo33 | (injection eo33 with f1_ f2_ f3_; have f4_ := f1_.symm; have f5_ := f3_.symm; clear f1_ f2_ f3_; subst f4_; subst f5_)); obtain ⟨Ao34, co34, eo34⟩ := Kd.N_slice HO109.out; (first | subst eo34 | (injection eo34 with f1_ f2_ f3_; have f4_ := f1_.symm; have f5_ := f3_.symm; clear f1_ f2_ f3_; subst f4_; subst f5_))
       as_aux_lemma =>
        have hQB : ∀ (d : Nat) (os : Array Obj), Below w.heap.size w (Go.Sort.grow (redrawn w12 d) os) := fun d os => below_step (⟨HB.out.os, HB.out.tape, HB.out.output, HB.out.size, HB.out.block⟩ : Below w.heap.size w w12) (below_regrown w12 d os)
        have q0_ := cell_regrown (show w12.cell? ⟨g1, 0, none⟩ = some (.int .i64 a0_0) from bc_ B1 0 rfl); have q1_ := cell_regrown (show w12.cell? ⟨g1, 1, none⟩ = some (.int .i64 a0_1) from bc_ B1 1 rfl); have q2_ := cell_regrown (show w12.cell? ⟨g1, 2, none⟩ = some (.int .i64 a0_2) from bc_ B1 2 rfl); have q3_ := cell_regrown (show w12.cell? ⟨g1, 3, none⟩ = some (.int .i64 a0_3) from bc_ B1 3 rfl); have q4_ := cell_regrown (show w12.cell? ⟨g1, 4, none⟩ = some (.string a0_4) from bc_ B1 4 rfl); have q5_ := cell_regrown (show w12.cell? ⟨g1, 5, none⟩ = some (.int .i64 a0_5) from bc_ B1 5 rfl); have q6_ := cell_regrown (show w12.cell? ⟨g1, 6, none⟩ = some (.int .i64 a0_6) from bc_ B1 6 rfl); have q7_ := cell_regrown (show w12.cell? ⟨g1, 7, none⟩ = some (.bool a0_7) from bc_ B1 7 rfl); have q8_ := cell_regrown (show w12.cell? ⟨g1, 8, none⟩ = some (.bool a0_8) from bc_ B1 8 rfl)
        have q9_ := cell_regrown (show w12.cell? ⟨g1, 9, none⟩ = some (.int .i64 a0_9) from bc_ B1 9 rfl); have q10_ := cell_regrown (show w12.cell? ⟨g1, 10, none⟩ = some (.int .i64 a0_10) from bc_ B1 10 rfl); have q11_ := cell_regrown (show w12.cell? ⟨g1, 11, none⟩ = some (.bool a0_11) from bc_ B1 11 rfl); have q12_ := cell_regrown (show w12.cell? ⟨g1, 12, none⟩ = some (.bool a0_12) from bc_ B1 12 rfl); have q13_ := cell_regrown (show w12.cell? ⟨g1, 13, none⟩ = some (.slice A0_13 l0_13.length c0_13) from bc_ B1 13 rfl)
        refine wp_region_quiet_below (by kernel_rfl) (by kernel_rfl) ?_
        generalize hz : Act.mk _ _ = z
        repeat (first | (refine wpQuiet_skip (by subst hz; rfl) ?_; generalize hy : Act.put _ _ undef = y; subst hz; simp only [q_] at hy; have hz := hy; clear hy) | (refine wpQuiet_step (fun K hK => ?_); subst hz; go_simp; (try simp only [i64_w, i32_w]); first | (generalize hz : Act.mk _ _ = z; refine hK z ?_; clear hK K) | (apply Exists.intro; refine ⟨fun _ => ?_, ?_⟩; (first | (focus ((with_reducible refine Calls.regrown_of (node_Count.calls k a0_0 a0_1 a0_2 a0_3 a0_4 a0_5 a0_6 a0_7 a0_8 a0_9 a0_10 a0_11 a0_12 _ _ l0_13 t110 _ ?side1 ?side2 A14.out)); (case side1 => exact ca_ (Kd.C_below HR0_13.out (hQB _ _))); (case side2 => exact HC0_13.out); done)) | (focus ((with_reducible refine Calls.regrown_of (node_Deep.calls k a0_0 a0_1 a0_2 a0_3 a0_4 a0_5 a0_6 a0_7 a0_8 a0_9 a0_10 a0_11 a0_12 _ _ l0_13 t111 _ ?side1 ?side2 A16.out)); (case side1 => exact ca_ (Kd.C_below HR0_13.out (hQB _ _))); (case side2 => exact HC0_13.out); done)) | (focus ((with_reducible refine Calls.regrown_of (oculusref22_Deep.calls k a0_0 a0_1 a0_2 a0_3 a0_4 a0_5 a0_6 a0_7 a0_8 a0_9 a0_10 a0_11 a0_12 _ _ l0_13 t112 _ ?side1 ?side2 A17.out)); (case side1 => exact ca_ (Kd.C_below HR0_13.out (hQB _ _))); (case side2 => exact HC0_13.out); done)) | (focus ((with_reducible refine Calls.regrown_of (node_Right.calls k a0_0 a0_1 a0_2 a0_3 a0_4 a0_5 a0_6 a0_7 a0_8 a0_9 a0_10 a0_11 a0_12 _ _ l0_13 t113 _ (by refine tb_ ?_ hT; repeat' (first | exact (hQB _ _) | exact Below.refl _ _ | assumption | refine below_set ?_ (Aside0.out ?_))) ?side1 ?side2 A19.out)); (case side1 => exact ca_ (Kd.C_below HR0_13.out (hQB _ _))); (case side2 => exact HC0_13.out); done)) | (focus ((with_reducible refine Calls.regrown_of (oculusref22_Right.calls k a0_0 a0_1 a0_2 a0_3 a0_4 a0_5 a0_6 a0_7 a0_8 a0_9 a0_10 a0_11 a0_12 _ _ l0_13 t114 _ ?side1 ?side2 A20.out)); (case side1 => exact ca_ (Kd.C_below HR0_13.out (hQB _ _))); (case side2 => exact HC0_13.out); done)) | (focus ((with_reducible refine Calls.regrown_of (node_Formula.calls k a0_0 a0_1 a0_2 a0_3 a0_4 a0_5 a0_6 a0_7 a0_8 a0_9 a0_10 a0_11 a0_12 _ _ l0_13 t115 _ (by refine tb_ ?_ hT; repeat' (first | exact (hQB _ _) | exact Below.refl _ _ | assumption | refine below_set ?_ (Aside0.out ?_))) ?side1 ?side2 A30.out)); (case side1 => exact ca_ (Kd.C_below HR0_13.out (hQB _ _))); (case side2 => exact HC0_13.out); done)) | (focus ((with_reducible refine Calls.regrown_of (oculusref22_Formula.calls k a0_0 a0_1 a0_2 a0_3 a0_4 a0_5 a0_6 a0_7 a0_8 a0_9 a0_10 a0_11 a0_12 _ _ l0_13 t116 _ ?side1 ?side2 A31.out)); (case side1 => exact ca_ (Kd.C_below HR0_13.out (hQB _ _))); (case side2 => exact HC0_13.out); done))); (try simp only [i64_w, i32_w]); generalize hz : Act.mk _ _ = z; refine hK z ?_; clear hK K)))
        refine wpQuiet_nil ?_
        rintro _ ⟨⟨dq, osq⟩, rfl⟩
        subst hz; have hb0_ := below_regrown w12 dq osq; generalize Go.Sort.grow (redrawn w12 dq) osq = w41 at hb0_ ⊢; have hb : Below w12.drew.heap.size w12.drew w41 := ⟨hb0_.os, hb0_.tape, hb0_.output, hb0_.size, hb0_.block⟩; replace HO106 := A_ (Kd.N_below (by (with_reducible repeat (first | apply Kd.N_alloc | apply Kd.N_drewN | apply Kd.N_drew)); exact HO106.out) hb); replace HO109 := A_ (Kd.N_below (by (with_reducible repeat (first | apply Kd.N_alloc | apply Kd.N_drewN | apply Kd.N_drew)); exact HO109.out) hb); replace B1 := bb_ B1 hb; replace HB := bs_ HB hb
        (try clear hb); (try clear hk); clear hQB hb0_ q0_ q1_ q2_ q3_ q4_ q5_ q6_ q7_ q8_ q9_ q10_ q11_ q12_ q13_
        try go_wp2
        go_meet
        case rel => exact ⟨_, ((t115 != t116)), (by first | rfl | (simp; done) | (simp [*]; done) | (cases t115 <;> simp; done) | (cases t116 <;> simp; done)), H', le_, ⟨by (with_reducible repeat (first | apply Kd.N_alloc | apply Kd.N_drewN | apply Kd.N_drew)); exact Kd.N_mono HO106.out (fun _ hk => ⟨hk.2, hk.1⟩)⟩, ⟨by (with_reducible repeat (first | apply Kd.N_alloc | apply Kd.N_drewN | apply Kd.N_drew)); exact HO109.out⟩, ⟨pkx B1⟩, ⟨pbx HB⟩⟩
     ·rw [if_neg c18] at H; have ⟨c18b0,c18b1⟩ := e0_ c18
      have H' := A_ H
      clear H
      try go_wp2
      (try (rw [drewN_self w12]; generalize hq_ : World.drewN w12 _ = w12; have n0_ : Aside0 (Kd.N k28 28 w12 w.heap.size (fun k_ => some k_ ≠ (v108 : Value).ownBlock ∧ k_ ≠ g1) v105 t104) := ⟨by rw [← hq_]; exact (by (with_reducible repeat (first | apply Kd.N_alloc | apply Kd.N_drewN | apply Kd.N_drew)); exact Kd.N_mono HO106.out (fun _ hk => ⟨hk.2, hk.1⟩))⟩; have n1_ : Aside0 (Kd.N k28 28 w12 w.heap.size (fun k_ => some k_ ≠ (v105 : Value).ownBlock ∧ k_ ≠ g1) v108 t107) := ⟨by rw [← hq_]; exact (by (with_reducible repeat (first | apply Kd.N_alloc | apply Kd.N_drewN | apply Kd.N_drew)); exact HO109.out)⟩; have n2_ : Aside0 (w12.heap[g1]? = some (.cells #[.int .i64 a0_0, .int .i64 a0_1, .int .i64 a0_2, .int .i64 a0_3, .string a0_4, .int .i64 a0_5, .int .i64 a0_6, .bool a0_7, .bool a0_8, .int .i64 a0_9, .int .i64 a0_10, .bool a0_11, .bool a0_12, .slice A0_13 l0_13.length c0_13] 28 (0, 0))) := ⟨by rw [← hq_]; exact (pkx B1)⟩; have n3_ : Aside0 (Below w.heap.size w w12) := ⟨by rw [← hq_]; exact (pbx HB)⟩; clear HO106 HO109 B1 HB hq_; have HO106 := n0_; have HO109 := n1_; have B1 := n2_; have HB := n3_; clear n0_ n1_ n2_ n3_))
      replace HO106 := A_ (Kd.N_drew HO106.out); replace HO109 := A_ (Kd.N_drew HO109.out); replace B1 := A_ (blk_drew B1.out); replace HB := A_ (below_drew1 HB.out); obtain ⟨Ao43, co43, eo43⟩ := Kd.N_slice HO106.out; (first | subst eo43 | (injection eo43 with f1_ f2_ f3_; have f4_ := f1_.symm; have f5_ := f3_.symm; clear f1_ f2_ f3_; subst f4_; subst f5_)); obtain ⟨Ao44, co44, eo44⟩ := Kd.N_slice HO109.out; (first | subst eo44 | (injection eo44 with f1_ f2_ f3_; have f4_ := f1_.symm; have f5_ := f3_.symm; clear f1_ f2_ f3_; subst f4_; subst f5_))
      as_aux_lemma =>
       have hQB : ∀ (d : Nat) (os : Array Obj), Below w.heap.size w (Go.Sort.grow (redrawn w12 d) os) := fun d os => below_step (⟨HB.out.os, HB.out.tape, HB.out.output, HB.out.size, HB.out.block⟩ : Below w.heap.size w w12) (below_regrown w12 d os)
       have q0_ := cell_regrown (show w12.cell? ⟨g1, 0, none⟩ = some (.int .i64 a0_0) from bc_ B1 0 rfl); have q1_ := cell_regrown (show w12.cell? ⟨g1, 1, none⟩ = some (.int .i64 a0_1) from bc_ B1 1 rfl); have q2_ := cell_regrown (show w12.cell? ⟨g1, 2, none⟩ = some (.int .i64 a0_2) from bc_ B1 2 rfl); have q3_ := cell_regrown (show w12.cell? ⟨g1, 3, none⟩ = some (.int .i64 a0_3) from bc_ B1 3 rfl); have q4_ := cell_regrown (show w12.cell? ⟨g1, 4, none⟩ = some (.string a0_4) from bc_ B1 4 rfl); have q5_ := cell_regrown (show w12.cell? ⟨g1, 5, none⟩ = some (.int .i64 a0_5) from bc_ B1 5 rfl); have q6_ := cell_regrown (show w12.cell? ⟨g1, 6, none⟩ = some (.int .i64 a0_6) from bc_ B1 6 rfl); have q7_ := cell_regrown (show w12.cell? ⟨g1, 7, none⟩ = some (.bool a0_7) from bc_ B1 7 rfl); have q8_ := cell_regrown (show w12.cell? ⟨g1, 8, none⟩ = some (.bool a0_8) from bc_ B1 8 rfl)
       have q9_ := cell_regrown (show w12.cell? ⟨g1, 9, none⟩ = some (.int .i64 a0_9) from bc_ B1 9 rfl); have q10_ := cell_regrown (show w12.cell? ⟨g1, 10, none⟩ = some (.int .i64 a0_10) from bc_ B1 10 rfl); have q11_ := cell_regrown (show w12.cell? ⟨g1, 11, none⟩ = some (.bool a0_11) from bc_ B1 11 rfl); have q12_ := cell_regrown (show w12.cell? ⟨g1, 12, none⟩ = some (.bool a0_12) from bc_ B1 12 rfl); have q13_ := cell_regrown (show w12.cell? ⟨g1, 13, none⟩ = some (.slice A0_13 l0_13.length c0_13) from bc_ B1 13 rfl)
       refine wp_region_quiet_below (by kernel_rfl) (by kernel_rfl) ?_
       generalize hz : Act.mk _ _ = z
       repeat (first | (refine wpQuiet_skip (by subst hz; rfl) ?_; generalize hy : Act.put _ _ undef = y; subst hz; simp only [q_] at hy; have hz := hy; clear hy) | (refine wpQuiet_step (fun K hK => ?_); subst hz; go_simp; (try simp only [i64_w, i32_w]); first | (generalize hz : Act.mk _ _ = z; refine hK z ?_; clear hK K) | (apply Exists.intro; refine ⟨fun _ => ?_, ?_⟩; (first | (focus ((with_reducible refine Calls.regrown_of (node_Count.calls k a0_0 a0_1 a0_2 a0_3 a0_4 a0_5 a0_6 a0_7 a0_8 a0_9 a0_10 a0_11 a0_12 _ _ l0_13 t110 _ ?side1 ?side2 A14.out)); (case side1 => exact ca_ (Kd.C_below HR0_13.out (hQB _ _))); (case side2 => exact HC0_13.out); done)) | (focus ((with_reducible refine Calls.regrown_of (node_Deep.calls k a0_0 a0_1 a0_2 a0_3 a0_4 a0_5 a0_6 a0_7 a0_8 a0_9 a0_10 a0_11 a0_12 _ _ l0_13 t111 _ ?side1 ?side2 A16.out)); (case side1 => exact ca_ (Kd.C_below HR0_13.out (hQB _ _))); (case side2 => exact HC0_13.out); done)) | (focus ((with_reducible refine Calls.regrown_of (oculusref22_Deep.calls k a0_0 a0_1 a0_2 a0_3 a0_4 a0_5 a0_6 a0_7 a0_8 a0_9 a0_10 a0_11 a0_12 _ _ l0_13 t112 _ ?side1 ?side2 A17.out)); (case side1 => exact ca_ (Kd.C_below HR0_13.out (hQB _ _))); (case side2 => exact HC0_13.out); done))); (try simp only [i64_w, i32_w]); generalize hz : Act.mk _ _ = z; refine hK z ?_; clear hK K)))
       refine wpQuiet_nil ?_
       rintro _ ⟨⟨dq, osq⟩, rfl⟩
       subst hz; have hb0_ := below_regrown w12 dq osq; generalize Go.Sort.grow (redrawn w12 dq) osq = w47 at hb0_ ⊢; have hb : Below w12.drew.heap.size w12.drew w47 := ⟨hb0_.os, hb0_.tape, hb0_.output, hb0_.size, hb0_.block⟩; replace HO106 := A_ (Kd.N_below (by (with_reducible repeat (first | apply Kd.N_alloc | apply Kd.N_drewN | apply Kd.N_drew)); exact HO106.out) hb); replace HO109 := A_ (Kd.N_below (by (with_reducible repeat (first | apply Kd.N_alloc | apply Kd.N_drewN | apply Kd.N_drew)); exact HO109.out) hb); replace B1 := bb_ B1 hb; replace HB := bs_ HB hb
       (try clear hb); (try clear hk); clear hQB hb0_ q0_ q1_ q2_ q3_ q4_ q5_ q6_ q7_ q8_ q9_ q10_ q11_ q12_ q13_
       try go_wp2
       go_meet
       case rel => exact ⟨_, (true), sq_, H', le_, ⟨by (with_reducible repeat (first | apply Kd.N_alloc | apply Kd.N_drewN | apply Kd.N_drew)); exact Kd.N_mono HO106.out (fun _ hk => ⟨hk.2, hk.1⟩)⟩, ⟨by (with_reducible repeat (first | apply Kd.N_alloc | apply Kd.N_drewN | apply Kd.N_drew)); exact HO109.out⟩, ⟨pkx B1⟩, ⟨pbx HB⟩⟩
    ·rw [if_neg c15] at H; have ⟨c15b0,c15b1⟩ := e0_ c15
     have H' := A_ H
     clear H
     try go_wp2
     (try (rw [drewN_self w12]; generalize hq_ : World.drewN w12 _ = w12; have n0_ : Aside0 (Kd.N k28 28 w12 w.heap.size (fun k_ => some k_ ≠ (v108 : Value).ownBlock ∧ k_ ≠ g1) v105 t104) := ⟨by rw [← hq_]; exact (by (with_reducible repeat (first | apply Kd.N_alloc | apply Kd.N_drewN | apply Kd.N_drew)); exact Kd.N_mono HO106.out (fun _ hk => ⟨hk.2, hk.1⟩))⟩; have n1_ : Aside0 (Kd.N k28 28 w12 w.heap.size (fun k_ => some k_ ≠ (v105 : Value).ownBlock ∧ k_ ≠ g1) v108 t107) := ⟨by rw [← hq_]; exact (by (with_reducible repeat (first | apply Kd.N_alloc | apply Kd.N_drewN | apply Kd.N_drew)); exact HO109.out)⟩; have n2_ : Aside0 (w12.heap[g1]? = some (.cells #[.int .i64 a0_0, .int .i64 a0_1, .int .i64 a0_2, .int .i64 a0_3, .string a0_4, .int .i64 a0_5, .int .i64 a0_6, .bool a0_7, .bool a0_8, .int .i64 a0_9, .int .i64 a0_10, .bool a0_11, .bool a0_12, .slice A0_13 l0_13.length c0_13] 28 (0, 0))) := ⟨by rw [← hq_]; exact (pkx B1)⟩; have n3_ : Aside0 (Below w.heap.size w w12) := ⟨by rw [← hq_]; exact (pbx HB)⟩; clear HO106 HO109 B1 HB hq_; have HO106 := n0_; have HO109 := n1_; have B1 := n2_; have HB := n3_; clear n0_ n1_ n2_ n3_))
     replace HO106 := A_ (Kd.N_drew HO106.out); replace HO109 := A_ (Kd.N_drew HO109.out); replace B1 := A_ (blk_drew B1.out); replace HB := A_ (below_drew1 HB.out); obtain ⟨Ao49, co49, eo49⟩ := Kd.N_slice HO106.out; (first | subst eo49 | (injection eo49 with f1_ f2_ f3_; have f4_ := f1_.symm; have f5_ := f3_.symm; clear f1_ f2_ f3_; subst f4_; subst f5_)); obtain ⟨Ao50, co50, eo50⟩ := Kd.N_slice HO109.out; (first | subst eo50 | (injection eo50 with f1_ f2_ f3_; have f4_ := f1_.symm; have f5_ := f3_.symm; clear f1_ f2_ f3_; subst f4_; subst f5_))
     as_aux_lemma =>
      have hQB : ∀ (d : Nat) (os : Array Obj), Below w.heap.size w (Go.Sort.grow (redrawn w12 d) os) := fun d os => below_step (⟨HB.out.os, HB.out.tape, HB.out.output, HB.out.size, HB.out.block⟩ : Below w.heap.size w w12) (below_regrown w12 d os)
      have q0_ := cell_regrown (show w12.cell? ⟨g1, 0, none⟩ = some (.int .i64 a0_0) from bc_ B1 0 rfl); have q1_ := cell_regrown (show w12.cell? ⟨g1, 1, none⟩ = some (.int .i64 a0_1) from bc_ B1 1 rfl); have q2_ := cell_regrown (show w12.cell? ⟨g1, 2, none⟩ = some (.int .i64 a0_2) from bc_ B1 2 rfl); have q3_ := cell_regrown (show w12.cell? ⟨g1, 3, none⟩ = some (.int .i64 a0_3) from bc_ B1 3 rfl); have q4_ := cell_regrown (show w12.cell? ⟨g1, 4, none⟩ = some (.string a0_4) from bc_ B1 4 rfl); have q5_ := cell_regrown (show w12.cell? ⟨g1, 5, none⟩ = some (.int .i64 a0_5) from bc_ B1 5 rfl); have q6_ := cell_regrown (show w12.cell? ⟨g1, 6, none⟩ = some (.int .i64 a0_6) from bc_ B1 6 rfl); have q7_ := cell_regrown (show w12.cell? ⟨g1, 7, none⟩ = some (.bool a0_7) from bc_ B1 7 rfl); have q8_ := cell_regrown (show w12.cell? ⟨g1, 8, none⟩ = some (.bool a0_8) from bc_ B1 8 rfl)
      have q9_ := cell_regrown (show w12.cell? ⟨g1, 9, none⟩ = some (.int .i64 a0_9) from bc_ B1 9 rfl); have q10_ := cell_regrown (show w12.cell? ⟨g1, 10, none⟩ = some (.int .i64 a0_10) from bc_ B1 10 rfl); have q11_ := cell_regrown (show w12.cell? ⟨g1, 11, none⟩ = some (.bool a0_11) from bc_ B1 11 rfl); have q12_ := cell_regrown (show w12.cell? ⟨g1, 12, none⟩ = some (.bool a0_12) from bc_ B1 12 rfl); have q13_ := cell_regrown (show w12.cell? ⟨g1, 13, none⟩ = some (.slice A0_13 l0_13.length c0_13) from bc_ B1 13 rfl)
      refine wp_region_quiet_below (by kernel_rfl) (by kernel_rfl) ?_
      generalize hz : Act.mk _ _ = z
      repeat (first | (refine wpQuiet_skip (by subst hz; rfl) ?_; generalize hy : Act.put _ _ undef = y; subst hz; simp only [q_] at hy; have hz := hy; clear hy) | (refine wpQuiet_step (fun K hK => ?_); subst hz; go_simp; (try simp only [i64_w, i32_w]); first | (generalize hz : Act.mk _ _ = z; refine hK z ?_; clear hK K) | (apply Exists.intro; refine ⟨fun _ => ?_, ?_⟩; (first | (focus ((with_reducible refine Calls.regrown_of (node_Count.calls k a0_0 a0_1 a0_2 a0_3 a0_4 a0_5 a0_6 a0_7 a0_8 a0_9 a0_10 a0_11 a0_12 _ _ l0_13 t110 _ ?side1 ?side2 A14.out)); (case side1 => exact ca_ (Kd.C_below HR0_13.out (hQB _ _))); (case side2 => exact HC0_13.out); done))); (try simp only [i64_w, i32_w]); generalize hz : Act.mk _ _ = z; refine hK z ?_; clear hK K)))
      refine wpQuiet_nil ?_
      rintro _ ⟨⟨dq, osq⟩, rfl⟩
      subst hz; have hb0_ := below_regrown w12 dq osq; generalize Go.Sort.grow (redrawn w12 dq) osq = w51 at hb0_ ⊢; have hb : Below w12.drew.heap.size w12.drew w51 := ⟨hb0_.os, hb0_.tape, hb0_.output, hb0_.size, hb0_.block⟩; replace HO106 := A_ (Kd.N_below (by (with_reducible repeat (first | apply Kd.N_alloc | apply Kd.N_drewN | apply Kd.N_drew)); exact HO106.out) hb); replace HO109 := A_ (Kd.N_below (by (with_reducible repeat (first | apply Kd.N_alloc | apply Kd.N_drewN | apply Kd.N_drew)); exact HO109.out) hb); replace B1 := bb_ B1 hb; replace HB := bs_ HB hb
      (try clear hb); (try clear hk); clear hQB hb0_ q0_ q1_ q2_ q3_ q4_ q5_ q6_ q7_ q8_ q9_ q10_ q11_ q12_ q13_
      try go_wp2
      go_meet
      case rel => exact ⟨_, (true), sq_, H', le_, ⟨by (with_reducible repeat (first | apply Kd.N_alloc | apply Kd.N_drewN | apply Kd.N_drew)); exact Kd.N_mono HO106.out (fun _ hk => ⟨hk.2, hk.1⟩)⟩, ⟨by (with_reducible repeat (first | apply Kd.N_alloc | apply Kd.N_drewN | apply Kd.N_drew)); exact HO109.out⟩, ⟨pkx B1⟩, ⟨pbx HB⟩⟩
   ·rw [if_neg c13] at H; have ⟨c13b0,c13b1⟩ := e0_ c13
    have c13b2 : (t104.length == t107.length) = false := by first | simpa using c13 | (simp at c13 ⊢; omega)
    (first | rw [c13b0] | (simp only [i64_w, i32_w]; rw [c13b0]) | skip)
    have H' := A_ H
    clear H
    try go_wp2
    (try (rw [drewN_self w12]; generalize hq_ : World.drewN w12 _ = w12; have n0_ : Aside0 (Kd.N k28 28 w12 w.heap.size (fun k_ => some k_ ≠ (v108 : Value).ownBlock ∧ k_ ≠ g1) v105 t104) := ⟨by rw [← hq_]; exact (by (with_reducible repeat (first | apply Kd.N_alloc | apply Kd.N_drewN | apply Kd.N_drew)); exact Kd.N_mono HO106.out (fun _ hk => ⟨hk.2, hk.1⟩))⟩; have n1_ : Aside0 (Kd.N k28 28 w12 w.heap.size (fun k_ => some k_ ≠ (v105 : Value).ownBlock ∧ k_ ≠ g1) v108 t107) := ⟨by rw [← hq_]; exact (by (with_reducible repeat (first | apply Kd.N_alloc | apply Kd.N_drewN | apply Kd.N_drew)); exact HO109.out)⟩; have n2_ : Aside0 (w12.heap[g1]? = some (.cells #[.int .i64 a0_0, .int .i64 a0_1, .int .i64 a0_2, .int .i64 a0_3, .string a0_4, .int .i64 a0_5, .int .i64 a0_6, .bool a0_7, .bool a0_8, .int .i64 a0_9, .int .i64 a0_10, .bool a0_11, .bool a0_12, .slice A0_13 l0_13.length c0_13] 28 (0, 0))) := ⟨by rw [← hq_]; exact (pkx B1)⟩; have n3_ : Aside0 (Below w.heap.size w w12) := ⟨by rw [← hq_]; exact (pbx HB)⟩; clear HO106 HO109 B1 HB hq_; have HO106 := n0_; have HO109 := n1_; have B1 := n2_; have HB := n3_; clear n0_ n1_ n2_ n3_))
    replace HO106 := A_ (Kd.N_drew HO106.out); replace HO109 := A_ (Kd.N_drew HO109.out); replace B1 := A_ (blk_drew B1.out); replace HB := A_ (below_drew1 HB.out); obtain ⟨Ao53, co53, eo53⟩ := Kd.N_slice HO106.out; (first | subst eo53 | (injection eo53 with f1_ f2_ f3_; have f4_ := f1_.symm; have f5_ := f3_.symm; clear f1_ f2_ f3_; subst f4_; subst f5_)); obtain ⟨Ao54, co54, eo54⟩ := Kd.N_slice HO109.out; (first | subst eo54 | (injection eo54 with f1_ f2_ f3_; have f4_ := f1_.symm; have f5_ := f3_.symm; clear f1_ f2_ f3_; subst f4_; subst f5_))
    refine start_ (n:=33) (S := fun w' => True) (ds := []) #[F,F,F,F,F,F,F,F,F,F,F,F,F,F,F,F,F,F,F,F,F,F,F,F,F,F,F,F,F,F,F,F,F] (by kernel_rfl) rfl rfl trivial (fun hHeld => ?_); refine with_tabW oculuslaw22_NodeTells.tab4 oculuslaw22_NodeTells.bits4 (fun HT_ HW_ => ?_)
    generalize w12.drew = w52 at HO106 HO109 B1 HB hHeld ⊢; refine pure_ (i:=0) (N:=some 15) (v:=?_) (a':=?_) ⟨m_ 33 1⟩ rfl rfl (ao_ HT_) (fun _ _ _ h=>h) (Or.inl ⟨rfl, ?_⟩) ?_ ?_; rotate_left
    ·intro w'; go_simp; with_reducible rfl
    rotate_left
    ·simp only [q_, i64_w, i32_w]; rfl
    refine pure_ (i:=1) (N:=some 16) (v:=?_) (a':=?_) ⟨m_ 33 3⟩ rfl rfl (ao_ HT_) (fun _ _ _ h=>h) (Or.inl ⟨rfl, ?_⟩) ?_ ?_; rotate_left
    ·intro w'; go_simp; with_reducible rfl
    rotate_left
    ·simp only [q_, i64_w, i32_w]; rfl
    refine pure_ (i:=2) (N:=some 17) (v:=?_) (a':=?_) ⟨m_ 33 7⟩ rfl rfl (ao_ HT_) (fun _ _ _ h=>h) (Or.inl ⟨rfl, ?_⟩) ?_ ?_; rotate_left
    ·intro w'; go_simp; with_reducible rfl
    rotate_left
    ·simp only [q_, i64_w, i32_w]; rfl
    refine pure_ (i:=3) (N:=some 18) (v:=?_) (a':=?_) ⟨m_ 33 15⟩ rfl rfl (ao_ HT_) (fun _ _ _ h=>h) (Or.inl ⟨rfl, ?_⟩) ?_ ?_; rotate_left
    ·intro w'; go_simp; with_reducible rfl
    rotate_left
    ·simp only [q_, i64_w, i32_w]; rfl
    refine pure_ (i:=4) (N:=some 19) (v:=?_) (a':=?_) ⟨m_ 33 31⟩ rfl rfl (ao_ HT_) (fun _ _ _ h=>h) (Or.inl ⟨rfl, ?_⟩) ?_ ?_; rotate_left
    ·intro w'; go_simp; with_reducible rfl
    rotate_left
    ·simp only [q_, i64_w, i32_w]; rfl
    refine pure_ (i:=5) (N:=some 20) (v:=?_) (a':=?_) ⟨m_ 33 63⟩ rfl rfl (ao_ HT_) (fun _ _ _ h=>h) (Or.inl ⟨rfl, ?_⟩) ?_ ?_; rotate_left
    ·intro w'; go_simp; with_reducible rfl
    rotate_left
    ·simp only [q_, i64_w, i32_w]; rfl
    refine pure_ (i:=6) (N:=some 21) (v:=undef) (a':=?_) ⟨m_ 33 127⟩ rfl rfl (ao_ HT_) (fun _ _ _ h=>h) (Or.inr ⟨by rfl, rfl⟩) ?_ ?_; rotate_left
    ·simp only [q_, i64_w, i32_w]; rfl
    refine pure_ (i:=7) (N:=some 22) (v:=undef) (a':=?_) ⟨m_ 33 255⟩ rfl rfl (ao_ HT_) (fun _ _ _ h=>h) (Or.inr ⟨by rfl, rfl⟩) ?_ ?_; rotate_left
    ·simp only [q_, i64_w, i32_w]; rfl
    refine pure_ (i:=8) (N:=some 23) (v:=undef) (a':=?_) ⟨m_ 33 511⟩ rfl rfl (ao_ HT_) (fun _ _ _ h=>h) (Or.inr ⟨by rfl, rfl⟩) ?_ ?_; rotate_left
    ·simp only [q_, i64_w, i32_w]; rfl
    refine pure_ (i:=9) (N:=some 24) (v:=undef) (a':=?_) ⟨m_ 33 1023⟩ rfl rfl (ao_ HT_) (fun _ _ _ h=>h) (Or.inr ⟨by rfl, rfl⟩) ?_ ?_; rotate_left
    ·simp only [q_, i64_w, i32_w]; rfl
    refine pure_ (i:=10) (N:=some 25) (v:=undef) (a':=?_) ⟨m_ 33 2047⟩ rfl rfl (ao_ HT_) (fun _ _ _ h=>h) (Or.inr ⟨by rfl, rfl⟩) ?_ ?_; rotate_left
    ·simp only [q_, i64_w, i32_w]; rfl
    refine pure_ (i:=11) (N:=some 26) (v:=?_) (a':=?_) ⟨m_ 33 4095⟩ rfl rfl (ao_ HT_) (fun _ _ _ h=>h) (Or.inl ⟨rfl, ?_⟩) ?_ ?_; rotate_left
    ·intro w'; go_simp; with_reducible rfl
    rotate_left
    ·simp only [q_, i64_w, i32_w]; rfl
    refine pure_ (i:=12) (N:=some 27) (v:=?_) (a':=?_) ⟨m_ 33 8191⟩ rfl rfl (ao_ HT_) (fun _ _ _ h=>h) (Or.inl ⟨rfl, ?_⟩) ?_ ?_; rotate_left
    ·intro w'; go_simp; with_reducible rfl
    rotate_left
    ·simp only [q_, i64_w, i32_w]; rfl
    refine pure_ (i:=13) (N:=some 28) (v:=undef) (a':=?_) ⟨m_ 33 16383⟩ rfl rfl (ao_ HT_) (fun _ _ _ h=>h) (Or.inr ⟨by rfl, rfl⟩) ?_ ?_; rotate_left
    ·simp only [q_, i64_w, i32_w]; rfl
    refine pure_ (i:=14) (N:=some 29) (v:=undef) (a':=?_) ⟨m_ 33 32767⟩ rfl rfl (ao_ HT_) (fun _ _ _ h=>h) (Or.inr ⟨by rfl, rfl⟩) ?_ ?_; rotate_left
    ·simp only [q_, i64_w, i32_w]; rfl
    refine pure_ (i:=15) (N:=some 30) (v:=undef) (a':=?_) ⟨m_ 33 65535⟩ rfl rfl (ao_ HT_) (fun _ _ _ h=>h) (Or.inr ⟨by rfl, rfl⟩) ?_ ?_; rotate_left
    ·simp only [q_, i64_w, i32_w]; rfl
    refine pure_ (i:=16) (N:=some 31) (v:=undef) (a':=?_) ⟨m_ 33 131071⟩ rfl rfl (ao_ HT_) (fun _ _ _ h=>h) (Or.inr ⟨by rfl, rfl⟩) ?_ ?_; rotate_left
    ·simp only [q_, i64_w, i32_w]; rfl
    refine pure_ (i:=17) (N:=some 32) (v:=undef) (a':=?_) ⟨m_ 33 262143⟩ rfl rfl (ao_ HT_) (fun _ _ _ h=>h) (Or.inr ⟨by rfl, rfl⟩) ?_ ?_; rotate_left
    ·simp only [q_, i64_w, i32_w]; rfl
    refine pure_ (i:=18) (N:=some 33) (v:=?_) (a':=?_) ⟨m_ 33 524287⟩ rfl rfl (ao_ HT_) (fun _ _ _ h=>h) (Or.inl ⟨rfl, ?_⟩) ?_ ?_; rotate_left
    ·intro w'; go_simp; with_reducible rfl
    rotate_left
    ·simp only [q_, i64_w, i32_w]; rfl
    refine pure_ (i:=19) (N:=some 34) (v:=?_) (a':=?_) ⟨m_ 33 1048575⟩ rfl rfl (ao_ HT_) (fun _ _ _ h=>h) (Or.inl ⟨rfl, ?_⟩) ?_ ?_; rotate_left
    ·intro w'; go_simp; with_reducible rfl
    rotate_left
    ·simp only [q_, i64_w, i32_w]; rfl
    refine pure_ (i:=20) (N:=some 35) (v:=undef) (a':=?_) ⟨m_ 33 2097151⟩ rfl rfl (ao_ HT_) (fun _ _ _ h=>h) (Or.inr ⟨by rfl, rfl⟩) ?_ ?_; rotate_left
    ·simp only [q_, i64_w, i32_w]; rfl
    refine pure_ (i:=21) (N:=some 36) (v:=undef) (a':=?_) ⟨m_ 33 4194303⟩ rfl rfl (ao_ HT_) (fun _ _ _ h=>h) (Or.inr ⟨by rfl, rfl⟩) ?_ ?_; rotate_left
    ·simp only [q_, i64_w, i32_w]; rfl
    refine pure_ (i:=22) (N:=some 37) (v:=undef) (a':=?_) ⟨m_ 33 8388607⟩ rfl rfl (ao_ HT_) (fun _ _ _ h=>h) (Or.inr ⟨by rfl, rfl⟩) ?_ ?_; rotate_left
    ·simp only [q_, i64_w, i32_w]; rfl
    refine pure_ (i:=23) (N:=some 38) (v:=undef) (a':=?_) ⟨m_ 33 16777215⟩ rfl rfl (ao_ HT_) (fun _ _ _ h=>h) (Or.inr ⟨by rfl, rfl⟩) ?_ ?_; rotate_left
    ·simp only [q_, i64_w, i32_w]; rfl
    refine pure_ (i:=24) (N:=some 39) (v:=undef) (a':=?_) ⟨m_ 33 33554431⟩ rfl rfl (ao_ HT_) (fun _ _ _ h=>h) (Or.inr ⟨by rfl, rfl⟩) ?_ ?_; rotate_left
    ·simp only [q_, i64_w, i32_w]; rfl
    refine pure_ (i:=25) (N:=some 40) (v:=?_) (a':=?_) ⟨m_ 33 67108863⟩ rfl rfl (ao_ HT_) (fun _ _ _ h=>h) (Or.inl ⟨rfl, ?_⟩) ?_ ?_; rotate_left
    ·intro w'; go_simp; with_reducible rfl
    rotate_left
    ·simp only [q_, i64_w, i32_w]; rfl
    refine pure_ (i:=26) (N:=some 41) (v:=?_) (a':=?_) ⟨m_ 33 134217727⟩ rfl rfl (ao_ HT_) (fun _ _ _ h=>h) (Or.inl ⟨rfl, ?_⟩) ?_ ?_; rotate_left
    ·intro w'; go_simp; with_reducible rfl
    rotate_left
    ·simp only [q_, i64_w, i32_w]; rfl
    refine pure_ (i:=27) (N:=some 42) (v:=undef) (a':=?_) ⟨m_ 33 268435455⟩ rfl rfl (ao_ HT_) (fun _ _ _ h=>h) (Or.inr ⟨by rfl, rfl⟩) ?_ ?_; rotate_left
    ·simp only [q_, i64_w, i32_w]; rfl
    refine pure_ (i:=28) (N:=some 43) (v:=undef) (a':=?_) ⟨m_ 33 536870911⟩ rfl rfl (ao_ HT_) (fun _ _ _ h=>h) (Or.inr ⟨by rfl, rfl⟩) ?_ ?_; rotate_left
    ·simp only [q_, i64_w, i32_w]; rfl
    refine pure_ (i:=29) (N:=some 44) (v:=undef) (a':=?_) ⟨m_ 33 1073741823⟩ rfl rfl (ao_ HT_) (fun _ _ _ h=>h) (Or.inr ⟨by rfl, rfl⟩) ?_ ?_; rotate_left
    ·simp only [q_, i64_w, i32_w]; rfl
    refine pure_ (i:=30) (N:=some 45) (v:=undef) (a':=?_) ⟨m_ 33 2147483647⟩ rfl rfl (ao_ HT_) (fun _ _ _ h=>h) (Or.inr ⟨by rfl, rfl⟩) ?_ ?_; rotate_left
    ·simp only [q_, i64_w, i32_w]; rfl
    refine pure_ (i:=31) (N:=some 46) (v:=undef) (a':=?_) ⟨m_ 33 4294967295⟩ rfl rfl (ao_ HT_) (fun _ _ _ h=>h) (Or.inr ⟨by rfl, rfl⟩) ?_ ?_; rotate_left
    ·simp only [q_, i64_w, i32_w]; rfl
    refine pure_ (i:=32) (N:=some 47) (v:=?_) (a':=?_) ⟨m_ 33 8589934591⟩ rfl rfl (ao_ HT_) (fun _ _ _ h=>h) (Or.inl ⟨rfl, ?_⟩) ?_ ?_; rotate_left
    ·intro w'; go_simp; with_reducible rfl
    rotate_left
    ·simp only [q_, i64_w, i32_w]; rfl
    refine done_ (done_of HT_.out (by kernel_rfl)) ?_
    try go_wp2
    go_meet
    case rel => exact ⟨_, (true), sq_, H', le_, ⟨by (with_reducible repeat (first | apply Kd.N_alloc | apply Kd.N_drewN | apply Kd.N_drew)); exact Kd.N_mono HO106.out (fun _ hk => ⟨hk.2, hk.1⟩)⟩, ⟨by (with_reducible repeat (first | apply Kd.N_alloc | apply Kd.N_drewN | apply Kd.N_drew)); exact HO109.out⟩, ⟨pkx B1⟩, ⟨pbx HB⟩⟩
  case rest =>
   clear HC6; obtain ⟨kq, x47_5, rfl, HA, HJ5, HO_3, HO_4, B1, HB⟩ := hcut
   cases kq with
   | zero => exact absurd HA.out (by simp [oculuslaw22_NodeTells.j0])
   | succ kj5 =>
    have H := HA.out; clear HA
    simp only [oculuslaw22_NodeTells.j0] at H
    replace H := ib_ H; rcases H with ⟨rfl,H⟩|⟨rfl,H⟩
    ·exact absurd H (by simp)
    ·have H' := A_ H
     clear H; obtain ⟨Ao56, co56, eo56⟩ := Kd.N_slice HO_3.out; subst eo56
     go_wp2
     go_loopg [50] kj5 (fun kq v50 w' => ∃ (x50_2 : Int), v50 = .int .i64 x50_2 ∧ Aside0 (oculuslaw22_NodeTells.l0 kq t107 t104 (t104.length : Int) x50_2 = some r) ∧ Aside0 (kq ≤ kj5) ∧ Aside0 (Kd.N k28 28 w' w.heap.size (fun k_ => some k_ ≠ ((.slice Ao56 t104.length co56) : Value).ownBlock ∧ k_ ≠ g1) v108 t107) ∧ Aside0 (Kd.N k28 28 w' w.heap.size (fun k_ => some k_ ≠ (v108 : Value).ownBlock ∧ k_ ≠ g1) (.slice Ao56 t104.length co56) t104) ∧ Aside0 (w'.heap[g1]? = some (.cells #[.int .i64 a0_0, .int .i64 a0_1, .int .i64 a0_2, .int .i64 a0_3, .string a0_4, .int .i64 a0_5, .int .i64 a0_6, .bool a0_7, .bool a0_8, .int .i64 a0_9, .int .i64 a0_10, .bool a0_11, .bool a0_12, (.slice A0_13 l0_13.length c0_13)] 28 (0, 0))) ∧ Aside0 (Below w.heap.size w w'))
     case atStart => exact ⟨(0), sq_, H', ⟨Nat.le_refl _⟩, ⟨by (with_reducible repeat (first | apply Kd.N_alloc | apply Kd.N_drewN | apply Kd.N_drew)); exact HO_4.out⟩, ⟨by (with_reducible repeat (first | apply Kd.N_alloc | apply Kd.N_drewN | apply Kd.N_drew)); exact HO_3.out⟩, ⟨pkx B1⟩, ⟨pbx HB⟩⟩
     case round =>
      clear H'; (try clear c55); obtain ⟨x50_2, rfl, HA, HK2, HO_4, HO_48, B1, HB⟩ := hrel
      cases gk with
      | zero => exact absurd HA.out (by simp [oculuslaw22_NodeTells.l0])
      | succ k2 =>
       have H := HA.out; clear HA
       simp only [oculuslaw22_NodeTells.l0] at H
       by_cases c57 : x50_2 < (t104.length : Int)
       ·rw [if_pos c57] at H; have c57b0 := decide_eq_true c57; clear c57
        by_cases c58 : 0 ≤ x50_2
        ·rw [if_pos c58] at H; have c58b0 := decide_eq_true c58; clear c58
         by_cases c59 : x50_2 < (t104.length : Int)
         ·rw [if_pos c59] at H; have c59b0 := decide_eq_true c59; clear c59
          by_cases c60 : x50_2 < (t107.length : Int)
          ·rw [if_pos c60] at H; have c60b0 := decide_eq_true c60; clear c60; obtain ⟨t120, A61, H⟩ := bo_ H
           replace H := ib_ H; rcases H with ⟨rfl,H⟩|⟨rfl,H⟩
           ·have H' := A_ H
            clear H
            have p117 : 0 ≤ (x50_2 : Int) := of_decide_eq_true as_
            have q117 : x50_2 < (t104.length : Int) := of_decide_eq_true as_
            obtain ⟨ad117, A117_13, c117_13, e117, hx117_0, hx117_1, hx117_2, hx117_3, hx117_4, hx117_5, hx117_6, hx117_7, hx117_8, hx117_9, hx117_10, hx117_11, hx117_12, hx117_13, hl117_13, hi117_13⟩ := at_T28 (Kd.N_reads' HO_48.out).2.2 x50_2 p117 q117
            cases e117
            obtain ⟨ce117, hce117, hMe117, hcc117⟩ := Kd.N_get HO_48.out z28 x50_2 p117 (by first | exact q117 | exact of_decide_eq_true as_ | (have e_ := (Kd.N_reads' HO_48.out).1; omega)); obtain ⟨ua117_13, uc117_13, rfl, ul117_13, ge117_13⟩ := k28_openF hMe117; have hv117_13 := hcc117 13 _ rfl; rw [add_field _ _ 13 (by omega)] at hv117_13; replace hv117_13 := Option.some.inj (hv117_13.symm.trans hx117_13)
            injection hv117_13 with hva_ hvn_ hvc_
            rw [hva_] at ge117_13; rw [hvc_] at ul117_13; have HL117_13 := A_ (show Kd.V k28 28 _ w.heap.size _ _ ((rd_T28 t104 x50_2).f5) from Kd.V_mk ul117_13 ge117_13); clear hva_ hvn_ hvc_ ge117_13 ul117_13; clear hcc117 hce117; have HR117_13 := A_ hi117_13; have HC117_13 := A_ hl117_13; clear hi117_13 hl117_13; replace p117 := eq_true p117; replace q117 := eq_true q117
            try go_wp2_with (first | ((with_reducible refine gd_ 6 ?_); (try (refine gate_guard (by rfl) ?_; dsimp only)); refine be_ (N:=6) (cs := #[.int .i64 0, .int .i64 0, .int .i64 0, .int .i64 0, .string (⟨#[]⟩ : ByteArray), .int .i64 0, .int .i64 0, .bool false, .bool false, .int .i64 0, .int .i64 0, .bool false, .bool false, .slice none 0 0]) (t:=28) ?_; intro gb118 hg w63 hbox hb; have BK118 := A_ (hbox); have GW118 := hs_ HB hg; have GE118 := hs_ HB hg; have NB101_118 := hl_ B1 hg; have NB118_101 := hr_ B1 hg; replace HO_4 := A_ (Kd.N_below (Kd.N_elderB (by (with_reducible repeat (first | apply Kd.N_alloc | apply Kd.N_drewN | apply Kd.N_drew)); exact HO_4.out) gb118 (Nat.le_of_eq hg.symm)) hb); replace HO_48 := A_ (Kd.N_below (Kd.N_elderB (by (with_reducible repeat (first | apply Kd.N_alloc | apply Kd.N_drewN | apply Kd.N_drew)); exact HO_48.out) gb118 (Nat.le_of_eq hg.symm)) hb); replace HL117_13 := A_ (Kd.V_below (Kd.V_elderB (by (with_reducible repeat (first | apply Kd.V_alloc | apply Kd.V_drewN | apply Kd.V_drew)); exact HL117_13.out) gb118 (Nat.le_of_eq hg.symm)) hb); replace B1 := bb_ B1 hb; replace HR117_13 := A_ (Kd.C_below (by repeat (first | (with_reducible exact HR117_13.out) | (with_reducible refine Kd.C_alloc ?_ _) | (with_reducible refine Kd.C_drewN ?_ _) | (with_reducible refine Kd.C_drew ?_) | exact HR117_13.out)) hb); replace HB := bs_ HB hb; clear hb hbox hg; have hnb64 := NB118_101.out; have hnc64 := NB101_118.out; have hcz65_0 : w63.cell? ⟨gb118, 0, none⟩ = some (.int .i64 0) := bc_ BK118 0 rfl; have hcz65_1 : w63.cell? ⟨gb118, 1, none⟩ = some (.int .i64 0) := bc_ BK118 1 rfl; have hcz65_2 : w63.cell? ⟨gb118, 2, none⟩ = some (.int .i64 0) := bc_ BK118 2 rfl; have hcz65_3 : w63.cell? ⟨gb118, 3, none⟩ = some (.int .i64 0) := bc_ BK118 3 rfl; have hcz65_4 : w63.cell? ⟨gb118, 4, none⟩ = some (.string (⟨#[]⟩ : ByteArray)) := bc_ BK118 4 rfl; have hcz65_5 : w63.cell? ⟨gb118, 5, none⟩ = some (.int .i64 0) := bc_ BK118 5 rfl; have hcz65_6 : w63.cell? ⟨gb118, 6, none⟩ = some (.int .i64 0) := bc_ BK118 6 rfl; have hcz65_7 : w63.cell? ⟨gb118, 7, none⟩ = some (.bool false) := bc_ BK118 7 rfl; have hcz65_8 : w63.cell? ⟨gb118, 8, none⟩ = some (.bool false) := bc_ BK118 8 rfl; have hcz65_9 : w63.cell? ⟨gb118, 9, none⟩ = some (.int .i64 0) := bc_ BK118 9 rfl; have hcz65_10 : w63.cell? ⟨gb118, 10, none⟩ = some (.int .i64 0) := bc_ BK118 10 rfl; have hcz65_11 : w63.cell? ⟨gb118, 11, none⟩ = some (.bool false) := bc_ BK118 11 rfl; have hcz65_12 : w63.cell? ⟨gb118, 12, none⟩ = some (.bool false) := bc_ BK118 12 rfl; have hcz65_13 : w63.cell? ⟨gb118, 13, none⟩ = some (.slice none 0 0) := bc_ BK118 13 rfl; have hfz65_0 := blk_frozen BK118.out 0; have hfz65_1 := blk_frozen BK118.out 1; have hfz65_2 := blk_frozen BK118.out 2; have hfz65_3 := blk_frozen BK118.out 3; have hfz65_4 := blk_frozen BK118.out 4; have hfz65_5 := blk_frozen BK118.out 5; have hfz65_6 := blk_frozen BK118.out 6; have hfz65_7 := blk_frozen BK118.out 7; have hfz65_8 := blk_frozen BK118.out 8; have hfz65_9 := blk_frozen BK118.out 9; have hfz65_10 := blk_frozen BK118.out 10; have hfz65_11 := blk_frozen BK118.out 11; have hfz65_12 := blk_frozen BK118.out 12; have hfz65_13 := blk_frozen BK118.out 13))
            have n0_ : Aside0 (Kd.N k28 28 ((((((((((((((w63.setCell ⟨gb118, 0, none⟩ (.int .i64 ((rd_T28 t104 x50_2).f0))).setCell ⟨gb118, 1, none⟩ (.int .i64 ((rd_T28 t104 x50_2).f1))).setCell ⟨gb118, 2, none⟩ (.int .i64 ((rd_T28 t104 x50_2).f2.f0))).setCell ⟨gb118, 3, none⟩ (.int .i64 ((rd_T28 t104 x50_2).f2.f1))).setCell ⟨gb118, 4, none⟩ (.string ((rd_T28 t104 x50_2).f2.f2))).setCell ⟨gb118, 5, none⟩ (.int .i64 ((rd_T28 t104 x50_2).f3.f0))).setCell ⟨gb118, 6, none⟩ (.int .i64 ((rd_T28 t104 x50_2).f3.f1))).setCell ⟨gb118, 7, none⟩ (.bool ((rd_T28 t104 x50_2).f3.f2))).setCell ⟨gb118, 8, none⟩ (.bool ((rd_T28 t104 x50_2).f3.f3))).setCell ⟨gb118, 9, none⟩ (.int .i64 ((rd_T28 t104 x50_2).f4.f0))).setCell ⟨gb118, 10, none⟩ (.int .i64 ((rd_T28 t104 x50_2).f4.f1))).setCell ⟨gb118, 11, none⟩ (.bool ((rd_T28 t104 x50_2).f4.f2))).setCell ⟨gb118, 12, none⟩ (.bool ((rd_T28 t104 x50_2).f4.f3))).setCell ⟨gb118, 13, none⟩ (.slice A117_13 ((rd_T28 t104 x50_2).f5).length c117_13)) w.heap.size (fun k_ => some k_ ≠ (.slice (some ad117) t104.length co56 : Value).ownBlock ∧ k_ ≠ g1 ∧ k_ ≠ gb118) v108 t107) := ⟨by (with_reducible repeat (first | apply Kd.N_alloc | apply Kd.N_drewN | apply Kd.N_drew)); exact Kd.N_mono (Kd.N_far (p := ⟨gb118, 13, none⟩) (Kd.N_far (p := ⟨gb118, 12, none⟩) (Kd.N_far (p := ⟨gb118, 11, none⟩) (Kd.N_far (p := ⟨gb118, 10, none⟩) (Kd.N_far (p := ⟨gb118, 9, none⟩) (Kd.N_far (p := ⟨gb118, 8, none⟩) (Kd.N_far (p := ⟨gb118, 7, none⟩) (Kd.N_far (p := ⟨gb118, 6, none⟩) (Kd.N_far (p := ⟨gb118, 5, none⟩) (Kd.N_far (p := ⟨gb118, 4, none⟩) (Kd.N_far (p := ⟨gb118, 3, none⟩) (Kd.N_far (p := ⟨gb118, 2, none⟩) (Kd.N_far (p := ⟨gb118, 1, none⟩) (Kd.N_far (p := ⟨gb118, 0, none⟩) (Kd.N_mono HO_4.out (fun k_ hk => (⟨hk, hk.2⟩ : _ ∧ k_ ≠ gb118))) (fun _ hk => hk.2) (.int .i64 ((rd_T28 t104 x50_2).f0))) (fun _ hk => hk.2) (.int .i64 ((rd_T28 t104 x50_2).f1))) (fun _ hk => hk.2) (.int .i64 ((rd_T28 t104 x50_2).f2.f0))) (fun _ hk => hk.2) (.int .i64 ((rd_T28 t104 x50_2).f2.f1))) (fun _ hk => hk.2) (.string ((rd_T28 t104 x50_2).f2.f2))) (fun _ hk => hk.2) (.int .i64 ((rd_T28 t104 x50_2).f3.f0))) (fun _ hk => hk.2) (.int .i64 ((rd_T28 t104 x50_2).f3.f1))) (fun _ hk => hk.2) (.bool ((rd_T28 t104 x50_2).f3.f2))) (fun _ hk => hk.2) (.bool ((rd_T28 t104 x50_2).f3.f3))) (fun _ hk => hk.2) (.int .i64 ((rd_T28 t104 x50_2).f4.f0))) (fun _ hk => hk.2) (.int .i64 ((rd_T28 t104 x50_2).f4.f1))) (fun _ hk => hk.2) (.bool ((rd_T28 t104 x50_2).f4.f2))) (fun _ hk => hk.2) (.bool ((rd_T28 t104 x50_2).f4.f3))) (fun _ hk => hk.2) (.slice A117_13 ((rd_T28 t104 x50_2).f5).length c117_13)) (fun _ hk => ⟨hk.1.1.1, ⟨hk.1.1.2, hk.1.2⟩⟩)⟩
            have n1_ : Aside0 (Kd.N k28 28 ((((((((((((((w63.setCell ⟨gb118, 0, none⟩ (.int .i64 ((rd_T28 t104 x50_2).f0))).setCell ⟨gb118, 1, none⟩ (.int .i64 ((rd_T28 t104 x50_2).f1))).setCell ⟨gb118, 2, none⟩ (.int .i64 ((rd_T28 t104 x50_2).f2.f0))).setCell ⟨gb118, 3, none⟩ (.int .i64 ((rd_T28 t104 x50_2).f2.f1))).setCell ⟨gb118, 4, none⟩ (.string ((rd_T28 t104 x50_2).f2.f2))).setCell ⟨gb118, 5, none⟩ (.int .i64 ((rd_T28 t104 x50_2).f3.f0))).setCell ⟨gb118, 6, none⟩ (.int .i64 ((rd_T28 t104 x50_2).f3.f1))).setCell ⟨gb118, 7, none⟩ (.bool ((rd_T28 t104 x50_2).f3.f2))).setCell ⟨gb118, 8, none⟩ (.bool ((rd_T28 t104 x50_2).f3.f3))).setCell ⟨gb118, 9, none⟩ (.int .i64 ((rd_T28 t104 x50_2).f4.f0))).setCell ⟨gb118, 10, none⟩ (.int .i64 ((rd_T28 t104 x50_2).f4.f1))).setCell ⟨gb118, 11, none⟩ (.bool ((rd_T28 t104 x50_2).f4.f2))).setCell ⟨gb118, 12, none⟩ (.bool ((rd_T28 t104 x50_2).f4.f3))).setCell ⟨gb118, 13, none⟩ (.slice A117_13 ((rd_T28 t104 x50_2).f5).length c117_13)) w.heap.size (fun k_ => some k_ ≠ (v108 : Value).ownBlock ∧ k_ ≠ g1 ∧ k_ ≠ gb118) (.slice (some ad117) t104.length co56) t104) := ⟨by (with_reducible repeat (first | apply Kd.N_alloc | apply Kd.N_drewN | apply Kd.N_drew)); exact Kd.N_mono (Kd.N_far (p := ⟨gb118, 13, none⟩) (Kd.N_far (p := ⟨gb118, 12, none⟩) (Kd.N_far (p := ⟨gb118, 11, none⟩) (Kd.N_far (p := ⟨gb118, 10, none⟩) (Kd.N_far (p := ⟨gb118, 9, none⟩) (Kd.N_far (p := ⟨gb118, 8, none⟩) (Kd.N_far (p := ⟨gb118, 7, none⟩) (Kd.N_far (p := ⟨gb118, 6, none⟩) (Kd.N_far (p := ⟨gb118, 5, none⟩) (Kd.N_far (p := ⟨gb118, 4, none⟩) (Kd.N_far (p := ⟨gb118, 3, none⟩) (Kd.N_far (p := ⟨gb118, 2, none⟩) (Kd.N_far (p := ⟨gb118, 1, none⟩) (Kd.N_far (p := ⟨gb118, 0, none⟩) (Kd.N_mono HO_48.out (fun k_ hk => (⟨hk, hk.2⟩ : _ ∧ k_ ≠ gb118))) (fun _ hk => hk.2) (.int .i64 ((rd_T28 t104 x50_2).f0))) (fun _ hk => hk.2) (.int .i64 ((rd_T28 t104 x50_2).f1))) (fun _ hk => hk.2) (.int .i64 ((rd_T28 t104 x50_2).f2.f0))) (fun _ hk => hk.2) (.int .i64 ((rd_T28 t104 x50_2).f2.f1))) (fun _ hk => hk.2) (.string ((rd_T28 t104 x50_2).f2.f2))) (fun _ hk => hk.2) (.int .i64 ((rd_T28 t104 x50_2).f3.f0))) (fun _ hk => hk.2) (.int .i64 ((rd_T28 t104 x50_2).f3.f1))) (fun _ hk => hk.2) (.bool ((rd_T28 t104 x50_2).f3.f2))) (fun _ hk => hk.2) (.bool ((rd_T28 t104 x50_2).f3.f3))) (fun _ hk => hk.2) (.int .i64 ((rd_T28 t104 x50_2).f4.f0))) (fun _ hk => hk.2) (.int .i64 ((rd_T28 t104 x50_2).f4.f1))) (fun _ hk => hk.2) (.bool ((rd_T28 t104 x50_2).f4.f2))) (fun _ hk => hk.2) (.bool ((rd_T28 t104 x50_2).f4.f3))) (fun _ hk => hk.2) (.slice A117_13 ((rd_T28 t104 x50_2).f5).length c117_13)) (fun _ hk => ⟨hk.1.1.1, ⟨hk.1.1.2, hk.1.2⟩⟩)⟩
            have n2_ : Aside0 (Kd.V k28 28 ((((((((((((((w63.setCell ⟨gb118, 0, none⟩ (.int .i64 ((rd_T28 t104 x50_2).f0))).setCell ⟨gb118, 1, none⟩ (.int .i64 ((rd_T28 t104 x50_2).f1))).setCell ⟨gb118, 2, none⟩ (.int .i64 ((rd_T28 t104 x50_2).f2.f0))).setCell ⟨gb118, 3, none⟩ (.int .i64 ((rd_T28 t104 x50_2).f2.f1))).setCell ⟨gb118, 4, none⟩ (.string ((rd_T28 t104 x50_2).f2.f2))).setCell ⟨gb118, 5, none⟩ (.int .i64 ((rd_T28 t104 x50_2).f3.f0))).setCell ⟨gb118, 6, none⟩ (.int .i64 ((rd_T28 t104 x50_2).f3.f1))).setCell ⟨gb118, 7, none⟩ (.bool ((rd_T28 t104 x50_2).f3.f2))).setCell ⟨gb118, 8, none⟩ (.bool ((rd_T28 t104 x50_2).f3.f3))).setCell ⟨gb118, 9, none⟩ (.int .i64 ((rd_T28 t104 x50_2).f4.f0))).setCell ⟨gb118, 10, none⟩ (.int .i64 ((rd_T28 t104 x50_2).f4.f1))).setCell ⟨gb118, 11, none⟩ (.bool ((rd_T28 t104 x50_2).f4.f2))).setCell ⟨gb118, 12, none⟩ (.bool ((rd_T28 t104 x50_2).f4.f3))).setCell ⟨gb118, 13, none⟩ (.slice A117_13 ((rd_T28 t104 x50_2).f5).length c117_13)) w.heap.size (fun k_ => some k_ ≠ (v108 : Value).ownBlock ∧ some k_ ≠ (.slice (some ad117) t104.length co56 : Value).ownBlock ∧ k_ ≠ g1 ∧ k_ ≠ gb118) (.slice A117_13 ((rd_T28 t104 x50_2).f5).length c117_13) ((rd_T28 t104 x50_2).f5)) := ⟨by (with_reducible repeat (first | apply Kd.V_alloc | apply Kd.V_drewN | apply Kd.V_drew)); exact Kd.V_mono (Kd.V_far (p := ⟨gb118, 13, none⟩) (Kd.V_far (p := ⟨gb118, 12, none⟩) (Kd.V_far (p := ⟨gb118, 11, none⟩) (Kd.V_far (p := ⟨gb118, 10, none⟩) (Kd.V_far (p := ⟨gb118, 9, none⟩) (Kd.V_far (p := ⟨gb118, 8, none⟩) (Kd.V_far (p := ⟨gb118, 7, none⟩) (Kd.V_far (p := ⟨gb118, 6, none⟩) (Kd.V_far (p := ⟨gb118, 5, none⟩) (Kd.V_far (p := ⟨gb118, 4, none⟩) (Kd.V_far (p := ⟨gb118, 3, none⟩) (Kd.V_far (p := ⟨gb118, 2, none⟩) (Kd.V_far (p := ⟨gb118, 1, none⟩) (Kd.V_far (p := ⟨gb118, 0, none⟩) (Kd.V_mono HL117_13.out (fun k_ hk => (⟨hk, hk.2⟩ : _ ∧ k_ ≠ gb118))) (fun _ hk => hk.2) (.int .i64 ((rd_T28 t104 x50_2).f0))) (fun _ hk => hk.2) (.int .i64 ((rd_T28 t104 x50_2).f1))) (fun _ hk => hk.2) (.int .i64 ((rd_T28 t104 x50_2).f2.f0))) (fun _ hk => hk.2) (.int .i64 ((rd_T28 t104 x50_2).f2.f1))) (fun _ hk => hk.2) (.string ((rd_T28 t104 x50_2).f2.f2))) (fun _ hk => hk.2) (.int .i64 ((rd_T28 t104 x50_2).f3.f0))) (fun _ hk => hk.2) (.int .i64 ((rd_T28 t104 x50_2).f3.f1))) (fun _ hk => hk.2) (.bool ((rd_T28 t104 x50_2).f3.f2))) (fun _ hk => hk.2) (.bool ((rd_T28 t104 x50_2).f3.f3))) (fun _ hk => hk.2) (.int .i64 ((rd_T28 t104 x50_2).f4.f0))) (fun _ hk => hk.2) (.int .i64 ((rd_T28 t104 x50_2).f4.f1))) (fun _ hk => hk.2) (.bool ((rd_T28 t104 x50_2).f4.f2))) (fun _ hk => hk.2) (.bool ((rd_T28 t104 x50_2).f4.f3))) (fun _ hk => hk.2) (.slice A117_13 ((rd_T28 t104 x50_2).f5).length c117_13)) (fun _ hk => ⟨hk.1.1.1.1, ⟨hk.1.1.2, ⟨hk.1.1.1.2, hk.1.2⟩⟩⟩)⟩
            have n3_ : Aside0 (((((((((((((((w63.setCell ⟨gb118, 0, none⟩ (.int .i64 ((rd_T28 t104 x50_2).f0))).setCell ⟨gb118, 1, none⟩ (.int .i64 ((rd_T28 t104 x50_2).f1))).setCell ⟨gb118, 2, none⟩ (.int .i64 ((rd_T28 t104 x50_2).f2.f0))).setCell ⟨gb118, 3, none⟩ (.int .i64 ((rd_T28 t104 x50_2).f2.f1))).setCell ⟨gb118, 4, none⟩ (.string ((rd_T28 t104 x50_2).f2.f2))).setCell ⟨gb118, 5, none⟩ (.int .i64 ((rd_T28 t104 x50_2).f3.f0))).setCell ⟨gb118, 6, none⟩ (.int .i64 ((rd_T28 t104 x50_2).f3.f1))).setCell ⟨gb118, 7, none⟩ (.bool ((rd_T28 t104 x50_2).f3.f2))).setCell ⟨gb118, 8, none⟩ (.bool ((rd_T28 t104 x50_2).f3.f3))).setCell ⟨gb118, 9, none⟩ (.int .i64 ((rd_T28 t104 x50_2).f4.f0))).setCell ⟨gb118, 10, none⟩ (.int .i64 ((rd_T28 t104 x50_2).f4.f1))).setCell ⟨gb118, 11, none⟩ (.bool ((rd_T28 t104 x50_2).f4.f2))).setCell ⟨gb118, 12, none⟩ (.bool ((rd_T28 t104 x50_2).f4.f3))).setCell ⟨gb118, 13, none⟩ (.slice A117_13 ((rd_T28 t104 x50_2).f5).length c117_13)).heap[g1]? = some (.cells #[.int .i64 a0_0, .int .i64 a0_1, .int .i64 a0_2, .int .i64 a0_3, .string a0_4, .int .i64 a0_5, .int .i64 a0_6, .bool a0_7, .bool a0_8, .int .i64 a0_9, .int .i64 a0_10, .bool a0_11, .bool a0_12, .slice A0_13 l0_13.length c0_13] 28 (0, 0))) := ⟨by (iterate 14 refine pf_ ?_ NB101_118.out); exact pkx B1⟩
            have n4_ : Aside0 (((((((((((((((w63.setCell ⟨gb118, 0, none⟩ (.int .i64 ((rd_T28 t104 x50_2).f0))).setCell ⟨gb118, 1, none⟩ (.int .i64 ((rd_T28 t104 x50_2).f1))).setCell ⟨gb118, 2, none⟩ (.int .i64 ((rd_T28 t104 x50_2).f2.f0))).setCell ⟨gb118, 3, none⟩ (.int .i64 ((rd_T28 t104 x50_2).f2.f1))).setCell ⟨gb118, 4, none⟩ (.string ((rd_T28 t104 x50_2).f2.f2))).setCell ⟨gb118, 5, none⟩ (.int .i64 ((rd_T28 t104 x50_2).f3.f0))).setCell ⟨gb118, 6, none⟩ (.int .i64 ((rd_T28 t104 x50_2).f3.f1))).setCell ⟨gb118, 7, none⟩ (.bool ((rd_T28 t104 x50_2).f3.f2))).setCell ⟨gb118, 8, none⟩ (.bool ((rd_T28 t104 x50_2).f3.f3))).setCell ⟨gb118, 9, none⟩ (.int .i64 ((rd_T28 t104 x50_2).f4.f0))).setCell ⟨gb118, 10, none⟩ (.int .i64 ((rd_T28 t104 x50_2).f4.f1))).setCell ⟨gb118, 11, none⟩ (.bool ((rd_T28 t104 x50_2).f4.f2))).setCell ⟨gb118, 12, none⟩ (.bool ((rd_T28 t104 x50_2).f4.f3))).setCell ⟨gb118, 13, none⟩ (.slice A117_13 ((rd_T28 t104 x50_2).f5).length c117_13)).heap[gb118]? = some (.cells #[.int .i64 ((rd_T28 t104 x50_2).f0), .int .i64 ((rd_T28 t104 x50_2).f1), .int .i64 ((rd_T28 t104 x50_2).f2.f0), .int .i64 ((rd_T28 t104 x50_2).f2.f1), .string ((rd_T28 t104 x50_2).f2.f2), .int .i64 ((rd_T28 t104 x50_2).f3.f0), .int .i64 ((rd_T28 t104 x50_2).f3.f1), .bool ((rd_T28 t104 x50_2).f3.f2), .bool ((rd_T28 t104 x50_2).f3.f3), .int .i64 ((rd_T28 t104 x50_2).f4.f0), .int .i64 ((rd_T28 t104 x50_2).f4.f1), .bool ((rd_T28 t104 x50_2).f4.f2), .bool ((rd_T28 t104 x50_2).f4.f3), .slice A117_13 ((rd_T28 t104 x50_2).f5).length c117_13] 28 (0, 0))) := ⟨by refine pp_ (cs := #[.int .i64 ((rd_T28 t104 x50_2).f0), .int .i64 ((rd_T28 t104 x50_2).f1), .int .i64 ((rd_T28 t104 x50_2).f2.f0), .int .i64 ((rd_T28 t104 x50_2).f2.f1), .string ((rd_T28 t104 x50_2).f2.f2), .int .i64 ((rd_T28 t104 x50_2).f3.f0), .int .i64 ((rd_T28 t104 x50_2).f3.f1), .bool ((rd_T28 t104 x50_2).f3.f2), .bool ((rd_T28 t104 x50_2).f3.f3), .int .i64 ((rd_T28 t104 x50_2).f4.f0), .int .i64 ((rd_T28 t104 x50_2).f4.f1), .bool ((rd_T28 t104 x50_2).f4.f2), .bool ((rd_T28 t104 x50_2).f4.f3), .slice none 0 0]) 13 ?_ rfl; refine blk_put (cs := #[.int .i64 ((rd_T28 t104 x50_2).f0), .int .i64 ((rd_T28 t104 x50_2).f1), .int .i64 ((rd_T28 t104 x50_2).f2.f0), .int .i64 ((rd_T28 t104 x50_2).f2.f1), .string ((rd_T28 t104 x50_2).f2.f2), .int .i64 ((rd_T28 t104 x50_2).f3.f0), .int .i64 ((rd_T28 t104 x50_2).f3.f1), .bool ((rd_T28 t104 x50_2).f3.f2), .bool ((rd_T28 t104 x50_2).f3.f3), .int .i64 ((rd_T28 t104 x50_2).f4.f0), .int .i64 ((rd_T28 t104 x50_2).f4.f1), .bool ((rd_T28 t104 x50_2).f4.f2), .bool false, .slice none 0 0]) ?_ 12 _ rfl; refine blk_put (cs := #[.int .i64 ((rd_T28 t104 x50_2).f0), .int .i64 ((rd_T28 t104 x50_2).f1), .int .i64 ((rd_T28 t104 x50_2).f2.f0), .int .i64 ((rd_T28 t104 x50_2).f2.f1), .string ((rd_T28 t104 x50_2).f2.f2), .int .i64 ((rd_T28 t104 x50_2).f3.f0), .int .i64 ((rd_T28 t104 x50_2).f3.f1), .bool ((rd_T28 t104 x50_2).f3.f2), .bool ((rd_T28 t104 x50_2).f3.f3), .int .i64 ((rd_T28 t104 x50_2).f4.f0), .int .i64 ((rd_T28 t104 x50_2).f4.f1), .bool false, .bool false, .slice none 0 0]) ?_ 11 _ rfl; refine blk_put (cs := #[.int .i64 ((rd_T28 t104 x50_2).f0), .int .i64 ((rd_T28 t104 x50_2).f1), .int .i64 ((rd_T28 t104 x50_2).f2.f0), .int .i64 ((rd_T28 t104 x50_2).f2.f1), .string ((rd_T28 t104 x50_2).f2.f2), .int .i64 ((rd_T28 t104 x50_2).f3.f0), .int .i64 ((rd_T28 t104 x50_2).f3.f1), .bool ((rd_T28 t104 x50_2).f3.f2), .bool ((rd_T28 t104 x50_2).f3.f3), .int .i64 ((rd_T28 t104 x50_2).f4.f0), .int .i64 0, .bool false, .bool false, .slice none 0 0]) ?_ 10 _ rfl; refine blk_put (cs := #[.int .i64 ((rd_T28 t104 x50_2).f0), .int .i64 ((rd_T28 t104 x50_2).f1), .int .i64 ((rd_T28 t104 x50_2).f2.f0), .int .i64 ((rd_T28 t104 x50_2).f2.f1), .string ((rd_T28 t104 x50_2).f2.f2), .int .i64 ((rd_T28 t104 x50_2).f3.f0), .int .i64 ((rd_T28 t104 x50_2).f3.f1), .bool ((rd_T28 t104 x50_2).f3.f2), .bool ((rd_T28 t104 x50_2).f3.f3), .int .i64 0, .int .i64 0, .bool false, .bool false, .slice none 0 0]) ?_ 9 _ rfl; refine blk_put (cs := #[.int .i64 ((rd_T28 t104 x50_2).f0), .int .i64 ((rd_T28 t104 x50_2).f1), .int .i64 ((rd_T28 t104 x50_2).f2.f0), .int .i64 ((rd_T28 t104 x50_2).f2.f1), .string ((rd_T28 t104 x50_2).f2.f2), .int .i64 ((rd_T28 t104 x50_2).f3.f0), .int .i64 ((rd_T28 t104 x50_2).f3.f1), .bool ((rd_T28 t104 x50_2).f3.f2), .bool false, .int .i64 0, .int .i64 0, .bool false, .bool false, .slice none 0 0]) ?_ 8 _ rfl; refine blk_put (cs := #[.int .i64 ((rd_T28 t104 x50_2).f0), .int .i64 ((rd_T28 t104 x50_2).f1), .int .i64 ((rd_T28 t104 x50_2).f2.f0), .int .i64 ((rd_T28 t104 x50_2).f2.f1), .string ((rd_T28 t104 x50_2).f2.f2), .int .i64 ((rd_T28 t104 x50_2).f3.f0), .int .i64 ((rd_T28 t104 x50_2).f3.f1), .bool false, .bool false, .int .i64 0, .int .i64 0, .bool false, .bool false, .slice none 0 0]) ?_ 7 _ rfl; refine blk_put (cs := #[.int .i64 ((rd_T28 t104 x50_2).f0), .int .i64 ((rd_T28 t104 x50_2).f1), .int .i64 ((rd_T28 t104 x50_2).f2.f0), .int .i64 ((rd_T28 t104 x50_2).f2.f1), .string ((rd_T28 t104 x50_2).f2.f2), .int .i64 ((rd_T28 t104 x50_2).f3.f0), .int .i64 0, .bool false, .bool false, .int .i64 0, .int .i64 0, .bool false, .bool false, .slice none 0 0]) ?_ 6 _ rfl; refine blk_put (cs := #[.int .i64 ((rd_T28 t104 x50_2).f0), .int .i64 ((rd_T28 t104 x50_2).f1), .int .i64 ((rd_T28 t104 x50_2).f2.f0), .int .i64 ((rd_T28 t104 x50_2).f2.f1), .string ((rd_T28 t104 x50_2).f2.f2), .int .i64 0, .int .i64 0, .bool false, .bool false, .int .i64 0, .int .i64 0, .bool false, .bool false, .slice none 0 0]) ?_ 5 _ rfl; refine blk_put (cs := #[.int .i64 ((rd_T28 t104 x50_2).f0), .int .i64 ((rd_T28 t104 x50_2).f1), .int .i64 ((rd_T28 t104 x50_2).f2.f0), .int .i64 ((rd_T28 t104 x50_2).f2.f1), .string (⟨#[]⟩ : ByteArray), .int .i64 0, .int .i64 0, .bool false, .bool false, .int .i64 0, .int .i64 0, .bool false, .bool false, .slice none 0 0]) ?_ 4 _ rfl; (iterate 4 apply pp_); exact pkx BK118; all_goals rfl⟩
            have n5_ : Aside0 (Below w.heap.size w ((((((((((((((w63.setCell ⟨gb118, 0, none⟩ (.int .i64 ((rd_T28 t104 x50_2).f0))).setCell ⟨gb118, 1, none⟩ (.int .i64 ((rd_T28 t104 x50_2).f1))).setCell ⟨gb118, 2, none⟩ (.int .i64 ((rd_T28 t104 x50_2).f2.f0))).setCell ⟨gb118, 3, none⟩ (.int .i64 ((rd_T28 t104 x50_2).f2.f1))).setCell ⟨gb118, 4, none⟩ (.string ((rd_T28 t104 x50_2).f2.f2))).setCell ⟨gb118, 5, none⟩ (.int .i64 ((rd_T28 t104 x50_2).f3.f0))).setCell ⟨gb118, 6, none⟩ (.int .i64 ((rd_T28 t104 x50_2).f3.f1))).setCell ⟨gb118, 7, none⟩ (.bool ((rd_T28 t104 x50_2).f3.f2))).setCell ⟨gb118, 8, none⟩ (.bool ((rd_T28 t104 x50_2).f3.f3))).setCell ⟨gb118, 9, none⟩ (.int .i64 ((rd_T28 t104 x50_2).f4.f0))).setCell ⟨gb118, 10, none⟩ (.int .i64 ((rd_T28 t104 x50_2).f4.f1))).setCell ⟨gb118, 11, none⟩ (.bool ((rd_T28 t104 x50_2).f4.f2))).setCell ⟨gb118, 12, none⟩ (.bool ((rd_T28 t104 x50_2).f4.f3))).setCell ⟨gb118, 13, none⟩ (.slice A117_13 ((rd_T28 t104 x50_2).f5).length c117_13))) := ⟨bl_⟩; (try clear HO_4); (try clear HO_48); (try clear HL117_13); (try clear B1); (try clear BK118); (try clear HB); generalize ((((((((((((((w63.setCell ⟨gb118, 0, none⟩ (.int .i64 ((rd_T28 t104 x50_2).f0))).setCell ⟨gb118, 1, none⟩ (.int .i64 ((rd_T28 t104 x50_2).f1))).setCell ⟨gb118, 2, none⟩ (.int .i64 ((rd_T28 t104 x50_2).f2.f0))).setCell ⟨gb118, 3, none⟩ (.int .i64 ((rd_T28 t104 x50_2).f2.f1))).setCell ⟨gb118, 4, none⟩ (.string ((rd_T28 t104 x50_2).f2.f2))).setCell ⟨gb118, 5, none⟩ (.int .i64 ((rd_T28 t104 x50_2).f3.f0))).setCell ⟨gb118, 6, none⟩ (.int .i64 ((rd_T28 t104 x50_2).f3.f1))).setCell ⟨gb118, 7, none⟩ (.bool ((rd_T28 t104 x50_2).f3.f2))).setCell ⟨gb118, 8, none⟩ (.bool ((rd_T28 t104 x50_2).f3.f3))).setCell ⟨gb118, 9, none⟩ (.int .i64 ((rd_T28 t104 x50_2).f4.f0))).setCell ⟨gb118, 10, none⟩ (.int .i64 ((rd_T28 t104 x50_2).f4.f1))).setCell ⟨gb118, 11, none⟩ (.bool ((rd_T28 t104 x50_2).f4.f2))).setCell ⟨gb118, 12, none⟩ (.bool ((rd_T28 t104 x50_2).f4.f3))).setCell ⟨gb118, 13, none⟩ (.slice A117_13 ((rd_T28 t104 x50_2).f5).length c117_13)) = w66 at n0_ n1_ n2_ n3_ n4_ n5_ ⊢
            have HO_4 := n0_; have HO_48 := n1_; have HL117_13 := n2_; have B1 := n3_; have BK118 := n4_; have HB := n5_; clear n0_ n1_ n2_ n3_ n4_ n5_; (try (rw [drewN_self w66]; generalize hq_ : World.drewN w66 _ = w66; have n0_ : Aside0 (Kd.V k28 28 w66 w.heap.size (fun k_ => some k_ ≠ (v108 : Value).ownBlock ∧ some k_ ≠ (.slice (some ad117) t104.length co56 : Value).ownBlock ∧ k_ ≠ g1 ∧ k_ ≠ gb118) (.slice A117_13 ((rd_T28 t104 x50_2).f5).length c117_13) ((rd_T28 t104 x50_2).f5)) := ⟨by rw [← hq_]; exact (by (with_reducible repeat (first | apply Kd.V_alloc | apply Kd.V_drewN | apply Kd.V_drew)); exact HL117_13.out)⟩; have n1_ : Aside0 (Kd.N k28 28 w66 w.heap.size (fun k_ => some k_ ≠ (.slice (some ad117) t104.length co56 : Value).ownBlock ∧ k_ ≠ g1 ∧ k_ ≠ gb118) v108 t107) := ⟨by rw [← hq_]; exact (by (with_reducible repeat (first | apply Kd.N_alloc | apply Kd.N_drewN | apply Kd.N_drew)); exact HO_4.out)⟩; have n2_ : Aside0 (Kd.N k28 28 w66 w.heap.size (fun k_ => some k_ ≠ (v108 : Value).ownBlock ∧ k_ ≠ g1 ∧ k_ ≠ gb118) (.slice (some ad117) t104.length co56) t104) := ⟨by rw [← hq_]; exact (by (with_reducible repeat (first | apply Kd.N_alloc | apply Kd.N_drewN | apply Kd.N_drew)); exact HO_48.out)⟩; have n3_ : Aside0 (w66.heap[g1]? = some (.cells #[.int .i64 a0_0, .int .i64 a0_1, .int .i64 a0_2, .int .i64 a0_3, .string a0_4, .int .i64 a0_5, .int .i64 a0_6, .bool a0_7, .bool a0_8, .int .i64 a0_9, .int .i64 a0_10, .bool a0_11, .bool a0_12, .slice A0_13 l0_13.length c0_13] 28 (0, 0))) := ⟨by rw [← hq_]; exact (pkx B1)⟩; have n4_ : Aside0 (w66.heap[gb118]? = some (.cells #[.int .i64 ((rd_T28 t104 x50_2).f0), .int .i64 ((rd_T28 t104 x50_2).f1), .int .i64 ((rd_T28 t104 x50_2).f2.f0), .int .i64 ((rd_T28 t104 x50_2).f2.f1), .string ((rd_T28 t104 x50_2).f2.f2), .int .i64 ((rd_T28 t104 x50_2).f3.f0), .int .i64 ((rd_T28 t104 x50_2).f3.f1), .bool ((rd_T28 t104 x50_2).f3.f2), .bool ((rd_T28 t104 x50_2).f3.f3), .int .i64 ((rd_T28 t104 x50_2).f4.f0), .int .i64 ((rd_T28 t104 x50_2).f4.f1), .bool ((rd_T28 t104 x50_2).f4.f2), .bool ((rd_T28 t104 x50_2).f4.f3), .slice A117_13 ((rd_T28 t104 x50_2).f5).length c117_13] 28 (0, 0))) := ⟨by rw [← hq_]; exact (pkx BK118)⟩; have n5_ : Aside0 (Below w.heap.size w w66) := ⟨by rw [← hq_]; exact (pbx HB)⟩; clear HL117_13 HO_4 HO_48 B1 BK118 HB hq_; have HL117_13 := n0_; have HO_4 := n1_; have HO_48 := n2_; have B1 := n3_; have BK118 := n4_; have HB := n5_; clear n0_ n1_ n2_ n3_ n4_ n5_))
            replace HO_4 := A_ (Kd.N_drew HO_4.out); replace HO_48 := A_ (Kd.N_drew HO_48.out); replace HL117_13 := A_ (Kd.V_drew HL117_13.out); replace B1 := A_ (blk_drew B1.out); replace BK118 := A_ (blk_drew BK118.out); replace HB := A_ (below_drew1 HB.out); obtain ⟨Ao68, co68, eo68⟩ := Kd.N_slice HO_4.out; (first | subst eo68 | (injection eo68 with f1_ f2_ f3_; have f4_ := f1_.symm; have f5_ := f3_.symm; clear f1_ f2_ f3_; subst f4_; subst f5_))
            have p119 : 0 ≤ (x50_2 : Int) := of_decide_eq_true as_
            have q119 : x50_2 < (t107.length : Int) := of_decide_eq_true as_
            obtain ⟨ad119, A119_13, c119_13, e119, hx119_0, hx119_1, hx119_2, hx119_3, hx119_4, hx119_5, hx119_6, hx119_7, hx119_8, hx119_9, hx119_10, hx119_11, hx119_12, hx119_13, hl119_13, hi119_13⟩ := at_T28 (Kd.N_reads' HO_4.out).2.2 x50_2 p119 q119
            cases e119
            obtain ⟨ce119, hce119, hMe119, hcc119⟩ := Kd.N_get HO_4.out z28 x50_2 p119 (by first | exact q119 | exact of_decide_eq_true as_ | (have e_ := (Kd.N_reads' HO_4.out).1; omega)); obtain ⟨ua119_13, uc119_13, rfl, ul119_13, ge119_13⟩ := k28_openF hMe119; have hv119_13 := hcc119 13 _ rfl; rw [add_field _ _ 13 (by omega)] at hv119_13; replace hv119_13 := Option.some.inj (hv119_13.symm.trans hx119_13)
            injection hv119_13 with hva_ hvn_ hvc_
            rw [hva_] at ge119_13; rw [hvc_] at ul119_13; have HL119_13 := A_ (show Kd.V k28 28 _ w.heap.size _ _ ((rd_T28 t107 x50_2).f5) from Kd.V_mk ul119_13 ge119_13); clear hva_ hvn_ hvc_ ge119_13 ul119_13; clear hcc119 hce119; have HR119_13 := A_ hi119_13; have HC119_13 := A_ hl119_13; clear hi119_13 hl119_13; replace p119 := eq_true p119; replace q119 := eq_true q119
            as_aux_lemma =>
             refine start_ (n:=7) (S := fun w' => w'.cell? ⟨gb118, 0, none⟩ = some (.int .i64 ((rd_T28 t104 x50_2).f0)) ∧ w'.cell? ⟨gb118, 1, none⟩ = some (.int .i64 ((rd_T28 t104 x50_2).f1)) ∧ w'.cell? ⟨gb118, 2, none⟩ = some (.int .i64 ((rd_T28 t104 x50_2).f2.f0)) ∧ w'.cell? ⟨gb118, 3, none⟩ = some (.int .i64 ((rd_T28 t104 x50_2).f2.f1)) ∧ w'.cell? ⟨gb118, 4, none⟩ = some (.string ((rd_T28 t104 x50_2).f2.f2)) ∧ w'.cell? ⟨gb118, 5, none⟩ = some (.int .i64 ((rd_T28 t104 x50_2).f3.f0)) ∧ w'.cell? ⟨gb118, 6, none⟩ = some (.int .i64 ((rd_T28 t104 x50_2).f3.f1)) ∧ w'.cell? ⟨gb118, 7, none⟩ = some (.bool ((rd_T28 t104 x50_2).f3.f2)) ∧ w'.cell? ⟨gb118, 8, none⟩ = some (.bool ((rd_T28 t104 x50_2).f3.f3)) ∧ w'.cell? ⟨gb118, 9, none⟩ = some (.int .i64 ((rd_T28 t104 x50_2).f4.f0)) ∧ w'.cell? ⟨gb118, 10, none⟩ = some (.int .i64 ((rd_T28 t104 x50_2).f4.f1)) ∧ w'.cell? ⟨gb118, 11, none⟩ = some (.bool ((rd_T28 t104 x50_2).f4.f2)) ∧ w'.cell? ⟨gb118, 12, none⟩ = some (.bool ((rd_T28 t104 x50_2).f4.f3)) ∧ w'.cell? ⟨gb118, 13, none⟩ = some (.slice A117_13 ((rd_T28 t104 x50_2).f5).length c117_13) ∧ w'.cell? (ad119.add ((x50_2).toNat * 14)) = some (.int .i64 ((rd_T28 t107 x50_2).f0)) ∧ w'.cell? ⟨(ad119.add ((x50_2).toNat * 14)).block, (ad119.add ((x50_2).toNat * 14)).off + 1, none⟩ = some (.int .i64 ((rd_T28 t107 x50_2).f1)) ∧ w'.cell? ⟨(ad119.add ((x50_2).toNat * 14)).block, (ad119.add ((x50_2).toNat * 14)).off + 2, none⟩ = some (.int .i64 ((rd_T28 t107 x50_2).f2.f0)) ∧ w'.cell? ⟨(ad119.add ((x50_2).toNat * 14)).block, (ad119.add ((x50_2).toNat * 14)).off + 3, none⟩ = some (.int .i64 ((rd_T28 t107 x50_2).f2.f1)) ∧ w'.cell? ⟨(ad119.add ((x50_2).toNat * 14)).block, (ad119.add ((x50_2).toNat * 14)).off + 4, none⟩ = some (.string ((rd_T28 t107 x50_2).f2.f2)) ∧ w'.cell? ⟨(ad119.add ((x50_2).toNat * 14)).block, (ad119.add ((x50_2).toNat * 14)).off + 5, none⟩ = some (.int .i64 ((rd_T28 t107 x50_2).f3.f0)) ∧ w'.cell? ⟨(ad119.add ((x50_2).toNat * 14)).block, (ad119.add ((x50_2).toNat * 14)).off + 6, none⟩ = some (.int .i64 ((rd_T28 t107 x50_2).f3.f1)) ∧ w'.cell? ⟨(ad119.add ((x50_2).toNat * 14)).block, (ad119.add ((x50_2).toNat * 14)).off + 7, none⟩ = some (.bool ((rd_T28 t107 x50_2).f3.f2)) ∧ w'.cell? ⟨(ad119.add ((x50_2).toNat * 14)).block, (ad119.add ((x50_2).toNat * 14)).off + 8, none⟩ = some (.bool ((rd_T28 t107 x50_2).f3.f3)) ∧ w'.cell? ⟨(ad119.add ((x50_2).toNat * 14)).block, (ad119.add ((x50_2).toNat * 14)).off + 9, none⟩ = some (.int .i64 ((rd_T28 t107 x50_2).f4.f0)) ∧ w'.cell? ⟨(ad119.add ((x50_2).toNat * 14)).block, (ad119.add ((x50_2).toNat * 14)).off + 10, none⟩ = some (.int .i64 ((rd_T28 t107 x50_2).f4.f1)) ∧ w'.cell? ⟨(ad119.add ((x50_2).toNat * 14)).block, (ad119.add ((x50_2).toNat * 14)).off + 11, none⟩ = some (.bool ((rd_T28 t107 x50_2).f4.f2)) ∧ w'.cell? ⟨(ad119.add ((x50_2).toNat * 14)).block, (ad119.add ((x50_2).toNat * 14)).off + 12, none⟩ = some (.bool ((rd_T28 t107 x50_2).f4.f3)) ∧ w'.cell? ⟨(ad119.add ((x50_2).toNat * 14)).block, (ad119.add ((x50_2).toNat * 14)).off + 13, none⟩ = some (.slice A119_13 ((rd_T28 t107 x50_2).f5).length c119_13)) (ds := []) #[F,F,F,F,F,F,F] (by kernel_rfl) rfl rfl ⟨bc_ BK118 0 rfl, bc_ BK118 1 rfl, bc_ BK118 2 rfl, bc_ BK118 3 rfl, bc_ BK118 4 rfl, bc_ BK118 5 rfl, bc_ BK118 6 rfl, bc_ BK118 7 rfl, bc_ BK118 8 rfl, bc_ BK118 9 rfl, bc_ BK118 10 rfl, bc_ BK118 11 rfl, bc_ BK118 12 rfl, bc_ BK118 13 rfl, hx119_0, hx119_1, hx119_2, hx119_3, hx119_4, hx119_5, hx119_6, hx119_7, hx119_8, hx119_9, hx119_10, hx119_11, hx119_12, hx119_13⟩ (fun hHeld => ?_)
             generalize w66.drew = w67 at HO_4 HO_48 HL117_13 B1 BK118 HB HL119_13 HR119_13 hx119_0 hx119_1 hx119_10 hx119_11 hx119_12 hx119_13 hx119_2 hx119_3 hx119_4 hx119_5 hx119_6 hx119_7 hx119_8 hx119_9 hHeld ⊢; refine pure_ (i:=1) (N:=some 56) (v:=?_) (a':=?_) ⟨m_ 7 2⟩ rfl rfl (by kernel_rfl) (fun _ _ _ h=>h) (Or.inl ⟨rfl, ?_⟩) ?_ ?_; rotate_left
             ·intro w'; go_simp; with_reducible rfl
             rotate_left
             ·simp only [q_, i64_w, i32_w]; rfl
             refine pure_ (i:=2) (N:=some 57) (v:=?_) (a':=?_) ⟨m_ 7 6⟩ rfl rfl (by kernel_rfl) (fun _ _ _ h=>h) (Or.inl ⟨rfl, ?_⟩) ?_ ?_; rotate_left
             ·intro w'; go_simp; with_reducible rfl
             rotate_left
             ·simp only [q_, i64_w, i32_w]; rfl
             refine pure_ (i:=3) (N:=some 58) (v:=?_) (a':=?_) ⟨m_ 7 14⟩ rfl rfl (by kernel_rfl) (fun _ _ _ h=>h) (Or.inl ⟨rfl, ?_⟩) ?_ ?_; rotate_left
             ·intro w'; go_simp; with_reducible rfl
             rotate_left
             ·simp only [q_, i64_w, i32_w]; rfl
             refine take_ (i:=0) (N:=some 55) (v:=?_) (a':=?_) ⟨m_ 7 15⟩ rfl rfl (by kernel_rfl) (fun _ _ _ h=>h) (Or.inl ⟨rfl, ?_⟩) hHeld ?_ ?_; rotate_left
             ·rintro w' ⟨s0, s1, s2, s3, s4, s5, s6, s7, s8, s9, s10, s11, s12, s13, s14, s15, s16, s17, s18, s19, s20, s21, s22, s23, s24, s25, s26, s27⟩; go_simp; with_reducible rfl
             rotate_left
             ·simp only [q_, i64_w, i32_w]; rfl
             refine take_ (i:=4) (N:=some 59) (v:=?_) (a':=?_) ⟨m_ 7 31⟩ rfl rfl (by kernel_rfl) (fun _ _ _ h=>h) (Or.inl ⟨rfl, ?_⟩) hHeld ?_ ?_; rotate_left
             ·rintro w' ⟨s0, s1, s2, s3, s4, s5, s6, s7, s8, s9, s10, s11, s12, s13, s14, s15, s16, s17, s18, s19, s20, s21, s22, s23, s24, s25, s26, s27⟩; go_simp; with_reducible rfl
             rotate_left
             ·simp only [q_, i64_w, i32_w]; rfl
             refine one_ (i:=5) (N:=some 60) ⟨m_ 7 63⟩ rfl rfl (by kernel_rfl) (by decide) (fun K hK => ?_); refine goes_ Tryd.func17 (by kernel_rfl) rfl #[.agg #[.int .i64 ((rd_T28 t104 x50_2).f0), .int .i64 ((rd_T28 t104 x50_2).f1), .int .i64 ((rd_T28 t104 x50_2).f2.f0), .int .i64 ((rd_T28 t104 x50_2).f2.f1), .string ((rd_T28 t104 x50_2).f2.f2), .int .i64 ((rd_T28 t104 x50_2).f3.f0), .int .i64 ((rd_T28 t104 x50_2).f3.f1), .bool ((rd_T28 t104 x50_2).f3.f2), .bool ((rd_T28 t104 x50_2).f3.f3), .int .i64 ((rd_T28 t104 x50_2).f4.f0), .int .i64 ((rd_T28 t104 x50_2).f4.f1), .bool ((rd_T28 t104 x50_2).f4.f2), .bool ((rd_T28 t104 x50_2).f4.f3), .slice A117_13 ((rd_T28 t104 x50_2).f5).length c117_13], .agg #[.int .i64 ((rd_T28 t107 x50_2).f0), .int .i64 ((rd_T28 t107 x50_2).f1), .int .i64 ((rd_T28 t107 x50_2).f2.f0), .int .i64 ((rd_T28 t107 x50_2).f2.f1), .string ((rd_T28 t107 x50_2).f2.f2), .int .i64 ((rd_T28 t107 x50_2).f3.f0), .int .i64 ((rd_T28 t107 x50_2).f3.f1), .bool ((rd_T28 t107 x50_2).f3.f2), .bool ((rd_T28 t107 x50_2).f3.f3), .int .i64 ((rd_T28 t107 x50_2).f4.f0), .int .i64 ((rd_T28 t107 x50_2).f4.f1), .bool ((rd_T28 t107 x50_2).f4.f2), .bool ((rd_T28 t107 x50_2).f4.f3), .slice A119_13 ((rd_T28 t107 x50_2).f5).length c119_13]] (by rfl) rfl rfl ha_ ?_; with_reducible refine (oculusref22_Same.calls k2 ((rd_T28 t104 x50_2).f0) ((rd_T28 t104 x50_2).f1) ((rd_T28 t104 x50_2).f2.f0) ((rd_T28 t104 x50_2).f2.f1) ((rd_T28 t104 x50_2).f2.f2) ((rd_T28 t104 x50_2).f3.f0) ((rd_T28 t104 x50_2).f3.f1) ((rd_T28 t104 x50_2).f3.f2) ((rd_T28 t104 x50_2).f3.f3) ((rd_T28 t104 x50_2).f4.f0) ((rd_T28 t104 x50_2).f4.f1) ((rd_T28 t104 x50_2).f4.f2) ((rd_T28 t104 x50_2).f4.f3) _ _ ((rd_T28 t104 x50_2).f5) ((rd_T28 t107 x50_2).f0) ((rd_T28 t107 x50_2).f1) ((rd_T28 t107 x50_2).f2.f0) ((rd_T28 t107 x50_2).f2.f1) ((rd_T28 t107 x50_2).f2.f2) ((rd_T28 t107 x50_2).f3.f0) ((rd_T28 t107 x50_2).f3.f1) ((rd_T28 t107 x50_2).f3.f2) ((rd_T28 t107 x50_2).f3.f3) ((rd_T28 t107 x50_2).f4.f0) ((rd_T28 t107 x50_2).f4.f1) ((rd_T28 t107 x50_2).f4.f2) ((rd_T28 t107 x50_2).f4.f3) _ _ ((rd_T28 t107 x50_2).f5) true _ ?side1 ?side2 ?side3 ?side4 A61.out).mono ?_
             (case side1 => repeat (first | exact ((Kd.V_reads' (by (with_reducible repeat (first | apply Kd.V_alloc | apply Kd.V_drewN | apply Kd.V_drew)); exact HL117_13.out)).2.2) | (with_reducible refine Kd.C_alloc ?_ _) | (with_reducible refine Kd.C_drewN ?_ _) | (with_reducible refine Kd.C_drew ?_))); (case side2 => exact HC117_13.out); (case side3 => exact ca_ (by repeat (first | (with_reducible exact HR119_13.out) | (with_reducible refine Kd.C_alloc ?_ _) | (with_reducible refine Kd.C_drewN ?_ _) | (with_reducible refine Kd.C_drew ?_) | exact HR119_13.out))); (case side4 => exact HC119_13.out); rintro e w69 ⟨rfl, hb⟩
             have HS14_ := (hb.cell (World.block_lt_of_cell? _ _ (hHeld.2.2.2.2.2.2.2.2.2.2.2.2.2.2.1))).trans (hHeld.2.2.2.2.2.2.2.2.2.2.2.2.2.2.1); have HS15_ := (hb.cell (World.block_lt_of_cell? _ _ (hHeld.2.2.2.2.2.2.2.2.2.2.2.2.2.2.2.1))).trans (hHeld.2.2.2.2.2.2.2.2.2.2.2.2.2.2.2.1); have HS16_ := (hb.cell (World.block_lt_of_cell? _ _ (hHeld.2.2.2.2.2.2.2.2.2.2.2.2.2.2.2.2.1))).trans (hHeld.2.2.2.2.2.2.2.2.2.2.2.2.2.2.2.2.1); have HS17_ := (hb.cell (World.block_lt_of_cell? _ _ (hHeld.2.2.2.2.2.2.2.2.2.2.2.2.2.2.2.2.2.1))).trans (hHeld.2.2.2.2.2.2.2.2.2.2.2.2.2.2.2.2.2.1); have HS18_ := (hb.cell (World.block_lt_of_cell? _ _ (hHeld.2.2.2.2.2.2.2.2.2.2.2.2.2.2.2.2.2.2.1))).trans (hHeld.2.2.2.2.2.2.2.2.2.2.2.2.2.2.2.2.2.2.1); have HS19_ := (hb.cell (World.block_lt_of_cell? _ _ (hHeld.2.2.2.2.2.2.2.2.2.2.2.2.2.2.2.2.2.2.2.1))).trans (hHeld.2.2.2.2.2.2.2.2.2.2.2.2.2.2.2.2.2.2.2.1); have HS20_ := (hb.cell (World.block_lt_of_cell? _ _ (hHeld.2.2.2.2.2.2.2.2.2.2.2.2.2.2.2.2.2.2.2.2.1))).trans (hHeld.2.2.2.2.2.2.2.2.2.2.2.2.2.2.2.2.2.2.2.2.1)
             have HS21_ := (hb.cell (World.block_lt_of_cell? _ _ (hHeld.2.2.2.2.2.2.2.2.2.2.2.2.2.2.2.2.2.2.2.2.2.1))).trans (hHeld.2.2.2.2.2.2.2.2.2.2.2.2.2.2.2.2.2.2.2.2.2.1); have HS22_ := (hb.cell (World.block_lt_of_cell? _ _ (hHeld.2.2.2.2.2.2.2.2.2.2.2.2.2.2.2.2.2.2.2.2.2.2.1))).trans (hHeld.2.2.2.2.2.2.2.2.2.2.2.2.2.2.2.2.2.2.2.2.2.2.1); have HS23_ := (hb.cell (World.block_lt_of_cell? _ _ (hHeld.2.2.2.2.2.2.2.2.2.2.2.2.2.2.2.2.2.2.2.2.2.2.2.1))).trans (hHeld.2.2.2.2.2.2.2.2.2.2.2.2.2.2.2.2.2.2.2.2.2.2.2.1); have HS24_ := (hb.cell (World.block_lt_of_cell? _ _ (hHeld.2.2.2.2.2.2.2.2.2.2.2.2.2.2.2.2.2.2.2.2.2.2.2.2.1))).trans (hHeld.2.2.2.2.2.2.2.2.2.2.2.2.2.2.2.2.2.2.2.2.2.2.2.2.1); have HS25_ := (hb.cell (World.block_lt_of_cell? _ _ (hHeld.2.2.2.2.2.2.2.2.2.2.2.2.2.2.2.2.2.2.2.2.2.2.2.2.2.1))).trans (hHeld.2.2.2.2.2.2.2.2.2.2.2.2.2.2.2.2.2.2.2.2.2.2.2.2.2.1); have HS26_ := (hb.cell (World.block_lt_of_cell? _ _ (hHeld.2.2.2.2.2.2.2.2.2.2.2.2.2.2.2.2.2.2.2.2.2.2.2.2.2.2.1))).trans (hHeld.2.2.2.2.2.2.2.2.2.2.2.2.2.2.2.2.2.2.2.2.2.2.2.2.2.2.1); have HS27_ := (hb.cell (World.block_lt_of_cell? _ _ (hHeld.2.2.2.2.2.2.2.2.2.2.2.2.2.2.2.2.2.2.2.2.2.2.2.2.2.2.2))).trans (hHeld.2.2.2.2.2.2.2.2.2.2.2.2.2.2.2.2.2.2.2.2.2.2.2.2.2.2.2); refine ⟨_, rfl, ?_⟩
             replace HO_4 := A_ (Kd.N_below (by (with_reducible repeat (first | apply Kd.N_alloc | apply Kd.N_drewN | apply Kd.N_drew)); exact HO_4.out) hb); replace HO_48 := A_ (Kd.N_below (by (with_reducible repeat (first | apply Kd.N_alloc | apply Kd.N_drewN | apply Kd.N_drew)); exact HO_48.out) hb); replace HL117_13 := A_ (Kd.V_below (by (with_reducible repeat (first | apply Kd.V_alloc | apply Kd.V_drewN | apply Kd.V_drew)); exact HL117_13.out) hb); replace HL119_13 := A_ (Kd.V_below (by (with_reducible repeat (first | apply Kd.V_alloc | apply Kd.V_drewN | apply Kd.V_drew)); exact HL119_13.out) hb); replace B1 := bb_ B1 hb; replace BK118 := bb_ BK118 hb; replace HR119_13 := A_ (Kd.C_below (by repeat (first | (with_reducible exact HR119_13.out) | (with_reducible refine Kd.C_alloc ?_ _) | (with_reducible refine Kd.C_drewN ?_ _) | (with_reducible refine Kd.C_drew ?_) | exact HR119_13.out)) hb); replace HB := bs_ HB hb; (try clear hb); (try clear hk); refine hK.out _ _ ⟨bc_ BK118 0 rfl, bc_ BK118 1 rfl, bc_ BK118 2 rfl, bc_ BK118 3 rfl, bc_ BK118 4 rfl, bc_ BK118 5 rfl, bc_ BK118 6 rfl, bc_ BK118 7 rfl, bc_ BK118 8 rfl, bc_ BK118 9 rfl, bc_ BK118 10 rfl, bc_ BK118 11 rfl, bc_ BK118 12 rfl, bc_ BK118 13 rfl, HS14_, HS15_, HS16_, HS17_, HS18_, HS19_, HS20_, HS21_, HS22_, HS23_, HS24_, HS25_, HS26_, HS27_⟩ (fun hHeld => ?_); clear hK K; refine norm_ (a':=?_) ?_ ?_; rotate_left
             ·show Act.put _ (some 60) _ = _; simp only [q_, i64_w, i32_w]; rfl
             refine pure_ (i:=6) (N:=some 61) (v:=?_) (a':=?_) ⟨m_ 7 127⟩ rfl rfl (by kernel_rfl) (fun _ _ _ h=>h) (Or.inl ⟨rfl, ?_⟩) ?_ ?_; rotate_left
             ·intro w'; go_simp; with_reducible rfl
             rotate_left
             ·simp only [q_, i64_w, i32_w]; rfl
             refine done_ (by kernel_rfl) ?_
             try go_wp2
             go_roundg k2
             case measure => have := HJ5.out; have := HK2.out; omega
             case rel => exact ⟨(wrap64 (x50_2 + 1)), sq_, H', ⟨by have := HJ5.out; have := HK2.out; omega⟩, ⟨by (with_reducible repeat (first | apply Kd.N_alloc | apply Kd.N_drewN | apply Kd.N_drew)); exact Kd.N_mono HO_4.out (fun _ hk => ⟨hk.1, hk.2.1⟩)⟩, ⟨by (with_reducible repeat (first | apply Kd.N_alloc | apply Kd.N_drewN | apply Kd.N_drew)); exact Kd.N_mono HO_48.out (fun _ hk => ⟨hk.1, hk.2.1⟩)⟩, ⟨pkx B1⟩, ⟨pbx HB⟩⟩
           ·exact absurd H (by simp)
          ·rw [if_neg c60] at H
           exact absurd H (by simp)
         ·rw [if_neg c59] at H
          exact absurd H (by simp)
        ·rw [if_neg c58] at H
         exact absurd H (by simp)
       ·rw [if_neg c57] at H; have c57b0 := decide_eq_false c57; clear c57; obtain ⟨t121, A70, H⟩ := bo_ H; obtain rfl := Option.some.inj H
        go_wp2_with (first | ((with_reducible refine gate_callee (f:=7) rfl ?_); refine gL_ (some 63) rfl rfl Tryd.func7 rfl #[] rfl ?_; (with_reducible refine (oculuslaw22_alive.calls k2  t121 _ (by refine tb_ ?_ hT; repeat' (first | exact pbx HB | exact Below.refl _ _ | assumption | refine below_set ?_ (Aside0.out ?_))) A70.out).mono ?_); rintro e w71 ⟨rfl, hb⟩; refine ⟨_, rfl, ?_⟩; replace HO_4 := A_ (Kd.N_below (by (with_reducible repeat (first | apply Kd.N_alloc | apply Kd.N_drewN | apply Kd.N_drew)); exact HO_4.out) hb); replace HO_48 := A_ (Kd.N_below (by (with_reducible repeat (first | apply Kd.N_alloc | apply Kd.N_drewN | apply Kd.N_drew)); exact HO_48.out) hb); replace B1 := bb_ B1 hb; replace HB := bs_ HB hb; (try clear hb); ))
        go_ret
        exact fi_ (pbx HB)
 ·obtain ⟨t103, A72, H⟩ := bo_ H; obtain rfl := Option.some.inj H
  go_enter Tryd.func3, Tryd.ntmps3
  go_wp2_with (first | ((with_reducible refine gd_ 1 ?_); (try (refine gate_guard (by rfl) ?_; dsimp only)); refine be_ (N:=1) (cs := #[.int .i64 a0_0, .int .i64 a0_1, .int .i64 a0_2, .int .i64 a0_3, .string a0_4, .int .i64 a0_5, .int .i64 a0_6, .bool a0_7, .bool a0_8, .int .i64 a0_9, .int .i64 a0_10, .bool a0_11, .bool a0_12, .slice A0_13 l0_13.length c0_13]) (t:=28) ?_; intro g1 hg w73 hbox hb; have B1 := A_ (hbox); have GW101 := hs_ HB hg; have GE101 := hs_ HB hg; replace HB := bs_ HB hb; clear hb hbox hg; have hcz74_0 : w73.cell? ⟨g1, 0, none⟩ = some (.int .i64 a0_0) := bc_ B1 0 rfl; have hcz74_1 : w73.cell? ⟨g1, 1, none⟩ = some (.int .i64 a0_1) := bc_ B1 1 rfl; have hcz74_2 : w73.cell? ⟨g1, 2, none⟩ = some (.int .i64 a0_2) := bc_ B1 2 rfl; have hcz74_3 : w73.cell? ⟨g1, 3, none⟩ = some (.int .i64 a0_3) := bc_ B1 3 rfl; have hcz74_4 : w73.cell? ⟨g1, 4, none⟩ = some (.string a0_4) := bc_ B1 4 rfl; have hcz74_5 : w73.cell? ⟨g1, 5, none⟩ = some (.int .i64 a0_5) := bc_ B1 5 rfl; have hcz74_6 : w73.cell? ⟨g1, 6, none⟩ = some (.int .i64 a0_6) := bc_ B1 6 rfl; have hcz74_7 : w73.cell? ⟨g1, 7, none⟩ = some (.bool a0_7) := bc_ B1 7 rfl; have hcz74_8 : w73.cell? ⟨g1, 8, none⟩ = some (.bool a0_8) := bc_ B1 8 rfl; have hcz74_9 : w73.cell? ⟨g1, 9, none⟩ = some (.int .i64 a0_9) := bc_ B1 9 rfl; have hcz74_10 : w73.cell? ⟨g1, 10, none⟩ = some (.int .i64 a0_10) := bc_ B1 10 rfl; have hcz74_11 : w73.cell? ⟨g1, 11, none⟩ = some (.bool a0_11) := bc_ B1 11 rfl; have hcz74_12 : w73.cell? ⟨g1, 12, none⟩ = some (.bool a0_12) := bc_ B1 12 rfl; have hcz74_13 : w73.cell? ⟨g1, 13, none⟩ = some (.slice A0_13 l0_13.length c0_13) := bc_ B1 13 rfl; have hfz74_0 := blk_frozen B1.out 0; have hfz74_1 := blk_frozen B1.out 1; have hfz74_2 := blk_frozen B1.out 2; have hfz74_3 := blk_frozen B1.out 3; have hfz74_4 := blk_frozen B1.out 4; have hfz74_5 := blk_frozen B1.out 5; have hfz74_6 := blk_frozen B1.out 6; have hfz74_7 := blk_frozen B1.out 7; have hfz74_8 := blk_frozen B1.out 8; have hfz74_9 := blk_frozen B1.out 9; have hfz74_10 := blk_frozen B1.out 10; have hfz74_11 := blk_frozen B1.out 11; have hfz74_12 := blk_frozen B1.out 12; have hfz74_13 := blk_frozen B1.out 13) | ((with_reducible refine gate_callee (f:=6) rfl ?_); refine gL_ (some 8) rfl rfl Tryd.func6 rfl #[.agg #[.int .i64 a0_0, .int .i64 a0_1, .int .i64 a0_2, .int .i64 a0_3, .string a0_4, .int .i64 a0_5, .int .i64 a0_6, .bool a0_7, .bool a0_8, .int .i64 a0_9, .int .i64 a0_10, .bool a0_11, .bool a0_12, .slice A0_13 l0_13.length c0_13], .int .i64 200] rfl ?_; (with_reducible refine (oculuslaw22_few.calls k a0_0 a0_1 a0_2 a0_3 a0_4 a0_5 a0_6 a0_7 a0_8 a0_9 a0_10 a0_11 a0_12 _ _ l0_13 200 false _ ?side1 ?side2 A2.out).mono ?_); (case side1 => exact ca_ (Kd.C_below HR0_13.out HB.out)); (case side2 => exact HC0_13.out); rintro e w75 ⟨rfl, hb⟩; refine ⟨_, rfl, ?_⟩; replace B1 := bb_ B1 hb; replace HB := bs_ HB hb; ) | ((with_reducible refine gate_callee (f:=7) rfl ?_); refine gL_ (some 10) rfl rfl Tryd.func7 rfl #[] rfl ?_; (with_reducible refine (oculuslaw22_alive.calls k  t103 _ (by refine tb_ ?_ hT; repeat' (first | exact pbx HB | exact Below.refl _ _ | assumption | refine below_set ?_ (Aside0.out ?_))) A72.out).mono ?_); rintro e w76 ⟨rfl, hb⟩; refine ⟨_, rfl, ?_⟩; replace B1 := bb_ B1 hb; replace HB := bs_ HB hb; ))
  go_ret
  exact fi_ (pbx HB)

end Go.Proofs.YtdddhabemdbooaaDoor.X
/- A general opening of a row's arguments: what a value of a type reads as, as a term of a kind 'Kd', with the bounds that the row's reach gives. -/
set_option linter.unusedVariables false
set_option linter.unusedSimpArgs false
namespace Go.Proofs.YtdddhabemdbooaaDoor.Opn
open Go.ChangeShapes Go.WideShapes Go.RowKit Go.Proofs.YtdddhabemdbooaaDoorW.PrintWords
def Opens {α : Type} (P : Program) (t : TypeId) (d : Kd α) (good : α → Prop) : Prop :=
 ∀ {H : Type} {enc : TypeId × Value → H} {w : World} {base : Nat} {spare : Nat → Bool} {held : Bool} {fuel : Nat} {cs : List Value} {x : DataW H × List MemPlace},
  DataW.trod enc P w base spare held fuel t cs = some x → (∀ m ∈ x.1.weights P t, m ≤ reachBytes) → ∃ a, d.K w a cs ∧ good a
theorem opens_int {P : Program} {t : TypeId} {k : IntKind} (ht : P.underlying t = some (.int k)) : Opens P t (Kd.int k) (fun n => (Lit.int k n).wf = true) := by
 intro H enc w base spare held fuel cs x hx _
 obtain ⟨n, rfl, rfl, hn⟩ := DataW.trod_int ht hx
 exact ⟨n, rfl, hn⟩
theorem opens_bool {P : Program} {t : TypeId} (ht : P.underlying t = some .bool) : Opens P t Kd.bool (fun _ => True) := by
 intro H enc w base spare held fuel cs x hx _
 obtain ⟨n, rfl, rfl⟩ := DataW.trod_bool ht hx
 exact ⟨n, rfl, trivial⟩
theorem opens_string {P : Program} {t : TypeId} (ht : P.underlying t = some .string) : Opens P t Kd.string (fun s => s.size ≤ reachBytes) := by
 intro H enc w base spare held fuel cs x hx hw
 obtain ⟨s, rfl, rfl, _⟩ := DataW.trod_string ht hx
 refine ⟨s, rfl, ?_⟩
 have := hw s.data.toList.length (by simp [DataW.weights])
 simpa using this
theorem weightsAll_mem {H : Type} {P : Program} {e : TypeId} : ∀ {l : List (DataW H)} {d : DataW H}, d ∈ l → ∀ m ∈ d.weights P e, m ∈ DataW.weightsAll P e l
 | d0 :: l, d, hd, m, hm => by
  simp only [DataW.weightsAll, List.mem_append]
  rcases List.mem_cons.1 hd with rfl | hd
  ·exact Or.inl hm
  ·exact Or.inr (weightsAll_mem hd m hm)
 | [], _, hd, _, _ => by simp at hd
def OpensTail {α : Type} (P : Program) (fs : List Field) (o len : Nat) (d : Kd α) (good : α → Prop) : Prop :=
 ∀ {H : Type} {enc : TypeId × Value → H} {w : World} {base : Nat} {spare : Nat → Bool} {held : Bool} {n : Nat} {cs : List Value} {xs : List (DataW H × List MemPlace)},
  cs.length = len → xs.length = fs.length →
  (∀ (i : Nat) (f : Field), fs[i]? = some f → DataW.trod enc P w base spare held n f.type ((cs.drop f.offset).take (P.cellsOf f.type)) = xs[i]?) →
  (∀ m ∈ DataW.weightsEach P (fs.map (·.type)) (xs.map (·.1)), m ≤ reachBytes) → ∃ a, d.K w a (cs.drop o) ∧ good a
theorem tail_one {α : Type} {P : Program} {f : Field} {o len : Nat} {d : Kd α} {good : α → Prop} (ho : f.offset = o) (hl : len ≤ o + P.cellsOf f.type) (h : Opens P f.type d good) : OpensTail P [f] o len d good := by
 intro H enc w base spare held n cs xs hcs hxs hall hw
 obtain ⟨x, rfl⟩ : ∃ x, xs = [x] := by
  match xs, hxs with
  | [x], _ => exact ⟨x, rfl⟩
 have h0 := hall 0 f rfl
 rw [ho, List.take_of_length_le (by rw [List.length_drop]; omega)] at h0
 exact h h0 (fun m hm => hw m (by simp only [List.map_cons, List.map_nil, DataW.weightsEach, List.mem_append]; exact Or.inl hm))
theorem tail_cons {α β : Type} {P : Program} {f : Field} {fs : List Field} {o o' len : Nat} {a : Kd α} {b : Kd β} {ga : α → Prop} {gb : β → Prop} (ho : f.offset = o) (ho' : o' = o + P.cellsOf f.type)
  (h : Opens P f.type a ga) (ht : OpensTail P fs o' len b gb) : OpensTail P (f :: fs) o len (Kd.pair a b) (fun x => ga x.1 ∧ gb x.2) := by
 intro H enc w base spare held n cs xs hcs hxs hall hw
 obtain ⟨x, xs, rfl⟩ : ∃ x r, xs = x :: r := by
  match xs, hxs with
  | x :: r, _ => exact ⟨x, r, rfl⟩
 have h0 := hall 0 f rfl
 rw [ho] at h0
 obtain ⟨y, hy, hgy⟩ := h h0 (fun m hm => hw m (by simp only [List.map_cons, DataW.weightsEach, List.mem_append]; exact Or.inl hm))
 obtain ⟨z, hz, hgz⟩ := ht (xs := xs) hcs (by simpa using hxs) (fun i g hg => by simpa using hall (i + 1) g (by simpa using hg))
  (fun m hm => hw m (by simp only [List.map_cons, DataW.weightsEach, List.mem_append]; exact Or.inr hm))
 refine ⟨(y, z), ⟨(cs.drop o).take (P.cellsOf f.type), cs.drop o', ?_, hy, hz⟩, hgy, hgz⟩
 rw [ho', ← List.drop_drop, List.take_append_drop]
theorem opens_struct {α β : Type} {P : Program} {t : TypeId} {fs : Array Field} {len : Nat} {d : Kd α} {good : α → Prop} (ht : P.underlying t = some (.struct fs)) (hl : P.cellsOf t = len) (h : OpensTail P fs.toList 0 len d good) (f : β → α) (g : α → β) (hfg : ∀ a, f (g a) = a) :
  Opens P t (Kd.iso d f) (fun x => good (f x)) := by
 intro H enc w base spare held fuel cs x hx hw
 obtain ⟨xs, n, rfl, rfl, hcs, hxs, hall⟩ := DataW.trod_struct ht hx
 obtain ⟨a, ha, hga⟩ := h (xs := xs) (hcs.trans hl) (by simpa using hxs) (fun i f hf => hall i f (by simpa using hf)) (fun m hm => hw m (by simp only [DataW.weights, ht]; exact hm))
 refine ⟨g a, ?_, by show good (f (g a)); rw [hfg]; exact hga⟩
 show d.K w (f (g a)) cs
 rw [hfg]
 simpa using ha
theorem Opens.iso {α β : Type} {P : Program} {t : TypeId} {d : Kd α} {good : α → Prop} (h : Opens P t d good) (f : β → α) (g : α → β) (hfg : ∀ a, f (g a) = a) : Opens P t (Kd.iso d f) (fun x => good (f x)) := by
 intro H enc w base spare held fuel cs x hx hw
 obtain ⟨a, ha, hga⟩ := h hx hw
 refine ⟨g a, ?_, by show good (f (g a)); rw [hfg]; exact hga⟩
 show d.K w (f (g a)) cs
 rw [hfg]
 exact ha
end Go.Proofs.YtdddhabemdbooaaDoor.Opn
/- The opening of a type that leads back into itself (a tree): by the datum's size. -/
set_option linter.unusedVariables false
set_option linter.unusedSimpArgs false
namespace Go.Proofs.YtdddhabemdbooaaDoor.Opn
open Go.ChangeShapes Go.WideShapes Go.RowKit Go.Proofs.YtdddhabemdbooaaDoorW.PrintWords
def OpensS {α : Type} (S : Nat) (P : Program) (t : TypeId) (d : Kd α) (good : α → Prop) : Prop :=
 ∀ {H : Type} {enc : TypeId × Value → H} {w : World} {base : Nat} {spare : Nat → Bool} {held : Bool} {fuel : Nat} {cs : List Value} {x : DataW H × List MemPlace},
  SizeOf.sizeOf x.1 < S → DataW.trod enc P w base spare held fuel t cs = some x → (∀ m ∈ x.1.weights P t, m ≤ reachBytes) → ∃ a, d.K w a cs ∧ good a
theorem Opens.toS {α : Type} {P : Program} {t : TypeId} {d : Kd α} {good : α → Prop} (h : Opens P t d good) (S : Nat) : OpensS S P t d good := fun _ hx hw => h hx hw
theorem OpensS.to {α : Type} {P : Program} {t : TypeId} {d : Kd α} {good : α → Prop} (h : ∀ S, OpensS S P t d good) : Opens P t d good := fun hx hw => h _ (Nat.lt_succ_self _) hx hw
theorem opensS_slice {α : Type} {S : Nat} {P : Program} {t e : TypeId} {d : Kd α} {good : α → Prop} (ht : P.underlying t = some (.slice e)) (hc : P.cellsOf e = d.sz) {B : Nat} (hB : P.bytesOf e = B) (z : α) (h : OpensS S P e d good) :
  OpensS S P t (Kd.slice e d) (fun xs => (∀ x ∈ xs, good x) ∧ xs.length * B ≤ reachBytes) := by
 intro H enc w base spare held fuel cs x hsz hx hw
 rcases Go.Deep.open_slice ht hx with ⟨rfl, rfl⟩ | ⟨a, len, cap, m, n, D, Pl, rfl, hb, hl, hm, hmm, rfl, hel⟩
 ·exact ⟨[], ⟨none, 0, rfl, Nat.le_refl _, rfl, by simp, fun h0 => absurd h0 (by simp)⟩, by simp, by simp⟩
 ·have hlm : len ≤ m := by rw [hmm]; split <;> omega
  have hmx : len ≤ 9223372036854775807 := by unfold maxLen at hm; omega
  have hs' : ∀ i, i < len → SizeOf.sizeOf (D i) < S := by
   intro i hi
   have h1 := List.sizeOf_lt_of_mem (show D i ∈ (List.range len).map D from List.mem_map.2 ⟨i, List.mem_range.2 hi, rfl⟩)
   simp only [DataW.slice.sizeOf_spec] at hsz
   omega
  have hw' : ∀ i, i < len → ∀ q ∈ (D i).weights P e, q ≤ reachBytes := by
   intro i hi q hq
   refine hw q ?_
   simp only [DataW.weights, ht]
   refine List.mem_cons_of_mem _ (List.mem_append.2 (Or.inl ?_))
   exact weightsAll_mem (d := D i) (List.mem_map.2 ⟨i, List.mem_range.2 hi, rfl⟩) q hq
  have hB' : len * B ≤ reachBytes := by
   have h0 := hw ((((List.range len).map D).length + ((List.range (m - len)).map fun j => D (len + j)).length) * P.bytesOf e) (by simp only [DataW.weights, ht]; exact List.mem_cons_self ..)
   rw [hB] at h0
   simp only [List.length_map, List.length_range] at h0
   exact Nat.le_trans (Nat.mul_le_mul_right B (by omega)) h0
  have key : ∀ i, i < len → ∃ y : α × List Value, d.K w y.1 y.2 ∧ good y.1 ∧ w.cells? base (a.add (i * P.cellsOf e)) (P.cellsOf e) = some y.2 := by
   intro i hi
   obtain ⟨cs', h1, h2⟩ := hel i (by omega)
   obtain ⟨y, h3, h4⟩ := h (hs' i hi) h2 (hw' i hi)
   exact ⟨(y, cs'), h3, h4, h1⟩
  haveI : Inhabited (α × List Value) := ⟨(z, [])⟩
  obtain ⟨F, hF⟩ := Go.Deep.choose_lt key
  refine ⟨(List.range len).map fun i => (F i).1, ⟨some a, cap, by simp, by simpa using hl, by simp, by simpa using hmx, fun h0 => ⟨a, rfl, ?_⟩⟩, ?_, by simpa using hB'⟩
  ·intro j p hj
   have hjl : j < len := by
    have := (List.getElem?_eq_some_iff.1 hj).1
    simpa using this
   have hp : p = (F j).1 := by
    rw [List.getElem?_map, List.getElem?_range hjl] at hj
    simpa using hj.symm
   subst hp
   obtain ⟨h1, h2, h3⟩ := hF j hjl
   obtain ⟨_, hlen, hcell⟩ := World.cells?_some h3
   refine ⟨(F j).2, by rw [hlen, hc], h1, fun i u hu => ?_⟩
   have hi : i < P.cellsOf e := by
    have := (List.getElem?_eq_some_iff.1 hu).1
    omega
   have := hcell i hi
   rw [Go.Deep.add_add] at this
   rw [← hc, this, hu]
  ·intro x hx
   obtain ⟨i, hi, rfl⟩ := List.mem_map.1 hx
   exact (hF i (List.mem_range.1 hi)).2.1
def OpensTailS {α : Type} (S : Nat) (P : Program) (fs : List Field) (o len : Nat) (d : Kd α) (good : α → Prop) : Prop :=
 ∀ {H : Type} {enc : TypeId × Value → H} {w : World} {base : Nat} {spare : Nat → Bool} {held : Bool} {n : Nat} {cs : List Value} {xs : List (DataW H × List MemPlace)},
  (∀ y ∈ xs, SizeOf.sizeOf y.1 < S) → cs.length = len → xs.length = fs.length →
  (∀ (i : Nat) (f : Field), fs[i]? = some f → DataW.trod enc P w base spare held n f.type ((cs.drop f.offset).take (P.cellsOf f.type)) = xs[i]?) →
  (∀ m ∈ DataW.weightsEach P (fs.map (·.type)) (xs.map (·.1)), m ≤ reachBytes) → ∃ a, d.K w a (cs.drop o) ∧ good a
theorem tailS_one {α : Type} {S : Nat} {P : Program} {f : Field} {o len : Nat} {d : Kd α} {good : α → Prop} (ho : f.offset = o) (hl : len ≤ o + P.cellsOf f.type) (h : OpensS S P f.type d good) : OpensTailS S P [f] o len d good := by
 intro H enc w base spare held n cs xs hsz hcs hxs hall hw
 obtain ⟨x, rfl⟩ : ∃ x, xs = [x] := by
  match xs, hxs with
  | [x], _ => exact ⟨x, rfl⟩
 have h0 := hall 0 f rfl
 rw [ho, List.take_of_length_le (by rw [List.length_drop]; omega)] at h0
 exact h (hsz x (by simp)) h0 (fun m hm => hw m (by simp only [List.map_cons, List.map_nil, DataW.weightsEach, List.mem_append]; exact Or.inl hm))
theorem tailS_cons {α β : Type} {S : Nat} {P : Program} {f : Field} {fs : List Field} {o o' len : Nat} {a : Kd α} {b : Kd β} {ga : α → Prop} {gb : β → Prop} (ho : f.offset = o) (ho' : o' = o + P.cellsOf f.type)
  (h : OpensS S P f.type a ga) (ht : OpensTailS S P fs o' len b gb) : OpensTailS S P (f :: fs) o len (Kd.pair a b) (fun x => ga x.1 ∧ gb x.2) := by
 intro H enc w base spare held n cs xs hsz hcs hxs hall hw
 obtain ⟨x, xs, rfl⟩ : ∃ x r, xs = x :: r := by
  match xs, hxs with
  | x :: r, _ => exact ⟨x, r, rfl⟩
 have h0 := hall 0 f rfl
 rw [ho] at h0
 obtain ⟨y, hy, hgy⟩ := h (hsz x (by simp)) h0 (fun m hm => hw m (by simp only [List.map_cons, DataW.weightsEach, List.mem_append]; exact Or.inl hm))
 obtain ⟨z, hz, hgz⟩ := ht (xs := xs) (fun y hy => hsz y (by simp [hy])) hcs (by simpa using hxs) (fun i g hg => by simpa using hall (i + 1) g (by simpa using hg))
  (fun m hm => hw m (by simp only [List.map_cons, DataW.weightsEach, List.mem_append]; exact Or.inr hm))
 refine ⟨(y, z), ⟨(cs.drop o).take (P.cellsOf f.type), cs.drop o', ?_, hy, hz⟩, hgy, hgz⟩
 rw [ho', ← List.drop_drop, List.take_append_drop]
theorem opensS_struct {α β : Type} {S : Nat} {P : Program} {t : TypeId} {fs : Array Field} {len : Nat} {d : Kd α} {good : α → Prop} (ht : P.underlying t = some (.struct fs)) (hl : P.cellsOf t = len) (h : OpensTailS S P fs.toList 0 len d good) (f : β → α) (g : α → β) (hfg : ∀ a, f (g a) = a) :
  OpensS (S + 1) P t (Kd.iso d f) (fun x => good (f x)) := by
 intro H enc w base spare held fuel cs x hsz hx hw
 obtain ⟨xs, n, rfl, rfl, hcs, hxs, hall⟩ := DataW.trod_struct ht hx
 obtain ⟨a, ha, hga⟩ := h (xs := xs) (fun y hy => by
  have h1 := List.sizeOf_lt_of_mem (show y.1 ∈ xs.map (·.1) from List.mem_map.2 ⟨y, hy, rfl⟩)
  simp only [DataW.agg.sizeOf_spec] at hsz
  omega) (hcs.trans hl) (by simpa using hxs) (fun i f hf => hall i f (by simpa using hf)) (fun m hm => hw m (by simp only [DataW.weights, ht]; exact hm))
 refine ⟨g a, ?_, by show good (f (g a)); rw [hfg]; exact hga⟩
 show d.K w (f (g a)) cs
 rw [hfg]
 simpa using ha
end Go.Proofs.YtdddhabemdbooaaDoor.Opn
namespace Go.Proofs.YtdddhabemdbooaaDoor.X
open Go.RowKit Go.Proofs.YtdddhabemdbooaaDoorW.PrintWords Go.Proofs.YtdddhabemdbooaaDoorW.PrintLast Go.Proofs.YtdddhabemdbooaaDoorW.PrintMore Go.Proofs.YtdddhabemdbooaaDoor.Opn
def good23 (x : S23) : Prop := ((Lit.int .i64 x.f0).wf = true) ∧ ((Lit.int .i64 x.f1).wf = true) ∧ (x.f2.size ≤ reachBytes)
theorem opens23 : Opens Tryd.prog 23 k23 good23 := opens_struct Tryd.underlying23 (len := 3) (by kernel_rfl) (tail_cons rfl (by kernel_rfl) (opens_int Tryd.underlying3) (tail_cons rfl (by kernel_rfl) (opens_int Tryd.underlying2) (tail_one rfl (Nat.le_of_eq (by kernel_rfl)) (opens_string Tryd.underlying9)))) (fun x : S23 => (x.f0, x.f1, x.f2)) (fun a => ⟨a.1, a.2.1, a.2.2⟩) (fun _ => rfl)
def good25 (x : S25) : Prop := ((Lit.int .i64 x.f0).wf = true) ∧ ((Lit.int .i64 x.f1).wf = true) ∧ (True) ∧ (True)
theorem opens25 : Opens Tryd.prog 25 k25 good25 := opens_struct Tryd.underlying25 (len := 4) (by kernel_rfl) (tail_cons rfl (by kernel_rfl) (opens_int Tryd.underlying3) (tail_cons rfl (by kernel_rfl) (opens_int Tryd.underlying3) (tail_cons rfl (by kernel_rfl) (opens_bool Tryd.underlying4) (tail_one rfl (Nat.le_of_eq (by kernel_rfl)) (opens_bool Tryd.underlying4))))) (fun x : S25 => (x.f0, x.f1, x.f2, x.f3)) (fun a => ⟨a.1, a.2.1, a.2.2.1, a.2.2.2⟩) (fun _ => rfl)
inductive good28 : S28 → Prop
 | mk (x : S28) (h0 : (Lit.int .i64 x.f0).wf = true) (h1 : (Lit.int .i64 x.f1).wf = true) (h2 : good23 x.f2) (h3 : good25 x.f3) (h4 : good25 x.f4) (h5 : ∀ y ∈ x.f5, good28 y) (h6 : x.f5.length * 120 ≤ reachBytes) : good28 x
theorem opensS28 (S : Nat) : OpensS S Tryd.prog 28 k28 good28 := by
 induction S with
 | zero =>
  intro H enc w base spare held fuel cs x hsz
  exact absurd hsz (Nat.not_lt_zero _)
 | succ S ih =>
  have hF : OpensS (S + 1) Tryd.prog 28 (F28 k28) _ := opensS_struct Tryd.underlying28 (len := 14) (by kernel_rfl) (tailS_cons rfl (by kernel_rfl) (Opens.toS (opens_int Tryd.underlying3) S) (tailS_cons rfl (by kernel_rfl) (Opens.toS (opens_int Tryd.underlying3) S) (tailS_cons rfl (by kernel_rfl) (Opens.toS opens23 S) (tailS_cons rfl (by kernel_rfl) (Opens.toS opens25 S) (tailS_cons rfl (by kernel_rfl) (Opens.toS opens25 S) (tailS_one rfl (Nat.le_of_eq (by kernel_rfl)) (opensS_slice Tryd.underlying26 (by kernel_rfl) (B := 120) (by kernel_rfl) z28 ih))))))) (fun x : S28 => (x.f0, x.f1, x.f2, x.f3, x.f4, x.f5)) (fun a => ⟨a.1, a.2.1, a.2.2.1, a.2.2.2.1, a.2.2.2.2.1, a.2.2.2.2.2⟩) (fun _ => rfl)
  intro H enc w base spare held fuel cs x hsz hx hw
  obtain ⟨a, hK, g0, g1, g2, g3, g4, g5, g6⟩ := hF hsz hx hw
  refine ⟨a, ?_, good28.mk a g0 g1 g2 g3 g4 g5 g6⟩
  obtain ⟨_, _, rfl, rfl, ⟨_, _, rfl, rfl, ⟨_, _, rfl, s2, ⟨_, _, rfl, s5, ⟨_, _, rfl, s9, ⟨A13, c13, rfl, l13, g13⟩⟩⟩⟩⟩⟩ := hK
  obtain rfl := k23_open s2
  obtain rfl := k25_open s5
  obtain rfl := k25_open s9
  exact k28_mk w a l13 g13
theorem opens28 : Opens Tryd.prog 28 k28 good28 := OpensS.to opensS28
end Go.Proofs.YtdddhabemdbooaaDoor.X
/- The openings of the arguments of the law NodeTells, and its pure statement. -/
set_option linter.unusedVariables false
namespace Go.Proofs.YtdddhabemdbooaaDoor.X
open Go.RowKit Go.Proofs.YtdddhabemdbooaaDoorW.PrintWords Go.Proofs.YtdddhabemdbooaaDoorW.PrintLast Go.Proofs.YtdddhabemdbooaaDoorW.PrintMore Go.Proofs.YtdddhabemdbooaaDoor.Opn
def oculuslaw22_NodeTells.PureX : Prop := ∀ (a0 : S28), (good28 a0) → ∃ k, oculuslaw22_NodeTells.f k (a0.f0) (a0.f1) (a0.f2.f0) (a0.f2.f1) (a0.f2.f2) (a0.f3.f0) (a0.f3.f1) (a0.f3.f2) (a0.f3.f3) (a0.f4.f0) (a0.f4.f1) (a0.f4.f2) (a0.f4.f3) (a0.f5) = some true
end Go.Proofs.YtdddhabemdbooaaDoor.X
/- Plain facts on whole numbers, bits and lists that the pure statements use. -/
set_option linter.unusedVariables false
set_option linter.unusedSimpArgs false
namespace Go.Proofs.YtdddhabemdbooaaDoor.X
open Go.RowKit Go.Proofs.YtdddhabemdbooaaDoorW.PrintWords Go.Proofs.YtdddhabemdbooaaDoorW.PrintLast Go.Proofs.YtdddhabemdbooaaDoorW.PrintMore
theorem wf_i64 {x : Int} (h : (Lit.int .i64 x).wf = true) : -9223372036854775808 ≤ x ∧ x ≤ 9223372036854775807 := by
 simp only [Lit.wf, IntKind.min, IntKind.max, IntKind.signed, IntKind.bits, Bool.and_eq_true, decide_eq_true_eq, if_true] at h
 omega
theorem w64 {x : Int} (h0 : -9223372036854775808 ≤ x) (h1 : x ≤ 9223372036854775807) : wrap64 x = x := by unfold wrap64; omega
theorem w64s {i n : Nat} (h : i < n) (hn : n ≤ 9223372036854775807) : wrap64 ((i : Int) + 1) = ((i + 1 : Nat) : Int) := by unfold wrap64; omega
theorem ev_some {α : Type} {g : Nat → Option α} {r : α} (h : ∀ k, g k = some r) : Ev g r := ⟨0, fun k _ => h k⟩
theorem ev_ite {α : Type} {c : Prop} [Decidable c] {f g : Nat → Option α} {r : α} (h1 : c → Ev f r) (h2 : ¬ c → Ev g r) : Ev (fun k => if c then f k else g k) r := by
 by_cases h : c
 ·simp only [if_pos h]; exact h1 h
 ·simp only [if_neg h]; exact h2 h
theorem ev_pos {α : Type} {c : Prop} [Decidable c] {f g : Nat → Option α} {r : α} (h : c) (h1 : Ev f r) : Ev (fun k => if c then f k else g k) r := by simp only [if_pos h]; exact h1
theorem ev_neg {α : Type} {c : Prop} [Decidable c] {f g : Nat → Option α} {r : α} (h : ¬ c) (h1 : Ev g r) : Ev (fun k => if c then f k else g k) r := by simp only [if_neg h]; exact h1
theorem ev_bind {α β : Type} {g : Nat → Option α} {f : Nat → α → Option β} {a : α} {r : β} (h : Ev g a) (k : Ev (fun n => f n a) r) : Ev (fun n => (g n).bind (f n)) r := Ev.bind h k
theorem ev_bsome {α β : Type} {x : α} {f : Nat → α → Option β} {r : β} (k : Ev (fun n => f n x) r) : Ev (fun n => (some x).bind (f n)) r := k
theorem mod_pow_succ (x i : Nat) : x % 2 ^ (i + 1) = x % 2 ^ i + 2 ^ i * (x.testBit i).toNat := by
 rw [Nat.pow_succ, Nat.mod_mul, Nat.testBit_eq_decide_div_mod_eq]
 have := Nat.mod_two_eq_zero_or_one (x / 2 ^ i)
 rcases this with h | h <;> simp [h]
end Go.Proofs.YtdddhabemdbooaaDoor.X
/- Plain facts on texts as lists of bytes. -/
set_option linter.unusedVariables false
set_option linter.unusedSimpArgs false
namespace Go.Proofs.YtdddhabemdbooaaDoor.X
open Go.RowKit Go.Proofs.YtdddhabemdbooaaDoorW.PrintWords Go.Proofs.YtdddhabemdbooaaDoorW.PrintLast Go.Proofs.YtdddhabemdbooaaDoorW.PrintMore
def by_ (s : ByteArray) : List UInt8 := s.data.toList
def tx (l : List UInt8) : ByteArray := ⟨l.toArray⟩
theorem by_tx (l : List UInt8) : by_ (tx l) = l := by simp [by_, tx]
theorem tx_by (s : ByteArray) : tx (by_ s) = s := by
 obtain ⟨⟨l⟩⟩ := s
 rfl
theorem by_inj {s t : ByteArray} (h : by_ s = by_ t) : s = t := by rw [← tx_by s, ← tx_by t, h]
theorem toList_by (s : ByteArray) : s.toList = by_ s := ByteArray.toList_eq s
theorem size_by (s : ByteArray) : s.size = (by_ s).length := by
 obtain ⟨⟨l⟩⟩ := s
 rfl
theorem size_tx (l : List UInt8) : (tx l).size = l.length := by rw [size_by, by_tx]
theorem toList_inj {s t : ByteArray} : s.toList = t.toList ↔ s = t := by
 rw [toList_by, toList_by]
 exact ⟨by_inj, fun h => by rw [h]⟩
theorem by_extract (s : ByteArray) (a b : Nat) : by_ (s.extract a b) = ((by_ s).drop a).take (b - a) := Go.Lib.extract_data s a b
theorem by_head (s : ByteArray) (b : Nat) : by_ (s.extract 0 b) = (by_ s).take b := by rw [by_extract]; simp
theorem by_tail (s : ByteArray) (a : Nat) : by_ (s.extract a s.size) = (by_ s).drop a := by
 rw [by_extract, List.take_of_length_le]
 rw [List.length_drop, size_by]
 exact Nat.le_refl _
theorem ext_head (s : ByteArray) (b : Nat) : s.extract 0 b = tx ((by_ s).take b) := by_inj (by rw [by_head, by_tx])
theorem ext_tail (s : ByteArray) (a : Nat) : s.extract a s.size = tx ((by_ s).drop a) := by_inj (by rw [by_tail, by_tx])
theorem by_append (s t : ByteArray) : by_ (s ++ t) = by_ s ++ by_ t := by
 obtain ⟨⟨l⟩⟩ := s
 obtain ⟨⟨m⟩⟩ := t
 simp [by_, ByteArray.data_append]
theorem tx_append (l m : List UInt8) : tx l ++ tx m = tx (l ++ m) := by_inj (by rw [by_append, by_tx, by_tx, by_tx])
theorem bt_by (s : ByteArray) (i : Nat) (h : i < (by_ s).length) : bt s (i : Int) = ((by_ s)[i].toNat : Int) := by
 obtain ⟨⟨l⟩⟩ := s
 have h' : (i : Int).toNat < (⟨⟨l⟩⟩ : ByteArray).size := by rw [Int.toNat_natCast]; exact h
 unfold bt
 rw [dif_pos h']
 simp only [Int.toNat_natCast]
 rfl
theorem bt_tx (l : List UInt8) (i : Nat) (h : i < l.length) : bt (tx l) (i : Int) = (l[i].toNat : Int) := by
 rw [bt_by (tx l) i (by rw [by_tx]; exact h)]
 simp only [by_tx]
theorem bt_tx0 (c : UInt8) (l : List UInt8) : bt (tx (c :: l)) 0 = (c.toNat : Int) := bt_tx (c :: l) 0 (by simp)
theorem u8_lt (c : UInt8) : c.toNat < 256 := c.toNat_lt
end Go.Proofs.YtdddhabemdbooaaDoor.X
/- Trees of formulas: their list, depth and count, and when two are the same; plain, with enough rounds. -/
set_option linter.unusedVariables false
set_option linter.unusedSimpArgs false
namespace Go.Proofs.YtdddhabemdbooaaDoor.X
open Go.RowKit Go.Proofs.YtdddhabemdbooaaDoorW.PrintWords Go.Proofs.YtdddhabemdbooaaDoorW.PrintLast Go.Proofs.YtdddhabemdbooaaDoorW.PrintMore
abbrev N : Type := S28
theorem n_sz {x y : N} (h : y ∈ x.f5) : SizeOf.sizeOf y < SizeOf.sizeOf x := by
 have := List.sizeOf_lt_of_mem h
 cases x
 simp only [S28.mk.sizeOf_spec]
 dsimp only at this
 omega
theorem n_ind {P : N → Prop} (h : ∀ x, (∀ y ∈ x.f5, P y) → P x) (x : N) : P x := h x (fun y _ => n_ind h y)
termination_by SizeOf.sizeOf x
decreasing_by exact n_sz ‹_›
def lst (x : N) : List N := x :: x.f5.attach.flatMap (fun y => lst y.1)
termination_by SizeOf.sizeOf x
decreasing_by exact n_sz y.2
theorem lst_eq (x : N) : lst x = x :: x.f5.flatMap lst := by
 rw [lst]
 congr 1
 show x.f5.attach.flatMap (fun y => lst (Subtype.val y)) = _
 rw [← List.flatMap_map, List.attach_map_subtype_val]
def dps (f : N → Nat) (l : List N) : Nat := l.foldr (fun y n => max (f y) n) 0
def dp (x : N) : Nat := x.f5.attach.foldr (fun y n => max (dp y.1) n) 0 + 1
termination_by SizeOf.sizeOf x
decreasing_by exact n_sz y.2
theorem dp_eq (x : N) : dp x = dps dp x.f5 + 1 := by
 rw [dp]
 unfold dps
 congr 1
 show x.f5.attach.foldr (fun y n => (fun z n => max (dp z) n) (Subtype.val y) n) 0 = _
 rw [← List.foldr_map (f := Subtype.val) (g := fun z n => max (dp z) n), List.attach_map_subtype_val]
theorem dps_le {f : N → Nat} {l : List N} {n : Nat} (h : ∀ y ∈ l, f y ≤ n) : dps f l ≤ n := by
 induction l with
 | nil => exact Nat.zero_le _
 | cons a l ih =>
  unfold dps
  rw [List.foldr_cons]
  exact Nat.max_le.2 ⟨h a List.mem_cons_self, ih (fun y hy => h y (List.mem_cons_of_mem _ hy))⟩
theorem len_mem {l : List N} {y : N} (h : y ∈ l) : (lst y).length ≤ (l.flatMap lst).length := by
 induction l with
 | nil => cases h
 | cons a l ih =>
  rw [List.flatMap_cons, List.length_append]
  rcases List.mem_cons.1 h with rfl | h
  ·omega
  ·have := ih h; omega
theorem dp_le (x : N) : dp x ≤ (lst x).length := by
 induction x using n_ind with
 | h x ih =>
  rw [dp_eq, lst_eq, List.length_cons]
  have : dps dp x.f5 ≤ (x.f5.flatMap lst).length := dps_le (fun y hy => Nat.le_trans (ih y hy) (len_mem hy))
  omega
theorem rdN (l : List N) (i : Nat) (h : i < l.length) : rd_T28 l (i : Int) = l[i] := by
 unfold rd_T28
 rw [Int.toNat_natCast, List.getD_eq_getElem?_getD, List.getElem?_eq_getElem h]
 rfl
theorem drop_at {l : List N} {i : Nat} (h : i < l.length) : l.drop i = l[i] :: l.drop (i + 1) := List.drop_eq_getElem_cons h
theorem mkN (x : N) : (⟨x.f0, x.f1, ⟨x.f2.f0, x.f2.f1, x.f2.f2⟩, ⟨x.f3.f0, x.f3.f1, x.f3.f2, x.f3.f3⟩, ⟨x.f4.f0, x.f4.f1, x.f4.f2, x.f4.f3⟩, x.f5⟩ : N) = x := by cases x; rfl
abbrev leftF (k : Nat) (x : N) (m : Int) := oculusref22_Left.f k x.f0 x.f1 x.f2.f0 x.f2.f1 x.f2.f2 x.f3.f0 x.f3.f1 x.f3.f2 x.f3.f3 x.f4.f0 x.f4.f1 x.f4.f2 x.f4.f3 x.f5 m
abbrev countF (k : Nat) (x : N) := node_Count.f k x.f0 x.f1 x.f2.f0 x.f2.f1 x.f2.f2 x.f3.f0 x.f3.f1 x.f3.f2 x.f3.f3 x.f4.f0 x.f4.f1 x.f4.f2 x.f4.f3 x.f5
abbrev deepF (k : Nat) (x : N) := node_Deep.f k x.f0 x.f1 x.f2.f0 x.f2.f1 x.f2.f2 x.f3.f0 x.f3.f1 x.f3.f2 x.f3.f3 x.f4.f0 x.f4.f1 x.f4.f2 x.f4.f3 x.f5
abbrev listF (k : Nat) (x : N) := node_List.f k x.f0 x.f1 x.f2.f0 x.f2.f1 x.f2.f2 x.f3.f0 x.f3.f1 x.f3.f2 x.f3.f3 x.f4.f0 x.f4.f1 x.f4.f2 x.f4.f3 x.f5
abbrev rlistF (k : Nat) (x : N) := oculusref22_List.f k x.f0 x.f1 x.f2.f0 x.f2.f1 x.f2.f2 x.f3.f0 x.f3.f1 x.f3.f2 x.f3.f3 x.f4.f0 x.f4.f1 x.f4.f2 x.f4.f3 x.f5
abbrev sameF (k : Nat) (x y : N) := node_Same.f k x.f0 x.f1 x.f2.f0 x.f2.f1 x.f2.f2 x.f3.f0 x.f3.f1 x.f3.f2 x.f3.f3 x.f4.f0 x.f4.f1 x.f4.f2 x.f4.f3 x.f5 y.f0 y.f1 y.f2.f0 y.f2.f1 y.f2.f2 y.f3.f0 y.f3.f1 y.f3.f2 y.f3.f3 y.f4.f0 y.f4.f1 y.f4.f2 y.f4.f3 y.f5
abbrev rsameF (k : Nat) (x y : N) := oculusref22_Same.f k x.f0 x.f1 x.f2.f0 x.f2.f1 x.f2.f2 x.f3.f0 x.f3.f1 x.f3.f2 x.f3.f3 x.f4.f0 x.f4.f1 x.f4.f2 x.f4.f3 x.f5 y.f0 y.f1 y.f2.f0 y.f2.f1 y.f2.f2 y.f3.f0 y.f3.f1 y.f3.f2 y.f3.f3 y.f4.f0 y.f4.f1 y.f4.f2 y.f4.f3 y.f5
def Lft (n m r : Int) : Prop := -1 ≤ r ∧ r ≤ 200 ∧ (n ≤ m → r = m - n) ∧ (m < n → r = -1)
theorem left_ev (x : N) (hx : x.f5.length ≤ 9223372036854775806 ∧ ∀ y ∈ x.f5, ∀ m : Int, 0 ≤ m → m ≤ 200 → ∃ r, Ev (fun k => leftF k y m) r ∧ Lft ((lst y).length : Int) m r) : ∀ m : Int, 0 ≤ m → m ≤ 200 → ∃ r, Ev (fun k => leftF k x m) r ∧ Lft ((lst x).length : Int) m r := by
 obtain ⟨hlen, ih⟩ := hx
 have loop : ∀ (d i : Nat) (m : Int), i + d = x.f5.length → -1 ≤ m → m ≤ 200 → ∃ r, Ev (fun k => oculusref22_Left.l0 k m (i : Int) x.f0 x.f1 x.f2.f0 x.f2.f1 x.f2.f2 x.f3.f0 x.f3.f1 x.f3.f2 x.f3.f3 x.f4.f0 x.f4.f1 x.f4.f2 x.f4.f3 x.f5) r ∧ (m < 0 → r = -1) ∧ (0 ≤ m → Lft (((x.f5.drop i).flatMap lst).length : Int) m r) := by
  intro d
  induction d with
  | zero =>
   intro i m hi h0 h1
   refine ⟨m, Ev.step (f := fun _ => some m) (fun k => ?_) (Ev.now _), fun h => by omega, fun h => ?_⟩
   ·simp only [oculusref22_Left.l0]
    rw [if_neg (by omega)]
   ·rw [List.drop_of_length_le (by omega)]
    exact ⟨h0, h1, fun _ => by simp, fun h => by simp at h; omega⟩
  | succ d ihd =>
   intro i m hi h0 h1
   by_cases hm : 0 ≤ m
   ·have hil : i < x.f5.length := by omega
    obtain ⟨r1, e1, q0, q1, q2, q3⟩ := ih x.f5[i] (List.getElem_mem _) m hm h1
    obtain ⟨r2, e2, p1, p2⟩ := ihd (i + 1) r1 (by omega) q0 q1
    have hl : (lst x.f5[i] ++ (x.f5.drop (i + 1)).flatMap lst).length = (lst x.f5[i]).length + ((x.f5.drop (i + 1)).flatMap lst).length := List.length_append
    refine ⟨r2, Ev.step (f := fun k => (leftF k x.f5[i] m).bind fun t => oculusref22_Left.l0 k t ((i + 1 : Nat) : Int) x.f0 x.f1 x.f2.f0 x.f2.f1 x.f2.f2 x.f3.f0 x.f3.f1 x.f3.f2 x.f3.f3 x.f4.f0 x.f4.f1 x.f4.f2 x.f4.f3 x.f5) (fun k => ?_) (ev_bind e1 e2), fun h => by omega, fun _ => ?_⟩
    ·simp only [oculusref22_Left.l0]
     rw [if_pos (by omega), if_pos (by omega), if_pos (by omega), rdN x.f5 i hil, w64s (n := x.f5.length) hil (by omega)]
    ·rw [drop_at hil, List.flatMap_cons, hl]
     unfold Lft at *
     by_cases hq : ((lst x.f5[i]).length : Int) ≤ m
     ·have := q2 hq
      obtain ⟨a, b, c, d⟩ := p2 (by omega)
      exact ⟨a, b, fun h => by rw [c (by omega)]; omega, fun h => d (by omega)⟩
     ·have := q3 (by omega)
      have := p1 (by omega)
      exact ⟨by omega, by omega, fun h => by omega, fun h => by omega⟩
   ·refine ⟨m, Ev.step (f := fun _ => some m) (fun k => ?_) (Ev.now _), fun h => by omega, fun h => by omega⟩
    simp only [oculusref22_Left.l0]
    rw [if_pos (by omega), if_neg (by omega)]
 intro m h0 h1
 obtain ⟨r, e, p1, p2⟩ := loop x.f5.length 0 (m - 1) (by omega) (by omega) (by omega)
 refine ⟨r, Ev.step (f := fun k => oculusref22_Left.l0 k (m - 1) ((0 : Nat) : Int) x.f0 x.f1 x.f2.f0 x.f2.f1 x.f2.f2 x.f3.f0 x.f3.f1 x.f3.f2 x.f3.f3 x.f4.f0 x.f4.f1 x.f4.f2 x.f4.f3 x.f5) (fun k => ?_) e, ?_⟩
 ·simp only [leftF, oculusref22_Left.f]
  rw [w64 (x := m - 1) (by omega) (by omega)]
  rfl
 ·rw [lst_eq, List.length_cons]
  rw [List.drop_zero] at p2
  unfold Lft at *
  by_cases hm : m = 0
  ·have := p1 (by omega)
   exact ⟨by omega, by omega, fun h => by omega, fun _ => by omega⟩
  ·obtain ⟨a, b, c, d⟩ := p2 (by omega)
   exact ⟨a, b, fun h => by rw [c (by omega)]; omega, fun h => d (by omega)⟩
inductive Fin1 : N → Prop
 | mk (x : N) (h : x.f5.length ≤ 9223372036854775806) (hs : ∀ y ∈ x.f5, Fin1 y) : Fin1 x
theorem left_ev' {x : N} (h : Fin1 x) : ∀ m : Int, 0 ≤ m → m ≤ 200 → ∃ r, Ev (fun k => leftF k x m) r ∧ Lft ((lst x).length : Int) m r := by
 induction h with
 | mk x h hs ih => exact left_ev x ⟨h, ih⟩
theorem few_ev {x : N} (h : Fin1 x) : Ev (fun k => oculuslaw22_few.f k x.f0 x.f1 x.f2.f0 x.f2.f1 x.f2.f2 x.f3.f0 x.f3.f1 x.f3.f2 x.f3.f3 x.f4.f0 x.f4.f1 x.f4.f2 x.f4.f3 x.f5 200) (decide ((lst x).length ≤ 200)) := by
 obtain ⟨r, e, a, b, c, d⟩ := left_ev' h 200 (by omega) (by omega)
 unfold oculuslaw22_few.f oculusref22_Few.f
 refine ev_bind (a := decide ((lst x).length ≤ 200)) ?_ (Ev.now _)
 refine ev_bind e ?_
 rw [show decide (r ≥ 0) = decide ((lst x).length ≤ 200) by
  by_cases hq : (lst x).length ≤ 200
  ·rw [decide_eq_true hq, decide_eq_true (by rw [c (by omega)]; omega)]
  ·rw [decide_eq_false hq, decide_eq_false (by rw [d (by omega)]; omega)]]
 exact Ev.now _
theorem few_sub {x y : N} (h : (lst x).length ≤ 200) (hy : y ∈ x.f5) : (lst y).length ≤ 200 ∧ x.f5.length ≤ 200 := by
 have h1 := len_mem hy
 rw [lst_eq, List.length_cons] at h
 refine ⟨by omega, ?_⟩
 have : x.f5.length ≤ (x.f5.flatMap lst).length := by
  generalize x.f5 = l
  induction l with
  | nil => simp
  | cons a l ih =>
   rw [List.flatMap_cons, List.length_append, List.length_cons, lst_eq, List.length_cons]
   omega
 omega
theorem few_len {x : N} (h : (lst x).length ≤ 200) : x.f5.length ≤ 200 := by
 cases hl : x.f5 with
 | nil => simp
 | cons a l => rw [← hl]; exact (few_sub (y := a) h (by rw [hl]; exact List.mem_cons_self)).2
theorem count_ev (x : N) : (lst x).length ≤ 200 → Ev (fun k => countF k x) ((lst x).length : Int) := by
 induction x using n_ind with
 | h x ih =>
  intro hs
  have hlen := few_len hs
  have loop : ∀ (d i : Nat) (m : Nat), i + d = x.f5.length → m + ((x.f5.drop i).flatMap lst).length ≤ 200 → Ev (fun k => node_Count.l0 k (m : Int) x.f5 (x.f5.length : Int) (i : Int)) ((m + ((x.f5.drop i).flatMap lst).length : Nat) : Int) := by
   intro d
   induction d with
   | zero =>
    intro i m hi hm
    rw [List.drop_of_length_le (by omega)]
    refine Ev.step (f := fun _ => some (m : Int)) (fun k => ?_) (Ev.now _)
    simp only [node_Count.l0]
    rw [if_neg (by omega)]
   | succ d ihd =>
    intro i m hi hm
    have hil : i < x.f5.length := by omega
    have e1 := ih x.f5[i] (List.getElem_mem _) (few_sub hs (List.getElem_mem _)).1
    rw [drop_at hil, List.flatMap_cons, List.length_append] at hm ⊢
    have e2 := ihd (i + 1) (m + (lst x.f5[i]).length) (by omega) (by omega)
    refine Ev.step (f := fun k => (countF k x.f5[i]).bind fun t => node_Count.l0 k (wrap64 ((m : Int) + t)) x.f5 (x.f5.length : Int) ((i + 1 : Nat) : Int)) (fun k => ?_) (ev_bind e1 ?_)
    ·simp only [node_Count.l0]
     rw [if_pos (by omega), if_pos (by omega), if_pos (by omega), rdN x.f5 i hil, w64s (n := x.f5.length) hil (by omega)]
    ·rw [w64 (by omega) (by omega), show (m : Int) + ((lst x.f5[i]).length : Int) = ((m + (lst x.f5[i]).length : Nat) : Int) by omega, show m + ((lst x.f5[i]).length + ((x.f5.drop (i + 1)).flatMap lst).length) = m + (lst x.f5[i]).length + ((x.f5.drop (i + 1)).flatMap lst).length by omega]
     exact e2
  have hl : (lst x).length = 1 + (x.f5.flatMap lst).length := by rw [lst_eq, List.length_cons]; omega
  refine Ev.step (f := fun k => node_Count.l0 k ((1 : Nat) : Int) x.f5 (x.f5.length : Int) ((0 : Nat) : Int)) (fun k => ?_) ?_
  ·simp only [countF, node_Count.f]
   rfl
  ·rw [hl]
   have := loop x.f5.length 0 1 (by omega) (by rw [List.drop_zero]; omega)
   rw [List.drop_zero] at this
   exact this
theorem deep_ev (x : N) : (lst x).length ≤ 200 → Ev (fun k => deepF k x) (dp x : Int) := by
 induction x using n_ind with
 | h x ih =>
  intro hs
  have hlen := few_len hs
  have hdx : dps dp x.f5 + 1 ≤ 200 := by have := dp_le x; rw [dp_eq] at this; omega
  have loop : ∀ (d i : Nat) (m : Nat), i + d = x.f5.length → max m (dps dp (x.f5.drop i)) ≤ 200 → Ev (fun k => node_Deep.l0 k (m : Int) x.f5 (x.f5.length : Int) (i : Int)) ((max m (dps dp (x.f5.drop i)) + 1 : Nat) : Int) := by
   intro d
   induction d with
   | zero =>
    intro i m hi hm
    rw [List.drop_of_length_le (by omega)] at hm ⊢
    have e0 : max m (dps dp []) = m := Nat.max_eq_left (Nat.zero_le _)
    rw [e0] at hm ⊢
    refine Ev.step (f := fun _ => some ((m + 1 : Nat) : Int)) (fun k => ?_) (Ev.now _)
    simp only [node_Deep.l0]
    rw [if_neg (by omega), w64 (by omega) (by omega)]
    rfl
   | succ d ihd =>
    intro i m hi hm
    have hil : i < x.f5.length := by omega
    have e1 := ih x.f5[i] (List.getElem_mem _) (few_sub hs (List.getElem_mem _)).1
    have em : max m (dps dp (x.f5.drop i)) = max (max m (dp x.f5[i])) (dps dp (x.f5.drop (i + 1))) := by
     rw [drop_at hil]
     show max m (max (dp x.f5[i]) (dps dp (x.f5.drop (i + 1)))) = _
     rw [Nat.max_assoc]
    rw [em] at hm ⊢
    have e2 := ihd (i + 1) (max m (dp x.f5[i])) (by omega) hm
    refine Ev.step (f := fun k => (deepF k x.f5[i]).bind fun t => node_Deep.l0 k (mx (m : Int) t) x.f5 (x.f5.length : Int) ((i + 1 : Nat) : Int)) (fun k => ?_) (ev_bind e1 ?_)
    ·simp only [node_Deep.l0]
     rw [if_pos (by omega), if_pos (by omega), if_pos (by omega), rdN x.f5 i hil, w64s (n := x.f5.length) hil (by omega)]
    ·rw [show mx (m : Int) (dp x.f5[i] : Int) = ((max m (dp x.f5[i]) : Nat) : Int) by unfold mx; split <;> omega]
     exact e2
  refine Ev.step (f := fun k => node_Deep.l0 k ((0 : Nat) : Int) x.f5 (x.f5.length : Int) ((0 : Nat) : Int)) (fun k => ?_) ?_
  ·simp only [deepF, node_Deep.f]
   rfl
  ·rw [dp_eq]
   have h0 : max 0 (dps dp x.f5) = dps dp x.f5 := Nat.zero_max _
   have := loop x.f5.length 0 0 (by omega) (by rw [List.drop_zero, h0]; omega)
   rw [List.drop_zero, h0] at this
   exact this
theorem nlist_ev (x : N) : (lst x).length ≤ 200 → Ev (fun k => listF k x) (lst x) := by
 induction x using n_ind with
 | h x ih =>
  intro hs
  have hlen := few_len hs
  have hl : (lst x).length = 1 + (x.f5.flatMap lst).length := by rw [lst_eq, List.length_cons]; omega
  have loop : ∀ (d i : Nat) (m : List N), i + d = x.f5.length → m.length + ((x.f5.drop i).flatMap lst).length ≤ 200 → Ev (fun k => node_List.l0 k m x.f5 (x.f5.length : Int) (i : Int)) (m ++ (x.f5.drop i).flatMap lst) := by
   intro d
   induction d with
   | zero =>
    intro i m hi hm
    rw [List.drop_of_length_le (by omega), List.flatMap_nil, List.append_nil]
    refine Ev.step (f := fun _ => some m) (fun k => ?_) (Ev.now _)
    simp only [node_List.l0]
    rw [if_neg (by omega)]
   | succ d ihd =>
    intro i m hi hm
    have hil : i < x.f5.length := by omega
    have e1 := ih x.f5[i] (List.getElem_mem _) (few_sub hs (List.getElem_mem _)).1
    rw [drop_at hil, List.flatMap_cons, List.length_append] at hm
    have e2 := ihd (i + 1) (m ++ lst x.f5[i]) (by omega) (by rw [List.length_append]; omega)
    rw [drop_at hil, List.flatMap_cons, ← List.append_assoc]
    refine Ev.step (f := fun k => (listF k x.f5[i]).bind fun t => if m.length + t.length < 1172812402961 then node_List.l0 k (m ++ t) x.f5 (x.f5.length : Int) ((i + 1 : Nat) : Int) else none) (fun k => ?_) (ev_bind e1 (ev_pos (by omega) e2))
    simp only [node_List.l0]
    rw [if_pos (by omega), if_pos (by omega), if_pos (by omega), rdN x.f5 i hil, w64s (n := x.f5.length) hil (by omega)]
  refine Ev.step (f := fun k => node_List.l0 k [x] x.f5 (x.f5.length : Int) ((0 : Nat) : Int)) (fun k => ?_) ?_
  ·simp only [listF, node_List.f]
   rw [mkN x]
   rfl
  ·have := loop x.f5.length 0 [x] (by omega) (by rw [List.drop_zero, List.length_singleton]; omega)
   rw [List.drop_zero, List.singleton_append, ← lst_eq] at this
   exact this
theorem nrlist_ev (x : N) : (lst x).length ≤ 200 → Ev (fun k => rlistF k x) (lst x) := by
 induction x using n_ind with
 | h x ih =>
  intro hs
  have hlen := few_len hs
  have hl : (lst x).length = 1 + (x.f5.flatMap lst).length := by rw [lst_eq, List.length_cons]; omega
  have loop : ∀ (d i : Nat) (m : List N), i + d = x.f5.length → m.length + ((x.f5.drop i).flatMap lst).length ≤ 200 → Ev (fun k => oculusref22_List.l0 k m (i : Int) x.f0 x.f1 x.f2.f0 x.f2.f1 x.f2.f2 x.f3.f0 x.f3.f1 x.f3.f2 x.f3.f3 x.f4.f0 x.f4.f1 x.f4.f2 x.f4.f3 x.f5) (m ++ (x.f5.drop i).flatMap lst) := by
   intro d
   induction d with
   | zero =>
    intro i m hi hm
    rw [List.drop_of_length_le (by omega), List.flatMap_nil, List.append_nil]
    refine Ev.step (f := fun _ => some m) (fun k => ?_) (Ev.now _)
    simp only [oculusref22_List.l0]
    rw [if_neg (by omega)]
   | succ d ihd =>
    intro i m hi hm
    have hil : i < x.f5.length := by omega
    have e1 := ih x.f5[i] (List.getElem_mem _) (few_sub hs (List.getElem_mem _)).1
    rw [drop_at hil, List.flatMap_cons, List.length_append] at hm
    have e2 := ihd (i + 1) (m ++ lst x.f5[i]) (by omega) (by rw [List.length_append]; omega)
    rw [drop_at hil, List.flatMap_cons, ← List.append_assoc]
    refine Ev.step (f := fun k => (rlistF k x.f5[i]).bind fun t => if m.length + t.length < 1172812402961 then oculusref22_List.l0 k (m ++ t) ((i + 1 : Nat) : Int) x.f0 x.f1 x.f2.f0 x.f2.f1 x.f2.f2 x.f3.f0 x.f3.f1 x.f3.f2 x.f3.f3 x.f4.f0 x.f4.f1 x.f4.f2 x.f4.f3 x.f5 else none) (fun k => ?_) (ev_bind e1 (ev_pos (by omega) e2))
    simp only [oculusref22_List.l0]
    rw [if_pos (by omega), if_pos (by omega), rdN x.f5 i hil, w64s (n := x.f5.length) hil (by omega)]
  refine Ev.step (f := fun k => oculusref22_List.l0 k [x] ((0 : Nat) : Int) x.f0 x.f1 x.f2.f0 x.f2.f1 x.f2.f2 x.f3.f0 x.f3.f1 x.f3.f2 x.f3.f3 x.f4.f0 x.f4.f1 x.f4.f2 x.f4.f3 x.f5) (fun k => ?_) ?_
  ·simp only [rlistF, oculusref22_List.f]
   rw [mkN x, if_pos (by decide)]
   rfl
  ·have := loop x.f5.length 0 [x] (by omega) (by rw [List.drop_zero, List.length_singleton]; omega)
   rw [List.drop_zero, List.singleton_append, ← lst_eq] at this
   exact this
def hd (x : N) : Int × Int × S23 × S25 × S25 × Nat := (x.f0, x.f1, x.f2, x.f3, x.f4, x.f5.length)
theorem flat_same : ∀ (l m s t : List N), l.length = m.length → ((l.flatMap lst) ++ s).map hd = ((m.flatMap lst) ++ t).map hd → l = m ∧ s.map hd = t.map hd
 | [], [], s, t, _, h => ⟨rfl, h⟩
 | [], _ :: _, _, _, hl, _ => by simp at hl
 | _ :: _, [], _, _, hl, _ => by simp at hl
 | x :: l, y :: m, s, t, hl, h => by
  rw [List.flatMap_cons, List.flatMap_cons, lst_eq x, lst_eq y, List.cons_append, List.cons_append, List.cons_append, List.cons_append, List.map_cons, List.map_cons] at h
  injection h with h1 h2
  simp only [List.append_assoc] at h2
  have hx : x.f5.length = y.f5.length := congrArg (fun p => p.2.2.2.2.2) h1
  obtain ⟨h3, h4⟩ := flat_same x.f5 y.f5 _ _ hx h2
  obtain ⟨h5, h6⟩ := flat_same l m s t (by simpa using hl) h4
  refine ⟨?_, h6⟩
  rw [h5]
  congr 1
  cases x; cases y
  simp only [hd, Prod.mk.injEq] at h1
  obtain ⟨a, b, c, d, e, _⟩ := h1
  dsimp only at h3
  subst a b c d e h3
  rfl
termination_by l => SizeOf.sizeOf l
decreasing_by
 ·cases x
  simp only [List.cons.sizeOf_spec, S28.mk.sizeOf_spec]
  omega
 ·simp only [List.cons.sizeOf_spec]
  omega
theorem same_iff (x y : N) : (lst x).map hd = (lst y).map hd ↔ x = y := by
 constructor
 ·intro h
  have := flat_same [x] [y] [] [] rfl (by simpa using h)
  simpa using this.1
 ·rintro rfl
  rfl
end Go.Proofs.YtdddhabemdbooaaDoor.X
/- What strings.Cut at one byte answers. -/
set_option linter.unusedVariables false
set_option linter.unusedSimpArgs false
namespace Go.Proofs.YtdddhabemdbooaaDoor.X
open Go.RowKit Go.Proofs.YtdddhabemdbooaaDoorW.PrintWords Go.Proofs.YtdddhabemdbooaaDoorW.PrintLast Go.Proofs.YtdddhabemdbooaaDoorW.PrintMore
def cutL (c : UInt8) : List UInt8 → List UInt8 × List UInt8 × Bool
 | [] => ([], [], false)
 | b :: l => if b = c then ([], l, true) else (b :: (cutL c l).1, (cutL c l).2.1, (cutL c l).2.2)
theorem index_cut (c : UInt8) : ∀ l : List UInt8, (Lib.indexByte l c = -1 ∧ (cutL c l).1 = l ∧ (cutL c l).2.1 = [] ∧ (cutL c l).2.2 = false) ∨
  ∃ n : Nat, Lib.indexByte l c = (n : Int) ∧ n < l.length ∧ (cutL c l).1 = l.take n ∧ (cutL c l).2.1 = l.drop (n + 1) ∧ (cutL c l).2.2 = true
 | [] => Or.inl ⟨rfl, rfl, rfl, rfl⟩
 | b :: l => by
  by_cases h : b = c
  ·refine Or.inr ⟨0, ?_, by simp, ?_, ?_, ?_⟩
   ·simp [Lib.indexByte, h]
   ·simp [cutL, h]
   ·simp [cutL, h]
   ·simp [cutL, h]
  ·rcases index_cut c l with ⟨h1, h2, h3, h4⟩ | ⟨n, h1, h2, h3, h4, h5⟩
   ·left
    refine ⟨?_, ?_, ?_, ?_⟩
    ·simp [Lib.indexByte, h, h1]
    ·simp [cutL, h, h2]
    ·simp [cutL, h, h3]
    ·simp [cutL, h, h4]
   ·right
    refine ⟨n + 1, ?_, by simp; omega, ?_, ?_, ?_⟩
    ·simp only [Lib.indexByte, beq_eq_false_iff_ne.2 h, h1]
     rw [if_neg (by simp), if_neg (by first | (simp; done) | (simp; omega))]
     omega
    ·simp [cutL, h, h3]
    ·simp [cutL, h, h4]
    ·simp [cutL, h, h5]
theorem cut_eq (s : ByteArray) (c : UInt8) (hs : s.size ≤ 4611686018427387904) : strings_Cut.f s (tx [c]) = some (tx (cutL c (by_ s)).1, tx (cutL c (by_ s)).2.1, (cutL c (by_ s)).2.2) := by
 unfold strings_Cut.f stringslite_Cut.f stringslite_Index.f
 have h1 : (tx [c]).size = 1 := by rw [size_tx]; rfl
 have h2 : (tx [c])[0]'(by rw [h1]; decide) = c := rfl
 rw [dif_pos h1, h2]
 simp only [Option.bind_some]
 rcases index_cut c (by_ s) with ⟨g1, g2, g3, g4⟩ | ⟨n, g1, g2, g3, g4, g5⟩
 ·rw [show Lib.indexByte s.data.toList c = -1 from g1, if_neg (by decide), g2, g3, g4, tx_by]
  rfl
 ·have hl := size_by s
  rw [show Lib.indexByte s.data.toList c = (n : Int) from g1, if_pos (by omega), if_pos (by omega), if_pos (by omega), h1]
  have hw : wrap64 ((n : Int) + ((1 : Nat) : Int)) = ((n + 1 : Nat) : Int) := by unfold wrap64; omega
  rw [hw, if_pos (by omega), if_pos (by omega), g3, g4, g5]
  simp only [Option.bind_some, Int.toNat_natCast, ext_head, ext_tail]
theorem cutL_length (c : UInt8) (l : List UInt8) : (cutL c l).1.length ≤ l.length ∧ (cutL c l).2.1.length ≤ l.length := by
 rcases index_cut c l with ⟨g1, g2, g3, g4⟩ | ⟨n, g1, g2, g3, g4, g5⟩
 ·rw [g2, g3]; simp
 ·rw [g3, g4]; simp; omega
end Go.Proofs.YtdddhabemdbooaaDoor.X
/- What fname and its reference answer. -/
set_option linter.unusedVariables false
set_option linter.unusedSimpArgs false
namespace Go.Proofs.YtdddhabemdbooaaDoor.X
open Go.RowKit Go.Proofs.YtdddhabemdbooaaDoorW.PrintWords Go.Proofs.YtdddhabemdbooaaDoorW.PrintLast Go.Proofs.YtdddhabemdbooaaDoorW.PrintMore
def RB : List ByteArray := oculusref19_Rows.f.getD []
theorem rows_eq : oculusref19_Rows.f = some RB := rfl
def RS : List (List UInt8) := RB.map by_
def rs (n : Nat) : List UInt8 := RS.getD n []
def rowsL : List UInt8 := [65, 66, 83, 49, 49, 118, 59, 65, 78, 68, 49, 56, 101, 59, 65, 86, 69, 82, 65, 71, 69, 49, 56, 108, 59, 65, 86, 69, 82, 65, 71, 69, 73, 70, 50, 50, 114, 118, 59, 67, 69, 73, 76, 73, 78, 71, 50, 50, 118, 59, 67, 72, 65, 82, 49, 49, 118, 59, 67, 72, 79, 79, 83, 69, 50, 56, 101, 59, 67, 79, 68, 69, 49, 49, 118, 59, 67, 79, 76, 85, 77, 78, 49, 49, 110, 59, 67, 79, 76, 85, 77, 78, 83, 49, 49, 110, 59, 67, 79, 77, 66, 73, 78, 50, 50, 118, 59, 67, 79, 78, 67, 65, 84, 49, 56, 108, 59, 67, 79, 85, 78, 84, 49, 56, 108, 59, 67, 79, 85, 78, 84, 65, 49, 56, 108, 59, 67, 79, 85, 78, 84, 66, 76, 65, 78, 75, 49, 56, 108, 59, 67, 79, 85, 78, 84, 73, 70, 50, 50, 114, 118, 59, 68, 69, 67, 76, 65, 83, 83, 50, 50, 101, 116, 59, 69, 86, 69, 78, 49, 49, 118, 59, 69, 88, 65, 67, 84, 50, 50, 118, 59, 70, 65, 67, 84, 49, 49, 118, 59, 70, 73, 78, 68, 50, 50, 118, 59, 70, 76, 79, 79, 82, 50, 50, 118, 59, 71, 67, 68, 50, 50, 118, 59, 72, 76, 79, 79, 75, 85, 80, 51, 51, 118, 114, 118, 59, 73, 70, 50, 51, 101, 59, 73, 70, 69, 82, 82, 79, 82, 50, 50, 101, 59, 73, 78, 68, 69, 88, 50, 51, 114, 118, 59, 73, 78, 84, 49, 49, 118, 59, 73, 83, 66, 76, 65, 78, 75, 49, 49, 118, 59, 73, 83, 69, 82, 82, 79, 82, 49, 49, 118, 59, 73, 83, 76, 79, 71, 73, 67, 65, 76, 49, 49, 118, 59, 73, 83, 78, 85, 77, 66, 69, 82, 49, 49, 118, 59, 73, 83, 84, 69, 88, 84, 49, 49, 118, 59, 76, 65, 82, 71, 69, 50, 50, 114, 118, 59, 76, 67, 77, 50, 50, 118, 59, 76, 69, 70, 84, 50, 50, 118, 59, 76, 69, 78, 49, 49, 118, 59, 76, 79, 87, 69, 82, 49, 49, 118, 59, 77, 65, 84, 67, 72, 50, 50, 118, 114, 59, 77, 65, 88, 49, 56, 108, 59, 77, 69, 68, 73, 65, 78, 49, 56, 108, 59, 77, 73, 68, 51, 51, 118, 59, 77, 73, 78, 49, 56, 108, 59, 77, 79, 68, 50, 50, 118, 59, 77, 79, 68, 69, 49, 56, 108, 59, 78, 65, 48, 48, 59, 78, 79, 84, 49, 49, 118, 59, 79, 68, 68, 49, 49, 118, 59, 79, 82, 49, 56, 101, 59, 80, 79, 87, 69, 82, 50, 50, 118, 59, 80, 82, 79, 68, 85, 67, 84, 49, 56, 108, 59, 80, 82, 79, 80, 69, 82, 49, 49, 118, 59, 81, 85, 79, 84, 73, 69, 78, 84, 50, 50, 118, 59, 82, 65, 78, 75, 50, 50, 118, 114, 59, 82, 69, 80, 84, 50, 50, 118, 59, 82, 69, 86, 69, 82, 83, 69, 49, 49, 118, 59, 82, 73, 71, 72, 84, 50, 50, 118, 59, 82, 79, 85, 78, 68, 50, 50, 118, 59, 82, 79, 85, 78, 68, 68, 79, 87, 78, 50, 50, 118, 59, 82, 79, 85, 78, 68, 85, 80, 50, 50, 118, 59, 82, 79, 87, 49, 49, 110, 59, 82, 79, 87, 83, 49, 49, 110, 59, 83, 73, 71, 78, 49, 49, 118, 59, 83, 77, 65, 76, 76, 50, 50, 114, 118, 59, 83, 81, 82, 84, 49, 49, 118, 59, 83, 85, 66, 83, 84, 73, 84, 85, 84, 69, 51, 51, 118, 59, 83, 85, 77, 49, 56, 108, 59, 83, 85, 77, 73, 70, 50, 50, 114, 118, 59, 83, 85, 77, 80, 82, 79, 68, 85, 67, 84, 50, 50, 114, 59, 83, 85, 77, 83, 81, 49, 56, 108, 59, 83, 87, 73, 84, 67, 72, 51, 56, 101, 59, 84, 69, 88, 84, 50, 50, 118, 59, 84, 82, 73, 77, 49, 49, 118, 59, 84, 82, 85, 78, 67, 49, 49, 118, 59, 85, 80, 80, 69, 82, 49, 49, 118, 59, 86, 65, 76, 85, 69, 49, 49, 118, 59, 86, 76, 79, 79, 75, 85, 80, 51, 51, 118, 114, 118, 59, 88, 79, 82, 49, 56, 108]
def okR : List UInt8 → Bool
 | c0 :: c1 :: tl => decide (48 ≤ c0.toNat) && decide (c0.toNat < 65) && decide (48 ≤ c1.toNat) && decide (c1.toNat < 65) && decide (tl.length ≤ 10)
 | _ => false
def cutN : Nat → List UInt8 × List UInt8 → List UInt8 × List UInt8
 | 0, p => p
 | n + 1, p => cutN n ((cutL 59 p.2).1, (cutL 59 p.2).2.1)
def row0 : List UInt8 × List UInt8 := ((cutL 59 rowsL).1, (cutL 59 rowsL).2.1)
def nm (n : Nat) : List UInt8 := (cutN n row0).1.takeWhile fun x => decide (65 ≤ x.toNat)
theorem rows_check : ∀ n : Fin 78, (cutN n.val row0).1 = nm n.val ++ rs n.val ∧ ((nm n.val).all fun x => decide (65 ≤ x.toNat)) = true ∧ okR (rs n.val) = true ∧ (nm n.val).length < 100 := by decide +kernel
theorem rs_shape {n : Nat} (h : n < 78) : ∃ c0 c1 tl, rs n = c0 :: c1 :: tl ∧ 48 ≤ c0.toNat ∧ c0.toNat < 65 ∧ 48 ≤ c1.toNat ∧ c1.toNat < 65 ∧ tl.length ≤ 10 := by
 have := (rows_check ⟨n, h⟩).2.2.1
 simp only at this
 revert this
 match rs n with
 | [] => intro h; simp [okR] at h
 | [_] => intro h; simp [okR] at h
 | c0 :: c1 :: tl =>
  intro h
  simp only [okR, Bool.and_eq_true, decide_eq_true_eq] at h
  exact ⟨c0, c1, tl, rfl, h.1.1.1.1, h.1.1.1.2, h.1.1.2, h.1.2, h.2⟩
theorem rsize : RB.length = 78 := by decide +kernel
theorem rdR19 {n : Nat} (h : n < 78) : rdOf ByteArray.empty RB (n : Int) = tx (rs n) := by
 unfold rdOf rs RS
 rw [Int.toNat_natCast, List.getD_eq_getElem?_getD, List.getD_eq_getElem?_getD, List.getElem?_map, List.getElem?_eq_getElem (by rw [rsize]; exact h)]
 exact (tx_by _).symm
theorem row_l1 (a : List UInt8) (c : UInt8) (b : List UInt8) (ha : ∀ x ∈ a, 65 ≤ x.toNat) (hc : c.toNat < 65) (hl : a.length + b.length < 1000) :
  ∀ d i, i + d = a.length → Ev (fun k => fname_row.l1 k (tx (a ++ c :: b)) (i : Int)) (tx a, tx (c :: b))
 | 0, i, h => by
  have hz : (tx (a ++ c :: b)).size = a.length + (b.length + 1) := by rw [size_tx]; simp
  have hb : bt (tx (a ++ c :: b)) (i : Int) = (c.toNat : Int) := by
   rw [bt_tx _ i (by simp; omega)]
   have : i = a.length := by omega
   subst this
   simp
  refine Ev.step (f := fun k => some (tx a, tx (c :: b))) (fun k => ?_) (Ev.now _)
  simp only [fname_row.l1]
  rw [if_pos (by omega), if_pos (by omega), hb, if_neg (by omega), if_pos (by omega), Int.toNat_natCast, ext_head, ext_tail, by_tx]
  have : i = a.length := by omega
  subst this
  simp
 | d + 1, i, h => by
  have hz : (tx (a ++ c :: b)).size = a.length + (b.length + 1) := by rw [size_tx]; simp
  have hi : i < a.length := by omega
  have hb : bt (tx (a ++ c :: b)) (i : Int) = ((a[i]).toNat : Int) := by
   rw [bt_tx _ i (by simp; omega)]
   rw [List.getElem_append_left hi]
  have := ha _ (List.getElem_mem hi)
  refine Ev.step (f := fun k => fname_row.l1 k (tx (a ++ c :: b)) ((i + 1 : Nat) : Int)) (fun k => ?_) (row_l1 a c b ha hc hl d (i + 1) (by omega))
  simp only [fname_row.l1]
  rw [if_pos (by omega), if_pos (by omega), hb, if_pos (by omega), w64s (n := 2000) (by omega) (by omega)]
theorem row_l0 (fn : Nat) (hf : fn ≤ 78) : ∀ d n s r, n + d = fn → r.length ≤ 4611686018427387904 → ∀ q, Ev (fun k => fname_row.l1 k (tx (cutN d (s, r)).1) 0) q → Ev (fun k => fname_row.l0 k (fn : Int) (tx s) (tx r) (n : Int)) q
 | 0, n, s, r, h, hr, q, hq => by
  refine Ev.step (f := fun k => fname_row.l1 k (tx s) 0) (fun k => ?_) hq
  simp only [fname_row.l0]
  rw [if_neg (by omega)]
 | d + 1, n, s, r, h, hr, q, hq => by
  have hl := (cutL_length 59 r).2
  refine Ev.step (f := fun k => fname_row.l0 k (fn : Int) (tx (cutL 59 r).1) (tx (cutL 59 r).2.1) ((n + 1 : Nat) : Int)) (fun k => ?_) (row_l0 fn hf d (n + 1) _ _ (by omega) (by omega) q hq)
  simp only [fname_row.l0]
  rw [if_pos (by omega)]
  have e : strings_Cut.f (tx r) (⟨#[59]⟩ : ByteArray) = some (tx (cutL 59 r).1, tx (cutL 59 r).2.1, (cutL 59 r).2.2) := by
   have := cut_eq (tx r) 59 (by rw [size_tx]; exact hr)
   rw [by_tx] at this
   exact this
  rw [e, Option.bind_some, w64s (n := 2000) (by omega) (by omega)]
theorem row_ev (n : Nat) (h : n < 78) : Ev (fun k => fname_row.f k ((n + 1 : Nat) : Int)) (tx (nm n), tx (rs n)) := by
 unfold fname_row.f
 refine ev_neg (by omega) ?_
 rw [decide_eq_false (by omega : ¬ ((n + 1 : Nat) : Int) > 78)]
 refine Ev.step (fun k => fname_row.j0.eq_2 _ _ _) ?_
 refine ev_neg (by simp) ?_
 refine ev_bind (a := (tx row0.1, tx row0.2, (cutL 59 rowsL).2.2)) (ev_some fun _ => ?_) ?_
 ·refine (cut_eq _ 59 (by decide +kernel)).trans ?_
  exact congrArg (fun l => some (tx (cutL 59 l).1, tx (cutL 59 l).2.1, (cutL 59 l).2.2)) (by decide +kernel : by_ _ = rowsL)
 refine row_l0 (n + 1) (by omega) n 1 _ _ (by omega) (by decide +kernel) _ ?_
 obtain ⟨h1, h2, h3, h4⟩ := rows_check ⟨n, h⟩
 simp only at h1 h2 h3 h4
 rw [show (cutN n (row0.1, row0.2)).1 = nm n ++ rs n from h1]
 obtain ⟨c0, c1, tl, e, g1, g2, g3, g4, g5⟩ := rs_shape h
 rw [e]
 refine row_l1 (nm n) c0 (c1 :: tl) ?_ g2 (by simp; omega) (nm n).length 0 (by omega)
 intro x hx
 have := List.all_eq_true.1 h2 x hx
 simpa using this
theorem row_out (fn : Int) (h : fn < 1 ∨ fn > 78) : Ev (fun k => fname_row.f k fn) (tx [], tx []) := by
 unfold fname_row.f
 have hj : Ev (fun k => fname_row.j0 k fn true) (tx [], tx []) := by
  refine Ev.step (fun k => fname_row.j0.eq_2 _ _ _) ?_
  exact ev_pos rfl (Ev.now _)
 refine ev_ite (fun _ => hj) (fun h1 => ?_)
 rw [decide_eq_true (by omega : fn > 78)]
 exact hj
def nmI (fn : Int) : List UInt8 := if fn < 1 ∨ fn > 78 then [] else nm (fn - 1).toNat
def rsI (fn : Int) : List UInt8 := if fn < 1 ∨ fn > 78 then [] else rs (fn - 1).toNat
theorem rowI_ev (fn : Int) : Ev (fun k => fname_row.f k fn) (tx (nmI fn), tx (rsI fn)) := by
 unfold nmI rsI
 by_cases h : fn < 1 ∨ fn > 78
 ·rw [if_pos h, if_pos h]; exact row_out fn h
 ·rw [if_neg h, if_neg h]
  have e : fn = (((fn - 1).toNat + 1 : Nat) : Int) := by omega
  have := row_ev (fn - 1).toNat (by omega)
  rw [← e] at this
  exact this
theorem u8_sub48 (c : UInt8) : wrap64 (wrap64 (c.toNat : Int) - 48) = (c.toNat : Int) - 48 := by
 have := u8_lt c
 rw [w64 (x := (c.toNat : Int)) (by omega) (by omega), w64 (by omega) (by omega)]
def fitsL : List UInt8 → Int → Bool
 | c0 :: c1 :: _, n => if n ≥ (c0.toNat : Int) - 48 then decide (n ≤ (c1.toNat : Int) - 48) else false
 | _, _ => false
def kindL : List UInt8 → Int → Int
 | c0 :: c1 :: tl, i => if i < 0 then 0 else if i ≥ (c1.toNat : Int) - 48 then 0 else (((c0 :: c1 :: tl).getD (min (2 + i.toNat) (tl.length + 1)) 0).toNat : Int)
 | _, _ => 0
theorem rsI_shape (fn : Int) : (rsI fn = [] ∧ (fn < 1 ∨ fn > 78)) ∨ (¬ (fn < 1 ∨ fn > 78) ∧ ∃ c0 c1 tl, rs (fn - 1).toNat = c0 :: c1 :: tl ∧ rsI fn = c0 :: c1 :: tl ∧ 48 ≤ c0.toNat ∧ c0.toNat < 65 ∧ 48 ≤ c1.toNat ∧ c1.toNat < 65 ∧ tl.length ≤ 10) := by
 unfold rsI
 by_cases h : fn < 1 ∨ fn > 78
 ·exact Or.inl ⟨if_pos h, h⟩
 ·refine Or.inr ⟨h, ?_⟩
  obtain ⟨c0, c1, tl, e, g⟩ := rs_shape (n := (fn - 1).toNat) (by omega)
  exact ⟨c0, c1, tl, e, by rw [if_neg h, e], g⟩
theorem fits_ev (fn n : Int) : Ev (fun k => fname_Fits.f k fn n) (fitsL (rsI fn) n) := by
 unfold fname_Fits.f
 refine ev_bind (rowI_ev fn) (ev_some fun k => ?_)
 rcases rsI_shape fn with ⟨e, _⟩ | ⟨_, c0, c1, tl, _, e, g1, g2, g3, g4, g5⟩
 ·rw [e, if_pos (by rw [toList_by, by_tx])]; rfl
 ·rw [e]
  have hz : (tx (c0 :: c1 :: tl)).size = tl.length + 2 := by rw [size_tx]; rfl
  have b0 : bt (tx (c0 :: c1 :: tl)) 0 = (c0.toNat : Int) := bt_tx _ 0 (by simp)
  have b1 : bt (tx (c0 :: c1 :: tl)) 1 = (c1.toNat : Int) := bt_tx _ 1 (by simp)
  simp only [fitsL, b0, b1]
  rw [if_neg (by rw [toList_by, by_tx]; simp), if_pos (by omega)]
  have e0 : ((c0.toNat : Int) - 48) % 256 = (c0.toNat : Int) - 48 := by omega
  have e1 : ((c1.toNat : Int) - 48) % 256 = (c1.toNat : Int) - 48 := by omega
  rw [e0, e1]
  by_cases hn : n ≥ (c0.toNat : Int) - 48
  ·rw [if_pos hn, if_pos hn, if_pos (by omega)]
  ·rw [if_neg hn, if_neg hn]
theorem rfits_eq (fn n : Int) : oculusref19_Fits.f fn n = some (fitsL (rsI fn) n) := by
 unfold oculusref19_Fits.f
 rcases rsI_shape fn with ⟨e, h⟩ | ⟨h, c0, c1, tl, e', e, g1, g2, g3, g4, g5⟩
 ·rw [e]
  by_cases h1 : fn < 1
  ·rw [if_pos h1]; rfl
  ·rw [if_neg h1, if_pos (by omega)]; rfl
 ·have e2 : wrap64 (fn - 1) = ((fn - 1).toNat : Int) := by unfold wrap64; omega
  rw [e, if_neg (by omega), if_neg (by omega), rows_eq, Option.bind_some, e2, rdR19 (by omega), e', if_pos (by omega), if_pos (by rw [rsize]; omega)]
  have hz : (tx (c0 :: c1 :: tl)).size = tl.length + 2 := by rw [size_tx]; rfl
  have b0 : bt (tx (c0 :: c1 :: tl)) 0 = (c0.toNat : Int) := bt_tx _ 0 (by simp)
  have b1 : bt (tx (c0 :: c1 :: tl)) 1 = (c1.toNat : Int) := bt_tx _ 1 (by simp)
  simp only [fitsL, b0, b1]
  have e0 := u8_sub48 c0
  have e1 := u8_sub48 c1
  rw [e0, e1, if_pos (by omega)]
  by_cases hn : n ≥ (c0.toNat : Int) - 48
  ·rw [if_pos hn, if_pos hn, if_pos (by omega)]
  ·rw [if_neg hn, if_neg hn]
theorem bt_getD (l : List UInt8) (i : Nat) (h : i < l.length) : bt (tx l) (i : Int) = ((l.getD i 0).toNat : Int) := by
 rw [bt_tx l i h, List.getD_eq_getElem?_getD, List.getElem?_eq_getElem h]; rfl
theorem kind_ev (fn i : Int) : Ev (fun k => fname_Kind.f k fn i) (kindL (rsI fn) i) := by
 unfold fname_Kind.f
 refine ev_bind (rowI_ev fn) ?_
 simp only
 rcases rsI_shape fn with ⟨e, _⟩ | ⟨_, c0, c1, tl, _, e, g1, g2, g3, g4, g5⟩
 ·rw [e]
  exact Ev.step (f := fun k => some 0) (fun k => by simp only [fname_Kind.j0]; rw [if_pos (by rw [toList_by, by_tx])]) (Ev.now _)
 ·rw [e]
  have hz : (tx (c0 :: c1 :: tl)).size = tl.length + 2 := by rw [size_tx]; rfl
  have b1 : bt (tx (c0 :: c1 :: tl)) 1 = (c1.toNat : Int) := bt_tx _ 1 (by simp)
  refine Ev.step (f := fun k => some (kindL (c0 :: c1 :: tl) i)) (fun k => ?_) (Ev.now _)
  simp only [fname_Kind.j0, kindL, b1, hz]
  have e1 : ((c1.toNat : Int) - 48) % 256 = (c1.toNat : Int) - 48 := by omega
  rw [if_neg (by rw [toList_by, by_tx]; simp), e1]
  by_cases h1 : i < 0
  ·rw [if_pos h1, if_pos h1]
  ·rw [if_neg h1, if_neg h1, if_pos (by omega)]
   by_cases h2 : i ≥ (c1.toNat : Int) - 48
   ·rw [if_pos h2, if_pos h2]
   ·rw [if_neg h2, if_neg h2]
    have em : mn (wrap64 (2 + i)) (wrap64 (((tl.length + 2 : Nat) : Int) - 1)) = ((min (2 + i.toNat) (tl.length + 1) : Nat) : Int) := by
     rw [w64 (by omega) (by omega), w64 (by omega) (by omega)]
     unfold mn
     split <;> omega
    rw [em, if_pos (by omega), if_pos (by omega), bt_getD _ _ (by simp only [List.length_cons]; omega)]
theorem rkind_ev (fn i : Int) (hi : i ≤ 9223372036854775807) : Ev (fun k => oculusref19_Kind.f k fn i) (kindL (rsI fn) i) := by
 unfold oculusref19_Kind.f
 have hj : ∀ b : Bool, b = true → (fn < 1 ∨ fn > 78 ∨ i < 0) → Ev (fun k => oculusref19_Kind.j0 k fn i b) (kindL (rsI fn) i) := by
  intro b hb h
  subst hb
  have : kindL (rsI fn) i = 0 := by
   rcases rsI_shape fn with ⟨e, _⟩ | ⟨hh, c0, c1, tl, _, e, _⟩
   ·rw [e]; rfl
   ·rw [e]; simp only [kindL]; rw [if_pos (by omega)]
  rw [this]
  exact Ev.step (f := fun k => some 0) (fun k => by simp only [oculusref19_Kind.j0]; rfl) (Ev.now _)
 refine ev_ite (fun h => hj _ rfl (Or.inl h)) (fun h1 => ?_)
 refine ev_ite (fun h => hj _ rfl (Or.inr (Or.inl h))) (fun h2 => ?_)
 by_cases h3 : i < 0
 ·exact hj _ (decide_eq_true h3) (Or.inr (Or.inr h3))
 ·rw [decide_eq_false h3]
  rcases rsI_shape fn with ⟨_, h⟩ | ⟨h, c0, c1, tl, e', e, g1, g2, g3, g4, g5⟩
  ·omega
  ·have e2 : wrap64 (fn - 1) = ((fn - 1).toNat : Int) := by unfold wrap64; omega
   rw [e]
   refine Ev.step (f := fun k => oculusref19_Kind.j1 k i (tx (c0 :: c1 :: tl))) (fun k => ?_) ?_
   ·simp only [oculusref19_Kind.j0]
    rw [if_neg (by simp), rows_eq, Option.bind_some, e2, rdR19 (by omega), e', if_pos (by omega), if_pos (by rw [rsize]; omega)]
   ·have hz : (tx (c0 :: c1 :: tl)).size = tl.length + 2 := by rw [size_tx]; rfl
    have b1 : bt (tx (c0 :: c1 :: tl)) 1 = (c1.toNat : Int) := bt_tx _ 1 (by simp)
    refine Ev.step (f := fun k => some (kindL (c0 :: c1 :: tl) i)) (fun k => ?_) (Ev.now _)
    simp only [oculusref19_Kind.j1, kindL, b1, hz]
    have e1 := u8_sub48 c1
    rw [if_pos (by omega), e1, if_neg h3]
    by_cases h4 : i ≥ (c1.toNat : Int) - 48
    ·rw [if_pos h4, if_pos h4]
    ·rw [if_neg h4, if_neg h4]
     have w1 : wrap64 (2 + i) = ((2 + i.toNat : Nat) : Int) := by rw [w64 (by omega) (by omega)]; omega
     have w2 : wrap64 (((tl.length + 2 : Nat) : Int) - 1) = ((tl.length + 1 : Nat) : Int) := by rw [w64 (by omega) (by omega)]; omega
     rw [w1, w2]
     by_cases h5 : ((2 + i.toNat : Nat) : Int) < ((tl.length + 2 : Nat) : Int)
     ·rw [if_pos h5, if_pos (by omega), bt_getD _ _ (by simp only [List.length_cons]; omega), Nat.min_eq_left (by omega)]
     ·rw [if_neg h5, if_pos (by omega), if_pos (by omega), bt_getD _ _ (by simp only [List.length_cons]; omega), Nat.min_eq_right (by omega)]
end Go.Proofs.YtdddhabemdbooaaDoor.X
/- When two trees are the same: of node and of the reference; that the statements of node live. -/
set_option linter.unusedVariables false
set_option linter.unusedSimpArgs false
namespace Go.Proofs.YtdddhabemdbooaaDoor.X
open Go.RowKit Go.Proofs.YtdddhabemdbooaaDoorW.PrintWords Go.Proofs.YtdddhabemdbooaaDoorW.PrintLast Go.Proofs.YtdddhabemdbooaaDoorW.PrintMore
abbrev E0 : ByteArray := ⟨#[]⟩
abbrev rN : N := ⟨4, 0, ⟨0, 0, E0⟩, ⟨0, 0, false, false⟩, ⟨2, 0, false, false⟩, []⟩
abbrev oN : N := ⟨1, 0, ⟨1, 10000, E0⟩, ⟨0, 0, false, false⟩, ⟨0, 0, false, false⟩, []⟩
abbrev sN : N := ⟨7, 67, ⟨0, 0, E0⟩, ⟨0, 0, false, false⟩, ⟨0, 0, false, false⟩, [rN]⟩
abbrev nN : N := ⟨6, 2, ⟨0, 0, E0⟩, ⟨0, 0, false, false⟩, ⟨0, 0, false, false⟩, [sN, oN]⟩
abbrev gN : N := ⟨5, 0, ⟨0, 0, E0⟩, ⟨0, 0, false, false⟩, ⟨0, 0, false, false⟩, [rN]⟩
abbrev rightF (k : Nat) (x : N) := node_Right.f k x.f0 x.f1 x.f2.f0 x.f2.f1 x.f2.f2 x.f3.f0 x.f3.f1 x.f3.f2 x.f3.f3 x.f4.f0 x.f4.f1 x.f4.f2 x.f4.f3 x.f5
abbrev formF (k : Nat) (x : N) := node_Formula.f k x.f0 x.f1 x.f2.f0 x.f2.f1 x.f2.f2 x.f3.f0 x.f3.f1 x.f3.f2 x.f3.f3 x.f4.f0 x.f4.f1 x.f4.f2 x.f4.f3 x.f5
theorem fits67 : Ev (fun k => fname_Fits.f k 67 1) true := by
 have h := fits_ev 67 1
 rw [show fitsL (rsI 67) 1 = true by decide +kernel] at h
 exact h
theorem kind67 : Ev (fun k => fname_Kind.f k 67 0) 108 := by
 have h := kind_ev 67 0
 rw [show kindL (rsI 67) 0 = 108 by decide +kernel] at h
 exact h
theorem called_s : Ev (fun k => node_called.f k 7 67 0 0 E0 0 0 false false 0 0 false false [rN]) true := by
 unfold node_called.f
 refine ev_bind fits67 (ev_pos rfl ?_)
 refine Ev.step (fun k => node_called.l0.eq_2 ..) (ev_pos (by decide) (ev_pos (by decide) (ev_pos (by decide) (ev_bind kind67 ?_))))
 refine ev_bind (a := true) (ev_some fun _ => rfl) ?_
 refine Ev.step (fun k => node_called.j1.eq_2 ..) (ev_neg (by decide) ?_)
 exact Ev.step (fun k => node_called.l0.eq_2 ..) (ev_neg (by decide +kernel) (Ev.now _))
theorem right_r : Ev (fun k => rightF k rN) true := Ev.of (fun k => node_Right.mono _ _ _ _ _ _ _ _ _ _ _ _ _ _ k) (k := 30) (by decide +kernel)
theorem right_o : Ev (fun k => rightF k oN) true := Ev.of (fun k => node_Right.mono _ _ _ _ _ _ _ _ _ _ _ _ _ _ k) (k := 30) (by decide +kernel)
theorem right_g : Ev (fun k => rightF k gN) false := Ev.of (fun k => node_Right.mono _ _ _ _ _ _ _ _ _ _ _ _ _ _ k) (k := 40) (by decide +kernel)
theorem form_r : Ev (fun k => formF k rN) false := Ev.of (fun k => node_Formula.mono _ _ _ _ _ _ _ _ _ _ _ _ _ _ k) (k := 40) (by decide +kernel)
theorem deep_n : Ev (fun k => deepF k nN) 3 := Ev.of (fun k => node_Deep.mono _ _ _ _ _ _ _ _ _ _ _ _ _ _ k) (k := 40) (by decide +kernel)
theorem count_n : Ev (fun k => countF k nN) 4 := Ev.of (fun k => node_Count.mono _ _ _ _ _ _ _ _ _ _ _ _ _ _ k) (k := 40) (by decide +kernel)
theorem right_s : Ev (fun k => rightF k sN) true := by
 refine Ev.step (fun k => node_Right.f.eq_2 ..) ?_
 refine Ev.step (fun k => node_Right.l0.eq_2 ..) (ev_pos (by decide) (ev_pos (by decide) (ev_pos (by decide) (ev_bind right_r ?_))))
 refine Ev.step (fun k => node_Right.j1.eq_2 ..) (ev_neg (by decide) ?_)
 refine Ev.step (fun k => node_Right.l0.eq_2 ..) (ev_neg (by decide +kernel) ?_)
 refine ev_bind (a := 17) (ev_some fun _ => by decide +kernel) ?_
 refine Ev.step (fun k => node_Right.j2.eq_2 ..) ?_
 refine ev_neg (by decide) (ev_neg (by decide) (ev_neg (by decide) (ev_neg (by decide) (ev_neg (by decide) (ev_neg (by decide) (ev_pos (by decide) (ev_pos (by decide +kernel) ?_)))))))
 exact ev_bind called_s (Ev.now _)
theorem right_n : Ev (fun k => rightF k nN) true := by
 refine Ev.step (fun k => node_Right.f.eq_2 ..) ?_
 refine Ev.step (fun k => node_Right.l0.eq_2 ..) (ev_pos (by decide) (ev_pos (by decide) (ev_pos (by decide) (ev_bind right_s ?_))))
 refine Ev.step (fun k => node_Right.j1.eq_2 ..) (ev_neg (by decide) ?_)
 rw [show wrap64 (0 + 1) = 1 by decide +kernel]
 refine Ev.step (fun k => node_Right.l0.eq_2 ..) (ev_pos (by decide) (ev_pos (by decide) (ev_pos (by decide) (ev_bind right_o ?_))))
 refine Ev.step (fun k => node_Right.j1.eq_2 ..) (ev_neg (by decide) ?_)
 refine Ev.step (fun k => node_Right.l0.eq_2 ..) (ev_neg (by decide +kernel) ?_)
 refine ev_bind (a := 17) (ev_some fun _ => by decide +kernel) ?_
 refine Ev.of (fun k => (node_Right.mono_l k).2.2.2 _ _ _ _ _ _ _ _ _ _ _ _ _ _ _) (k := 20) (by decide +kernel)
theorem form_n : Ev (fun k => formF k nN) true := by
 unfold formF node_Formula.f
 refine ev_neg (by decide) (ev_bind deep_n (ev_pos (by decide) (ev_bind right_n (Ev.now _))))
theorem list_n : Ev (fun k => listF k nN) [nN, sN, rN, oN] := Ev.of (fun k => node_List.mono _ _ _ _ _ _ _ _ _ _ _ _ _ _ k) (k := 40) (by kernel_rfl)
theorem same_o : Ev (fun k => sameF k oN oN) true := Ev.of (fun k => node_Same.mono _ _ _ _ _ _ _ _ _ _ _ _ _ _ _ _ _ _ _ _ _ _ _ _ _ _ _ _ k) (k := 20) (by decide +kernel)
theorem alive22_ev : Ev (fun k => oculuslaw22_alive.f k) true := by
 unfold oculuslaw22_alive.f
 refine ev_bsome (ev_bind form_n (ev_pos rfl (ev_bind right_r (ev_pos rfl (ev_bind form_r (ev_neg (by decide) (ev_bind deep_n (ev_pos rfl (ev_bind count_n (ev_pos rfl (ev_bind right_g (ev_neg (by decide) (ev_bind list_n (ev_pos (by decide) ?_))))))))))))))
 exact ev_bind same_o (Ev.now _)
theorem ne23 (u v : S23) : ((!(u.f0 == v.f0) || (!(u.f1 == v.f1) || (!(u.f2.toList == v.f2.toList)))) = true) ↔ ¬ u = v := by
 obtain ⟨a, b, c⟩ := u
 obtain ⟨d, e, f⟩ := v
 simp only [S23.mk.injEq, Bool.or_eq_true, Bool.not_eq_true', beq_eq_false_iff_ne, ne_eq, toList_inj, Classical.not_and_iff_not_or_not]
theorem ne25 (u v : S25) : ((!(u.f0 == v.f0) || (!(u.f1 == v.f1) || (!(u.f2 == v.f2) || (!(u.f3 == v.f3))))) = true) ↔ ¬ u = v := by
 obtain ⟨a, b, c, a'⟩ := u
 obtain ⟨d, e, f, d'⟩ := v
 simp only [S25.mk.injEq, Bool.or_eq_true, Bool.not_eq_true', beq_eq_false_iff_ne, ne_eq, Classical.not_and_iff_not_or_not]
theorem hd_iff {x y : N} : hd x = hd y ↔ x.f0 = y.f0 ∧ x.f1 = y.f1 ∧ x.f2 = y.f2 ∧ x.f3 = y.f3 ∧ x.f4 = y.f4 ∧ x.f5.length = y.f5.length := by
 unfold hd
 simp only [Prod.mk.injEq]
theorem rsame_l0 (L M : List N) (hL : L.length ≤ 200) (hLM : L.length = M.length) : ∀ (d i : Nat), i + d = L.length → ∃ b : Bool, (b = true ↔ (L.drop i).map hd = (M.drop i).map hd) ∧ Ev (fun k => oculusref22_Same.l0 k L M (i : Int)) b := by
 intro d
 induction d with
 | zero =>
  intro i hi
  refine ⟨true, ?_, Ev.step (f := fun _ => some true) (fun k => ?_) (Ev.now _)⟩
  ·rw [List.drop_of_length_le (by omega), List.drop_of_length_le (by omega)]
   simp
  ·simp only [oculusref22_Same.l0]
   rw [if_neg (by omega)]
 | succ d ihd =>
  intro i hi
  have hil : i < L.length := by omega
  have hjl : i < M.length := by omega
  obtain ⟨b2, h2, e2⟩ := ihd (i + 1) (by omega)
  have hno : ¬ hd L[i] = hd M[i] → (false = true ↔ (L.drop i).map hd = (M.drop i).map hd) := by
   intro h
   rw [drop_at hil, drop_at hjl, List.map_cons, List.map_cons, List.cons.injEq]
   exact ⟨fun h => absurd h Bool.false_ne_true, fun h' => absurd h'.1 h⟩
  by_cases c0 : L[i].f0 = M[i].f0
  ·by_cases c1 : L[i].f1 = M[i].f1
   ·by_cases c2 : L[i].f2 = M[i].f2
    ·by_cases c3 : L[i].f3 = M[i].f3
     ·by_cases c4 : L[i].f4 = M[i].f4
      ·by_cases c5 : L[i].f5.length = M[i].f5.length
       ·refine ⟨b2, ?_, Ev.step (f := fun k => oculusref22_Same.l0 k L M ((i + 1 : Nat) : Int)) (fun k => ?_) e2⟩
        ·rw [h2, drop_at hil, drop_at hjl, List.map_cons, List.map_cons, List.cons.injEq]
         exact ⟨fun h => ⟨hd_iff.2 ⟨c0, c1, c2, c3, c4, c5⟩, h⟩, fun h => h.2⟩
        ·simp only [oculusref22_Same.l0]
         rw [if_pos (by omega), if_pos (by omega), if_pos (by omega), rdN L i hil, rdN M i hjl, if_pos c0, if_pos c1, if_neg (by rw [ne23]; exact fun h => h c2), if_neg (by rw [ne25]; exact fun h => h c3), if_neg (by rw [ne25]; exact fun h => h c4), if_pos (by omega), w64s (n := L.length) hil (by omega)]
       ·refine ⟨false, hno (fun h => c5 (hd_iff.1 h).2.2.2.2.2), Ev.step (f := fun _ => some false) (fun k => ?_) (Ev.now _)⟩
        simp only [oculusref22_Same.l0]
        rw [if_pos (by omega), if_pos (by omega), if_pos (by omega), rdN L i hil, rdN M i hjl, if_pos c0, if_pos c1, if_neg (by rw [ne23]; exact fun h => h c2), if_neg (by rw [ne25]; exact fun h => h c3), if_neg (by rw [ne25]; exact fun h => h c4), if_neg (by omega)]
      ·refine ⟨false, hno (fun h => c4 (hd_iff.1 h).2.2.2.2.1), Ev.step (f := fun _ => some false) (fun k => ?_) (Ev.now _)⟩
       simp only [oculusref22_Same.l0]
       rw [if_pos (by omega), if_pos (by omega), if_pos (by omega), rdN L i hil, rdN M i hjl, if_pos c0, if_pos c1, if_neg (by rw [ne23]; exact fun h => h c2), if_neg (by rw [ne25]; exact fun h => h c3), if_pos (by rw [ne25]; exact c4)]
     ·refine ⟨false, hno (fun h => c3 (hd_iff.1 h).2.2.2.1), Ev.step (f := fun _ => some false) (fun k => ?_) (Ev.now _)⟩
      simp only [oculusref22_Same.l0]
      rw [if_pos (by omega), if_pos (by omega), if_pos (by omega), rdN L i hil, rdN M i hjl, if_pos c0, if_pos c1, if_neg (by rw [ne23]; exact fun h => h c2), if_pos (by rw [ne25]; exact c3)]
    ·refine ⟨false, hno (fun h => c2 (hd_iff.1 h).2.2.1), Ev.step (f := fun _ => some false) (fun k => ?_) (Ev.now _)⟩
     simp only [oculusref22_Same.l0]
     rw [if_pos (by omega), if_pos (by omega), if_pos (by omega), rdN L i hil, rdN M i hjl, if_pos c0, if_pos c1, if_pos (by rw [ne23]; exact c2)]
   ·refine ⟨false, hno (fun h => c1 (hd_iff.1 h).2.1), Ev.step (f := fun _ => some false) (fun k => ?_) (Ev.now _)⟩
    simp only [oculusref22_Same.l0]
    rw [if_pos (by omega), if_pos (by omega), if_pos (by omega), rdN L i hil, rdN M i hjl, if_pos c0, if_neg c1]
  ·refine ⟨false, hno (fun h => c0 (hd_iff.1 h).1), Ev.step (f := fun _ => some false) (fun k => ?_) (Ev.now _)⟩
   simp only [oculusref22_Same.l0]
   rw [if_pos (by omega), if_pos (by omega), if_pos (by omega), rdN L i hil, rdN M i hjl, if_neg c0]
theorem rsame_ev (x y : N) (hx : (lst x).length ≤ 200) (hy : (lst y).length ≤ 200) : ∃ b : Bool, (b = true ↔ x = y) ∧ Ev (fun k => rsameF k x y) b := by
 by_cases hl : (lst x).length = (lst y).length
 ·obtain ⟨b, hb, e⟩ := rsame_l0 (lst x) (lst y) hx hl (lst x).length 0 (by omega)
  rw [List.drop_zero, List.drop_zero, same_iff] at hb
  refine ⟨b, hb, ?_⟩
  unfold rsameF oculusref22_Same.f
  exact ev_bind (nrlist_ev x hx) (ev_bind (nrlist_ev y hy) (ev_pos (by omega) e))
 ·refine ⟨false, ⟨fun h => absurd h Bool.false_ne_true, fun h => absurd (by rw [h]) hl⟩, ?_⟩
  unfold rsameF oculusref22_Same.f
  exact ev_bind (nrlist_ev x hx) (ev_bind (nrlist_ev y hy) (ev_neg (by omega) (Ev.now _)))
end Go.Proofs.YtdddhabemdbooaaDoor.X
/- What the references of cats and label answer: plain, with enough rounds. -/
set_option linter.unusedVariables false
set_option linter.unusedSimpArgs false
namespace Go.Proofs.YtdddhabemdbooaaDoor.X
open Go.RowKit Go.Proofs.YtdddhabemdbooaaDoorW.PrintWords Go.Proofs.YtdddhabemdbooaaDoorW.PrintLast Go.Proofs.YtdddhabemdbooaaDoorW.PrintMore
theorem bit_l0 : ∀ (d a c i : Nat), i + d = c → c ≤ 63 → a < 18446744073709551616 → Ev (fun k => oculusref01_Bit.l0 k (a : Int) (c : Int) (i : Int)) ((a / 2 ^ d) % 2 == 1) := by
 intro d
 induction d with
 | zero =>
  intro a c i hi hc ha
  refine Ev.step (f := fun _ => some ((a / 2 ^ 0) % 2 == 1)) (fun k => ?_) (Ev.now _)
  simp only [oculusref01_Bit.l0]
  rw [if_neg (by omega)]
  congr 1
  rw [Bool.eq_iff_iff]
  simp only [beq_iff_eq]
  have : ((a : Int).tmod 2) = ((a % 2 : Nat) : Int) := by rw [Int.tmod_eq_emod_of_nonneg (by omega)]; omega
  rw [this]
  simp
  omega
 | succ d ih =>
  intro a c i hi hc ha
  refine Ev.step (f := fun k => oculusref01_Bit.l0 k ((a / 2 : Nat) : Int) (c : Int) ((i + 1 : Nat) : Int)) (fun k => ?_) ?_
  ·simp only [oculusref01_Bit.l0]
   rw [if_pos (by omega), w64s (n := 64) (by omega) (by omega)]
   congr 1
   rw [IntKind.wrap_u64, Int.tdiv_eq_ediv_of_nonneg (by omega)]
   omega
  ·have := ih (a / 2) c (i + 1) (by omega) hc (by omega)
   rw [Nat.div_div_eq_div_mul, show 2 * 2 ^ d = 2 ^ (d + 1) by rw [Nat.pow_succ]; omega] at this
   exact this
def bitS (a : Nat) (c : Int) : Bool := decide (0 ≤ c) && (decide (c ≤ 63) && a.testBit c.toNat)
theorem bit_ev (a : Nat) (c : Int) (ha : a < 18446744073709551616) : Ev (fun k => oculusref01_Bit.f k (a : Int) c) (bitS a c) := by
 unfold oculusref01_Bit.f bitS
 by_cases h1 : c < 0
 ·simp only [if_pos h1]
  refine Ev.step (f := fun _ => some false) (fun k => by simp [oculusref01_Bit.j0]) ?_
  rw [decide_eq_false (by omega)]
  exact Ev.now _
 ·simp only [if_neg h1]
  by_cases h2 : c > 63
  ·refine Ev.step (f := fun _ => some false) (fun k => by simp [oculusref01_Bit.j0, h2]) ?_
   rw [decide_eq_false (show ¬ c ≤ 63 by omega)]
   simp
   exact Ev.now _
  ·refine Ev.step (f := fun k => oculusref01_Bit.l0 k (a : Int) c 0) (fun k => by simp [oculusref01_Bit.j0, h2]) ?_
   obtain ⟨n, rfl⟩ := Int.eq_ofNat_of_zero_le (show 0 ≤ c by omega)
   have := bit_l0 n a n 0 (by omega) (by omega) ha
   rw [decide_eq_true (show (0 : Int) ≤ n by omega), decide_eq_true (show (n : Int) ≤ 63 by omega)]
   simp only [Bool.true_and, Int.toNat_natCast, Nat.testBit_eq_decide_div_mod_eq]
   rw [show decide (a / 2 ^ n % 2 = 1) = (a / 2 ^ n % 2 == 1) from (Bool.beq_eq_decide_eq _ _).symm]
   exact this
theorem bitS_nat (a c : Nat) (h : c < 64) : bitS a (c : Int) = a.testBit c := by
 unfold bitS
 rw [decide_eq_true (by omega), decide_eq_true (by omega)]
 simp
theorem pow_lt64 {i : Nat} (h : i ≤ 63) : 2 ^ i < 18446744073709551616 := Nat.lt_of_le_of_lt (Nat.pow_le_pow_right (by omega) h) (by decide)
theorem one_l0 : ∀ (d c i : Nat), i + d = c → c ≤ 63 → Ev (fun k => oculusref01_One.l0 k (c : Int) ((2 ^ i : Nat) : Int) (i : Int)) ((2 ^ c : Nat) : Int) := by
 intro d
 induction d with
 | zero =>
  intro c i hi hc
  obtain rfl : i = c := by omega
  refine Ev.step (f := fun _ => some ((2 ^ i : Nat) : Int)) (fun k => ?_) (Ev.now _)
  simp only [oculusref01_One.l0]
  rw [if_neg (by omega)]
 | succ d ih =>
  intro c i hi hc
  refine Ev.step (f := fun k => oculusref01_One.l0 k (c : Int) ((2 ^ (i + 1) : Nat) : Int) ((i + 1 : Nat) : Int)) (fun k => ?_) (ih c (i + 1) (by omega) hc)
  simp only [oculusref01_One.l0]
  rw [if_pos (by omega), w64s (n := 64) (by omega) (by omega)]
  congr 1
  have := pow_lt64 (i := i + 1) (by omega)
  rw [IntKind.wrap_u64]
  rw [Nat.pow_succ] at this ⊢
  omega
theorem one_ev (c : Nat) (hc : c ≤ 63) : Ev (fun k => oculusref01_One.f k (c : Int)) ((2 ^ c : Nat) : Int) := by
 unfold oculusref01_One.f
 exact one_l0 c c 0 (by omega) hc
end Go.Proofs.YtdddhabemdbooaaDoor.X
/- Sets of 64 bits as lists of their bits: plain. -/
set_option linter.unusedVariables false
set_option linter.unusedSimpArgs false
namespace Go.Proofs.YtdddhabemdbooaaDoor.X
open Go.RowKit Go.Proofs.YtdddhabemdbooaaDoorW.PrintWords Go.Proofs.YtdddhabemdbooaaDoorW.PrintLast Go.Proofs.YtdddhabemdbooaaDoorW.PrintMore
def bitsL (s : Nat) : List Nat := (List.range 64).filter fun i => s.testBit i
theorem filter_low (n t : Nat) (p q : Nat → Bool) (ht : t < n) (h1 : p t = true) (h2 : ∀ i, i < t → p i = false) (h3 : ∀ i, q i = (p i && decide (i ≠ t))) : (List.range n).filter p = t :: (List.range n).filter q := by
 obtain ⟨d, rfl⟩ : ∃ d, n = t + (1 + d) := ⟨n - t - 1, by omega⟩
 rw [List.range_add, List.filter_append, List.filter_append]
 have e1 : (List.range t).filter p = [] := by
  rw [List.filter_eq_nil_iff]; intro i hi; rw [List.mem_range] at hi; rw [h2 i hi]; simp
 have e2 : (List.range t).filter q = [] := by
  rw [List.filter_eq_nil_iff]; intro i hi; rw [List.mem_range] at hi; rw [h3, h2 i hi]; simp
 rw [e1, e2, List.nil_append, List.nil_append, Nat.add_comm 1 d, List.range_succ_eq_map, List.map_cons, List.filter_cons, List.filter_cons]
 have hq : q t = false := by rw [h3]; simp
 rw [Nat.add_zero, if_pos h1, if_neg (by rw [hq]; simp)]
 congr 1
 apply List.filter_congr
 intro i hi
 simp only [List.mem_map, List.mem_range] at hi
 obtain ⟨j, ⟨k, hk, rfl⟩, rfl⟩ := hi
 rw [h3, decide_eq_true (by omega), Bool.and_true]
theorem low_bits (t m i : Nat) : (2 ^ t * (2 * m + 1)).testBit i = (decide (t ≤ i) && (2 * m + 1).testBit (i - t)) := by
 rw [Nat.mul_comm, Nat.testBit_mul_two_pow]
theorem low_prev (t m : Nat) : (2 ^ t * (2 * m + 1)) &&& (2 ^ t * (2 * m + 1) - 1) = 2 ^ t * (2 * m) := by
 apply Nat.eq_of_testBit_eq
 intro i
 have hp : 0 < 2 ^ t := Nat.two_pow_pos t
 have e : 2 ^ t * (2 * m + 1) - 1 = 2 ^ t * (2 * m) + (2 ^ t - 1) := by rw [Nat.mul_add]; omega
 rw [Nat.testBit_and, e, Nat.testBit_two_pow_mul_add _ (by omega), low_bits, Nat.mul_comm (2 ^ t), Nat.testBit_mul_two_pow]
 by_cases h : t ≤ i
 ·rw [if_neg (by omega), decide_eq_true h, Bool.true_and, Bool.true_and]
  obtain ⟨j, rfl⟩ : ∃ j, i = t + j := ⟨i - t, by omega⟩
  rw [show t + j - t = j by omega]
  cases j with
  | zero => simp [Nat.testBit_zero]
  | succ j => rw [Nat.testBit_succ, Nat.testBit_succ, show (2 * m + 1) / 2 = m by omega, show 2 * m / 2 = m by omega, Bool.and_self]
 ·rw [decide_eq_false h]; simp
theorem bitsL_cons (s : Nat) (hs : s < 18446744073709551616) (h0 : s ≠ 0) : bitsL s = Lib.ctz 64 s :: bitsL (s &&& (s - 1)) ∧ s &&& (s - 1) < s ∧ Lib.ctz 64 s < 64 := by
 unfold Lib.ctz
 rw [if_neg h0]
 obtain ⟨m, hm, hk⟩ := Lib.ctzFrom_spec 64 s (by omega) (by omega)
 generalize Lib.ctzFrom 64 s = t at *
 have hp : 0 < 2 ^ t := Nat.two_pow_pos t
 refine ⟨?_, ?_, hk⟩
 ·subst hm
  unfold bitsL
  rw [low_prev]
  refine filter_low 64 t _ _ hk ?_ ?_ ?_
  ·rw [low_bits]; simp
  ·intro i hi; rw [low_bits, decide_eq_false (by omega)]; rfl
  ·intro i
   rw [low_bits, Nat.mul_comm (2 ^ t), Nat.testBit_mul_two_pow]
   by_cases h : t ≤ i
   ·rw [decide_eq_true h, Bool.true_and, Bool.true_and]
    obtain ⟨j, rfl⟩ : ∃ j, i = t + j := ⟨i - t, by omega⟩
    rw [show t + j - t = j by omega]
    cases j with
    | zero => simp [Nat.testBit_zero]
    | succ j => rw [Nat.testBit_succ, Nat.testBit_succ, show (2 * m + 1) / 2 = m by omega, show 2 * m / 2 = m by omega, decide_eq_true (by omega), Bool.and_true]
   ·rw [decide_eq_false h]; simp
 ·subst hm
  rw [low_prev, Nat.mul_add]
  omega
end Go.Proofs.YtdddhabemdbooaaDoor.X
