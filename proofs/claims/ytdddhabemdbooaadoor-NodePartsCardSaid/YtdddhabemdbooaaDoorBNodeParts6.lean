/- Contracts of the functions that the law NodeParts reaches, and what they answer (a session's own texts, joined; part 6). -/
import Derived.Deep.Slices
import Derived.ChangeArms
import Derived.SizedLaws
import Derived.OpenShut
import Derived.Laws.BitsAllLaws
import Derived.Lib.Strings
import Derived.Lib.IndexBytes
import Derived.Lib.SplitLaws
import Derived.Test.YtdddhabemdbooaaDoorBNodeParts5
namespace Go.Proofs.YtdddhabemdbooaaDoor.X
open Go.RowKit Go.Proofs.YtdddhabemdbooaaDoorW.PrintWords Go.Proofs.YtdddhabemdbooaaDoorW.PrintLast Go.Proofs.YtdddhabemdbooaaDoorW.PrintMore
attribute [local go_sem] max2_int min2_int max_two min_two max_three min_three max_four min_four
set_option linter.unusedVariables false
set_option linter.unusedSimpArgs false
mutual
def oculuslaw22_NodeParts.j0 : Nat → Bool → Int → Int → Int → Int → ByteArray → Int → Int → Bool → Bool → Int → Int → Bool → Bool → List (S28) → Option (Bool)
 | 0, _, _, _, _, _, _, _, _, _, _, _, _, _, _, _ => none
 | k + 1, x12, x102000, x102001, x102002, x102003, x102004, x102005, x102006, x102007, x102008, x102009, x102010, x102011, x102012, x102013 => if x12 = true then ((oculuslaw22_alive.f k).bind fun t104 => (some t104)) else ((node_List.f k x102000 x102001 x102002 x102003 x102004 x102005 x102006 x102007 x102008 x102009 x102010 x102011 x102012 x102013).bind fun t105 => (oculuslaw22_NodeParts.l0 k t105 (t105.length : Int) 0 x102000 x102001 x102002 x102003 x102004 x102005 x102006 x102007 x102008 x102009 x102010 x102011 x102012 x102013))
def oculuslaw22_NodeParts.l0 : Nat → List (S28) → Int → Int → Int → Int → Int → Int → ByteArray → Int → Int → Bool → Bool → Int → Int → Bool → Bool → List (S28) → Option (Bool)
 | 0, _, _, _, _, _, _, _, _, _, _, _, _, _, _, _, _, _ => none
 | k + 1, x15, x16, x17, x102000, x102001, x102002, x102003, x102004, x102005, x102006, x102007, x102008, x102009, x102010, x102011, x102012, x102013 => if x17 < x16 then (if 0 ≤ x17 then (if x17 < (x15.length : Int) then ((node_Right.f k ((rd_T28 x15 x17).f0) ((rd_T28 x15 x17).f1) ((rd_T28 x15 x17).f2.f0) ((rd_T28 x15 x17).f2.f1) ((rd_T28 x15 x17).f2.f2) ((rd_T28 x15 x17).f3.f0) ((rd_T28 x15 x17).f3.f1) ((rd_T28 x15 x17).f3.f2) ((rd_T28 x15 x17).f3.f3) ((rd_T28 x15 x17).f4.f0) ((rd_T28 x15 x17).f4.f1) ((rd_T28 x15 x17).f4.f2) ((rd_T28 x15 x17).f4.f3) ((rd_T28 x15 x17).f5)).bind fun t111 => (if t111 = true then ((node_Deep.f k ((rd_T28 x15 x17).f0) ((rd_T28 x15 x17).f1) ((rd_T28 x15 x17).f2.f0) ((rd_T28 x15 x17).f2.f1) ((rd_T28 x15 x17).f2.f2) ((rd_T28 x15 x17).f3.f0) ((rd_T28 x15 x17).f3.f1) ((rd_T28 x15 x17).f3.f2) ((rd_T28 x15 x17).f3.f3) ((rd_T28 x15 x17).f4.f0) ((rd_T28 x15 x17).f4.f1) ((rd_T28 x15 x17).f4.f2) ((rd_T28 x15 x17).f4.f3) ((rd_T28 x15 x17).f5)).bind fun t112 => ((node_Deep.f k x102000 x102001 x102002 x102003 x102004 x102005 x102006 x102007 x102008 x102009 x102010 x102011 x102012 x102013).bind fun t113 => (if t112 > t113 then (none) else (if x17 > 0 then ((node_Deep.f k ((rd_T28 x15 x17).f0) ((rd_T28 x15 x17).f1) ((rd_T28 x15 x17).f2.f0) ((rd_T28 x15 x17).f2.f1) ((rd_T28 x15 x17).f2.f2) ((rd_T28 x15 x17).f3.f0) ((rd_T28 x15 x17).f3.f1) ((rd_T28 x15 x17).f3.f2) ((rd_T28 x15 x17).f3.f3) ((rd_T28 x15 x17).f4.f0) ((rd_T28 x15 x17).f4.f1) ((rd_T28 x15 x17).f4.f2) ((rd_T28 x15 x17).f4.f3) ((rd_T28 x15 x17).f5)).bind fun t114 => ((node_Deep.f k x102000 x102001 x102002 x102003 x102004 x102005 x102006 x102007 x102008 x102009 x102010 x102011 x102012 x102013).bind fun t115 => (if t114 = t115 then (none) else (oculuslaw22_NodeParts.l0 k x15 x16 (wrap64 (x17 + 1)) x102000 x102001 x102002 x102003 x102004 x102005 x102006 x102007 x102008 x102009 x102010 x102011 x102012 x102013)))) else (oculuslaw22_NodeParts.l0 k x15 x16 (wrap64 (x17 + 1)) x102000 x102001 x102002 x102003 x102004 x102005 x102006 x102007 x102008 x102009 x102010 x102011 x102012 x102013))))) else (none))) else (none)) else (none)) else ((oculuslaw22_alive.f k).bind fun t108 => (some t108))
end
def oculuslaw22_NodeParts.f (k : Nat) (a0_0 : Int) (a0_1 : Int) (a0_2 : Int) (a0_3 : Int) (a0_4 : ByteArray) (a0_5 : Int) (a0_6 : Int) (a0_7 : Bool) (a0_8 : Bool) (a0_9 : Int) (a0_10 : Int) (a0_11 : Bool) (a0_12 : Bool) (l0_13 : List (S28)) : Option (Bool) := (oculuslaw22_few.f k a0_0 a0_1 a0_2 a0_3 a0_4 a0_5 a0_6 a0_7 a0_8 a0_9 a0_10 a0_11 a0_12 l0_13 200).bind fun t102 => (if t102 = true then ((node_Right.f k a0_0 a0_1 a0_2 a0_3 a0_4 a0_5 a0_6 a0_7 a0_8 a0_9 a0_10 a0_11 a0_12 l0_13).bind fun t103 => (oculuslaw22_NodeParts.j0 k (!t103) a0_0 a0_1 a0_2 a0_3 a0_4 a0_5 a0_6 a0_7 a0_8 a0_9 a0_10 a0_11 a0_12 l0_13)) else (oculuslaw22_NodeParts.j0 k true a0_0 a0_1 a0_2 a0_3 a0_4 a0_5 a0_6 a0_7 a0_8 a0_9 a0_10 a0_11 a0_12 l0_13))
def oculuslaw22_NodeParts.T6 : Bool × List (List Nat × List Nat) := (true, [([], []), ([0], [0]), ([1], [1]), ([2, 1], [2]), ([3], [3]), ([4, 3, 3], [3, 4]), ([3], [3]), ([6, 5, 3], [3, 6]), ([5, 7, 3], [3, 5, 7]), ([3, 8], [3, 8]), ([9, 7], [9]), ([10], [10]), ([11, 10], [10, 11]), ([12, 10, 10], [10, 12]), ([13], [13]), ([14, 13, 13], [13, 14]), ([13], [13]), ([16, 15, 13], [13, 16]), ([15, 17, 13], [13, 15, 17]), ([13, 18, 10], [10, 13, 18]), ([10, 19], [10, 19])])
def oculuslaw22_NodeParts.B6 : List Nat := [0, 1, 3, 7, 15, 31, 15, 127, 255, 511, 1023, 2047, 4095, 8191, 16383, 32767, 16383, 131071, 262143, 524287, 1048575]
theorem oculuslaw22_NodeParts.tab6 : rtab .any (opsOf Tryd.f4 6) = oculuslaw22_NodeParts.T6 := by kernel_rfl
theorem oculuslaw22_NodeParts.bits6 : waitsOk oculuslaw22_NodeParts.T6.2 oculuslaw22_NodeParts.B6 = true := by kernel_rfl
set_option maxHeartbeats 8000000 in
set_option maxRecDepth 100000 in
theorem oculuslaw22_NodeParts.calls (k : Nat) (a0_0 : Int) (a0_1 : Int) (a0_2 : Int) (a0_3 : Int) (a0_4 : ByteArray) (a0_5 : Int) (a0_6 : Int) (a0_7 : Bool) (a0_8 : Bool) (a0_9 : Int) (a0_10 : Int) (a0_11 : Bool) (a0_12 : Bool) (A0_13 : Option Addr) (c0_13 : Nat) (l0_13 : List (S28)) (r : Bool) (w : World) (hT : Aside0 (Tab w)) (hr0_13 : Kd.C k28 w A0_13 l0_13.length l0_13) (hc0_13 : l0_13.length ≤ c0_13) (h : oculuslaw22_NodeParts.f k a0_0 a0_1 a0_2 a0_3 a0_4 a0_5 a0_6 a0_7 a0_8 a0_9 a0_10 a0_11 a0_12 l0_13 = some r) :
  Calls Tryd.prog 4 #[.agg #[.int .i64 a0_0, .int .i64 a0_1, .int .i64 a0_2, .int .i64 a0_3, .string a0_4, .int .i64 a0_5, .int .i64 a0_6, .bool a0_7, .bool a0_8, .int .i64 a0_9, .int .i64 a0_10, .bool a0_11, .bool a0_12, .slice A0_13 l0_13.length c0_13]] w fun e w' => e = .returned (.bool r) ∧ Below w.heap.size w w' := by
 have hu28 := Tryd.underlying28; have HR0_13 := Aside0.mk hr0_13; have HC0_13 := Aside0.mk hc0_13; clear hr0_13 hc0_13; have HB := Aside0.mk (Below.refl w.heap.size w)
 have H : ((oculuslaw22_few.f k a0_0 a0_1 a0_2 a0_3 a0_4 a0_5 a0_6 a0_7 a0_8 a0_9 a0_10 a0_11 a0_12 l0_13 200).bind fun t102 => (if t102 = true then ((node_Right.f k a0_0 a0_1 a0_2 a0_3 a0_4 a0_5 a0_6 a0_7 a0_8 a0_9 a0_10 a0_11 a0_12 l0_13).bind fun t103 => (oculuslaw22_NodeParts.j0 k (!t103) a0_0 a0_1 a0_2 a0_3 a0_4 a0_5 a0_6 a0_7 a0_8 a0_9 a0_10 a0_11 a0_12 l0_13)) else (oculuslaw22_NodeParts.j0 k true a0_0 a0_1 a0_2 a0_3 a0_4 a0_5 a0_6 a0_7 a0_8 a0_9 a0_10 a0_11 a0_12 l0_13))) = some r := h
 clear h; have HC2 := Aside0.mk H; clear H
 go_enter Tryd.func4, Tryd.ntmps4
 go_upto_region 1 with (first | ((with_reducible refine gate_dst (N:=1) rfl ?_); refine be_ (N:=1) (cs := #[.int .i64 a0_0, .int .i64 a0_1, .int .i64 a0_2, .int .i64 a0_3, .string a0_4, .int .i64 a0_5, .int .i64 a0_6, .bool a0_7, .bool a0_8, .int .i64 a0_9, .int .i64 a0_10, .bool a0_11, .bool a0_12, .slice A0_13 l0_13.length c0_13]) (t:=28) ?_; intro gb101 hg w3 hbox hb; have BK101 := Aside0.mk (hbox); have GW101 := hs_ HB hg; have GE101 := hs_ HB hg; replace HB := bs_ HB hb; clear hb hbox hg))
 (try simp only [q_])
 go_cut [12] (fun v12 wc => ∃ (kq : Nat) (x12_1 : Bool), v12 = .bool x12_1 ∧ Aside0 (oculuslaw22_NodeParts.j0 kq x12_1 a0_0 a0_1 a0_2 a0_3 a0_4 a0_5 a0_6 a0_7 a0_8 a0_9 a0_10 a0_11 a0_12 l0_13 = some r) ∧ Aside0 (kq ≤ k) ∧ Aside0 (wc.heap[gb101]? = some (.cells #[.int .i64 a0_0, .int .i64 a0_1, .int .i64 a0_2, .int .i64 a0_3, .string a0_4, .int .i64 a0_5, .int .i64 a0_6, .bool a0_7, .bool a0_8, .int .i64 a0_9, .int .i64 a0_10, .bool a0_11, .bool a0_12, (.slice A0_13 l0_13.length c0_13)] 28 (0, 0))) ∧ Aside0 (Below w.heap.size w wc))
 case first =>
  have H := HC2.out; clear HC2; replace H := Option.bind_eq_some_iff.mp H; obtain ⟨t102, A40, H⟩ := H
  replace H : (if t102 = true then ((node_Right.f k a0_0 a0_1 a0_2 a0_3 a0_4 a0_5 a0_6 a0_7 a0_8 a0_9 a0_10 a0_11 a0_12 l0_13).bind fun t103 => (oculuslaw22_NodeParts.j0 k (!t103) a0_0 a0_1 a0_2 a0_3 a0_4 a0_5 a0_6 a0_7 a0_8 a0_9 a0_10 a0_11 a0_12 l0_13)) else (oculuslaw22_NodeParts.j0 k true a0_0 a0_1 a0_2 a0_3 a0_4 a0_5 a0_6 a0_7 a0_8 a0_9 a0_10 a0_11 a0_12 l0_13)) = some r := H
  have A4 := Aside0.mk A40; clear A40
  by_cases c5 : t102 = true
  ·subst c5
   have H1 : ((node_Right.f k a0_0 a0_1 a0_2 a0_3 a0_4 a0_5 a0_6 a0_7 a0_8 a0_9 a0_10 a0_11 a0_12 l0_13).bind fun t103 => (oculuslaw22_NodeParts.j0 k (!t103) a0_0 a0_1 a0_2 a0_3 a0_4 a0_5 a0_6 a0_7 a0_8 a0_9 a0_10 a0_11 a0_12 l0_13)) = some r := by rw [if_pos rfl] at H; exact H
   clear H; have H := H1; clear H1; replace H := Option.bind_eq_some_iff.mp H; obtain ⟨t103, A60, H⟩ := H
   replace H : (oculuslaw22_NodeParts.j0 k (!t103) a0_0 a0_1 a0_2 a0_3 a0_4 a0_5 a0_6 a0_7 a0_8 a0_9 a0_10 a0_11 a0_12 l0_13) = some r := H
   have A6 := Aside0.mk A60; clear A60
   have H' := Aside0.mk H
   clear H
   have hcz7_0 : w3.cell? ⟨gb101, 0, none⟩ = some (.int .i64 a0_0) := bc_ BK101 0 rfl
   have hcz7_1 : w3.cell? ⟨gb101, 1, none⟩ = some (.int .i64 a0_1) := bc_ BK101 1 rfl
   have hcz7_2 : w3.cell? ⟨gb101, 2, none⟩ = some (.int .i64 a0_2) := bc_ BK101 2 rfl
   have hcz7_3 : w3.cell? ⟨gb101, 3, none⟩ = some (.int .i64 a0_3) := bc_ BK101 3 rfl
   have hcz7_4 : w3.cell? ⟨gb101, 4, none⟩ = some (.string a0_4) := bc_ BK101 4 rfl
   have hcz7_5 : w3.cell? ⟨gb101, 5, none⟩ = some (.int .i64 a0_5) := bc_ BK101 5 rfl
   have hcz7_6 : w3.cell? ⟨gb101, 6, none⟩ = some (.int .i64 a0_6) := bc_ BK101 6 rfl
   have hcz7_7 : w3.cell? ⟨gb101, 7, none⟩ = some (.bool a0_7) := bc_ BK101 7 rfl
   have hcz7_8 : w3.cell? ⟨gb101, 8, none⟩ = some (.bool a0_8) := bc_ BK101 8 rfl
   have hcz7_9 : w3.cell? ⟨gb101, 9, none⟩ = some (.int .i64 a0_9) := bc_ BK101 9 rfl
   have hcz7_10 : w3.cell? ⟨gb101, 10, none⟩ = some (.int .i64 a0_10) := bc_ BK101 10 rfl
   have hcz7_11 : w3.cell? ⟨gb101, 11, none⟩ = some (.bool a0_11) := bc_ BK101 11 rfl
   have hcz7_12 : w3.cell? ⟨gb101, 12, none⟩ = some (.bool a0_12) := bc_ BK101 12 rfl
   have hcz7_13 : w3.cell? ⟨gb101, 13, none⟩ = some (.slice A0_13 l0_13.length c0_13) := bc_ BK101 13 rfl
   have hfz7_0 := blk_frozen BK101.out 0; have hfz7_1 := blk_frozen BK101.out 1; have hfz7_2 := blk_frozen BK101.out 2; have hfz7_3 := blk_frozen BK101.out 3; have hfz7_4 := blk_frozen BK101.out 4; have hfz7_5 := blk_frozen BK101.out 5; have hfz7_6 := blk_frozen BK101.out 6; have hfz7_7 := blk_frozen BK101.out 7; have hfz7_8 := blk_frozen BK101.out 8; have hfz7_9 := blk_frozen BK101.out 9; have hfz7_10 := blk_frozen BK101.out 10; have hfz7_11 := blk_frozen BK101.out 11; have hfz7_12 := blk_frozen BK101.out 12; have hfz7_13 := blk_frozen BK101.out 13
   go_wp2_with (first | ((with_reducible refine gate_callee (f:=6) rfl ?_); refine gL_ (some 6) rfl rfl Tryd.func6 rfl #[.agg #[.int .i64 a0_0, .int .i64 a0_1, .int .i64 a0_2, .int .i64 a0_3, .string a0_4, .int .i64 a0_5, .int .i64 a0_6, .bool a0_7, .bool a0_8, .int .i64 a0_9, .int .i64 a0_10, .bool a0_11, .bool a0_12, .slice A0_13 l0_13.length c0_13], .int .i64 200] rfl ?_; (with_reducible refine (oculuslaw22_few.calls k a0_0 a0_1 a0_2 a0_3 a0_4 a0_5 a0_6 a0_7 a0_8 a0_9 a0_10 a0_11 a0_12 _ _ l0_13 200 true _ ?side1 ?side2 A4.out).mono ?_); (case side1 => repeat (first | exact (Kd.C_below HR0_13.out HB.out) | (with_reducible refine Kd.C_alloc ?_ _) | (with_reducible refine Kd.C_drewN ?_ _) | (with_reducible refine Kd.C_drew ?_))); (case side2 => exact HC0_13.out); rintro e w8 ⟨rfl, hb⟩; refine ⟨_, rfl, ?_⟩; replace BK101 := bb_ BK101 hb; replace HB := bs_ HB hb; (try clear hb); (try clear hb2); (try clear hk); (try clear hi); have hcz9_0 : w8.cell? ⟨gb101, 0, none⟩ = some (.int .i64 a0_0) := bc_ BK101 0 rfl; have hcz9_1 : w8.cell? ⟨gb101, 1, none⟩ = some (.int .i64 a0_1) := bc_ BK101 1 rfl; have hcz9_2 : w8.cell? ⟨gb101, 2, none⟩ = some (.int .i64 a0_2) := bc_ BK101 2 rfl; have hcz9_3 : w8.cell? ⟨gb101, 3, none⟩ = some (.int .i64 a0_3) := bc_ BK101 3 rfl; have hcz9_4 : w8.cell? ⟨gb101, 4, none⟩ = some (.string a0_4) := bc_ BK101 4 rfl; have hcz9_5 : w8.cell? ⟨gb101, 5, none⟩ = some (.int .i64 a0_5) := bc_ BK101 5 rfl; have hcz9_6 : w8.cell? ⟨gb101, 6, none⟩ = some (.int .i64 a0_6) := bc_ BK101 6 rfl; have hcz9_7 : w8.cell? ⟨gb101, 7, none⟩ = some (.bool a0_7) := bc_ BK101 7 rfl; have hcz9_8 : w8.cell? ⟨gb101, 8, none⟩ = some (.bool a0_8) := bc_ BK101 8 rfl; have hcz9_9 : w8.cell? ⟨gb101, 9, none⟩ = some (.int .i64 a0_9) := bc_ BK101 9 rfl; have hcz9_10 : w8.cell? ⟨gb101, 10, none⟩ = some (.int .i64 a0_10) := bc_ BK101 10 rfl; have hcz9_11 : w8.cell? ⟨gb101, 11, none⟩ = some (.bool a0_11) := bc_ BK101 11 rfl; have hcz9_12 : w8.cell? ⟨gb101, 12, none⟩ = some (.bool a0_12) := bc_ BK101 12 rfl; have hcz9_13 : w8.cell? ⟨gb101, 13, none⟩ = some (.slice A0_13 l0_13.length c0_13) := bc_ BK101 13 rfl; have hfz9_0 := blk_frozen BK101.out 0; have hfz9_1 := blk_frozen BK101.out 1; have hfz9_2 := blk_frozen BK101.out 2; have hfz9_3 := blk_frozen BK101.out 3; have hfz9_4 := blk_frozen BK101.out 4; have hfz9_5 := blk_frozen BK101.out 5; have hfz9_6 := blk_frozen BK101.out 6; have hfz9_7 := blk_frozen BK101.out 7; have hfz9_8 := blk_frozen BK101.out 8; have hfz9_9 := blk_frozen BK101.out 9; have hfz9_10 := blk_frozen BK101.out 10; have hfz9_11 := blk_frozen BK101.out 11; have hfz9_12 := blk_frozen BK101.out 12; have hfz9_13 := blk_frozen BK101.out 13) | (go_at_call 13; (with_reducible refine (node_Right.calls k a0_0 a0_1 a0_2 a0_3 a0_4 a0_5 a0_6 a0_7 a0_8 a0_9 a0_10 a0_11 a0_12 _ _ l0_13 t103 _ (by refine tb_ ?_ hT; repeat' (first | exact pbx HB | exact Below.refl _ _ | assumption | refine below_set ?_ (Aside0.out ?_))) ?side1 ?side2 A6.out).mono ?_); (case side1 => repeat (first | exact (Kd.C_below HR0_13.out HB.out) | (with_reducible refine Kd.C_alloc ?_ _) | (with_reducible refine Kd.C_drewN ?_ _) | (with_reducible refine Kd.C_drew ?_))); (case side2 => exact HC0_13.out); rintro e w10 ⟨rfl, hb⟩; replace BK101 := bb_ BK101 hb; replace HB := bs_ HB hb; (try clear hb); (try clear hb2); (try clear hk); (try clear hi)))
   go_meet
   case rel => exact ⟨_, (!t103), (by first | rfl | (simp; done) | (simp [*]; done) | (cases t103 <;> simp; done)), H', ⟨by first | omega | exact Nat.le_refl _⟩, ⟨pkx BK101⟩, ⟨pbx HB⟩⟩
  ·replace c5 := Bool.eq_false_iff.mpr c5; subst c5
   have H1 : (oculuslaw22_NodeParts.j0 k true a0_0 a0_1 a0_2 a0_3 a0_4 a0_5 a0_6 a0_7 a0_8 a0_9 a0_10 a0_11 a0_12 l0_13) = some r := by rw [if_neg (show ¬ (false = true) by decide)] at H; exact H
   clear H; have H := H1; clear H1
   have H' := Aside0.mk H
   clear H
   have hcz11_0 : w3.cell? ⟨gb101, 0, none⟩ = some (.int .i64 a0_0) := bc_ BK101 0 rfl
   have hcz11_1 : w3.cell? ⟨gb101, 1, none⟩ = some (.int .i64 a0_1) := bc_ BK101 1 rfl
   have hcz11_2 : w3.cell? ⟨gb101, 2, none⟩ = some (.int .i64 a0_2) := bc_ BK101 2 rfl
   have hcz11_3 : w3.cell? ⟨gb101, 3, none⟩ = some (.int .i64 a0_3) := bc_ BK101 3 rfl
   have hcz11_4 : w3.cell? ⟨gb101, 4, none⟩ = some (.string a0_4) := bc_ BK101 4 rfl
   have hcz11_5 : w3.cell? ⟨gb101, 5, none⟩ = some (.int .i64 a0_5) := bc_ BK101 5 rfl
   have hcz11_6 : w3.cell? ⟨gb101, 6, none⟩ = some (.int .i64 a0_6) := bc_ BK101 6 rfl
   have hcz11_7 : w3.cell? ⟨gb101, 7, none⟩ = some (.bool a0_7) := bc_ BK101 7 rfl
   have hcz11_8 : w3.cell? ⟨gb101, 8, none⟩ = some (.bool a0_8) := bc_ BK101 8 rfl
   have hcz11_9 : w3.cell? ⟨gb101, 9, none⟩ = some (.int .i64 a0_9) := bc_ BK101 9 rfl
   have hcz11_10 : w3.cell? ⟨gb101, 10, none⟩ = some (.int .i64 a0_10) := bc_ BK101 10 rfl
   have hcz11_11 : w3.cell? ⟨gb101, 11, none⟩ = some (.bool a0_11) := bc_ BK101 11 rfl
   have hcz11_12 : w3.cell? ⟨gb101, 12, none⟩ = some (.bool a0_12) := bc_ BK101 12 rfl
   have hcz11_13 : w3.cell? ⟨gb101, 13, none⟩ = some (.slice A0_13 l0_13.length c0_13) := bc_ BK101 13 rfl
   have hfz11_0 := blk_frozen BK101.out 0; have hfz11_1 := blk_frozen BK101.out 1; have hfz11_2 := blk_frozen BK101.out 2; have hfz11_3 := blk_frozen BK101.out 3; have hfz11_4 := blk_frozen BK101.out 4; have hfz11_5 := blk_frozen BK101.out 5; have hfz11_6 := blk_frozen BK101.out 6; have hfz11_7 := blk_frozen BK101.out 7; have hfz11_8 := blk_frozen BK101.out 8; have hfz11_9 := blk_frozen BK101.out 9; have hfz11_10 := blk_frozen BK101.out 10; have hfz11_11 := blk_frozen BK101.out 11; have hfz11_12 := blk_frozen BK101.out 12; have hfz11_13 := blk_frozen BK101.out 13
   go_wp2_with (first | ((with_reducible refine gate_callee (f:=6) rfl ?_); refine gL_ (some 6) rfl rfl Tryd.func6 rfl #[.agg #[.int .i64 a0_0, .int .i64 a0_1, .int .i64 a0_2, .int .i64 a0_3, .string a0_4, .int .i64 a0_5, .int .i64 a0_6, .bool a0_7, .bool a0_8, .int .i64 a0_9, .int .i64 a0_10, .bool a0_11, .bool a0_12, .slice A0_13 l0_13.length c0_13], .int .i64 200] rfl ?_; (with_reducible refine (oculuslaw22_few.calls k a0_0 a0_1 a0_2 a0_3 a0_4 a0_5 a0_6 a0_7 a0_8 a0_9 a0_10 a0_11 a0_12 _ _ l0_13 200 false _ ?side1 ?side2 A4.out).mono ?_); (case side1 => repeat (first | exact (Kd.C_below HR0_13.out HB.out) | (with_reducible refine Kd.C_alloc ?_ _) | (with_reducible refine Kd.C_drewN ?_ _) | (with_reducible refine Kd.C_drew ?_))); (case side2 => exact HC0_13.out); rintro e w12 ⟨rfl, hb⟩; refine ⟨_, rfl, ?_⟩; replace BK101 := bb_ BK101 hb; replace HB := bs_ HB hb; (try clear hb); (try clear hb2); (try clear hk); (try clear hi)))
   go_meet
   case rel => exact ⟨_, (true), (by first | rfl | (simp; done) | (simp [*]; done)), H', ⟨by first | omega | exact Nat.le_refl _⟩, ⟨pkx BK101⟩, ⟨pbx HB⟩⟩
 case rest =>
  clear HC2; (try clear p2); (try clear c4); (try clear c5); (try clear c6); (try clear hcz11_0); (try clear hcz11_1); (try clear hcz11_10); (try clear hcz11_11); (try clear hcz11_12); (try clear hcz11_13); (try clear hcz11_2); (try clear hcz11_3); (try clear hcz11_4); (try clear hcz11_5); (try clear hcz11_6); (try clear hcz11_7); (try clear hcz11_8); (try clear hcz11_9); (try clear hcz7_0); (try clear hcz7_1); (try clear hcz7_10); (try clear hcz7_11); (try clear hcz7_12); (try clear hcz7_13); (try clear hcz7_2); (try clear hcz7_3); (try clear hcz7_4); (try clear hcz7_5); (try clear hcz7_6); (try clear hcz7_7); (try clear hcz7_8); (try clear hcz7_9); (try clear hcz9_0); (try clear hcz9_1); (try clear hcz9_10); (try clear hcz9_11); (try clear hcz9_12); (try clear hcz9_13); (try clear hcz9_2); (try clear hcz9_3); (try clear hcz9_4); (try clear hcz9_5); (try clear hcz9_6); (try clear hcz9_7); (try clear hcz9_8); (try clear hcz9_9); (try clear hfz11_0); (try clear hfz11_1); (try clear hfz11_10); (try clear hfz11_11); (try clear hfz11_12); (try clear hfz11_13); (try clear hfz11_2); (try clear hfz11_3); (try clear hfz11_4); (try clear hfz11_5); (try clear hfz11_6); (try clear hfz11_7); (try clear hfz11_8); (try clear hfz11_9); (try clear hfz7_0); (try clear hfz7_1); (try clear hfz7_10); (try clear hfz7_11); (try clear hfz7_12); (try clear hfz7_13); (try clear hfz7_2); (try clear hfz7_3); (try clear hfz7_4); (try clear hfz7_5); (try clear hfz7_6); (try clear hfz7_7); (try clear hfz7_8); (try clear hfz7_9); (try clear hfz9_0); (try clear hfz9_1); (try clear hfz9_10); (try clear hfz9_11); (try clear hfz9_12); (try clear hfz9_13); (try clear hfz9_2); (try clear hfz9_3); (try clear hfz9_4); (try clear hfz9_5); (try clear hfz9_6); (try clear hfz9_7); (try clear hfz9_8); (try clear hfz9_9)
  obtain ⟨kq, x12_1, rfl, HA, HJ1, BK101, HB⟩ := hcut
  cases kq with
  | zero => exact absurd HA.out (by simp [oculuslaw22_NodeParts.j0])
  | succ kj1 =>
   have H := HA.out; clear HA
   simp only [oculuslaw22_NodeParts.j0] at H
   by_cases c13 : x12_1 = true
   ·subst c13
    have H1 : ((oculuslaw22_alive.f kj1).bind fun t104 => (some t104)) = some r := by rw [if_pos rfl] at H; exact H
    clear H; have H := H1; clear H1; replace H := Option.bind_eq_some_iff.mp H; obtain ⟨t104, A140, H⟩ := H
    replace H : (some t104) = some r := H
    have A14 := Aside0.mk A140; clear A140; obtain rfl := Option.some.inj H
    go_wp2_with (first | ((with_reducible refine gate_callee (f:=7) rfl ?_); refine gL_ (some 13) rfl rfl Tryd.func7 rfl #[] rfl ?_; (with_reducible refine (oculuslaw22_alive.calls kj1  t104 _ (by refine tb_ ?_ hT; repeat' (first | exact pbx HB | exact Below.refl _ _ | assumption | refine below_set ?_ (Aside0.out ?_))) A14.out).mono ?_); rintro e w15 ⟨rfl, hb⟩; refine ⟨_, rfl, ?_⟩; replace BK101 := bb_ BK101 hb; replace HB := bs_ HB hb; (try clear hb); (try clear hb2); (try clear hk); (try clear hi)))
    go_ret
    exact ⟨by first | rfl | (simp [errW_none, errW_some] <;> rfl) | (simp [*, errW_none, errW_some] <;> rfl), pbx HB⟩
   ·replace c13 := Bool.eq_false_iff.mpr c13; subst c13
    have H1 : ((node_List.f kj1 a0_0 a0_1 a0_2 a0_3 a0_4 a0_5 a0_6 a0_7 a0_8 a0_9 a0_10 a0_11 a0_12 l0_13).bind fun t105 => (oculuslaw22_NodeParts.l0 kj1 t105 (t105.length : Int) 0 a0_0 a0_1 a0_2 a0_3 a0_4 a0_5 a0_6 a0_7 a0_8 a0_9 a0_10 a0_11 a0_12 l0_13)) = some r := by rw [if_neg (show ¬ (false = true) by decide)] at H; exact H
    clear H; have H := H1; clear H1; replace H := Option.bind_eq_some_iff.mp H; obtain ⟨t105, A160, H⟩ := H
    replace H : (oculuslaw22_NodeParts.l0 kj1 t105 (t105.length : Int) 0 a0_0 a0_1 a0_2 a0_3 a0_4 a0_5 a0_6 a0_7 a0_8 a0_9 a0_10 a0_11 a0_12 l0_13) = some r := H
    have A16 := Aside0.mk A160; clear A160
    have H' := Aside0.mk H
    clear H
    have hcz17_0 : wc.cell? ⟨gb101, 0, none⟩ = some (.int .i64 a0_0) := bc_ BK101 0 rfl
    have hcz17_1 : wc.cell? ⟨gb101, 1, none⟩ = some (.int .i64 a0_1) := bc_ BK101 1 rfl
    have hcz17_2 : wc.cell? ⟨gb101, 2, none⟩ = some (.int .i64 a0_2) := bc_ BK101 2 rfl
    have hcz17_3 : wc.cell? ⟨gb101, 3, none⟩ = some (.int .i64 a0_3) := bc_ BK101 3 rfl
    have hcz17_4 : wc.cell? ⟨gb101, 4, none⟩ = some (.string a0_4) := bc_ BK101 4 rfl
    have hcz17_5 : wc.cell? ⟨gb101, 5, none⟩ = some (.int .i64 a0_5) := bc_ BK101 5 rfl
    have hcz17_6 : wc.cell? ⟨gb101, 6, none⟩ = some (.int .i64 a0_6) := bc_ BK101 6 rfl
    have hcz17_7 : wc.cell? ⟨gb101, 7, none⟩ = some (.bool a0_7) := bc_ BK101 7 rfl
    have hcz17_8 : wc.cell? ⟨gb101, 8, none⟩ = some (.bool a0_8) := bc_ BK101 8 rfl
    have hcz17_9 : wc.cell? ⟨gb101, 9, none⟩ = some (.int .i64 a0_9) := bc_ BK101 9 rfl
    have hcz17_10 : wc.cell? ⟨gb101, 10, none⟩ = some (.int .i64 a0_10) := bc_ BK101 10 rfl
    have hcz17_11 : wc.cell? ⟨gb101, 11, none⟩ = some (.bool a0_11) := bc_ BK101 11 rfl
    have hcz17_12 : wc.cell? ⟨gb101, 12, none⟩ = some (.bool a0_12) := bc_ BK101 12 rfl
    have hcz17_13 : wc.cell? ⟨gb101, 13, none⟩ = some (.slice A0_13 l0_13.length c0_13) := bc_ BK101 13 rfl
    have hfz17_0 := blk_frozen BK101.out 0; have hfz17_1 := blk_frozen BK101.out 1; have hfz17_2 := blk_frozen BK101.out 2; have hfz17_3 := blk_frozen BK101.out 3; have hfz17_4 := blk_frozen BK101.out 4; have hfz17_5 := blk_frozen BK101.out 5; have hfz17_6 := blk_frozen BK101.out 6; have hfz17_7 := blk_frozen BK101.out 7; have hfz17_8 := blk_frozen BK101.out 8; have hfz17_9 := blk_frozen BK101.out 9; have hfz17_10 := blk_frozen BK101.out 10; have hfz17_11 := blk_frozen BK101.out 11; have hfz17_12 := blk_frozen BK101.out 12; have hfz17_13 := blk_frozen BK101.out 13
    go_wp2_with (first | ((with_reducible refine gate_callee (f:=8) rfl ?_); refine gL_ (some 15) rfl rfl Tryd.func8 rfl #[.agg #[.int .i64 a0_0, .int .i64 a0_1, .int .i64 a0_2, .int .i64 a0_3, .string a0_4, .int .i64 a0_5, .int .i64 a0_6, .bool a0_7, .bool a0_8, .int .i64 a0_9, .int .i64 a0_10, .bool a0_11, .bool a0_12, .slice A0_13 l0_13.length c0_13]] rfl ?_; (with_reducible refine (node_List.calls kj1 a0_0 a0_1 a0_2 a0_3 a0_4 a0_5 a0_6 a0_7 a0_8 a0_9 a0_10 a0_11 a0_12 (fun k_ => k_ < w.heap.size) _ _ l0_13 t105 _ ?side1 A16.out).mono ?_); (case side1 => exact Kd.V_mk HC0_13.out (Kd.F_below (Kd.C_F k28_heap HR0_13.out) (pbx HB))); rintro e w18 ⟨v106, rfl, ho0, hb⟩; refine ⟨_, rfl, ?_⟩; have HO107 := Aside0.mk (Kd.N_lower (Kd.N_mono (ok' := fun k_ => k_ ≠ gb101) ho0 (fun k_ hk_ => Or.elim hk_ (fun hs_ => fun e_ => Nat.not_le.2 hs_ (by rw [e_]; exact GW101.out)) (fun hn_ => (Kd.freshB (pkx BK101) k_ hn_)))) (below_size (pbx HB))); replace BK101 := bb_ BK101 hb; replace HB := bs_ HB hb; (try clear hb); (try clear hb2); (try clear hk); (try clear hi); (try clear ho0); obtain ⟨Ao19, co19, eo19⟩ := Kd.N_slice HO107.out; subst eo19))
    go_loopg [17] kj1 (fun kq v17 w' => ∃ (x17_2 : Int), v17 = .int .i64 x17_2 ∧ Aside0 (oculuslaw22_NodeParts.l0 kq t105 (t105.length : Int) x17_2 a0_0 a0_1 a0_2 a0_3 a0_4 a0_5 a0_6 a0_7 a0_8 a0_9 a0_10 a0_11 a0_12 l0_13 = some r) ∧ Aside0 (kq ≤ kj1) ∧ Aside0 (Kd.N k28 28 w' w.heap.size (fun k_ => k_ ≠ gb101) (.slice Ao19 t105.length co19) t105) ∧ Aside0 (w'.heap[gb101]? = some (.cells #[.int .i64 a0_0, .int .i64 a0_1, .int .i64 a0_2, .int .i64 a0_3, .string a0_4, .int .i64 a0_5, .int .i64 a0_6, .bool a0_7, .bool a0_8, .int .i64 a0_9, .int .i64 a0_10, .bool a0_11, .bool a0_12, (.slice A0_13 l0_13.length c0_13)] 28 (0, 0))) ∧ Aside0 (Below w.heap.size w w'))
    case atStart => exact ⟨(0), (by first | rfl | (simp; done) | (simp [*]; done)), H', ⟨Nat.le_refl _⟩, ⟨by (with_reducible repeat (first | apply Kd.N_alloc | apply Kd.N_drewN | apply Kd.N_drew)); exact HO107.out⟩, ⟨pkx BK101⟩, ⟨pbx HB⟩⟩
    case round =>
     clear H'; (try clear c1); (try clear p2); (try clear c4); (try clear c5); (try clear c6); (try clear c7); (try clear c8); (try clear c13); (try clear hcz11_0); (try clear hcz11_1); (try clear hcz11_10); (try clear hcz11_11); (try clear hcz11_12); (try clear hcz11_13); (try clear hcz11_2); (try clear hcz11_3); (try clear hcz11_4); (try clear hcz11_5); (try clear hcz11_6); (try clear hcz11_7); (try clear hcz11_8); (try clear hcz11_9); (try clear hcz17_0); (try clear hcz17_1); (try clear hcz17_10); (try clear hcz17_11); (try clear hcz17_12); (try clear hcz17_13); (try clear hcz17_2); (try clear hcz17_3); (try clear hcz17_4); (try clear hcz17_5); (try clear hcz17_6); (try clear hcz17_7); (try clear hcz17_8); (try clear hcz17_9); (try clear hcz7_0); (try clear hcz7_1); (try clear hcz7_10); (try clear hcz7_11); (try clear hcz7_12); (try clear hcz7_13); (try clear hcz7_2); (try clear hcz7_3); (try clear hcz7_4); (try clear hcz7_5); (try clear hcz7_6); (try clear hcz7_7); (try clear hcz7_8); (try clear hcz7_9); (try clear hcz9_0); (try clear hcz9_1); (try clear hcz9_10); (try clear hcz9_11); (try clear hcz9_12); (try clear hcz9_13); (try clear hcz9_2); (try clear hcz9_3); (try clear hcz9_4); (try clear hcz9_5); (try clear hcz9_6); (try clear hcz9_7); (try clear hcz9_8); (try clear hcz9_9); (try clear hfz11_0); (try clear hfz11_1); (try clear hfz11_10); (try clear hfz11_11); (try clear hfz11_12); (try clear hfz11_13); (try clear hfz11_2); (try clear hfz11_3); (try clear hfz11_4); (try clear hfz11_5); (try clear hfz11_6); (try clear hfz11_7); (try clear hfz11_8); (try clear hfz11_9); (try clear hfz17_0); (try clear hfz17_1); (try clear hfz17_10); (try clear hfz17_11); (try clear hfz17_12); (try clear hfz17_13); (try clear hfz17_2); (try clear hfz17_3); (try clear hfz17_4); (try clear hfz17_5)
     (try clear hfz17_6); (try clear hfz17_7); (try clear hfz17_8); (try clear hfz17_9); (try clear hfz7_0); (try clear hfz7_1); (try clear hfz7_10); (try clear hfz7_11); (try clear hfz7_12); (try clear hfz7_13); (try clear hfz7_2); (try clear hfz7_3); (try clear hfz7_4); (try clear hfz7_5); (try clear hfz7_6); (try clear hfz7_7); (try clear hfz7_8); (try clear hfz7_9); (try clear hfz9_0); (try clear hfz9_1); (try clear hfz9_10); (try clear hfz9_11); (try clear hfz9_12); (try clear hfz9_13); (try clear hfz9_2); (try clear hfz9_3); (try clear hfz9_4); (try clear hfz9_5); (try clear hfz9_6); (try clear hfz9_7); (try clear hfz9_8); (try clear hfz9_9); (try clear p2); obtain ⟨x17_2, rfl, HA, HK2, HO_15, BK101, HB⟩ := hrel
     cases gk with
     | zero => exact absurd HA.out (by simp [oculuslaw22_NodeParts.l0])
     | succ k2 =>
      have H := HA.out; clear HA
      simp only [oculuslaw22_NodeParts.l0] at H
      by_cases c20 : x17_2 < (t105.length : Int)
      ·rw [if_pos c20] at H; have c20b0 : decide (x17_2 < (t105.length : Int)) = true := decide_eq_true c20; clear c20
       by_cases c21 : 0 ≤ x17_2
       ·rw [if_pos c21] at H; have c21b0 : decide (0 ≤ x17_2) = true := decide_eq_true c21; clear c21
        by_cases c22 : x17_2 < (t105.length : Int)
        ·rw [if_pos c22] at H; have c22b0 : decide (x17_2 < (t105.length : Int)) = true := decide_eq_true c22; clear c22; replace H := Option.bind_eq_some_iff.mp H; obtain ⟨t111, A230, H⟩ := H
         replace H : (if t111 = true then ((node_Deep.f k2 ((rd_T28 t105 x17_2).f0) ((rd_T28 t105 x17_2).f1) ((rd_T28 t105 x17_2).f2.f0) ((rd_T28 t105 x17_2).f2.f1) ((rd_T28 t105 x17_2).f2.f2) ((rd_T28 t105 x17_2).f3.f0) ((rd_T28 t105 x17_2).f3.f1) ((rd_T28 t105 x17_2).f3.f2) ((rd_T28 t105 x17_2).f3.f3) ((rd_T28 t105 x17_2).f4.f0) ((rd_T28 t105 x17_2).f4.f1) ((rd_T28 t105 x17_2).f4.f2) ((rd_T28 t105 x17_2).f4.f3) ((rd_T28 t105 x17_2).f5)).bind fun t112 => ((node_Deep.f k2 a0_0 a0_1 a0_2 a0_3 a0_4 a0_5 a0_6 a0_7 a0_8 a0_9 a0_10 a0_11 a0_12 l0_13).bind fun t113 => (if t112 > t113 then (none) else (if x17_2 > 0 then ((node_Deep.f k2 ((rd_T28 t105 x17_2).f0) ((rd_T28 t105 x17_2).f1) ((rd_T28 t105 x17_2).f2.f0) ((rd_T28 t105 x17_2).f2.f1) ((rd_T28 t105 x17_2).f2.f2) ((rd_T28 t105 x17_2).f3.f0) ((rd_T28 t105 x17_2).f3.f1) ((rd_T28 t105 x17_2).f3.f2) ((rd_T28 t105 x17_2).f3.f3) ((rd_T28 t105 x17_2).f4.f0) ((rd_T28 t105 x17_2).f4.f1) ((rd_T28 t105 x17_2).f4.f2) ((rd_T28 t105 x17_2).f4.f3) ((rd_T28 t105 x17_2).f5)).bind fun t114 => ((node_Deep.f k2 a0_0 a0_1 a0_2 a0_3 a0_4 a0_5 a0_6 a0_7 a0_8 a0_9 a0_10 a0_11 a0_12 l0_13).bind fun t115 => (if t114 = t115 then (none) else (oculuslaw22_NodeParts.l0 k2 t105 (t105.length : Int) (wrap64 (x17_2 + 1)) a0_0 a0_1 a0_2 a0_3 a0_4 a0_5 a0_6 a0_7 a0_8 a0_9 a0_10 a0_11 a0_12 l0_13)))) else (oculuslaw22_NodeParts.l0 k2 t105 (t105.length : Int) (wrap64 (x17_2 + 1)) a0_0 a0_1 a0_2 a0_3 a0_4 a0_5 a0_6 a0_7 a0_8 a0_9 a0_10 a0_11 a0_12 l0_13))))) else (none)) = some r := H
         have A23 := Aside0.mk A230; clear A230
         by_cases c24 : t111 = true
         ·subst c24
          have H1 : ((node_Deep.f k2 ((rd_T28 t105 x17_2).f0) ((rd_T28 t105 x17_2).f1) ((rd_T28 t105 x17_2).f2.f0) ((rd_T28 t105 x17_2).f2.f1) ((rd_T28 t105 x17_2).f2.f2) ((rd_T28 t105 x17_2).f3.f0) ((rd_T28 t105 x17_2).f3.f1) ((rd_T28 t105 x17_2).f3.f2) ((rd_T28 t105 x17_2).f3.f3) ((rd_T28 t105 x17_2).f4.f0) ((rd_T28 t105 x17_2).f4.f1) ((rd_T28 t105 x17_2).f4.f2) ((rd_T28 t105 x17_2).f4.f3) ((rd_T28 t105 x17_2).f5)).bind fun t112 => ((node_Deep.f k2 a0_0 a0_1 a0_2 a0_3 a0_4 a0_5 a0_6 a0_7 a0_8 a0_9 a0_10 a0_11 a0_12 l0_13).bind fun t113 => (if t112 > t113 then (none) else (if x17_2 > 0 then ((node_Deep.f k2 ((rd_T28 t105 x17_2).f0) ((rd_T28 t105 x17_2).f1) ((rd_T28 t105 x17_2).f2.f0) ((rd_T28 t105 x17_2).f2.f1) ((rd_T28 t105 x17_2).f2.f2) ((rd_T28 t105 x17_2).f3.f0) ((rd_T28 t105 x17_2).f3.f1) ((rd_T28 t105 x17_2).f3.f2) ((rd_T28 t105 x17_2).f3.f3) ((rd_T28 t105 x17_2).f4.f0) ((rd_T28 t105 x17_2).f4.f1) ((rd_T28 t105 x17_2).f4.f2) ((rd_T28 t105 x17_2).f4.f3) ((rd_T28 t105 x17_2).f5)).bind fun t114 => ((node_Deep.f k2 a0_0 a0_1 a0_2 a0_3 a0_4 a0_5 a0_6 a0_7 a0_8 a0_9 a0_10 a0_11 a0_12 l0_13).bind fun t115 => (if t114 = t115 then (none) else (oculuslaw22_NodeParts.l0 k2 t105 (t105.length : Int) (wrap64 (x17_2 + 1)) a0_0 a0_1 a0_2 a0_3 a0_4 a0_5 a0_6 a0_7 a0_8 a0_9 a0_10 a0_11 a0_12 l0_13)))) else (oculuslaw22_NodeParts.l0 k2 t105 (t105.length : Int) (wrap64 (x17_2 + 1)) a0_0 a0_1 a0_2 a0_3 a0_4 a0_5 a0_6 a0_7 a0_8 a0_9 a0_10 a0_11 a0_12 l0_13))))) = some r := by rw [if_pos rfl] at H; exact H
          clear H; have H := H1; clear H1; replace H := Option.bind_eq_some_iff.mp H; obtain ⟨t112, A250, H⟩ := H
          replace H : ((node_Deep.f k2 a0_0 a0_1 a0_2 a0_3 a0_4 a0_5 a0_6 a0_7 a0_8 a0_9 a0_10 a0_11 a0_12 l0_13).bind fun t113 => (if t112 > t113 then (none) else (if x17_2 > 0 then ((node_Deep.f k2 ((rd_T28 t105 x17_2).f0) ((rd_T28 t105 x17_2).f1) ((rd_T28 t105 x17_2).f2.f0) ((rd_T28 t105 x17_2).f2.f1) ((rd_T28 t105 x17_2).f2.f2) ((rd_T28 t105 x17_2).f3.f0) ((rd_T28 t105 x17_2).f3.f1) ((rd_T28 t105 x17_2).f3.f2) ((rd_T28 t105 x17_2).f3.f3) ((rd_T28 t105 x17_2).f4.f0) ((rd_T28 t105 x17_2).f4.f1) ((rd_T28 t105 x17_2).f4.f2) ((rd_T28 t105 x17_2).f4.f3) ((rd_T28 t105 x17_2).f5)).bind fun t114 => ((node_Deep.f k2 a0_0 a0_1 a0_2 a0_3 a0_4 a0_5 a0_6 a0_7 a0_8 a0_9 a0_10 a0_11 a0_12 l0_13).bind fun t115 => (if t114 = t115 then (none) else (oculuslaw22_NodeParts.l0 k2 t105 (t105.length : Int) (wrap64 (x17_2 + 1)) a0_0 a0_1 a0_2 a0_3 a0_4 a0_5 a0_6 a0_7 a0_8 a0_9 a0_10 a0_11 a0_12 l0_13)))) else (oculuslaw22_NodeParts.l0 k2 t105 (t105.length : Int) (wrap64 (x17_2 + 1)) a0_0 a0_1 a0_2 a0_3 a0_4 a0_5 a0_6 a0_7 a0_8 a0_9 a0_10 a0_11 a0_12 l0_13)))) = some r := H
          have A25 := Aside0.mk A250; clear A250; replace H := Option.bind_eq_some_iff.mp H; obtain ⟨t113, A260, H⟩ := H
          replace H : (if t112 > t113 then (none) else (if x17_2 > 0 then ((node_Deep.f k2 ((rd_T28 t105 x17_2).f0) ((rd_T28 t105 x17_2).f1) ((rd_T28 t105 x17_2).f2.f0) ((rd_T28 t105 x17_2).f2.f1) ((rd_T28 t105 x17_2).f2.f2) ((rd_T28 t105 x17_2).f3.f0) ((rd_T28 t105 x17_2).f3.f1) ((rd_T28 t105 x17_2).f3.f2) ((rd_T28 t105 x17_2).f3.f3) ((rd_T28 t105 x17_2).f4.f0) ((rd_T28 t105 x17_2).f4.f1) ((rd_T28 t105 x17_2).f4.f2) ((rd_T28 t105 x17_2).f4.f3) ((rd_T28 t105 x17_2).f5)).bind fun t114 => ((node_Deep.f k2 a0_0 a0_1 a0_2 a0_3 a0_4 a0_5 a0_6 a0_7 a0_8 a0_9 a0_10 a0_11 a0_12 l0_13).bind fun t115 => (if t114 = t115 then (none) else (oculuslaw22_NodeParts.l0 k2 t105 (t105.length : Int) (wrap64 (x17_2 + 1)) a0_0 a0_1 a0_2 a0_3 a0_4 a0_5 a0_6 a0_7 a0_8 a0_9 a0_10 a0_11 a0_12 l0_13)))) else (oculuslaw22_NodeParts.l0 k2 t105 (t105.length : Int) (wrap64 (x17_2 + 1)) a0_0 a0_1 a0_2 a0_3 a0_4 a0_5 a0_6 a0_7 a0_8 a0_9 a0_10 a0_11 a0_12 l0_13))) = some r := H
          have A26 := Aside0.mk A260; clear A260
          by_cases c27 : t112 > t113
          ·rw [if_pos c27] at H; have c27b0 : decide (t113 < t112) = true := decide_eq_true c27; clear c27
           exact absurd H (by simp)
          ·rw [if_neg c27] at H; have c27b0 : decide (t113 < t112) = false := decide_eq_false c27; clear c27
           by_cases c28 : x17_2 > 0
           ·rw [if_pos c28] at H; have c28b0 : decide (0 < x17_2) = true := decide_eq_true c28; clear c28; replace H := Option.bind_eq_some_iff.mp H; obtain ⟨t114, A290, H⟩ := H
            replace H : ((node_Deep.f k2 a0_0 a0_1 a0_2 a0_3 a0_4 a0_5 a0_6 a0_7 a0_8 a0_9 a0_10 a0_11 a0_12 l0_13).bind fun t115 => (if t114 = t115 then (none) else (oculuslaw22_NodeParts.l0 k2 t105 (t105.length : Int) (wrap64 (x17_2 + 1)) a0_0 a0_1 a0_2 a0_3 a0_4 a0_5 a0_6 a0_7 a0_8 a0_9 a0_10 a0_11 a0_12 l0_13))) = some r := H
            have A29 := Aside0.mk A290; clear A290; replace H := Option.bind_eq_some_iff.mp H; obtain ⟨t115, A300, H⟩ := H
            replace H : (if t114 = t115 then (none) else (oculuslaw22_NodeParts.l0 k2 t105 (t105.length : Int) (wrap64 (x17_2 + 1)) a0_0 a0_1 a0_2 a0_3 a0_4 a0_5 a0_6 a0_7 a0_8 a0_9 a0_10 a0_11 a0_12 l0_13)) = some r := H
            have A30 := Aside0.mk A300; clear A300
            by_cases c31 : t114 = t115
            ·rw [if_pos c31] at H
             exact absurd H (by simp)
            ·rw [if_neg c31] at H; have c31b0 : (t114 == t115) = false := beq_eq_false_iff_ne.mpr c31; have c31b1 : (t114 != t115) = true := bne_iff_ne.mpr c31
             have H' := Aside0.mk H
             clear H
             have p109 : 0 ≤ (x17_2 : Int) := of_decide_eq_true (by first | (with_reducible assumption) | assumption)
             have q109 : x17_2 < (t105.length : Int) := of_decide_eq_true (by first | (with_reducible assumption) | assumption)
             obtain ⟨ad109, A109_13, c109_13, e109, hx109_0, hx109_1, hx109_2, hx109_3, hx109_4, hx109_5, hx109_6, hx109_7, hx109_8, hx109_9, hx109_10, hx109_11, hx109_12, hx109_13, hl109_13, hi109_13⟩ := at_T28 (Kd.N_reads' HO_15.out).2.2 x17_2 p109 q109
             cases e109
             obtain ⟨ce109, hce109, hMe109, hcc109⟩ := Kd.N_get HO_15.out z28 x17_2 p109 (by first | exact q109 | exact of_decide_eq_true (by first | (with_reducible assumption) | assumption) | (have e_ := (Kd.N_reads' HO_15.out).1; omega)); obtain ⟨ua109_13, uc109_13, rfl, ul109_13, ge109_13⟩ := k28_openF hMe109; have hv109_13 := hcc109 13 _ rfl; rw [add_field _ _ 13 (by omega)] at hv109_13; replace hv109_13 := Option.some.inj (hv109_13.symm.trans hx109_13)
             injection hv109_13 with hva_ hvn_ hvc_
             rw [hva_] at ge109_13; rw [hvc_] at ul109_13; have HL109_13 := Aside0.mk (show Kd.V k28 28 _ w.heap.size _ _ ((rd_T28 t105 x17_2).f5) from Kd.V_mk ul109_13 ge109_13); clear hva_ hvn_ hvc_ ge109_13 ul109_13; clear hcc109 hce109; have HR109_13 := Aside0.mk hi109_13; have HC109_13 := Aside0.mk hl109_13; clear hi109_13 hl109_13; replace p109 := eq_true p109; replace q109 := eq_true q109
             try go_wp2_with (first | ((with_reducible refine gate_dst (N:=4) rfl ?_); refine be_ (N:=4) (cs := #[.int .i64 0, .int .i64 0, .int .i64 0, .int .i64 0, .string (⟨#[]⟩ : ByteArray), .int .i64 0, .int .i64 0, .bool false, .bool false, .int .i64 0, .int .i64 0, .bool false, .bool false, .slice none 0 0]) (t:=28) ?_; intro gb110 hg w32 hbox hb; have BK110 := Aside0.mk (hbox); have GW110 := hs_ HB hg; have GE110 := hs_ HB hg; have NB101_110 := hl_ BK101 hg; have NB110_101 := hr_ BK101 hg; replace HO_15 := Aside0.mk (Kd.N_below (Kd.N_elderB (by (with_reducible repeat (first | apply Kd.N_alloc | apply Kd.N_drewN | apply Kd.N_drew)); exact HO_15.out) gb110 (Nat.le_of_eq hg.symm)) hb); replace HL109_13 := Aside0.mk (Kd.V_below (Kd.V_elderB (by (with_reducible repeat (first | apply Kd.V_alloc | apply Kd.V_drewN | apply Kd.V_drew)); exact HL109_13.out) gb110 (Nat.le_of_eq hg.symm)) hb); replace BK101 := bb_ BK101 hb; replace HR109_13 := Aside0.mk (Kd.C_below (by repeat (first | (with_reducible exact HR109_13.out) | (with_reducible refine Kd.C_alloc ?_ _) | (with_reducible refine Kd.C_drewN ?_ _) | (with_reducible refine Kd.C_drew ?_) | exact HR109_13.out)) hb); replace HB := bs_ HB hb; clear hb hbox hg; have hnb33 := NB110_101.out; have hnc33 := NB101_110.out; have hcz34_0 : w32.cell? ⟨gb110, 0, none⟩ = some (.int .i64 0) := bc_ BK110 0 rfl; have hcz34_1 : w32.cell? ⟨gb110, 1, none⟩ = some (.int .i64 0) := bc_ BK110 1 rfl; have hcz34_2 : w32.cell? ⟨gb110, 2, none⟩ = some (.int .i64 0) := bc_ BK110 2 rfl; have hcz34_3 : w32.cell? ⟨gb110, 3, none⟩ = some (.int .i64 0) := bc_ BK110 3 rfl; have hcz34_4 : w32.cell? ⟨gb110, 4, none⟩ = some (.string (⟨#[]⟩ : ByteArray)) := bc_ BK110 4 rfl; have hcz34_5 : w32.cell? ⟨gb110, 5, none⟩ = some (.int .i64 0) := bc_ BK110 5 rfl; have hcz34_6 : w32.cell? ⟨gb110, 6, none⟩ = some (.int .i64 0) := bc_ BK110 6 rfl; have hcz34_7 : w32.cell? ⟨gb110, 7, none⟩ = some (.bool false) := bc_ BK110 7 rfl; have hcz34_8 : w32.cell? ⟨gb110, 8, none⟩ = some (.bool false) := bc_ BK110 8 rfl; have hcz34_9 : w32.cell? ⟨gb110, 9, none⟩ = some (.int .i64 0) := bc_ BK110 9 rfl; have hcz34_10 : w32.cell? ⟨gb110, 10, none⟩ = some (.int .i64 0) := bc_ BK110 10 rfl; have hcz34_11 : w32.cell? ⟨gb110, 11, none⟩ = some (.bool false) := bc_ BK110 11 rfl; have hcz34_12 : w32.cell? ⟨gb110, 12, none⟩ = some (.bool false) := bc_ BK110 12 rfl; have hcz34_13 : w32.cell? ⟨gb110, 13, none⟩ = some (.slice none 0 0) := bc_ BK110 13 rfl; have hfz34_0 := blk_frozen BK110.out 0; have hfz34_1 := blk_frozen BK110.out 1; have hfz34_2 := blk_frozen BK110.out 2; have hfz34_3 := blk_frozen BK110.out 3; have hfz34_4 := blk_frozen BK110.out 4; have hfz34_5 := blk_frozen BK110.out 5; have hfz34_6 := blk_frozen BK110.out 6; have hfz34_7 := blk_frozen BK110.out 7; have hfz34_8 := blk_frozen BK110.out 8; have hfz34_9 := blk_frozen BK110.out 9; have hfz34_10 := blk_frozen BK110.out 10; have hfz34_11 := blk_frozen BK110.out 11; have hfz34_12 := blk_frozen BK110.out 12; have hfz34_13 := blk_frozen BK110.out 13))
             have n0_ : Aside0 (Kd.N k28 28 ((((((((((((((w32.setCell ⟨gb110, 0, none⟩ (.int .i64 ((rd_T28 t105 x17_2).f0))).setCell ⟨gb110, 1, none⟩ (.int .i64 ((rd_T28 t105 x17_2).f1))).setCell ⟨gb110, 2, none⟩ (.int .i64 ((rd_T28 t105 x17_2).f2.f0))).setCell ⟨gb110, 3, none⟩ (.int .i64 ((rd_T28 t105 x17_2).f2.f1))).setCell ⟨gb110, 4, none⟩ (.string ((rd_T28 t105 x17_2).f2.f2))).setCell ⟨gb110, 5, none⟩ (.int .i64 ((rd_T28 t105 x17_2).f3.f0))).setCell ⟨gb110, 6, none⟩ (.int .i64 ((rd_T28 t105 x17_2).f3.f1))).setCell ⟨gb110, 7, none⟩ (.bool ((rd_T28 t105 x17_2).f3.f2))).setCell ⟨gb110, 8, none⟩ (.bool ((rd_T28 t105 x17_2).f3.f3))).setCell ⟨gb110, 9, none⟩ (.int .i64 ((rd_T28 t105 x17_2).f4.f0))).setCell ⟨gb110, 10, none⟩ (.int .i64 ((rd_T28 t105 x17_2).f4.f1))).setCell ⟨gb110, 11, none⟩ (.bool ((rd_T28 t105 x17_2).f4.f2))).setCell ⟨gb110, 12, none⟩ (.bool ((rd_T28 t105 x17_2).f4.f3))).setCell ⟨gb110, 13, none⟩ (.slice A109_13 ((rd_T28 t105 x17_2).f5).length c109_13)) w.heap.size (fun k_ => k_ ≠ gb101 ∧ k_ ≠ gb110) (.slice (some ad109) t105.length co19) t105) := ⟨by (with_reducible repeat (first | apply Kd.N_alloc | apply Kd.N_drewN | apply Kd.N_drew)); exact Kd.N_mono (Kd.N_far (p := ⟨gb110, 13, none⟩) (Kd.N_far (p := ⟨gb110, 12, none⟩) (Kd.N_far (p := ⟨gb110, 11, none⟩) (Kd.N_far (p := ⟨gb110, 10, none⟩) (Kd.N_far (p := ⟨gb110, 9, none⟩) (Kd.N_far (p := ⟨gb110, 8, none⟩) (Kd.N_far (p := ⟨gb110, 7, none⟩) (Kd.N_far (p := ⟨gb110, 6, none⟩) (Kd.N_far (p := ⟨gb110, 5, none⟩) (Kd.N_far (p := ⟨gb110, 4, none⟩) (Kd.N_far (p := ⟨gb110, 3, none⟩) (Kd.N_far (p := ⟨gb110, 2, none⟩) (Kd.N_far (p := ⟨gb110, 1, none⟩) (Kd.N_far (p := ⟨gb110, 0, none⟩) (Kd.N_mono HO_15.out (fun k_ hk => (⟨hk, hk.2⟩ : _ ∧ k_ ≠ gb110))) (fun _ hk => hk.2) (.int .i64 ((rd_T28 t105 x17_2).f0))) (fun _ hk => hk.2) (.int .i64 ((rd_T28 t105 x17_2).f1))) (fun _ hk => hk.2) (.int .i64 ((rd_T28 t105 x17_2).f2.f0))) (fun _ hk => hk.2) (.int .i64 ((rd_T28 t105 x17_2).f2.f1))) (fun _ hk => hk.2) (.string ((rd_T28 t105 x17_2).f2.f2))) (fun _ hk => hk.2) (.int .i64 ((rd_T28 t105 x17_2).f3.f0))) (fun _ hk => hk.2) (.int .i64 ((rd_T28 t105 x17_2).f3.f1))) (fun _ hk => hk.2) (.bool ((rd_T28 t105 x17_2).f3.f2))) (fun _ hk => hk.2) (.bool ((rd_T28 t105 x17_2).f3.f3))) (fun _ hk => hk.2) (.int .i64 ((rd_T28 t105 x17_2).f4.f0))) (fun _ hk => hk.2) (.int .i64 ((rd_T28 t105 x17_2).f4.f1))) (fun _ hk => hk.2) (.bool ((rd_T28 t105 x17_2).f4.f2))) (fun _ hk => hk.2) (.bool ((rd_T28 t105 x17_2).f4.f3))) (fun _ hk => hk.2) (.slice A109_13 ((rd_T28 t105 x17_2).f5).length c109_13)) (fun _ hk => ⟨hk.1.1, hk.1.2⟩)⟩
             have n1_ : Aside0 (Kd.V k28 28 ((((((((((((((w32.setCell ⟨gb110, 0, none⟩ (.int .i64 ((rd_T28 t105 x17_2).f0))).setCell ⟨gb110, 1, none⟩ (.int .i64 ((rd_T28 t105 x17_2).f1))).setCell ⟨gb110, 2, none⟩ (.int .i64 ((rd_T28 t105 x17_2).f2.f0))).setCell ⟨gb110, 3, none⟩ (.int .i64 ((rd_T28 t105 x17_2).f2.f1))).setCell ⟨gb110, 4, none⟩ (.string ((rd_T28 t105 x17_2).f2.f2))).setCell ⟨gb110, 5, none⟩ (.int .i64 ((rd_T28 t105 x17_2).f3.f0))).setCell ⟨gb110, 6, none⟩ (.int .i64 ((rd_T28 t105 x17_2).f3.f1))).setCell ⟨gb110, 7, none⟩ (.bool ((rd_T28 t105 x17_2).f3.f2))).setCell ⟨gb110, 8, none⟩ (.bool ((rd_T28 t105 x17_2).f3.f3))).setCell ⟨gb110, 9, none⟩ (.int .i64 ((rd_T28 t105 x17_2).f4.f0))).setCell ⟨gb110, 10, none⟩ (.int .i64 ((rd_T28 t105 x17_2).f4.f1))).setCell ⟨gb110, 11, none⟩ (.bool ((rd_T28 t105 x17_2).f4.f2))).setCell ⟨gb110, 12, none⟩ (.bool ((rd_T28 t105 x17_2).f4.f3))).setCell ⟨gb110, 13, none⟩ (.slice A109_13 ((rd_T28 t105 x17_2).f5).length c109_13)) w.heap.size (fun k_ => some k_ ≠ (.slice (some ad109) t105.length co19 : Value).ownBlock ∧ k_ ≠ gb101 ∧ k_ ≠ gb110) (.slice A109_13 ((rd_T28 t105 x17_2).f5).length c109_13) ((rd_T28 t105 x17_2).f5)) := ⟨by (with_reducible repeat (first | apply Kd.V_alloc | apply Kd.V_drewN | apply Kd.V_drew)); exact Kd.V_mono (Kd.V_far (p := ⟨gb110, 13, none⟩) (Kd.V_far (p := ⟨gb110, 12, none⟩) (Kd.V_far (p := ⟨gb110, 11, none⟩) (Kd.V_far (p := ⟨gb110, 10, none⟩) (Kd.V_far (p := ⟨gb110, 9, none⟩) (Kd.V_far (p := ⟨gb110, 8, none⟩) (Kd.V_far (p := ⟨gb110, 7, none⟩) (Kd.V_far (p := ⟨gb110, 6, none⟩) (Kd.V_far (p := ⟨gb110, 5, none⟩) (Kd.V_far (p := ⟨gb110, 4, none⟩) (Kd.V_far (p := ⟨gb110, 3, none⟩) (Kd.V_far (p := ⟨gb110, 2, none⟩) (Kd.V_far (p := ⟨gb110, 1, none⟩) (Kd.V_far (p := ⟨gb110, 0, none⟩) (Kd.V_mono HL109_13.out (fun k_ hk => (⟨hk, hk.2⟩ : _ ∧ k_ ≠ gb110))) (fun _ hk => hk.2) (.int .i64 ((rd_T28 t105 x17_2).f0))) (fun _ hk => hk.2) (.int .i64 ((rd_T28 t105 x17_2).f1))) (fun _ hk => hk.2) (.int .i64 ((rd_T28 t105 x17_2).f2.f0))) (fun _ hk => hk.2) (.int .i64 ((rd_T28 t105 x17_2).f2.f1))) (fun _ hk => hk.2) (.string ((rd_T28 t105 x17_2).f2.f2))) (fun _ hk => hk.2) (.int .i64 ((rd_T28 t105 x17_2).f3.f0))) (fun _ hk => hk.2) (.int .i64 ((rd_T28 t105 x17_2).f3.f1))) (fun _ hk => hk.2) (.bool ((rd_T28 t105 x17_2).f3.f2))) (fun _ hk => hk.2) (.bool ((rd_T28 t105 x17_2).f3.f3))) (fun _ hk => hk.2) (.int .i64 ((rd_T28 t105 x17_2).f4.f0))) (fun _ hk => hk.2) (.int .i64 ((rd_T28 t105 x17_2).f4.f1))) (fun _ hk => hk.2) (.bool ((rd_T28 t105 x17_2).f4.f2))) (fun _ hk => hk.2) (.bool ((rd_T28 t105 x17_2).f4.f3))) (fun _ hk => hk.2) (.slice A109_13 ((rd_T28 t105 x17_2).f5).length c109_13)) (fun _ hk => ⟨hk.1.1.2, ⟨hk.1.1.1, hk.1.2⟩⟩)⟩
             have n2_ : Aside0 (((((((((((((((w32.setCell ⟨gb110, 0, none⟩ (.int .i64 ((rd_T28 t105 x17_2).f0))).setCell ⟨gb110, 1, none⟩ (.int .i64 ((rd_T28 t105 x17_2).f1))).setCell ⟨gb110, 2, none⟩ (.int .i64 ((rd_T28 t105 x17_2).f2.f0))).setCell ⟨gb110, 3, none⟩ (.int .i64 ((rd_T28 t105 x17_2).f2.f1))).setCell ⟨gb110, 4, none⟩ (.string ((rd_T28 t105 x17_2).f2.f2))).setCell ⟨gb110, 5, none⟩ (.int .i64 ((rd_T28 t105 x17_2).f3.f0))).setCell ⟨gb110, 6, none⟩ (.int .i64 ((rd_T28 t105 x17_2).f3.f1))).setCell ⟨gb110, 7, none⟩ (.bool ((rd_T28 t105 x17_2).f3.f2))).setCell ⟨gb110, 8, none⟩ (.bool ((rd_T28 t105 x17_2).f3.f3))).setCell ⟨gb110, 9, none⟩ (.int .i64 ((rd_T28 t105 x17_2).f4.f0))).setCell ⟨gb110, 10, none⟩ (.int .i64 ((rd_T28 t105 x17_2).f4.f1))).setCell ⟨gb110, 11, none⟩ (.bool ((rd_T28 t105 x17_2).f4.f2))).setCell ⟨gb110, 12, none⟩ (.bool ((rd_T28 t105 x17_2).f4.f3))).setCell ⟨gb110, 13, none⟩ (.slice A109_13 ((rd_T28 t105 x17_2).f5).length c109_13)).heap[gb101]? = some (.cells #[.int .i64 a0_0, .int .i64 a0_1, .int .i64 a0_2, .int .i64 a0_3, .string a0_4, .int .i64 a0_5, .int .i64 a0_6, .bool a0_7, .bool a0_8, .int .i64 a0_9, .int .i64 a0_10, .bool a0_11, .bool a0_12, .slice A0_13 l0_13.length c0_13] 28 (0, 0))) := ⟨by refine pf_ ?_ NB101_110.out; refine blk_far ?_ NB101_110.out _; refine blk_far ?_ NB101_110.out _; refine blk_far ?_ NB101_110.out _; refine blk_far ?_ NB101_110.out _; refine blk_far ?_ NB101_110.out _; refine blk_far ?_ NB101_110.out _; refine blk_far ?_ NB101_110.out _; refine blk_far ?_ NB101_110.out _; refine blk_far ?_ NB101_110.out _; refine blk_far ?_ NB101_110.out _; refine blk_far ?_ NB101_110.out _; refine blk_far ?_ NB101_110.out _; refine blk_far ?_ NB101_110.out _; exact pkx BK101⟩
             have n3_ : Aside0 (((((((((((((((w32.setCell ⟨gb110, 0, none⟩ (.int .i64 ((rd_T28 t105 x17_2).f0))).setCell ⟨gb110, 1, none⟩ (.int .i64 ((rd_T28 t105 x17_2).f1))).setCell ⟨gb110, 2, none⟩ (.int .i64 ((rd_T28 t105 x17_2).f2.f0))).setCell ⟨gb110, 3, none⟩ (.int .i64 ((rd_T28 t105 x17_2).f2.f1))).setCell ⟨gb110, 4, none⟩ (.string ((rd_T28 t105 x17_2).f2.f2))).setCell ⟨gb110, 5, none⟩ (.int .i64 ((rd_T28 t105 x17_2).f3.f0))).setCell ⟨gb110, 6, none⟩ (.int .i64 ((rd_T28 t105 x17_2).f3.f1))).setCell ⟨gb110, 7, none⟩ (.bool ((rd_T28 t105 x17_2).f3.f2))).setCell ⟨gb110, 8, none⟩ (.bool ((rd_T28 t105 x17_2).f3.f3))).setCell ⟨gb110, 9, none⟩ (.int .i64 ((rd_T28 t105 x17_2).f4.f0))).setCell ⟨gb110, 10, none⟩ (.int .i64 ((rd_T28 t105 x17_2).f4.f1))).setCell ⟨gb110, 11, none⟩ (.bool ((rd_T28 t105 x17_2).f4.f2))).setCell ⟨gb110, 12, none⟩ (.bool ((rd_T28 t105 x17_2).f4.f3))).setCell ⟨gb110, 13, none⟩ (.slice A109_13 ((rd_T28 t105 x17_2).f5).length c109_13)).heap[gb110]? = some (.cells #[.int .i64 ((rd_T28 t105 x17_2).f0), .int .i64 ((rd_T28 t105 x17_2).f1), .int .i64 ((rd_T28 t105 x17_2).f2.f0), .int .i64 ((rd_T28 t105 x17_2).f2.f1), .string ((rd_T28 t105 x17_2).f2.f2), .int .i64 ((rd_T28 t105 x17_2).f3.f0), .int .i64 ((rd_T28 t105 x17_2).f3.f1), .bool ((rd_T28 t105 x17_2).f3.f2), .bool ((rd_T28 t105 x17_2).f3.f3), .int .i64 ((rd_T28 t105 x17_2).f4.f0), .int .i64 ((rd_T28 t105 x17_2).f4.f1), .bool ((rd_T28 t105 x17_2).f4.f2), .bool ((rd_T28 t105 x17_2).f4.f3), .slice A109_13 ((rd_T28 t105 x17_2).f5).length c109_13] 28 (0, 0))) := ⟨by refine pp_ (cs := #[.int .i64 ((rd_T28 t105 x17_2).f0), .int .i64 ((rd_T28 t105 x17_2).f1), .int .i64 ((rd_T28 t105 x17_2).f2.f0), .int .i64 ((rd_T28 t105 x17_2).f2.f1), .string ((rd_T28 t105 x17_2).f2.f2), .int .i64 ((rd_T28 t105 x17_2).f3.f0), .int .i64 ((rd_T28 t105 x17_2).f3.f1), .bool ((rd_T28 t105 x17_2).f3.f2), .bool ((rd_T28 t105 x17_2).f3.f3), .int .i64 ((rd_T28 t105 x17_2).f4.f0), .int .i64 ((rd_T28 t105 x17_2).f4.f1), .bool ((rd_T28 t105 x17_2).f4.f2), .bool ((rd_T28 t105 x17_2).f4.f3), .slice none 0 0]) 13 ?_ rfl; refine blk_put (cs := #[.int .i64 ((rd_T28 t105 x17_2).f0), .int .i64 ((rd_T28 t105 x17_2).f1), .int .i64 ((rd_T28 t105 x17_2).f2.f0), .int .i64 ((rd_T28 t105 x17_2).f2.f1), .string ((rd_T28 t105 x17_2).f2.f2), .int .i64 ((rd_T28 t105 x17_2).f3.f0), .int .i64 ((rd_T28 t105 x17_2).f3.f1), .bool ((rd_T28 t105 x17_2).f3.f2), .bool ((rd_T28 t105 x17_2).f3.f3), .int .i64 ((rd_T28 t105 x17_2).f4.f0), .int .i64 ((rd_T28 t105 x17_2).f4.f1), .bool ((rd_T28 t105 x17_2).f4.f2), .bool false, .slice none 0 0]) ?_ 12 _ rfl; refine blk_put (cs := #[.int .i64 ((rd_T28 t105 x17_2).f0), .int .i64 ((rd_T28 t105 x17_2).f1), .int .i64 ((rd_T28 t105 x17_2).f2.f0), .int .i64 ((rd_T28 t105 x17_2).f2.f1), .string ((rd_T28 t105 x17_2).f2.f2), .int .i64 ((rd_T28 t105 x17_2).f3.f0), .int .i64 ((rd_T28 t105 x17_2).f3.f1), .bool ((rd_T28 t105 x17_2).f3.f2), .bool ((rd_T28 t105 x17_2).f3.f3), .int .i64 ((rd_T28 t105 x17_2).f4.f0), .int .i64 ((rd_T28 t105 x17_2).f4.f1), .bool false, .bool false, .slice none 0 0]) ?_ 11 _ rfl; refine blk_put (cs := #[.int .i64 ((rd_T28 t105 x17_2).f0), .int .i64 ((rd_T28 t105 x17_2).f1), .int .i64 ((rd_T28 t105 x17_2).f2.f0), .int .i64 ((rd_T28 t105 x17_2).f2.f1), .string ((rd_T28 t105 x17_2).f2.f2), .int .i64 ((rd_T28 t105 x17_2).f3.f0), .int .i64 ((rd_T28 t105 x17_2).f3.f1), .bool ((rd_T28 t105 x17_2).f3.f2), .bool ((rd_T28 t105 x17_2).f3.f3), .int .i64 ((rd_T28 t105 x17_2).f4.f0), .int .i64 0, .bool false, .bool false, .slice none 0 0]) ?_ 10 _ rfl; refine blk_put (cs := #[.int .i64 ((rd_T28 t105 x17_2).f0), .int .i64 ((rd_T28 t105 x17_2).f1), .int .i64 ((rd_T28 t105 x17_2).f2.f0), .int .i64 ((rd_T28 t105 x17_2).f2.f1), .string ((rd_T28 t105 x17_2).f2.f2), .int .i64 ((rd_T28 t105 x17_2).f3.f0), .int .i64 ((rd_T28 t105 x17_2).f3.f1), .bool ((rd_T28 t105 x17_2).f3.f2), .bool ((rd_T28 t105 x17_2).f3.f3), .int .i64 0, .int .i64 0, .bool false, .bool false, .slice none 0 0]) ?_ 9 _ rfl; refine blk_put (cs := #[.int .i64 ((rd_T28 t105 x17_2).f0), .int .i64 ((rd_T28 t105 x17_2).f1), .int .i64 ((rd_T28 t105 x17_2).f2.f0), .int .i64 ((rd_T28 t105 x17_2).f2.f1), .string ((rd_T28 t105 x17_2).f2.f2), .int .i64 ((rd_T28 t105 x17_2).f3.f0), .int .i64 ((rd_T28 t105 x17_2).f3.f1), .bool ((rd_T28 t105 x17_2).f3.f2), .bool false, .int .i64 0, .int .i64 0, .bool false, .bool false, .slice none 0 0]) ?_ 8 _ rfl; refine blk_put (cs := #[.int .i64 ((rd_T28 t105 x17_2).f0), .int .i64 ((rd_T28 t105 x17_2).f1), .int .i64 ((rd_T28 t105 x17_2).f2.f0), .int .i64 ((rd_T28 t105 x17_2).f2.f1), .string ((rd_T28 t105 x17_2).f2.f2), .int .i64 ((rd_T28 t105 x17_2).f3.f0), .int .i64 ((rd_T28 t105 x17_2).f3.f1), .bool false, .bool false, .int .i64 0, .int .i64 0, .bool false, .bool false, .slice none 0 0]) ?_ 7 _ rfl; refine blk_put (cs := #[.int .i64 ((rd_T28 t105 x17_2).f0), .int .i64 ((rd_T28 t105 x17_2).f1), .int .i64 ((rd_T28 t105 x17_2).f2.f0), .int .i64 ((rd_T28 t105 x17_2).f2.f1), .string ((rd_T28 t105 x17_2).f2.f2), .int .i64 ((rd_T28 t105 x17_2).f3.f0), .int .i64 0, .bool false, .bool false, .int .i64 0, .int .i64 0, .bool false, .bool false, .slice none 0 0]) ?_ 6 _ rfl; refine blk_put (cs := #[.int .i64 ((rd_T28 t105 x17_2).f0), .int .i64 ((rd_T28 t105 x17_2).f1), .int .i64 ((rd_T28 t105 x17_2).f2.f0), .int .i64 ((rd_T28 t105 x17_2).f2.f1), .string ((rd_T28 t105 x17_2).f2.f2), .int .i64 0, .int .i64 0, .bool false, .bool false, .int .i64 0, .int .i64 0, .bool false, .bool false, .slice none 0 0]) ?_ 5 _ rfl; refine blk_put (cs := #[.int .i64 ((rd_T28 t105 x17_2).f0), .int .i64 ((rd_T28 t105 x17_2).f1), .int .i64 ((rd_T28 t105 x17_2).f2.f0), .int .i64 ((rd_T28 t105 x17_2).f2.f1), .string (⟨#[]⟩ : ByteArray), .int .i64 0, .int .i64 0, .bool false, .bool false, .int .i64 0, .int .i64 0, .bool false, .bool false, .slice none 0 0]) ?_ 4 _ rfl; refine pp_ (cs := #[.int .i64 ((rd_T28 t105 x17_2).f0), .int .i64 ((rd_T28 t105 x17_2).f1), .int .i64 ((rd_T28 t105 x17_2).f2.f0), .int .i64 0, .string (⟨#[]⟩ : ByteArray), .int .i64 0, .int .i64 0, .bool false, .bool false, .int .i64 0, .int .i64 0, .bool false, .bool false, .slice none 0 0]) 3 ?_ rfl; refine pp_ (cs := #[.int .i64 ((rd_T28 t105 x17_2).f0), .int .i64 ((rd_T28 t105 x17_2).f1), .int .i64 0, .int .i64 0, .string (⟨#[]⟩ : ByteArray), .int .i64 0, .int .i64 0, .bool false, .bool false, .int .i64 0, .int .i64 0, .bool false, .bool false, .slice none 0 0]) 2 ?_ rfl; refine pp_ (cs := #[.int .i64 ((rd_T28 t105 x17_2).f0), .int .i64 0, .int .i64 0, .int .i64 0, .string (⟨#[]⟩ : ByteArray), .int .i64 0, .int .i64 0, .bool false, .bool false, .int .i64 0, .int .i64 0, .bool false, .bool false, .slice none 0 0]) 1 ?_ rfl; refine pp_ (cs := #[.int .i64 0, .int .i64 0, .int .i64 0, .int .i64 0, .string (⟨#[]⟩ : ByteArray), .int .i64 0, .int .i64 0, .bool false, .bool false, .int .i64 0, .int .i64 0, .bool false, .bool false, .slice none 0 0]) 0 ?_ rfl; exact pkx BK110⟩
             have n4_ : Aside0 (Below w.heap.size w ((((((((((((((w32.setCell ⟨gb110, 0, none⟩ (.int .i64 ((rd_T28 t105 x17_2).f0))).setCell ⟨gb110, 1, none⟩ (.int .i64 ((rd_T28 t105 x17_2).f1))).setCell ⟨gb110, 2, none⟩ (.int .i64 ((rd_T28 t105 x17_2).f2.f0))).setCell ⟨gb110, 3, none⟩ (.int .i64 ((rd_T28 t105 x17_2).f2.f1))).setCell ⟨gb110, 4, none⟩ (.string ((rd_T28 t105 x17_2).f2.f2))).setCell ⟨gb110, 5, none⟩ (.int .i64 ((rd_T28 t105 x17_2).f3.f0))).setCell ⟨gb110, 6, none⟩ (.int .i64 ((rd_T28 t105 x17_2).f3.f1))).setCell ⟨gb110, 7, none⟩ (.bool ((rd_T28 t105 x17_2).f3.f2))).setCell ⟨gb110, 8, none⟩ (.bool ((rd_T28 t105 x17_2).f3.f3))).setCell ⟨gb110, 9, none⟩ (.int .i64 ((rd_T28 t105 x17_2).f4.f0))).setCell ⟨gb110, 10, none⟩ (.int .i64 ((rd_T28 t105 x17_2).f4.f1))).setCell ⟨gb110, 11, none⟩ (.bool ((rd_T28 t105 x17_2).f4.f2))).setCell ⟨gb110, 12, none⟩ (.bool ((rd_T28 t105 x17_2).f4.f3))).setCell ⟨gb110, 13, none⟩ (.slice A109_13 ((rd_T28 t105 x17_2).f5).length c109_13))) := ⟨by repeat (first | (with_reducible first | exact HB.out | apply below_alloc | apply pw_below_drewN | apply below_drew1 | refine below_set ?_ GE101.out | refine below_set ?_ GE110.out) | exact HB.out)⟩; (try clear HO_15); (try clear HL109_13); (try clear BK101); (try clear BK110); (try clear HB); generalize ((((((((((((((w32.setCell ⟨gb110, 0, none⟩ (.int .i64 ((rd_T28 t105 x17_2).f0))).setCell ⟨gb110, 1, none⟩ (.int .i64 ((rd_T28 t105 x17_2).f1))).setCell ⟨gb110, 2, none⟩ (.int .i64 ((rd_T28 t105 x17_2).f2.f0))).setCell ⟨gb110, 3, none⟩ (.int .i64 ((rd_T28 t105 x17_2).f2.f1))).setCell ⟨gb110, 4, none⟩ (.string ((rd_T28 t105 x17_2).f2.f2))).setCell ⟨gb110, 5, none⟩ (.int .i64 ((rd_T28 t105 x17_2).f3.f0))).setCell ⟨gb110, 6, none⟩ (.int .i64 ((rd_T28 t105 x17_2).f3.f1))).setCell ⟨gb110, 7, none⟩ (.bool ((rd_T28 t105 x17_2).f3.f2))).setCell ⟨gb110, 8, none⟩ (.bool ((rd_T28 t105 x17_2).f3.f3))).setCell ⟨gb110, 9, none⟩ (.int .i64 ((rd_T28 t105 x17_2).f4.f0))).setCell ⟨gb110, 10, none⟩ (.int .i64 ((rd_T28 t105 x17_2).f4.f1))).setCell ⟨gb110, 11, none⟩ (.bool ((rd_T28 t105 x17_2).f4.f2))).setCell ⟨gb110, 12, none⟩ (.bool ((rd_T28 t105 x17_2).f4.f3))).setCell ⟨gb110, 13, none⟩ (.slice A109_13 ((rd_T28 t105 x17_2).f5).length c109_13)) = w35 at n0_ n1_ n2_ n3_ n4_ ⊢
             have HO_15 := n0_; have HL109_13 := n1_; have BK101 := n2_; have BK110 := n3_; have HB := n4_; clear n0_ n1_ n2_ n3_ n4_; (try (rw [drewN_self w35]; generalize hq_ : World.drewN w35 _ = w35; have n0_ : Aside0 (Kd.V k28 28 w35 w.heap.size (fun k_ => some k_ ≠ (.slice (some ad109) t105.length co19 : Value).ownBlock ∧ k_ ≠ gb101 ∧ k_ ≠ gb110) (.slice A109_13 ((rd_T28 t105 x17_2).f5).length c109_13) ((rd_T28 t105 x17_2).f5)) := ⟨by rw [← hq_]; exact (by (with_reducible repeat (first | apply Kd.V_alloc | apply Kd.V_drewN | apply Kd.V_drew)); exact HL109_13.out)⟩; have n1_ : Aside0 (Kd.N k28 28 w35 w.heap.size (fun k_ => k_ ≠ gb101 ∧ k_ ≠ gb110) (.slice (some ad109) t105.length co19) t105) := ⟨by rw [← hq_]; exact (by (with_reducible repeat (first | apply Kd.N_alloc | apply Kd.N_drewN | apply Kd.N_drew)); exact HO_15.out)⟩; have n2_ : Aside0 (w35.heap[gb101]? = some (.cells #[.int .i64 a0_0, .int .i64 a0_1, .int .i64 a0_2, .int .i64 a0_3, .string a0_4, .int .i64 a0_5, .int .i64 a0_6, .bool a0_7, .bool a0_8, .int .i64 a0_9, .int .i64 a0_10, .bool a0_11, .bool a0_12, .slice A0_13 l0_13.length c0_13] 28 (0, 0))) := ⟨by rw [← hq_]; exact (pkx BK101)⟩; have n3_ : Aside0 (w35.heap[gb110]? = some (.cells #[.int .i64 ((rd_T28 t105 x17_2).f0), .int .i64 ((rd_T28 t105 x17_2).f1), .int .i64 ((rd_T28 t105 x17_2).f2.f0), .int .i64 ((rd_T28 t105 x17_2).f2.f1), .string ((rd_T28 t105 x17_2).f2.f2), .int .i64 ((rd_T28 t105 x17_2).f3.f0), .int .i64 ((rd_T28 t105 x17_2).f3.f1), .bool ((rd_T28 t105 x17_2).f3.f2), .bool ((rd_T28 t105 x17_2).f3.f3), .int .i64 ((rd_T28 t105 x17_2).f4.f0), .int .i64 ((rd_T28 t105 x17_2).f4.f1), .bool ((rd_T28 t105 x17_2).f4.f2), .bool ((rd_T28 t105 x17_2).f4.f3), .slice A109_13 ((rd_T28 t105 x17_2).f5).length c109_13] 28 (0, 0))) := ⟨by rw [← hq_]; exact (pkx BK110)⟩; have n4_ : Aside0 (Below w.heap.size w w35) := ⟨by rw [← hq_]; exact (pbx HB)⟩; clear HL109_13 HO_15 BK101 BK110 HB hq_; have HL109_13 := n0_; have HO_15 := n1_; have BK101 := n2_; have BK110 := n3_; have HB := n4_; clear n0_ n1_ n2_ n3_ n4_))
             replace HO_15 := Aside0.mk (Kd.N_drew HO_15.out); replace HL109_13 := Aside0.mk (Kd.V_drew HL109_13.out); replace BK101 := Aside0.mk (blk_drew BK101.out); replace BK110 := Aside0.mk (blk_drew BK110.out); replace HB := Aside0.mk (below_drew1 HB.out)
             refine start_ (n:=21) (S := fun w' => w'.cell? ⟨gb110, 0, none⟩ = some (.int .i64 ((rd_T28 t105 x17_2).f0)) ∧ w'.cell? ⟨gb110, 1, none⟩ = some (.int .i64 ((rd_T28 t105 x17_2).f1)) ∧ w'.cell? ⟨gb110, 2, none⟩ = some (.int .i64 ((rd_T28 t105 x17_2).f2.f0)) ∧ w'.cell? ⟨gb110, 3, none⟩ = some (.int .i64 ((rd_T28 t105 x17_2).f2.f1)) ∧ w'.cell? ⟨gb110, 4, none⟩ = some (.string ((rd_T28 t105 x17_2).f2.f2)) ∧ w'.cell? ⟨gb110, 5, none⟩ = some (.int .i64 ((rd_T28 t105 x17_2).f3.f0)) ∧ w'.cell? ⟨gb110, 6, none⟩ = some (.int .i64 ((rd_T28 t105 x17_2).f3.f1)) ∧ w'.cell? ⟨gb110, 7, none⟩ = some (.bool ((rd_T28 t105 x17_2).f3.f2)) ∧ w'.cell? ⟨gb110, 8, none⟩ = some (.bool ((rd_T28 t105 x17_2).f3.f3)) ∧ w'.cell? ⟨gb110, 9, none⟩ = some (.int .i64 ((rd_T28 t105 x17_2).f4.f0)) ∧ w'.cell? ⟨gb110, 10, none⟩ = some (.int .i64 ((rd_T28 t105 x17_2).f4.f1)) ∧ w'.cell? ⟨gb110, 11, none⟩ = some (.bool ((rd_T28 t105 x17_2).f4.f2)) ∧ w'.cell? ⟨gb110, 12, none⟩ = some (.bool ((rd_T28 t105 x17_2).f4.f3)) ∧ w'.cell? ⟨gb110, 13, none⟩ = some (.slice A109_13 ((rd_T28 t105 x17_2).f5).length c109_13) ∧ w'.cell? ⟨gb101, 0, none⟩ = some (.int .i64 a0_0) ∧ w'.cell? ⟨gb101, 1, none⟩ = some (.int .i64 a0_1) ∧ w'.cell? ⟨gb101, 2, none⟩ = some (.int .i64 a0_2) ∧ w'.cell? ⟨gb101, 3, none⟩ = some (.int .i64 a0_3) ∧ w'.cell? ⟨gb101, 4, none⟩ = some (.string a0_4) ∧ w'.cell? ⟨gb101, 5, none⟩ = some (.int .i64 a0_5) ∧ w'.cell? ⟨gb101, 6, none⟩ = some (.int .i64 a0_6) ∧ w'.cell? ⟨gb101, 7, none⟩ = some (.bool a0_7) ∧ w'.cell? ⟨gb101, 8, none⟩ = some (.bool a0_8) ∧ w'.cell? ⟨gb101, 9, none⟩ = some (.int .i64 a0_9) ∧ w'.cell? ⟨gb101, 10, none⟩ = some (.int .i64 a0_10) ∧ w'.cell? ⟨gb101, 11, none⟩ = some (.bool a0_11) ∧ w'.cell? ⟨gb101, 12, none⟩ = some (.bool a0_12) ∧ w'.cell? ⟨gb101, 13, none⟩ = some (.slice A0_13 l0_13.length c0_13)) (ds := []) #[F,F,F,F,F,F,F,F,F,F,F,F,F,F,F,F,F,F,F,F,F] (by kernel_rfl) rfl rfl ⟨bc_ BK110 0 rfl, bc_ BK110 1 rfl, bc_ BK110 2 rfl, bc_ BK110 3 rfl, bc_ BK110 4 rfl, bc_ BK110 5 rfl, bc_ BK110 6 rfl, bc_ BK110 7 rfl, bc_ BK110 8 rfl, bc_ BK110 9 rfl, bc_ BK110 10 rfl, bc_ BK110 11 rfl, bc_ BK110 12 rfl, bc_ BK110 13 rfl, bc_ BK101 0 rfl, bc_ BK101 1 rfl, bc_ BK101 2 rfl, bc_ BK101 3 rfl, bc_ BK101 4 rfl, bc_ BK101 5 rfl, bc_ BK101 6 rfl, bc_ BK101 7 rfl, bc_ BK101 8 rfl, bc_ BK101 9 rfl, bc_ BK101 10 rfl, bc_ BK101 11 rfl, bc_ BK101 12 rfl, bc_ BK101 13 rfl⟩ (fun hHeld => ?_); refine with_tabW oculuslaw22_NodeParts.tab6 oculuslaw22_NodeParts.bits6 (fun HT_ HW_ => ?_)
             generalize w35.drew = w36 at HO_15 HL109_13 BK101 BK110 HB hHeld ⊢; refine take_ (i:=0) (N:=some 22) (v:=?_) (a':=?_) ⟨m_ 21 1⟩ rfl rfl (take_ofW HT_.out HW_.out (by kernel_rfl)) (fun _ _ _ h=>h) (Or.inl ⟨rfl, ?_⟩) hHeld ?_ ?_; rotate_left
             ·rintro w' ⟨s0, s1, s2, s3, s4, s5, s6, s7, s8, s9, s10, s11, s12, s13, s14, s15, s16, s17, s18, s19, s20, s21, s22, s23, s24, s25, s26, s27⟩; go_simp; with_reducible rfl
             rotate_left
             ·simp only [q_, i64_w, i32_w]; rfl
             refine one_ (i:=1) (N:=some 23) ⟨m_ 21 3⟩ rfl rfl (one_of HT_.out (by kernel_rfl)) (by decide) (fun K hK => ?_); refine goes_ Tryd.func13 (by kernel_rfl) rfl #[.agg #[.int .i64 ((rd_T28 t105 x17_2).f0), .int .i64 ((rd_T28 t105 x17_2).f1), .int .i64 ((rd_T28 t105 x17_2).f2.f0), .int .i64 ((rd_T28 t105 x17_2).f2.f1), .string ((rd_T28 t105 x17_2).f2.f2), .int .i64 ((rd_T28 t105 x17_2).f3.f0), .int .i64 ((rd_T28 t105 x17_2).f3.f1), .bool ((rd_T28 t105 x17_2).f3.f2), .bool ((rd_T28 t105 x17_2).f3.f3), .int .i64 ((rd_T28 t105 x17_2).f4.f0), .int .i64 ((rd_T28 t105 x17_2).f4.f1), .bool ((rd_T28 t105 x17_2).f4.f2), .bool ((rd_T28 t105 x17_2).f4.f3), .slice A109_13 ((rd_T28 t105 x17_2).f5).length c109_13]] (by rfl) rfl rfl (by (try simp only [List.map_toArray, List.map_cons, List.map_nil]); first | done | rfl | (simp only [List.length_drop, List.length_take]; rfl)) ?_; with_reducible refine (node_Right.calls k2 ((rd_T28 t105 x17_2).f0) ((rd_T28 t105 x17_2).f1) ((rd_T28 t105 x17_2).f2.f0) ((rd_T28 t105 x17_2).f2.f1) ((rd_T28 t105 x17_2).f2.f2) ((rd_T28 t105 x17_2).f3.f0) ((rd_T28 t105 x17_2).f3.f1) ((rd_T28 t105 x17_2).f3.f2) ((rd_T28 t105 x17_2).f3.f3) ((rd_T28 t105 x17_2).f4.f0) ((rd_T28 t105 x17_2).f4.f1) ((rd_T28 t105 x17_2).f4.f2) ((rd_T28 t105 x17_2).f4.f3) _ _ ((rd_T28 t105 x17_2).f5) true _ (by refine tb_ ?_ hT; repeat' (first | exact pbx HB | exact Below.refl _ _ | assumption | refine below_set ?_ (Aside0.out ?_))) ?side1 ?side2 A23.out).mono ?_
             (case side1 => repeat (first | exact ((Kd.V_reads' (by (with_reducible repeat (first | apply Kd.V_alloc | apply Kd.V_drewN | apply Kd.V_drew)); exact HL109_13.out)).2.2) | (with_reducible refine Kd.C_alloc ?_ _) | (with_reducible refine Kd.C_drewN ?_ _) | (with_reducible refine Kd.C_drew ?_))); (case side2 => exact HC109_13.out); rintro e w37 ⟨rfl, hb⟩; refine ⟨_, rfl, ?_⟩
             replace HO_15 := Aside0.mk (Kd.N_below (by (with_reducible repeat (first | apply Kd.N_alloc | apply Kd.N_drewN | apply Kd.N_drew)); exact HO_15.out) hb); replace HL109_13 := Aside0.mk (Kd.V_below (by (with_reducible repeat (first | apply Kd.V_alloc | apply Kd.V_drewN | apply Kd.V_drew)); exact HL109_13.out) hb); replace BK101 := bb_ BK101 hb; replace BK110 := bb_ BK110 hb; replace HB := bs_ HB hb
             (try clear hb); (try clear hb2); (try clear hk); (try clear hi); refine hK.out _ _ ⟨bc_ BK110 0 rfl, bc_ BK110 1 rfl, bc_ BK110 2 rfl, bc_ BK110 3 rfl, bc_ BK110 4 rfl, bc_ BK110 5 rfl, bc_ BK110 6 rfl, bc_ BK110 7 rfl, bc_ BK110 8 rfl, bc_ BK110 9 rfl, bc_ BK110 10 rfl, bc_ BK110 11 rfl, bc_ BK110 12 rfl, bc_ BK110 13 rfl, bc_ BK101 0 rfl, bc_ BK101 1 rfl, bc_ BK101 2 rfl, bc_ BK101 3 rfl, bc_ BK101 4 rfl, bc_ BK101 5 rfl, bc_ BK101 6 rfl, bc_ BK101 7 rfl, bc_ BK101 8 rfl, bc_ BK101 9 rfl, bc_ BK101 10 rfl, bc_ BK101 11 rfl, bc_ BK101 12 rfl, bc_ BK101 13 rfl⟩ (fun hHeld => ?_); clear hK K; refine norm_ (a':=?_) ?_ ?_; rotate_left
             ·show Act.put _ (some 23) _ = _; simp only [q_, i64_w, i32_w]; rfl
             refine pure_ (i:=2) (N:=some 24) (v:=?_) (a':=?_) ⟨m_ 21 7⟩ rfl rfl (any_of HT_.out (by kernel_rfl)) (fun _ _ _ h=>h) (Or.inl ⟨rfl, ?_⟩) ?_ ?_; rotate_left
             ·intro w'; go_simp; with_reducible rfl
             rotate_left
             ·simp only [q_, i64_w, i32_w]; rfl
             refine pure_ (i:=3) (N:=some 25) (v:=?_) (a':=?_) ⟨m_ 21 15⟩ rfl rfl (any_of HT_.out (by kernel_rfl)) (fun _ _ _ h=>h) (Or.inl ⟨rfl, ?_⟩) ?_ ?_; rotate_left
             ·intro w'; go_simp; with_reducible rfl
             rotate_left
             ·simp only [q_, i64_w, i32_w]; rfl
             refine take_ (i:=4) (N:=some 26) (v:=?_) (a':=?_) ⟨m_ 21 31⟩ rfl rfl (take_ofW HT_.out HW_.out (by kernel_rfl)) (fun _ _ _ h=>h) (Or.inl ⟨rfl, ?_⟩) hHeld ?_ ?_; rotate_left
             ·rintro w' ⟨s0, s1, s2, s3, s4, s5, s6, s7, s8, s9, s10, s11, s12, s13, s14, s15, s16, s17, s18, s19, s20, s21, s22, s23, s24, s25, s26, s27⟩; go_simp; with_reducible rfl
             rotate_left
             ·simp only [q_, i64_w, i32_w]; rfl
             refine take_ (i:=6) (N:=some 28) (v:=?_) (a':=?_) ⟨m_ 21 95⟩ rfl rfl (take_ofW HT_.out HW_.out (by kernel_rfl)) (fun _ _ _ h=>h) (Or.inl ⟨rfl, ?_⟩) hHeld ?_ ?_; rotate_left
             ·rintro w' ⟨s0, s1, s2, s3, s4, s5, s6, s7, s8, s9, s10, s11, s12, s13, s14, s15, s16, s17, s18, s19, s20, s21, s22, s23, s24, s25, s26, s27⟩; go_simp; with_reducible rfl
             rotate_left
             ·simp only [q_, i64_w, i32_w]; rfl
             refine one_ (i:=5) (N:=some 27) ⟨m_ 21 127⟩ rfl rfl (one_of HT_.out (by kernel_rfl)) (by decide) (fun K hK => ?_); refine goes_ Tryd.func11 (by kernel_rfl) rfl #[.agg #[.int .i64 ((rd_T28 t105 x17_2).f0), .int .i64 ((rd_T28 t105 x17_2).f1), .int .i64 ((rd_T28 t105 x17_2).f2.f0), .int .i64 ((rd_T28 t105 x17_2).f2.f1), .string ((rd_T28 t105 x17_2).f2.f2), .int .i64 ((rd_T28 t105 x17_2).f3.f0), .int .i64 ((rd_T28 t105 x17_2).f3.f1), .bool ((rd_T28 t105 x17_2).f3.f2), .bool ((rd_T28 t105 x17_2).f3.f3), .int .i64 ((rd_T28 t105 x17_2).f4.f0), .int .i64 ((rd_T28 t105 x17_2).f4.f1), .bool ((rd_T28 t105 x17_2).f4.f2), .bool ((rd_T28 t105 x17_2).f4.f3), .slice A109_13 ((rd_T28 t105 x17_2).f5).length c109_13]] (by rfl) rfl rfl (by (try simp only [List.map_toArray, List.map_cons, List.map_nil]); first | done | rfl | (simp only [List.length_drop, List.length_take]; rfl)) ?_; with_reducible refine (node_Deep.calls k2 ((rd_T28 t105 x17_2).f0) ((rd_T28 t105 x17_2).f1) ((rd_T28 t105 x17_2).f2.f0) ((rd_T28 t105 x17_2).f2.f1) ((rd_T28 t105 x17_2).f2.f2) ((rd_T28 t105 x17_2).f3.f0) ((rd_T28 t105 x17_2).f3.f1) ((rd_T28 t105 x17_2).f3.f2) ((rd_T28 t105 x17_2).f3.f3) ((rd_T28 t105 x17_2).f4.f0) ((rd_T28 t105 x17_2).f4.f1) ((rd_T28 t105 x17_2).f4.f2) ((rd_T28 t105 x17_2).f4.f3) _ _ ((rd_T28 t105 x17_2).f5) t112 _ ?side1 ?side2 A25.out).mono ?_; (case side1 => repeat (first | exact ((Kd.V_reads' (by (with_reducible repeat (first | apply Kd.V_alloc | apply Kd.V_drewN | apply Kd.V_drew)); exact HL109_13.out)).2.2) | (with_reducible refine Kd.C_alloc ?_ _) | (with_reducible refine Kd.C_drewN ?_ _) | (with_reducible refine Kd.C_drew ?_)))
             (case side2 => exact HC109_13.out); rintro e w38 ⟨rfl, hb⟩; refine ⟨_, rfl, ?_⟩
             replace HO_15 := Aside0.mk (Kd.N_below (by (with_reducible repeat (first | apply Kd.N_alloc | apply Kd.N_drewN | apply Kd.N_drew)); exact HO_15.out) hb); replace HL109_13 := Aside0.mk (Kd.V_below (by (with_reducible repeat (first | apply Kd.V_alloc | apply Kd.V_drewN | apply Kd.V_drew)); exact HL109_13.out) hb); replace BK101 := bb_ BK101 hb; replace BK110 := bb_ BK110 hb; replace HB := bs_ HB hb
             (try clear hb); (try clear hb2); (try clear hk); (try clear hi); refine hK.out _ _ ⟨bc_ BK110 0 rfl, bc_ BK110 1 rfl, bc_ BK110 2 rfl, bc_ BK110 3 rfl, bc_ BK110 4 rfl, bc_ BK110 5 rfl, bc_ BK110 6 rfl, bc_ BK110 7 rfl, bc_ BK110 8 rfl, bc_ BK110 9 rfl, bc_ BK110 10 rfl, bc_ BK110 11 rfl, bc_ BK110 12 rfl, bc_ BK110 13 rfl, bc_ BK101 0 rfl, bc_ BK101 1 rfl, bc_ BK101 2 rfl, bc_ BK101 3 rfl, bc_ BK101 4 rfl, bc_ BK101 5 rfl, bc_ BK101 6 rfl, bc_ BK101 7 rfl, bc_ BK101 8 rfl, bc_ BK101 9 rfl, bc_ BK101 10 rfl, bc_ BK101 11 rfl, bc_ BK101 12 rfl, bc_ BK101 13 rfl⟩ (fun hHeld => ?_); clear hK K; refine norm_ (a':=?_) ?_ ?_; rotate_left
             ·show Act.put _ (some 27) _ = _; simp only [q_, i64_w, i32_w]; rfl
             refine one_ (i:=7) (N:=some 29) ⟨m_ 21 255⟩ rfl rfl (one_of HT_.out (by kernel_rfl)) (by decide) (fun K hK => ?_); refine goes_ Tryd.func11 (by kernel_rfl) rfl #[.agg #[.int .i64 a0_0, .int .i64 a0_1, .int .i64 a0_2, .int .i64 a0_3, .string a0_4, .int .i64 a0_5, .int .i64 a0_6, .bool a0_7, .bool a0_8, .int .i64 a0_9, .int .i64 a0_10, .bool a0_11, .bool a0_12, .slice A0_13 l0_13.length c0_13]] (by rfl) rfl rfl (by (try simp only [List.map_toArray, List.map_cons, List.map_nil]); first | done | rfl | (simp only [List.length_drop, List.length_take]; rfl)) ?_; with_reducible refine (node_Deep.calls k2 a0_0 a0_1 a0_2 a0_3 a0_4 a0_5 a0_6 a0_7 a0_8 a0_9 a0_10 a0_11 a0_12 _ _ l0_13 t113 _ ?side1 ?side2 A26.out).mono ?_; (case side1 => repeat (first | exact (Kd.C_below HR0_13.out HB.out) | (with_reducible refine Kd.C_alloc ?_ _) | (with_reducible refine Kd.C_drewN ?_ _) | (with_reducible refine Kd.C_drew ?_))); (case side2 => exact HC0_13.out); rintro e w39 ⟨rfl, hb⟩; refine ⟨_, rfl, ?_⟩
             replace HO_15 := Aside0.mk (Kd.N_below (by (with_reducible repeat (first | apply Kd.N_alloc | apply Kd.N_drewN | apply Kd.N_drew)); exact HO_15.out) hb); replace HL109_13 := Aside0.mk (Kd.V_below (by (with_reducible repeat (first | apply Kd.V_alloc | apply Kd.V_drewN | apply Kd.V_drew)); exact HL109_13.out) hb); replace BK101 := bb_ BK101 hb; replace BK110 := bb_ BK110 hb; replace HB := bs_ HB hb
             (try clear hb); (try clear hb2); (try clear hk); (try clear hi); refine hK.out _ _ ⟨bc_ BK110 0 rfl, bc_ BK110 1 rfl, bc_ BK110 2 rfl, bc_ BK110 3 rfl, bc_ BK110 4 rfl, bc_ BK110 5 rfl, bc_ BK110 6 rfl, bc_ BK110 7 rfl, bc_ BK110 8 rfl, bc_ BK110 9 rfl, bc_ BK110 10 rfl, bc_ BK110 11 rfl, bc_ BK110 12 rfl, bc_ BK110 13 rfl, bc_ BK101 0 rfl, bc_ BK101 1 rfl, bc_ BK101 2 rfl, bc_ BK101 3 rfl, bc_ BK101 4 rfl, bc_ BK101 5 rfl, bc_ BK101 6 rfl, bc_ BK101 7 rfl, bc_ BK101 8 rfl, bc_ BK101 9 rfl, bc_ BK101 10 rfl, bc_ BK101 11 rfl, bc_ BK101 12 rfl, bc_ BK101 13 rfl⟩ (fun hHeld => ?_); clear hK K; refine norm_ (a':=?_) ?_ ?_; rotate_left
             ·show Act.put _ (some 29) _ = _; simp only [q_, i64_w, i32_w]; rfl
             refine pure_ (i:=8) (N:=some 30) (v:=?_) (a':=?_) ⟨m_ 21 511⟩ rfl rfl (any_of HT_.out (by kernel_rfl)) (fun _ _ _ h=>h) (Or.inl ⟨rfl, ?_⟩) ?_ ?_; rotate_left
             ·intro w'; go_simp; with_reducible rfl
             rotate_left
             ·simp only [q_, i64_w, i32_w]; rfl
             refine pure_ (i:=9) (N:=some 31) (v:=?_) (a':=?_) ⟨m_ 21 1023⟩ rfl rfl (any_of HT_.out (by kernel_rfl)) (fun _ _ _ h=>h) (Or.inl ⟨rfl, ?_⟩) ?_ ?_; rotate_left
             ·intro w'; go_simp; with_reducible rfl
             rotate_left
             ·simp only [q_, i64_w, i32_w]; rfl
             refine pure_ (i:=10) (N:=some 32) (v:=?_) (a':=?_) ⟨m_ 21 2047⟩ rfl rfl (any_of HT_.out (by kernel_rfl)) (fun _ _ _ h=>h) (Or.inl ⟨rfl, ?_⟩) ?_ ?_; rotate_left
             ·intro w'; go_simp; with_reducible rfl
             rotate_left
             ·simp only [q_, i64_w, i32_w]; rfl
             refine pure_ (i:=11) (N:=some 33) (v:=?_) (a':=?_) ⟨m_ 21 4095⟩ rfl rfl (any_of HT_.out (by kernel_rfl)) (fun _ _ _ h=>h) (Or.inl ⟨rfl, ?_⟩) ?_ ?_; rotate_left
             ·intro w'; go_simp; with_reducible rfl
             rotate_left
             ·simp only [q_, i64_w, i32_w]; rfl
             refine pure_ (i:=12) (N:=some 34) (v:=?_) (a':=?_) ⟨m_ 21 8191⟩ rfl rfl (any_of HT_.out (by kernel_rfl)) (fun _ _ _ h=>h) (Or.inl ⟨rfl, ?_⟩) ?_ ?_; rotate_left
             ·intro w'; go_simp; with_reducible rfl
             rotate_left
             ·simp only [q_, i64_w, i32_w]; rfl
             refine pure_ (i:=13) (N:=some 35) (v:=?_) (a':=?_) ⟨m_ 21 16383⟩ rfl rfl (any_of HT_.out (by kernel_rfl)) (fun _ _ _ h=>h) (Or.inl ⟨rfl, ?_⟩) ?_ ?_; rotate_left
             ·intro w'; go_simp; with_reducible rfl
             rotate_left
             ·simp only [q_, i64_w, i32_w]; rfl
             refine take_ (i:=14) (N:=some 36) (v:=?_) (a':=?_) ⟨m_ 21 32767⟩ rfl rfl (take_ofW HT_.out HW_.out (by kernel_rfl)) (fun _ _ _ h=>h) (Or.inl ⟨rfl, ?_⟩) hHeld ?_ ?_; rotate_left
             ·rintro w' ⟨s0, s1, s2, s3, s4, s5, s6, s7, s8, s9, s10, s11, s12, s13, s14, s15, s16, s17, s18, s19, s20, s21, s22, s23, s24, s25, s26, s27⟩; go_simp; with_reducible rfl
             rotate_left
             ·simp only [q_, i64_w, i32_w]; rfl
             refine take_ (i:=16) (N:=some 38) (v:=?_) (a':=?_) ⟨m_ 21 98303⟩ rfl rfl (take_ofW HT_.out HW_.out (by kernel_rfl)) (fun _ _ _ h=>h) (Or.inl ⟨rfl, ?_⟩) hHeld ?_ ?_; rotate_left
             ·rintro w' ⟨s0, s1, s2, s3, s4, s5, s6, s7, s8, s9, s10, s11, s12, s13, s14, s15, s16, s17, s18, s19, s20, s21, s22, s23, s24, s25, s26, s27⟩; go_simp; with_reducible rfl
             rotate_left
             ·simp only [q_, i64_w, i32_w]; rfl
             refine one_ (i:=15) (N:=some 37) ⟨m_ 21 131071⟩ rfl rfl (one_of HT_.out (by kernel_rfl)) (by decide) (fun K hK => ?_); refine goes_ Tryd.func11 (by kernel_rfl) rfl #[.agg #[.int .i64 ((rd_T28 t105 x17_2).f0), .int .i64 ((rd_T28 t105 x17_2).f1), .int .i64 ((rd_T28 t105 x17_2).f2.f0), .int .i64 ((rd_T28 t105 x17_2).f2.f1), .string ((rd_T28 t105 x17_2).f2.f2), .int .i64 ((rd_T28 t105 x17_2).f3.f0), .int .i64 ((rd_T28 t105 x17_2).f3.f1), .bool ((rd_T28 t105 x17_2).f3.f2), .bool ((rd_T28 t105 x17_2).f3.f3), .int .i64 ((rd_T28 t105 x17_2).f4.f0), .int .i64 ((rd_T28 t105 x17_2).f4.f1), .bool ((rd_T28 t105 x17_2).f4.f2), .bool ((rd_T28 t105 x17_2).f4.f3), .slice A109_13 ((rd_T28 t105 x17_2).f5).length c109_13]] (by rfl) rfl rfl (by (try simp only [List.map_toArray, List.map_cons, List.map_nil]); first | done | rfl | (simp only [List.length_drop, List.length_take]; rfl)) ?_; with_reducible refine (node_Deep.calls k2 ((rd_T28 t105 x17_2).f0) ((rd_T28 t105 x17_2).f1) ((rd_T28 t105 x17_2).f2.f0) ((rd_T28 t105 x17_2).f2.f1) ((rd_T28 t105 x17_2).f2.f2) ((rd_T28 t105 x17_2).f3.f0) ((rd_T28 t105 x17_2).f3.f1) ((rd_T28 t105 x17_2).f3.f2) ((rd_T28 t105 x17_2).f3.f3) ((rd_T28 t105 x17_2).f4.f0) ((rd_T28 t105 x17_2).f4.f1) ((rd_T28 t105 x17_2).f4.f2) ((rd_T28 t105 x17_2).f4.f3) _ _ ((rd_T28 t105 x17_2).f5) t114 _ ?side1 ?side2 A29.out).mono ?_; (case side1 => repeat (first | exact ((Kd.V_reads' (by (with_reducible repeat (first | apply Kd.V_alloc | apply Kd.V_drewN | apply Kd.V_drew)); exact HL109_13.out)).2.2) | (with_reducible refine Kd.C_alloc ?_ _) | (with_reducible refine Kd.C_drewN ?_ _) | (with_reducible refine Kd.C_drew ?_)))
             (case side2 => exact HC109_13.out); rintro e w40 ⟨rfl, hb⟩; refine ⟨_, rfl, ?_⟩
             replace HO_15 := Aside0.mk (Kd.N_below (by (with_reducible repeat (first | apply Kd.N_alloc | apply Kd.N_drewN | apply Kd.N_drew)); exact HO_15.out) hb); replace HL109_13 := Aside0.mk (Kd.V_below (by (with_reducible repeat (first | apply Kd.V_alloc | apply Kd.V_drewN | apply Kd.V_drew)); exact HL109_13.out) hb); replace BK101 := bb_ BK101 hb; replace BK110 := bb_ BK110 hb; replace HB := bs_ HB hb
             (try clear hb); (try clear hb2); (try clear hk); (try clear hi); refine hK.out _ _ ⟨bc_ BK110 0 rfl, bc_ BK110 1 rfl, bc_ BK110 2 rfl, bc_ BK110 3 rfl, bc_ BK110 4 rfl, bc_ BK110 5 rfl, bc_ BK110 6 rfl, bc_ BK110 7 rfl, bc_ BK110 8 rfl, bc_ BK110 9 rfl, bc_ BK110 10 rfl, bc_ BK110 11 rfl, bc_ BK110 12 rfl, bc_ BK110 13 rfl, bc_ BK101 0 rfl, bc_ BK101 1 rfl, bc_ BK101 2 rfl, bc_ BK101 3 rfl, bc_ BK101 4 rfl, bc_ BK101 5 rfl, bc_ BK101 6 rfl, bc_ BK101 7 rfl, bc_ BK101 8 rfl, bc_ BK101 9 rfl, bc_ BK101 10 rfl, bc_ BK101 11 rfl, bc_ BK101 12 rfl, bc_ BK101 13 rfl⟩ (fun hHeld => ?_); clear hK K; refine norm_ (a':=?_) ?_ ?_; rotate_left
             ·show Act.put _ (some 37) _ = _; simp only [q_, i64_w, i32_w]; rfl
             refine one_ (i:=17) (N:=some 39) ⟨m_ 21 262143⟩ rfl rfl (one_of HT_.out (by kernel_rfl)) (by decide) (fun K hK => ?_); refine goes_ Tryd.func11 (by kernel_rfl) rfl #[.agg #[.int .i64 a0_0, .int .i64 a0_1, .int .i64 a0_2, .int .i64 a0_3, .string a0_4, .int .i64 a0_5, .int .i64 a0_6, .bool a0_7, .bool a0_8, .int .i64 a0_9, .int .i64 a0_10, .bool a0_11, .bool a0_12, .slice A0_13 l0_13.length c0_13]] (by rfl) rfl rfl (by (try simp only [List.map_toArray, List.map_cons, List.map_nil]); first | done | rfl | (simp only [List.length_drop, List.length_take]; rfl)) ?_; with_reducible refine (node_Deep.calls k2 a0_0 a0_1 a0_2 a0_3 a0_4 a0_5 a0_6 a0_7 a0_8 a0_9 a0_10 a0_11 a0_12 _ _ l0_13 t115 _ ?side1 ?side2 A30.out).mono ?_; (case side1 => repeat (first | exact (Kd.C_below HR0_13.out HB.out) | (with_reducible refine Kd.C_alloc ?_ _) | (with_reducible refine Kd.C_drewN ?_ _) | (with_reducible refine Kd.C_drew ?_))); (case side2 => exact HC0_13.out); rintro e w41 ⟨rfl, hb⟩; refine ⟨_, rfl, ?_⟩
             replace HO_15 := Aside0.mk (Kd.N_below (by (with_reducible repeat (first | apply Kd.N_alloc | apply Kd.N_drewN | apply Kd.N_drew)); exact HO_15.out) hb); replace HL109_13 := Aside0.mk (Kd.V_below (by (with_reducible repeat (first | apply Kd.V_alloc | apply Kd.V_drewN | apply Kd.V_drew)); exact HL109_13.out) hb); replace BK101 := bb_ BK101 hb; replace BK110 := bb_ BK110 hb; replace HB := bs_ HB hb
             (try clear hb); (try clear hb2); (try clear hk); (try clear hi); refine hK.out _ _ ⟨bc_ BK110 0 rfl, bc_ BK110 1 rfl, bc_ BK110 2 rfl, bc_ BK110 3 rfl, bc_ BK110 4 rfl, bc_ BK110 5 rfl, bc_ BK110 6 rfl, bc_ BK110 7 rfl, bc_ BK110 8 rfl, bc_ BK110 9 rfl, bc_ BK110 10 rfl, bc_ BK110 11 rfl, bc_ BK110 12 rfl, bc_ BK110 13 rfl, bc_ BK101 0 rfl, bc_ BK101 1 rfl, bc_ BK101 2 rfl, bc_ BK101 3 rfl, bc_ BK101 4 rfl, bc_ BK101 5 rfl, bc_ BK101 6 rfl, bc_ BK101 7 rfl, bc_ BK101 8 rfl, bc_ BK101 9 rfl, bc_ BK101 10 rfl, bc_ BK101 11 rfl, bc_ BK101 12 rfl, bc_ BK101 13 rfl⟩ (fun hHeld => ?_); clear hK K; refine norm_ (a':=?_) ?_ ?_; rotate_left
             ·show Act.put _ (some 39) _ = _; simp only [q_, i64_w, i32_w]; rfl
             refine pure_ (i:=18) (N:=some 40) (v:=?_) (a':=?_) ⟨m_ 21 524287⟩ rfl rfl (any_of HT_.out (by kernel_rfl)) (fun _ _ _ h=>h) (Or.inl ⟨rfl, ?_⟩) ?_ ?_; rotate_left
             ·intro w'; go_simp; with_reducible rfl
             rotate_left
             ·simp only [q_, i64_w, i32_w]; rfl
             refine pure_ (i:=19) (N:=some 41) (v:=?_) (a':=?_) ⟨m_ 21 1048575⟩ rfl rfl (any_of HT_.out (by kernel_rfl)) (fun _ _ _ h=>h) (Or.inl ⟨rfl, ?_⟩) ?_ ?_; rotate_left
             ·intro w'; go_simp; with_reducible rfl
             rotate_left
             ·simp only [q_, i64_w, i32_w]; rfl
             refine pure_ (i:=20) (N:=some 42) (v:=?_) (a':=?_) ⟨m_ 21 2097151⟩ rfl rfl (any_of HT_.out (by kernel_rfl)) (fun _ _ _ h=>h) (Or.inl ⟨rfl, ?_⟩) ?_ ?_; rotate_left
             ·intro w'; go_simp; with_reducible rfl
             rotate_left
             ·simp only [q_, i64_w, i32_w]; rfl
             refine done_ (done_of HT_.out (by kernel_rfl)) ?_
             try go_wp2
             go_roundg k2
             case measure => have := HJ1.out; have := HK2.out; omega
             case rel => exact ⟨(wrap64 (x17_2 + 1)), (by first | rfl | (simp; done) | (simp [*]; done)), H', ⟨by have := HJ1.out; have := HK2.out; omega⟩, ⟨by (with_reducible repeat (first | apply Kd.N_alloc | apply Kd.N_drewN | apply Kd.N_drew)); exact Kd.N_mono HO_15.out (fun _ hk => hk.1)⟩, ⟨pkx BK101⟩, ⟨pbx HB⟩⟩
           ·rw [if_neg c28] at H; have c28b0 : decide (0 < x17_2) = false := decide_eq_false c28; clear c28
            have H' := Aside0.mk H
            clear H
            have p109 : 0 ≤ (x17_2 : Int) := of_decide_eq_true (by first | (with_reducible assumption) | assumption)
            have q109 : x17_2 < (t105.length : Int) := of_decide_eq_true (by first | (with_reducible assumption) | assumption)
            obtain ⟨ad109, A109_13, c109_13, e109, hx109_0, hx109_1, hx109_2, hx109_3, hx109_4, hx109_5, hx109_6, hx109_7, hx109_8, hx109_9, hx109_10, hx109_11, hx109_12, hx109_13, hl109_13, hi109_13⟩ := at_T28 (Kd.N_reads' HO_15.out).2.2 x17_2 p109 q109
            cases e109
            obtain ⟨ce109, hce109, hMe109, hcc109⟩ := Kd.N_get HO_15.out z28 x17_2 p109 (by first | exact q109 | exact of_decide_eq_true (by first | (with_reducible assumption) | assumption) | (have e_ := (Kd.N_reads' HO_15.out).1; omega)); obtain ⟨ua109_13, uc109_13, rfl, ul109_13, ge109_13⟩ := k28_openF hMe109; have hv109_13 := hcc109 13 _ rfl; rw [add_field _ _ 13 (by omega)] at hv109_13; replace hv109_13 := Option.some.inj (hv109_13.symm.trans hx109_13)
            injection hv109_13 with hva_ hvn_ hvc_
            rw [hva_] at ge109_13; rw [hvc_] at ul109_13; have HL109_13 := Aside0.mk (show Kd.V k28 28 _ w.heap.size _ _ ((rd_T28 t105 x17_2).f5) from Kd.V_mk ul109_13 ge109_13); clear hva_ hvn_ hvc_ ge109_13 ul109_13; clear hcc109 hce109; have HR109_13 := Aside0.mk hi109_13; have HC109_13 := Aside0.mk hl109_13; clear hi109_13 hl109_13; replace p109 := eq_true p109; replace q109 := eq_true q109
            try go_wp2_with (first | ((with_reducible refine gate_dst (N:=4) rfl ?_); refine be_ (N:=4) (cs := #[.int .i64 0, .int .i64 0, .int .i64 0, .int .i64 0, .string (⟨#[]⟩ : ByteArray), .int .i64 0, .int .i64 0, .bool false, .bool false, .int .i64 0, .int .i64 0, .bool false, .bool false, .slice none 0 0]) (t:=28) ?_; intro gb110 hg w42 hbox hb; have BK110 := Aside0.mk (hbox); have GW110 := hs_ HB hg; have GE110 := hs_ HB hg; have NB101_110 := hl_ BK101 hg; have NB110_101 := hr_ BK101 hg; replace HO_15 := Aside0.mk (Kd.N_below (Kd.N_elderB (by (with_reducible repeat (first | apply Kd.N_alloc | apply Kd.N_drewN | apply Kd.N_drew)); exact HO_15.out) gb110 (Nat.le_of_eq hg.symm)) hb); replace HL109_13 := Aside0.mk (Kd.V_below (Kd.V_elderB (by (with_reducible repeat (first | apply Kd.V_alloc | apply Kd.V_drewN | apply Kd.V_drew)); exact HL109_13.out) gb110 (Nat.le_of_eq hg.symm)) hb); replace BK101 := bb_ BK101 hb; replace HR109_13 := Aside0.mk (Kd.C_below (by repeat (first | (with_reducible exact HR109_13.out) | (with_reducible refine Kd.C_alloc ?_ _) | (with_reducible refine Kd.C_drewN ?_ _) | (with_reducible refine Kd.C_drew ?_) | exact HR109_13.out)) hb); replace HB := bs_ HB hb; clear hb hbox hg; have hnb43 := NB110_101.out; have hnc43 := NB101_110.out; have hcz44_0 : w42.cell? ⟨gb110, 0, none⟩ = some (.int .i64 0) := bc_ BK110 0 rfl; have hcz44_1 : w42.cell? ⟨gb110, 1, none⟩ = some (.int .i64 0) := bc_ BK110 1 rfl; have hcz44_2 : w42.cell? ⟨gb110, 2, none⟩ = some (.int .i64 0) := bc_ BK110 2 rfl; have hcz44_3 : w42.cell? ⟨gb110, 3, none⟩ = some (.int .i64 0) := bc_ BK110 3 rfl; have hcz44_4 : w42.cell? ⟨gb110, 4, none⟩ = some (.string (⟨#[]⟩ : ByteArray)) := bc_ BK110 4 rfl; have hcz44_5 : w42.cell? ⟨gb110, 5, none⟩ = some (.int .i64 0) := bc_ BK110 5 rfl; have hcz44_6 : w42.cell? ⟨gb110, 6, none⟩ = some (.int .i64 0) := bc_ BK110 6 rfl; have hcz44_7 : w42.cell? ⟨gb110, 7, none⟩ = some (.bool false) := bc_ BK110 7 rfl; have hcz44_8 : w42.cell? ⟨gb110, 8, none⟩ = some (.bool false) := bc_ BK110 8 rfl; have hcz44_9 : w42.cell? ⟨gb110, 9, none⟩ = some (.int .i64 0) := bc_ BK110 9 rfl; have hcz44_10 : w42.cell? ⟨gb110, 10, none⟩ = some (.int .i64 0) := bc_ BK110 10 rfl; have hcz44_11 : w42.cell? ⟨gb110, 11, none⟩ = some (.bool false) := bc_ BK110 11 rfl; have hcz44_12 : w42.cell? ⟨gb110, 12, none⟩ = some (.bool false) := bc_ BK110 12 rfl; have hcz44_13 : w42.cell? ⟨gb110, 13, none⟩ = some (.slice none 0 0) := bc_ BK110 13 rfl; have hfz44_0 := blk_frozen BK110.out 0; have hfz44_1 := blk_frozen BK110.out 1; have hfz44_2 := blk_frozen BK110.out 2; have hfz44_3 := blk_frozen BK110.out 3; have hfz44_4 := blk_frozen BK110.out 4; have hfz44_5 := blk_frozen BK110.out 5; have hfz44_6 := blk_frozen BK110.out 6; have hfz44_7 := blk_frozen BK110.out 7; have hfz44_8 := blk_frozen BK110.out 8; have hfz44_9 := blk_frozen BK110.out 9; have hfz44_10 := blk_frozen BK110.out 10; have hfz44_11 := blk_frozen BK110.out 11; have hfz44_12 := blk_frozen BK110.out 12; have hfz44_13 := blk_frozen BK110.out 13))
            have n0_ : Aside0 (Kd.N k28 28 ((((((((((((((w42.setCell ⟨gb110, 0, none⟩ (.int .i64 ((rd_T28 t105 x17_2).f0))).setCell ⟨gb110, 1, none⟩ (.int .i64 ((rd_T28 t105 x17_2).f1))).setCell ⟨gb110, 2, none⟩ (.int .i64 ((rd_T28 t105 x17_2).f2.f0))).setCell ⟨gb110, 3, none⟩ (.int .i64 ((rd_T28 t105 x17_2).f2.f1))).setCell ⟨gb110, 4, none⟩ (.string ((rd_T28 t105 x17_2).f2.f2))).setCell ⟨gb110, 5, none⟩ (.int .i64 ((rd_T28 t105 x17_2).f3.f0))).setCell ⟨gb110, 6, none⟩ (.int .i64 ((rd_T28 t105 x17_2).f3.f1))).setCell ⟨gb110, 7, none⟩ (.bool ((rd_T28 t105 x17_2).f3.f2))).setCell ⟨gb110, 8, none⟩ (.bool ((rd_T28 t105 x17_2).f3.f3))).setCell ⟨gb110, 9, none⟩ (.int .i64 ((rd_T28 t105 x17_2).f4.f0))).setCell ⟨gb110, 10, none⟩ (.int .i64 ((rd_T28 t105 x17_2).f4.f1))).setCell ⟨gb110, 11, none⟩ (.bool ((rd_T28 t105 x17_2).f4.f2))).setCell ⟨gb110, 12, none⟩ (.bool ((rd_T28 t105 x17_2).f4.f3))).setCell ⟨gb110, 13, none⟩ (.slice A109_13 ((rd_T28 t105 x17_2).f5).length c109_13)) w.heap.size (fun k_ => k_ ≠ gb101 ∧ k_ ≠ gb110) (.slice (some ad109) t105.length co19) t105) := ⟨by (with_reducible repeat (first | apply Kd.N_alloc | apply Kd.N_drewN | apply Kd.N_drew)); exact Kd.N_mono (Kd.N_far (p := ⟨gb110, 13, none⟩) (Kd.N_far (p := ⟨gb110, 12, none⟩) (Kd.N_far (p := ⟨gb110, 11, none⟩) (Kd.N_far (p := ⟨gb110, 10, none⟩) (Kd.N_far (p := ⟨gb110, 9, none⟩) (Kd.N_far (p := ⟨gb110, 8, none⟩) (Kd.N_far (p := ⟨gb110, 7, none⟩) (Kd.N_far (p := ⟨gb110, 6, none⟩) (Kd.N_far (p := ⟨gb110, 5, none⟩) (Kd.N_far (p := ⟨gb110, 4, none⟩) (Kd.N_far (p := ⟨gb110, 3, none⟩) (Kd.N_far (p := ⟨gb110, 2, none⟩) (Kd.N_far (p := ⟨gb110, 1, none⟩) (Kd.N_far (p := ⟨gb110, 0, none⟩) (Kd.N_mono HO_15.out (fun k_ hk => (⟨hk, hk.2⟩ : _ ∧ k_ ≠ gb110))) (fun _ hk => hk.2) (.int .i64 ((rd_T28 t105 x17_2).f0))) (fun _ hk => hk.2) (.int .i64 ((rd_T28 t105 x17_2).f1))) (fun _ hk => hk.2) (.int .i64 ((rd_T28 t105 x17_2).f2.f0))) (fun _ hk => hk.2) (.int .i64 ((rd_T28 t105 x17_2).f2.f1))) (fun _ hk => hk.2) (.string ((rd_T28 t105 x17_2).f2.f2))) (fun _ hk => hk.2) (.int .i64 ((rd_T28 t105 x17_2).f3.f0))) (fun _ hk => hk.2) (.int .i64 ((rd_T28 t105 x17_2).f3.f1))) (fun _ hk => hk.2) (.bool ((rd_T28 t105 x17_2).f3.f2))) (fun _ hk => hk.2) (.bool ((rd_T28 t105 x17_2).f3.f3))) (fun _ hk => hk.2) (.int .i64 ((rd_T28 t105 x17_2).f4.f0))) (fun _ hk => hk.2) (.int .i64 ((rd_T28 t105 x17_2).f4.f1))) (fun _ hk => hk.2) (.bool ((rd_T28 t105 x17_2).f4.f2))) (fun _ hk => hk.2) (.bool ((rd_T28 t105 x17_2).f4.f3))) (fun _ hk => hk.2) (.slice A109_13 ((rd_T28 t105 x17_2).f5).length c109_13)) (fun _ hk => ⟨hk.1.1, hk.1.2⟩)⟩
            have n1_ : Aside0 (Kd.V k28 28 ((((((((((((((w42.setCell ⟨gb110, 0, none⟩ (.int .i64 ((rd_T28 t105 x17_2).f0))).setCell ⟨gb110, 1, none⟩ (.int .i64 ((rd_T28 t105 x17_2).f1))).setCell ⟨gb110, 2, none⟩ (.int .i64 ((rd_T28 t105 x17_2).f2.f0))).setCell ⟨gb110, 3, none⟩ (.int .i64 ((rd_T28 t105 x17_2).f2.f1))).setCell ⟨gb110, 4, none⟩ (.string ((rd_T28 t105 x17_2).f2.f2))).setCell ⟨gb110, 5, none⟩ (.int .i64 ((rd_T28 t105 x17_2).f3.f0))).setCell ⟨gb110, 6, none⟩ (.int .i64 ((rd_T28 t105 x17_2).f3.f1))).setCell ⟨gb110, 7, none⟩ (.bool ((rd_T28 t105 x17_2).f3.f2))).setCell ⟨gb110, 8, none⟩ (.bool ((rd_T28 t105 x17_2).f3.f3))).setCell ⟨gb110, 9, none⟩ (.int .i64 ((rd_T28 t105 x17_2).f4.f0))).setCell ⟨gb110, 10, none⟩ (.int .i64 ((rd_T28 t105 x17_2).f4.f1))).setCell ⟨gb110, 11, none⟩ (.bool ((rd_T28 t105 x17_2).f4.f2))).setCell ⟨gb110, 12, none⟩ (.bool ((rd_T28 t105 x17_2).f4.f3))).setCell ⟨gb110, 13, none⟩ (.slice A109_13 ((rd_T28 t105 x17_2).f5).length c109_13)) w.heap.size (fun k_ => some k_ ≠ (.slice (some ad109) t105.length co19 : Value).ownBlock ∧ k_ ≠ gb101 ∧ k_ ≠ gb110) (.slice A109_13 ((rd_T28 t105 x17_2).f5).length c109_13) ((rd_T28 t105 x17_2).f5)) := ⟨by (with_reducible repeat (first | apply Kd.V_alloc | apply Kd.V_drewN | apply Kd.V_drew)); exact Kd.V_mono (Kd.V_far (p := ⟨gb110, 13, none⟩) (Kd.V_far (p := ⟨gb110, 12, none⟩) (Kd.V_far (p := ⟨gb110, 11, none⟩) (Kd.V_far (p := ⟨gb110, 10, none⟩) (Kd.V_far (p := ⟨gb110, 9, none⟩) (Kd.V_far (p := ⟨gb110, 8, none⟩) (Kd.V_far (p := ⟨gb110, 7, none⟩) (Kd.V_far (p := ⟨gb110, 6, none⟩) (Kd.V_far (p := ⟨gb110, 5, none⟩) (Kd.V_far (p := ⟨gb110, 4, none⟩) (Kd.V_far (p := ⟨gb110, 3, none⟩) (Kd.V_far (p := ⟨gb110, 2, none⟩) (Kd.V_far (p := ⟨gb110, 1, none⟩) (Kd.V_far (p := ⟨gb110, 0, none⟩) (Kd.V_mono HL109_13.out (fun k_ hk => (⟨hk, hk.2⟩ : _ ∧ k_ ≠ gb110))) (fun _ hk => hk.2) (.int .i64 ((rd_T28 t105 x17_2).f0))) (fun _ hk => hk.2) (.int .i64 ((rd_T28 t105 x17_2).f1))) (fun _ hk => hk.2) (.int .i64 ((rd_T28 t105 x17_2).f2.f0))) (fun _ hk => hk.2) (.int .i64 ((rd_T28 t105 x17_2).f2.f1))) (fun _ hk => hk.2) (.string ((rd_T28 t105 x17_2).f2.f2))) (fun _ hk => hk.2) (.int .i64 ((rd_T28 t105 x17_2).f3.f0))) (fun _ hk => hk.2) (.int .i64 ((rd_T28 t105 x17_2).f3.f1))) (fun _ hk => hk.2) (.bool ((rd_T28 t105 x17_2).f3.f2))) (fun _ hk => hk.2) (.bool ((rd_T28 t105 x17_2).f3.f3))) (fun _ hk => hk.2) (.int .i64 ((rd_T28 t105 x17_2).f4.f0))) (fun _ hk => hk.2) (.int .i64 ((rd_T28 t105 x17_2).f4.f1))) (fun _ hk => hk.2) (.bool ((rd_T28 t105 x17_2).f4.f2))) (fun _ hk => hk.2) (.bool ((rd_T28 t105 x17_2).f4.f3))) (fun _ hk => hk.2) (.slice A109_13 ((rd_T28 t105 x17_2).f5).length c109_13)) (fun _ hk => ⟨hk.1.1.2, ⟨hk.1.1.1, hk.1.2⟩⟩)⟩
            have n2_ : Aside0 (((((((((((((((w42.setCell ⟨gb110, 0, none⟩ (.int .i64 ((rd_T28 t105 x17_2).f0))).setCell ⟨gb110, 1, none⟩ (.int .i64 ((rd_T28 t105 x17_2).f1))).setCell ⟨gb110, 2, none⟩ (.int .i64 ((rd_T28 t105 x17_2).f2.f0))).setCell ⟨gb110, 3, none⟩ (.int .i64 ((rd_T28 t105 x17_2).f2.f1))).setCell ⟨gb110, 4, none⟩ (.string ((rd_T28 t105 x17_2).f2.f2))).setCell ⟨gb110, 5, none⟩ (.int .i64 ((rd_T28 t105 x17_2).f3.f0))).setCell ⟨gb110, 6, none⟩ (.int .i64 ((rd_T28 t105 x17_2).f3.f1))).setCell ⟨gb110, 7, none⟩ (.bool ((rd_T28 t105 x17_2).f3.f2))).setCell ⟨gb110, 8, none⟩ (.bool ((rd_T28 t105 x17_2).f3.f3))).setCell ⟨gb110, 9, none⟩ (.int .i64 ((rd_T28 t105 x17_2).f4.f0))).setCell ⟨gb110, 10, none⟩ (.int .i64 ((rd_T28 t105 x17_2).f4.f1))).setCell ⟨gb110, 11, none⟩ (.bool ((rd_T28 t105 x17_2).f4.f2))).setCell ⟨gb110, 12, none⟩ (.bool ((rd_T28 t105 x17_2).f4.f3))).setCell ⟨gb110, 13, none⟩ (.slice A109_13 ((rd_T28 t105 x17_2).f5).length c109_13)).heap[gb101]? = some (.cells #[.int .i64 a0_0, .int .i64 a0_1, .int .i64 a0_2, .int .i64 a0_3, .string a0_4, .int .i64 a0_5, .int .i64 a0_6, .bool a0_7, .bool a0_8, .int .i64 a0_9, .int .i64 a0_10, .bool a0_11, .bool a0_12, .slice A0_13 l0_13.length c0_13] 28 (0, 0))) := ⟨by refine pf_ ?_ NB101_110.out; refine blk_far ?_ NB101_110.out _; refine blk_far ?_ NB101_110.out _; refine blk_far ?_ NB101_110.out _; refine blk_far ?_ NB101_110.out _; refine blk_far ?_ NB101_110.out _; refine blk_far ?_ NB101_110.out _; refine blk_far ?_ NB101_110.out _; refine blk_far ?_ NB101_110.out _; refine blk_far ?_ NB101_110.out _; refine blk_far ?_ NB101_110.out _; refine blk_far ?_ NB101_110.out _; refine blk_far ?_ NB101_110.out _; refine blk_far ?_ NB101_110.out _; exact pkx BK101⟩
            have n3_ : Aside0 (((((((((((((((w42.setCell ⟨gb110, 0, none⟩ (.int .i64 ((rd_T28 t105 x17_2).f0))).setCell ⟨gb110, 1, none⟩ (.int .i64 ((rd_T28 t105 x17_2).f1))).setCell ⟨gb110, 2, none⟩ (.int .i64 ((rd_T28 t105 x17_2).f2.f0))).setCell ⟨gb110, 3, none⟩ (.int .i64 ((rd_T28 t105 x17_2).f2.f1))).setCell ⟨gb110, 4, none⟩ (.string ((rd_T28 t105 x17_2).f2.f2))).setCell ⟨gb110, 5, none⟩ (.int .i64 ((rd_T28 t105 x17_2).f3.f0))).setCell ⟨gb110, 6, none⟩ (.int .i64 ((rd_T28 t105 x17_2).f3.f1))).setCell ⟨gb110, 7, none⟩ (.bool ((rd_T28 t105 x17_2).f3.f2))).setCell ⟨gb110, 8, none⟩ (.bool ((rd_T28 t105 x17_2).f3.f3))).setCell ⟨gb110, 9, none⟩ (.int .i64 ((rd_T28 t105 x17_2).f4.f0))).setCell ⟨gb110, 10, none⟩ (.int .i64 ((rd_T28 t105 x17_2).f4.f1))).setCell ⟨gb110, 11, none⟩ (.bool ((rd_T28 t105 x17_2).f4.f2))).setCell ⟨gb110, 12, none⟩ (.bool ((rd_T28 t105 x17_2).f4.f3))).setCell ⟨gb110, 13, none⟩ (.slice A109_13 ((rd_T28 t105 x17_2).f5).length c109_13)).heap[gb110]? = some (.cells #[.int .i64 ((rd_T28 t105 x17_2).f0), .int .i64 ((rd_T28 t105 x17_2).f1), .int .i64 ((rd_T28 t105 x17_2).f2.f0), .int .i64 ((rd_T28 t105 x17_2).f2.f1), .string ((rd_T28 t105 x17_2).f2.f2), .int .i64 ((rd_T28 t105 x17_2).f3.f0), .int .i64 ((rd_T28 t105 x17_2).f3.f1), .bool ((rd_T28 t105 x17_2).f3.f2), .bool ((rd_T28 t105 x17_2).f3.f3), .int .i64 ((rd_T28 t105 x17_2).f4.f0), .int .i64 ((rd_T28 t105 x17_2).f4.f1), .bool ((rd_T28 t105 x17_2).f4.f2), .bool ((rd_T28 t105 x17_2).f4.f3), .slice A109_13 ((rd_T28 t105 x17_2).f5).length c109_13] 28 (0, 0))) := ⟨by refine pp_ (cs := #[.int .i64 ((rd_T28 t105 x17_2).f0), .int .i64 ((rd_T28 t105 x17_2).f1), .int .i64 ((rd_T28 t105 x17_2).f2.f0), .int .i64 ((rd_T28 t105 x17_2).f2.f1), .string ((rd_T28 t105 x17_2).f2.f2), .int .i64 ((rd_T28 t105 x17_2).f3.f0), .int .i64 ((rd_T28 t105 x17_2).f3.f1), .bool ((rd_T28 t105 x17_2).f3.f2), .bool ((rd_T28 t105 x17_2).f3.f3), .int .i64 ((rd_T28 t105 x17_2).f4.f0), .int .i64 ((rd_T28 t105 x17_2).f4.f1), .bool ((rd_T28 t105 x17_2).f4.f2), .bool ((rd_T28 t105 x17_2).f4.f3), .slice none 0 0]) 13 ?_ rfl; refine blk_put (cs := #[.int .i64 ((rd_T28 t105 x17_2).f0), .int .i64 ((rd_T28 t105 x17_2).f1), .int .i64 ((rd_T28 t105 x17_2).f2.f0), .int .i64 ((rd_T28 t105 x17_2).f2.f1), .string ((rd_T28 t105 x17_2).f2.f2), .int .i64 ((rd_T28 t105 x17_2).f3.f0), .int .i64 ((rd_T28 t105 x17_2).f3.f1), .bool ((rd_T28 t105 x17_2).f3.f2), .bool ((rd_T28 t105 x17_2).f3.f3), .int .i64 ((rd_T28 t105 x17_2).f4.f0), .int .i64 ((rd_T28 t105 x17_2).f4.f1), .bool ((rd_T28 t105 x17_2).f4.f2), .bool false, .slice none 0 0]) ?_ 12 _ rfl; refine blk_put (cs := #[.int .i64 ((rd_T28 t105 x17_2).f0), .int .i64 ((rd_T28 t105 x17_2).f1), .int .i64 ((rd_T28 t105 x17_2).f2.f0), .int .i64 ((rd_T28 t105 x17_2).f2.f1), .string ((rd_T28 t105 x17_2).f2.f2), .int .i64 ((rd_T28 t105 x17_2).f3.f0), .int .i64 ((rd_T28 t105 x17_2).f3.f1), .bool ((rd_T28 t105 x17_2).f3.f2), .bool ((rd_T28 t105 x17_2).f3.f3), .int .i64 ((rd_T28 t105 x17_2).f4.f0), .int .i64 ((rd_T28 t105 x17_2).f4.f1), .bool false, .bool false, .slice none 0 0]) ?_ 11 _ rfl; refine blk_put (cs := #[.int .i64 ((rd_T28 t105 x17_2).f0), .int .i64 ((rd_T28 t105 x17_2).f1), .int .i64 ((rd_T28 t105 x17_2).f2.f0), .int .i64 ((rd_T28 t105 x17_2).f2.f1), .string ((rd_T28 t105 x17_2).f2.f2), .int .i64 ((rd_T28 t105 x17_2).f3.f0), .int .i64 ((rd_T28 t105 x17_2).f3.f1), .bool ((rd_T28 t105 x17_2).f3.f2), .bool ((rd_T28 t105 x17_2).f3.f3), .int .i64 ((rd_T28 t105 x17_2).f4.f0), .int .i64 0, .bool false, .bool false, .slice none 0 0]) ?_ 10 _ rfl; refine blk_put (cs := #[.int .i64 ((rd_T28 t105 x17_2).f0), .int .i64 ((rd_T28 t105 x17_2).f1), .int .i64 ((rd_T28 t105 x17_2).f2.f0), .int .i64 ((rd_T28 t105 x17_2).f2.f1), .string ((rd_T28 t105 x17_2).f2.f2), .int .i64 ((rd_T28 t105 x17_2).f3.f0), .int .i64 ((rd_T28 t105 x17_2).f3.f1), .bool ((rd_T28 t105 x17_2).f3.f2), .bool ((rd_T28 t105 x17_2).f3.f3), .int .i64 0, .int .i64 0, .bool false, .bool false, .slice none 0 0]) ?_ 9 _ rfl; refine blk_put (cs := #[.int .i64 ((rd_T28 t105 x17_2).f0), .int .i64 ((rd_T28 t105 x17_2).f1), .int .i64 ((rd_T28 t105 x17_2).f2.f0), .int .i64 ((rd_T28 t105 x17_2).f2.f1), .string ((rd_T28 t105 x17_2).f2.f2), .int .i64 ((rd_T28 t105 x17_2).f3.f0), .int .i64 ((rd_T28 t105 x17_2).f3.f1), .bool ((rd_T28 t105 x17_2).f3.f2), .bool false, .int .i64 0, .int .i64 0, .bool false, .bool false, .slice none 0 0]) ?_ 8 _ rfl; refine blk_put (cs := #[.int .i64 ((rd_T28 t105 x17_2).f0), .int .i64 ((rd_T28 t105 x17_2).f1), .int .i64 ((rd_T28 t105 x17_2).f2.f0), .int .i64 ((rd_T28 t105 x17_2).f2.f1), .string ((rd_T28 t105 x17_2).f2.f2), .int .i64 ((rd_T28 t105 x17_2).f3.f0), .int .i64 ((rd_T28 t105 x17_2).f3.f1), .bool false, .bool false, .int .i64 0, .int .i64 0, .bool false, .bool false, .slice none 0 0]) ?_ 7 _ rfl; refine blk_put (cs := #[.int .i64 ((rd_T28 t105 x17_2).f0), .int .i64 ((rd_T28 t105 x17_2).f1), .int .i64 ((rd_T28 t105 x17_2).f2.f0), .int .i64 ((rd_T28 t105 x17_2).f2.f1), .string ((rd_T28 t105 x17_2).f2.f2), .int .i64 ((rd_T28 t105 x17_2).f3.f0), .int .i64 0, .bool false, .bool false, .int .i64 0, .int .i64 0, .bool false, .bool false, .slice none 0 0]) ?_ 6 _ rfl; refine blk_put (cs := #[.int .i64 ((rd_T28 t105 x17_2).f0), .int .i64 ((rd_T28 t105 x17_2).f1), .int .i64 ((rd_T28 t105 x17_2).f2.f0), .int .i64 ((rd_T28 t105 x17_2).f2.f1), .string ((rd_T28 t105 x17_2).f2.f2), .int .i64 0, .int .i64 0, .bool false, .bool false, .int .i64 0, .int .i64 0, .bool false, .bool false, .slice none 0 0]) ?_ 5 _ rfl; refine blk_put (cs := #[.int .i64 ((rd_T28 t105 x17_2).f0), .int .i64 ((rd_T28 t105 x17_2).f1), .int .i64 ((rd_T28 t105 x17_2).f2.f0), .int .i64 ((rd_T28 t105 x17_2).f2.f1), .string (⟨#[]⟩ : ByteArray), .int .i64 0, .int .i64 0, .bool false, .bool false, .int .i64 0, .int .i64 0, .bool false, .bool false, .slice none 0 0]) ?_ 4 _ rfl; refine pp_ (cs := #[.int .i64 ((rd_T28 t105 x17_2).f0), .int .i64 ((rd_T28 t105 x17_2).f1), .int .i64 ((rd_T28 t105 x17_2).f2.f0), .int .i64 0, .string (⟨#[]⟩ : ByteArray), .int .i64 0, .int .i64 0, .bool false, .bool false, .int .i64 0, .int .i64 0, .bool false, .bool false, .slice none 0 0]) 3 ?_ rfl; refine pp_ (cs := #[.int .i64 ((rd_T28 t105 x17_2).f0), .int .i64 ((rd_T28 t105 x17_2).f1), .int .i64 0, .int .i64 0, .string (⟨#[]⟩ : ByteArray), .int .i64 0, .int .i64 0, .bool false, .bool false, .int .i64 0, .int .i64 0, .bool false, .bool false, .slice none 0 0]) 2 ?_ rfl; refine pp_ (cs := #[.int .i64 ((rd_T28 t105 x17_2).f0), .int .i64 0, .int .i64 0, .int .i64 0, .string (⟨#[]⟩ : ByteArray), .int .i64 0, .int .i64 0, .bool false, .bool false, .int .i64 0, .int .i64 0, .bool false, .bool false, .slice none 0 0]) 1 ?_ rfl; refine pp_ (cs := #[.int .i64 0, .int .i64 0, .int .i64 0, .int .i64 0, .string (⟨#[]⟩ : ByteArray), .int .i64 0, .int .i64 0, .bool false, .bool false, .int .i64 0, .int .i64 0, .bool false, .bool false, .slice none 0 0]) 0 ?_ rfl; exact pkx BK110⟩
            have n4_ : Aside0 (Below w.heap.size w ((((((((((((((w42.setCell ⟨gb110, 0, none⟩ (.int .i64 ((rd_T28 t105 x17_2).f0))).setCell ⟨gb110, 1, none⟩ (.int .i64 ((rd_T28 t105 x17_2).f1))).setCell ⟨gb110, 2, none⟩ (.int .i64 ((rd_T28 t105 x17_2).f2.f0))).setCell ⟨gb110, 3, none⟩ (.int .i64 ((rd_T28 t105 x17_2).f2.f1))).setCell ⟨gb110, 4, none⟩ (.string ((rd_T28 t105 x17_2).f2.f2))).setCell ⟨gb110, 5, none⟩ (.int .i64 ((rd_T28 t105 x17_2).f3.f0))).setCell ⟨gb110, 6, none⟩ (.int .i64 ((rd_T28 t105 x17_2).f3.f1))).setCell ⟨gb110, 7, none⟩ (.bool ((rd_T28 t105 x17_2).f3.f2))).setCell ⟨gb110, 8, none⟩ (.bool ((rd_T28 t105 x17_2).f3.f3))).setCell ⟨gb110, 9, none⟩ (.int .i64 ((rd_T28 t105 x17_2).f4.f0))).setCell ⟨gb110, 10, none⟩ (.int .i64 ((rd_T28 t105 x17_2).f4.f1))).setCell ⟨gb110, 11, none⟩ (.bool ((rd_T28 t105 x17_2).f4.f2))).setCell ⟨gb110, 12, none⟩ (.bool ((rd_T28 t105 x17_2).f4.f3))).setCell ⟨gb110, 13, none⟩ (.slice A109_13 ((rd_T28 t105 x17_2).f5).length c109_13))) := ⟨by repeat (first | (with_reducible first | exact HB.out | apply below_alloc | apply pw_below_drewN | apply below_drew1 | refine below_set ?_ GE101.out | refine below_set ?_ GE110.out) | exact HB.out)⟩; (try clear HO_15); (try clear HL109_13); (try clear BK101); (try clear BK110); (try clear HB); generalize ((((((((((((((w42.setCell ⟨gb110, 0, none⟩ (.int .i64 ((rd_T28 t105 x17_2).f0))).setCell ⟨gb110, 1, none⟩ (.int .i64 ((rd_T28 t105 x17_2).f1))).setCell ⟨gb110, 2, none⟩ (.int .i64 ((rd_T28 t105 x17_2).f2.f0))).setCell ⟨gb110, 3, none⟩ (.int .i64 ((rd_T28 t105 x17_2).f2.f1))).setCell ⟨gb110, 4, none⟩ (.string ((rd_T28 t105 x17_2).f2.f2))).setCell ⟨gb110, 5, none⟩ (.int .i64 ((rd_T28 t105 x17_2).f3.f0))).setCell ⟨gb110, 6, none⟩ (.int .i64 ((rd_T28 t105 x17_2).f3.f1))).setCell ⟨gb110, 7, none⟩ (.bool ((rd_T28 t105 x17_2).f3.f2))).setCell ⟨gb110, 8, none⟩ (.bool ((rd_T28 t105 x17_2).f3.f3))).setCell ⟨gb110, 9, none⟩ (.int .i64 ((rd_T28 t105 x17_2).f4.f0))).setCell ⟨gb110, 10, none⟩ (.int .i64 ((rd_T28 t105 x17_2).f4.f1))).setCell ⟨gb110, 11, none⟩ (.bool ((rd_T28 t105 x17_2).f4.f2))).setCell ⟨gb110, 12, none⟩ (.bool ((rd_T28 t105 x17_2).f4.f3))).setCell ⟨gb110, 13, none⟩ (.slice A109_13 ((rd_T28 t105 x17_2).f5).length c109_13)) = w45 at n0_ n1_ n2_ n3_ n4_ ⊢
            have HO_15 := n0_; have HL109_13 := n1_; have BK101 := n2_; have BK110 := n3_; have HB := n4_; clear n0_ n1_ n2_ n3_ n4_; (try (rw [drewN_self w45]; generalize hq_ : World.drewN w45 _ = w45; have n0_ : Aside0 (Kd.V k28 28 w45 w.heap.size (fun k_ => some k_ ≠ (.slice (some ad109) t105.length co19 : Value).ownBlock ∧ k_ ≠ gb101 ∧ k_ ≠ gb110) (.slice A109_13 ((rd_T28 t105 x17_2).f5).length c109_13) ((rd_T28 t105 x17_2).f5)) := ⟨by rw [← hq_]; exact (by (with_reducible repeat (first | apply Kd.V_alloc | apply Kd.V_drewN | apply Kd.V_drew)); exact HL109_13.out)⟩; have n1_ : Aside0 (Kd.N k28 28 w45 w.heap.size (fun k_ => k_ ≠ gb101 ∧ k_ ≠ gb110) (.slice (some ad109) t105.length co19) t105) := ⟨by rw [← hq_]; exact (by (with_reducible repeat (first | apply Kd.N_alloc | apply Kd.N_drewN | apply Kd.N_drew)); exact HO_15.out)⟩; have n2_ : Aside0 (w45.heap[gb101]? = some (.cells #[.int .i64 a0_0, .int .i64 a0_1, .int .i64 a0_2, .int .i64 a0_3, .string a0_4, .int .i64 a0_5, .int .i64 a0_6, .bool a0_7, .bool a0_8, .int .i64 a0_9, .int .i64 a0_10, .bool a0_11, .bool a0_12, .slice A0_13 l0_13.length c0_13] 28 (0, 0))) := ⟨by rw [← hq_]; exact (pkx BK101)⟩; have n3_ : Aside0 (w45.heap[gb110]? = some (.cells #[.int .i64 ((rd_T28 t105 x17_2).f0), .int .i64 ((rd_T28 t105 x17_2).f1), .int .i64 ((rd_T28 t105 x17_2).f2.f0), .int .i64 ((rd_T28 t105 x17_2).f2.f1), .string ((rd_T28 t105 x17_2).f2.f2), .int .i64 ((rd_T28 t105 x17_2).f3.f0), .int .i64 ((rd_T28 t105 x17_2).f3.f1), .bool ((rd_T28 t105 x17_2).f3.f2), .bool ((rd_T28 t105 x17_2).f3.f3), .int .i64 ((rd_T28 t105 x17_2).f4.f0), .int .i64 ((rd_T28 t105 x17_2).f4.f1), .bool ((rd_T28 t105 x17_2).f4.f2), .bool ((rd_T28 t105 x17_2).f4.f3), .slice A109_13 ((rd_T28 t105 x17_2).f5).length c109_13] 28 (0, 0))) := ⟨by rw [← hq_]; exact (pkx BK110)⟩; have n4_ : Aside0 (Below w.heap.size w w45) := ⟨by rw [← hq_]; exact (pbx HB)⟩; clear HL109_13 HO_15 BK101 BK110 HB hq_; have HL109_13 := n0_; have HO_15 := n1_; have BK101 := n2_; have BK110 := n3_; have HB := n4_; clear n0_ n1_ n2_ n3_ n4_))
            replace HO_15 := Aside0.mk (Kd.N_drew HO_15.out); replace HL109_13 := Aside0.mk (Kd.V_drew HL109_13.out); replace BK101 := Aside0.mk (blk_drew BK101.out); replace BK110 := Aside0.mk (blk_drew BK110.out); replace HB := Aside0.mk (below_drew1 HB.out)
            refine start_ (n:=21) (S := fun w' => w'.cell? ⟨gb110, 0, none⟩ = some (.int .i64 ((rd_T28 t105 x17_2).f0)) ∧ w'.cell? ⟨gb110, 1, none⟩ = some (.int .i64 ((rd_T28 t105 x17_2).f1)) ∧ w'.cell? ⟨gb110, 2, none⟩ = some (.int .i64 ((rd_T28 t105 x17_2).f2.f0)) ∧ w'.cell? ⟨gb110, 3, none⟩ = some (.int .i64 ((rd_T28 t105 x17_2).f2.f1)) ∧ w'.cell? ⟨gb110, 4, none⟩ = some (.string ((rd_T28 t105 x17_2).f2.f2)) ∧ w'.cell? ⟨gb110, 5, none⟩ = some (.int .i64 ((rd_T28 t105 x17_2).f3.f0)) ∧ w'.cell? ⟨gb110, 6, none⟩ = some (.int .i64 ((rd_T28 t105 x17_2).f3.f1)) ∧ w'.cell? ⟨gb110, 7, none⟩ = some (.bool ((rd_T28 t105 x17_2).f3.f2)) ∧ w'.cell? ⟨gb110, 8, none⟩ = some (.bool ((rd_T28 t105 x17_2).f3.f3)) ∧ w'.cell? ⟨gb110, 9, none⟩ = some (.int .i64 ((rd_T28 t105 x17_2).f4.f0)) ∧ w'.cell? ⟨gb110, 10, none⟩ = some (.int .i64 ((rd_T28 t105 x17_2).f4.f1)) ∧ w'.cell? ⟨gb110, 11, none⟩ = some (.bool ((rd_T28 t105 x17_2).f4.f2)) ∧ w'.cell? ⟨gb110, 12, none⟩ = some (.bool ((rd_T28 t105 x17_2).f4.f3)) ∧ w'.cell? ⟨gb110, 13, none⟩ = some (.slice A109_13 ((rd_T28 t105 x17_2).f5).length c109_13) ∧ w'.cell? ⟨gb101, 0, none⟩ = some (.int .i64 a0_0) ∧ w'.cell? ⟨gb101, 1, none⟩ = some (.int .i64 a0_1) ∧ w'.cell? ⟨gb101, 2, none⟩ = some (.int .i64 a0_2) ∧ w'.cell? ⟨gb101, 3, none⟩ = some (.int .i64 a0_3) ∧ w'.cell? ⟨gb101, 4, none⟩ = some (.string a0_4) ∧ w'.cell? ⟨gb101, 5, none⟩ = some (.int .i64 a0_5) ∧ w'.cell? ⟨gb101, 6, none⟩ = some (.int .i64 a0_6) ∧ w'.cell? ⟨gb101, 7, none⟩ = some (.bool a0_7) ∧ w'.cell? ⟨gb101, 8, none⟩ = some (.bool a0_8) ∧ w'.cell? ⟨gb101, 9, none⟩ = some (.int .i64 a0_9) ∧ w'.cell? ⟨gb101, 10, none⟩ = some (.int .i64 a0_10) ∧ w'.cell? ⟨gb101, 11, none⟩ = some (.bool a0_11) ∧ w'.cell? ⟨gb101, 12, none⟩ = some (.bool a0_12) ∧ w'.cell? ⟨gb101, 13, none⟩ = some (.slice A0_13 l0_13.length c0_13)) (ds := []) #[F,F,F,F,F,F,F,F,F,F,F,F,F,F,F,F,F,F,F,F,F] (by kernel_rfl) rfl rfl ⟨bc_ BK110 0 rfl, bc_ BK110 1 rfl, bc_ BK110 2 rfl, bc_ BK110 3 rfl, bc_ BK110 4 rfl, bc_ BK110 5 rfl, bc_ BK110 6 rfl, bc_ BK110 7 rfl, bc_ BK110 8 rfl, bc_ BK110 9 rfl, bc_ BK110 10 rfl, bc_ BK110 11 rfl, bc_ BK110 12 rfl, bc_ BK110 13 rfl, bc_ BK101 0 rfl, bc_ BK101 1 rfl, bc_ BK101 2 rfl, bc_ BK101 3 rfl, bc_ BK101 4 rfl, bc_ BK101 5 rfl, bc_ BK101 6 rfl, bc_ BK101 7 rfl, bc_ BK101 8 rfl, bc_ BK101 9 rfl, bc_ BK101 10 rfl, bc_ BK101 11 rfl, bc_ BK101 12 rfl, bc_ BK101 13 rfl⟩ (fun hHeld => ?_); refine with_tabW oculuslaw22_NodeParts.tab6 oculuslaw22_NodeParts.bits6 (fun HT_ HW_ => ?_)
            generalize w45.drew = w46 at HO_15 HL109_13 BK101 BK110 HB hHeld ⊢; refine take_ (i:=0) (N:=some 22) (v:=?_) (a':=?_) ⟨m_ 21 1⟩ rfl rfl (take_ofW HT_.out HW_.out (by kernel_rfl)) (fun _ _ _ h=>h) (Or.inl ⟨rfl, ?_⟩) hHeld ?_ ?_; rotate_left
            ·rintro w' ⟨s0, s1, s2, s3, s4, s5, s6, s7, s8, s9, s10, s11, s12, s13, s14, s15, s16, s17, s18, s19, s20, s21, s22, s23, s24, s25, s26, s27⟩; go_simp; with_reducible rfl
            rotate_left
            ·simp only [q_, i64_w, i32_w]; rfl
            refine one_ (i:=1) (N:=some 23) ⟨m_ 21 3⟩ rfl rfl (one_of HT_.out (by kernel_rfl)) (by decide) (fun K hK => ?_); refine goes_ Tryd.func13 (by kernel_rfl) rfl #[.agg #[.int .i64 ((rd_T28 t105 x17_2).f0), .int .i64 ((rd_T28 t105 x17_2).f1), .int .i64 ((rd_T28 t105 x17_2).f2.f0), .int .i64 ((rd_T28 t105 x17_2).f2.f1), .string ((rd_T28 t105 x17_2).f2.f2), .int .i64 ((rd_T28 t105 x17_2).f3.f0), .int .i64 ((rd_T28 t105 x17_2).f3.f1), .bool ((rd_T28 t105 x17_2).f3.f2), .bool ((rd_T28 t105 x17_2).f3.f3), .int .i64 ((rd_T28 t105 x17_2).f4.f0), .int .i64 ((rd_T28 t105 x17_2).f4.f1), .bool ((rd_T28 t105 x17_2).f4.f2), .bool ((rd_T28 t105 x17_2).f4.f3), .slice A109_13 ((rd_T28 t105 x17_2).f5).length c109_13]] (by rfl) rfl rfl (by (try simp only [List.map_toArray, List.map_cons, List.map_nil]); first | done | rfl | (simp only [List.length_drop, List.length_take]; rfl)) ?_; with_reducible refine (node_Right.calls k2 ((rd_T28 t105 x17_2).f0) ((rd_T28 t105 x17_2).f1) ((rd_T28 t105 x17_2).f2.f0) ((rd_T28 t105 x17_2).f2.f1) ((rd_T28 t105 x17_2).f2.f2) ((rd_T28 t105 x17_2).f3.f0) ((rd_T28 t105 x17_2).f3.f1) ((rd_T28 t105 x17_2).f3.f2) ((rd_T28 t105 x17_2).f3.f3) ((rd_T28 t105 x17_2).f4.f0) ((rd_T28 t105 x17_2).f4.f1) ((rd_T28 t105 x17_2).f4.f2) ((rd_T28 t105 x17_2).f4.f3) _ _ ((rd_T28 t105 x17_2).f5) true _ (by refine tb_ ?_ hT; repeat' (first | exact pbx HB | exact Below.refl _ _ | assumption | refine below_set ?_ (Aside0.out ?_))) ?side1 ?side2 A23.out).mono ?_
            (case side1 => repeat (first | exact ((Kd.V_reads' (by (with_reducible repeat (first | apply Kd.V_alloc | apply Kd.V_drewN | apply Kd.V_drew)); exact HL109_13.out)).2.2) | (with_reducible refine Kd.C_alloc ?_ _) | (with_reducible refine Kd.C_drewN ?_ _) | (with_reducible refine Kd.C_drew ?_))); (case side2 => exact HC109_13.out); rintro e w47 ⟨rfl, hb⟩; refine ⟨_, rfl, ?_⟩
            replace HO_15 := Aside0.mk (Kd.N_below (by (with_reducible repeat (first | apply Kd.N_alloc | apply Kd.N_drewN | apply Kd.N_drew)); exact HO_15.out) hb); replace HL109_13 := Aside0.mk (Kd.V_below (by (with_reducible repeat (first | apply Kd.V_alloc | apply Kd.V_drewN | apply Kd.V_drew)); exact HL109_13.out) hb); replace BK101 := bb_ BK101 hb; replace BK110 := bb_ BK110 hb; replace HB := bs_ HB hb
            (try clear hb); (try clear hb2); (try clear hk); (try clear hi); refine hK.out _ _ ⟨bc_ BK110 0 rfl, bc_ BK110 1 rfl, bc_ BK110 2 rfl, bc_ BK110 3 rfl, bc_ BK110 4 rfl, bc_ BK110 5 rfl, bc_ BK110 6 rfl, bc_ BK110 7 rfl, bc_ BK110 8 rfl, bc_ BK110 9 rfl, bc_ BK110 10 rfl, bc_ BK110 11 rfl, bc_ BK110 12 rfl, bc_ BK110 13 rfl, bc_ BK101 0 rfl, bc_ BK101 1 rfl, bc_ BK101 2 rfl, bc_ BK101 3 rfl, bc_ BK101 4 rfl, bc_ BK101 5 rfl, bc_ BK101 6 rfl, bc_ BK101 7 rfl, bc_ BK101 8 rfl, bc_ BK101 9 rfl, bc_ BK101 10 rfl, bc_ BK101 11 rfl, bc_ BK101 12 rfl, bc_ BK101 13 rfl⟩ (fun hHeld => ?_); clear hK K; refine norm_ (a':=?_) ?_ ?_; rotate_left
            ·show Act.put _ (some 23) _ = _; simp only [q_, i64_w, i32_w]; rfl
            refine pure_ (i:=2) (N:=some 24) (v:=?_) (a':=?_) ⟨m_ 21 7⟩ rfl rfl (any_of HT_.out (by kernel_rfl)) (fun _ _ _ h=>h) (Or.inl ⟨rfl, ?_⟩) ?_ ?_; rotate_left
            ·intro w'; go_simp; with_reducible rfl
            rotate_left
            ·simp only [q_, i64_w, i32_w]; rfl
            refine pure_ (i:=3) (N:=some 25) (v:=?_) (a':=?_) ⟨m_ 21 15⟩ rfl rfl (any_of HT_.out (by kernel_rfl)) (fun _ _ _ h=>h) (Or.inl ⟨rfl, ?_⟩) ?_ ?_; rotate_left
            ·intro w'; go_simp; with_reducible rfl
            rotate_left
            ·simp only [q_, i64_w, i32_w]; rfl
            refine take_ (i:=4) (N:=some 26) (v:=?_) (a':=?_) ⟨m_ 21 31⟩ rfl rfl (take_ofW HT_.out HW_.out (by kernel_rfl)) (fun _ _ _ h=>h) (Or.inl ⟨rfl, ?_⟩) hHeld ?_ ?_; rotate_left
            ·rintro w' ⟨s0, s1, s2, s3, s4, s5, s6, s7, s8, s9, s10, s11, s12, s13, s14, s15, s16, s17, s18, s19, s20, s21, s22, s23, s24, s25, s26, s27⟩; go_simp; with_reducible rfl
            rotate_left
            ·simp only [q_, i64_w, i32_w]; rfl
            refine take_ (i:=6) (N:=some 28) (v:=?_) (a':=?_) ⟨m_ 21 95⟩ rfl rfl (take_ofW HT_.out HW_.out (by kernel_rfl)) (fun _ _ _ h=>h) (Or.inl ⟨rfl, ?_⟩) hHeld ?_ ?_; rotate_left
            ·rintro w' ⟨s0, s1, s2, s3, s4, s5, s6, s7, s8, s9, s10, s11, s12, s13, s14, s15, s16, s17, s18, s19, s20, s21, s22, s23, s24, s25, s26, s27⟩; go_simp; with_reducible rfl
            rotate_left
            ·simp only [q_, i64_w, i32_w]; rfl
            refine one_ (i:=5) (N:=some 27) ⟨m_ 21 127⟩ rfl rfl (one_of HT_.out (by kernel_rfl)) (by decide) (fun K hK => ?_); refine goes_ Tryd.func11 (by kernel_rfl) rfl #[.agg #[.int .i64 ((rd_T28 t105 x17_2).f0), .int .i64 ((rd_T28 t105 x17_2).f1), .int .i64 ((rd_T28 t105 x17_2).f2.f0), .int .i64 ((rd_T28 t105 x17_2).f2.f1), .string ((rd_T28 t105 x17_2).f2.f2), .int .i64 ((rd_T28 t105 x17_2).f3.f0), .int .i64 ((rd_T28 t105 x17_2).f3.f1), .bool ((rd_T28 t105 x17_2).f3.f2), .bool ((rd_T28 t105 x17_2).f3.f3), .int .i64 ((rd_T28 t105 x17_2).f4.f0), .int .i64 ((rd_T28 t105 x17_2).f4.f1), .bool ((rd_T28 t105 x17_2).f4.f2), .bool ((rd_T28 t105 x17_2).f4.f3), .slice A109_13 ((rd_T28 t105 x17_2).f5).length c109_13]] (by rfl) rfl rfl (by (try simp only [List.map_toArray, List.map_cons, List.map_nil]); first | done | rfl | (simp only [List.length_drop, List.length_take]; rfl)) ?_; with_reducible refine (node_Deep.calls k2 ((rd_T28 t105 x17_2).f0) ((rd_T28 t105 x17_2).f1) ((rd_T28 t105 x17_2).f2.f0) ((rd_T28 t105 x17_2).f2.f1) ((rd_T28 t105 x17_2).f2.f2) ((rd_T28 t105 x17_2).f3.f0) ((rd_T28 t105 x17_2).f3.f1) ((rd_T28 t105 x17_2).f3.f2) ((rd_T28 t105 x17_2).f3.f3) ((rd_T28 t105 x17_2).f4.f0) ((rd_T28 t105 x17_2).f4.f1) ((rd_T28 t105 x17_2).f4.f2) ((rd_T28 t105 x17_2).f4.f3) _ _ ((rd_T28 t105 x17_2).f5) t112 _ ?side1 ?side2 A25.out).mono ?_; (case side1 => repeat (first | exact ((Kd.V_reads' (by (with_reducible repeat (first | apply Kd.V_alloc | apply Kd.V_drewN | apply Kd.V_drew)); exact HL109_13.out)).2.2) | (with_reducible refine Kd.C_alloc ?_ _) | (with_reducible refine Kd.C_drewN ?_ _) | (with_reducible refine Kd.C_drew ?_)))
            (case side2 => exact HC109_13.out); rintro e w48 ⟨rfl, hb⟩; refine ⟨_, rfl, ?_⟩
            replace HO_15 := Aside0.mk (Kd.N_below (by (with_reducible repeat (first | apply Kd.N_alloc | apply Kd.N_drewN | apply Kd.N_drew)); exact HO_15.out) hb); replace HL109_13 := Aside0.mk (Kd.V_below (by (with_reducible repeat (first | apply Kd.V_alloc | apply Kd.V_drewN | apply Kd.V_drew)); exact HL109_13.out) hb); replace BK101 := bb_ BK101 hb; replace BK110 := bb_ BK110 hb; replace HB := bs_ HB hb
            (try clear hb); (try clear hb2); (try clear hk); (try clear hi); refine hK.out _ _ ⟨bc_ BK110 0 rfl, bc_ BK110 1 rfl, bc_ BK110 2 rfl, bc_ BK110 3 rfl, bc_ BK110 4 rfl, bc_ BK110 5 rfl, bc_ BK110 6 rfl, bc_ BK110 7 rfl, bc_ BK110 8 rfl, bc_ BK110 9 rfl, bc_ BK110 10 rfl, bc_ BK110 11 rfl, bc_ BK110 12 rfl, bc_ BK110 13 rfl, bc_ BK101 0 rfl, bc_ BK101 1 rfl, bc_ BK101 2 rfl, bc_ BK101 3 rfl, bc_ BK101 4 rfl, bc_ BK101 5 rfl, bc_ BK101 6 rfl, bc_ BK101 7 rfl, bc_ BK101 8 rfl, bc_ BK101 9 rfl, bc_ BK101 10 rfl, bc_ BK101 11 rfl, bc_ BK101 12 rfl, bc_ BK101 13 rfl⟩ (fun hHeld => ?_); clear hK K; refine norm_ (a':=?_) ?_ ?_; rotate_left
            ·show Act.put _ (some 27) _ = _; simp only [q_, i64_w, i32_w]; rfl
            refine one_ (i:=7) (N:=some 29) ⟨m_ 21 255⟩ rfl rfl (one_of HT_.out (by kernel_rfl)) (by decide) (fun K hK => ?_); refine goes_ Tryd.func11 (by kernel_rfl) rfl #[.agg #[.int .i64 a0_0, .int .i64 a0_1, .int .i64 a0_2, .int .i64 a0_3, .string a0_4, .int .i64 a0_5, .int .i64 a0_6, .bool a0_7, .bool a0_8, .int .i64 a0_9, .int .i64 a0_10, .bool a0_11, .bool a0_12, .slice A0_13 l0_13.length c0_13]] (by rfl) rfl rfl (by (try simp only [List.map_toArray, List.map_cons, List.map_nil]); first | done | rfl | (simp only [List.length_drop, List.length_take]; rfl)) ?_; with_reducible refine (node_Deep.calls k2 a0_0 a0_1 a0_2 a0_3 a0_4 a0_5 a0_6 a0_7 a0_8 a0_9 a0_10 a0_11 a0_12 _ _ l0_13 t113 _ ?side1 ?side2 A26.out).mono ?_; (case side1 => repeat (first | exact (Kd.C_below HR0_13.out HB.out) | (with_reducible refine Kd.C_alloc ?_ _) | (with_reducible refine Kd.C_drewN ?_ _) | (with_reducible refine Kd.C_drew ?_))); (case side2 => exact HC0_13.out); rintro e w49 ⟨rfl, hb⟩; refine ⟨_, rfl, ?_⟩
            replace HO_15 := Aside0.mk (Kd.N_below (by (with_reducible repeat (first | apply Kd.N_alloc | apply Kd.N_drewN | apply Kd.N_drew)); exact HO_15.out) hb); replace HL109_13 := Aside0.mk (Kd.V_below (by (with_reducible repeat (first | apply Kd.V_alloc | apply Kd.V_drewN | apply Kd.V_drew)); exact HL109_13.out) hb); replace BK101 := bb_ BK101 hb; replace BK110 := bb_ BK110 hb; replace HB := bs_ HB hb
            (try clear hb); (try clear hb2); (try clear hk); (try clear hi); refine hK.out _ _ ⟨bc_ BK110 0 rfl, bc_ BK110 1 rfl, bc_ BK110 2 rfl, bc_ BK110 3 rfl, bc_ BK110 4 rfl, bc_ BK110 5 rfl, bc_ BK110 6 rfl, bc_ BK110 7 rfl, bc_ BK110 8 rfl, bc_ BK110 9 rfl, bc_ BK110 10 rfl, bc_ BK110 11 rfl, bc_ BK110 12 rfl, bc_ BK110 13 rfl, bc_ BK101 0 rfl, bc_ BK101 1 rfl, bc_ BK101 2 rfl, bc_ BK101 3 rfl, bc_ BK101 4 rfl, bc_ BK101 5 rfl, bc_ BK101 6 rfl, bc_ BK101 7 rfl, bc_ BK101 8 rfl, bc_ BK101 9 rfl, bc_ BK101 10 rfl, bc_ BK101 11 rfl, bc_ BK101 12 rfl, bc_ BK101 13 rfl⟩ (fun hHeld => ?_); clear hK K; refine norm_ (a':=?_) ?_ ?_; rotate_left
            ·show Act.put _ (some 29) _ = _; simp only [q_, i64_w, i32_w]; rfl
            refine pure_ (i:=8) (N:=some 30) (v:=?_) (a':=?_) ⟨m_ 21 511⟩ rfl rfl (any_of HT_.out (by kernel_rfl)) (fun _ _ _ h=>h) (Or.inl ⟨rfl, ?_⟩) ?_ ?_; rotate_left
            ·intro w'; go_simp; with_reducible rfl
            rotate_left
            ·simp only [q_, i64_w, i32_w]; rfl
            refine pure_ (i:=9) (N:=some 31) (v:=?_) (a':=?_) ⟨m_ 21 1023⟩ rfl rfl (any_of HT_.out (by kernel_rfl)) (fun _ _ _ h=>h) (Or.inl ⟨rfl, ?_⟩) ?_ ?_; rotate_left
            ·intro w'; go_simp; with_reducible rfl
            rotate_left
            ·simp only [q_, i64_w, i32_w]; rfl
            refine pure_ (i:=10) (N:=some 32) (v:=?_) (a':=?_) ⟨m_ 21 2047⟩ rfl rfl (any_of HT_.out (by kernel_rfl)) (fun _ _ _ h=>h) (Or.inl ⟨rfl, ?_⟩) ?_ ?_; rotate_left
            ·intro w'; go_simp; with_reducible rfl
            rotate_left
            ·simp only [q_, i64_w, i32_w]; rfl
            refine pure_ (i:=11) (N:=some 33) (v:=?_) (a':=?_) ⟨m_ 21 4095⟩ rfl rfl (any_of HT_.out (by kernel_rfl)) (fun _ _ _ h=>h) (Or.inl ⟨rfl, ?_⟩) ?_ ?_; rotate_left
            ·intro w'; go_simp; with_reducible rfl
            rotate_left
            ·simp only [q_, i64_w, i32_w]; rfl
            refine pure_ (i:=12) (N:=some 34) (v:=?_) (a':=?_) ⟨m_ 21 8191⟩ rfl rfl (any_of HT_.out (by kernel_rfl)) (fun _ _ _ h=>h) (Or.inl ⟨rfl, ?_⟩) ?_ ?_; rotate_left
            ·intro w'; go_simp; with_reducible rfl
            rotate_left
            ·simp only [q_, i64_w, i32_w]; rfl
            refine pure_ (i:=13) (N:=some 35) (v:=?_) (a':=?_) ⟨m_ 21 16383⟩ rfl rfl (any_of HT_.out (by kernel_rfl)) (fun _ _ _ h=>h) (Or.inl ⟨rfl, ?_⟩) ?_ ?_; rotate_left
            ·intro w'; go_simp; with_reducible rfl
            rotate_left
            ·simp only [q_, i64_w, i32_w]; rfl
            refine pure_ (i:=14) (N:=some 36) (v:=undef) (a':=?_) ⟨m_ 21 32767⟩ rfl rfl (any_of HT_.out (by kernel_rfl)) (fun _ _ _ h=>h) (Or.inr ⟨by rfl, rfl⟩) ?_ ?_; rotate_left
            ·simp only [q_, i64_w, i32_w]; rfl
            refine pure_ (i:=15) (N:=some 37) (v:=undef) (a':=?_) ⟨m_ 21 65535⟩ rfl rfl (any_of HT_.out (by kernel_rfl)) (fun _ _ _ h=>h) (Or.inr ⟨by rfl, rfl⟩) ?_ ?_; rotate_left
            ·simp only [q_, i64_w, i32_w]; rfl
            refine pure_ (i:=16) (N:=some 38) (v:=undef) (a':=?_) ⟨m_ 21 131071⟩ rfl rfl (any_of HT_.out (by kernel_rfl)) (fun _ _ _ h=>h) (Or.inr ⟨by rfl, rfl⟩) ?_ ?_; rotate_left
            ·simp only [q_, i64_w, i32_w]; rfl
            refine pure_ (i:=17) (N:=some 39) (v:=undef) (a':=?_) ⟨m_ 21 262143⟩ rfl rfl (any_of HT_.out (by kernel_rfl)) (fun _ _ _ h=>h) (Or.inr ⟨by rfl, rfl⟩) ?_ ?_; rotate_left
            ·simp only [q_, i64_w, i32_w]; rfl
            refine pure_ (i:=18) (N:=some 40) (v:=undef) (a':=?_) ⟨m_ 21 524287⟩ rfl rfl (any_of HT_.out (by kernel_rfl)) (fun _ _ _ h=>h) (Or.inr ⟨by rfl, rfl⟩) ?_ ?_; rotate_left
            ·simp only [q_, i64_w, i32_w]; rfl
            refine pure_ (i:=19) (N:=some 41) (v:=?_) (a':=?_) ⟨m_ 21 1048575⟩ rfl rfl (any_of HT_.out (by kernel_rfl)) (fun _ _ _ h=>h) (Or.inl ⟨rfl, ?_⟩) ?_ ?_; rotate_left
            ·intro w'; go_simp; with_reducible rfl
            rotate_left
            ·simp only [q_, i64_w, i32_w]; rfl
            refine pure_ (i:=20) (N:=some 42) (v:=?_) (a':=?_) ⟨m_ 21 2097151⟩ rfl rfl (any_of HT_.out (by kernel_rfl)) (fun _ _ _ h=>h) (Or.inl ⟨rfl, ?_⟩) ?_ ?_; rotate_left
            ·intro w'; go_simp; with_reducible rfl
            rotate_left
            ·simp only [q_, i64_w, i32_w]; rfl
            refine done_ (done_of HT_.out (by kernel_rfl)) ?_
            try go_wp2
            go_roundg k2
            case measure => have := HJ1.out; have := HK2.out; omega
            case rel => exact ⟨(wrap64 (x17_2 + 1)), (by first | rfl | (simp; done) | (simp [*]; done)), H', ⟨by have := HJ1.out; have := HK2.out; omega⟩, ⟨by (with_reducible repeat (first | apply Kd.N_alloc | apply Kd.N_drewN | apply Kd.N_drew)); exact Kd.N_mono HO_15.out (fun _ hk => hk.1)⟩, ⟨pkx BK101⟩, ⟨pbx HB⟩⟩
         ·replace c24 := Bool.eq_false_iff.mpr c24; subst c24
          have H1 : (none) = some r := by rw [if_neg (show ¬ (false = true) by decide)] at H; exact H
          clear H; have H := H1; clear H1
          exact absurd H (by simp)
        ·rw [if_neg c22] at H
         exact absurd H (by simp)
       ·rw [if_neg c21] at H
        exact absurd H (by simp)
      ·rw [if_neg c20] at H; have c20b0 : decide (x17_2 < (t105.length : Int)) = false := decide_eq_false c20; clear c20; replace H := Option.bind_eq_some_iff.mp H; obtain ⟨t108, A500, H⟩ := H
       replace H : (some t108) = some r := H
       have A50 := Aside0.mk A500; clear A500; obtain rfl := Option.some.inj H
       go_wp2_with (first | ((with_reducible refine gate_callee (f:=7) rfl ?_); refine gL_ (some 44) rfl rfl Tryd.func7 rfl #[] rfl ?_; (with_reducible refine (oculuslaw22_alive.calls k2  t108 _ (by refine tb_ ?_ hT; repeat' (first | exact pbx HB | exact Below.refl _ _ | assumption | refine below_set ?_ (Aside0.out ?_))) A50.out).mono ?_); rintro e w51 ⟨rfl, hb⟩; refine ⟨_, rfl, ?_⟩; replace HO_15 := Aside0.mk (Kd.N_below (by (with_reducible repeat (first | apply Kd.N_alloc | apply Kd.N_drewN | apply Kd.N_drew)); exact HO_15.out) hb); replace BK101 := bb_ BK101 hb; replace HB := bs_ HB hb; (try clear hb); (try clear hb2); (try clear hk); (try clear hi)))
       go_ret
       exact ⟨by first | rfl | (simp [errW_none, errW_some] <;> rfl) | (simp [*, errW_none, errW_some] <;> rfl), pbx HB⟩

end Go.Proofs.YtdddhabemdbooaaDoor.X
/- A general opening of a row's arguments: what a value of a type reads as, as a term of a kind 'Kd', with the bounds that the row's reach gives. -/
set_option linter.unusedVariables false
set_option linter.unusedSimpArgs false
namespace Go.Proofs.YtdddhabemdbooaaDoor.Opn
open Go.ChangeShapes Go.WideShapes Go.RowKit Go.Proofs.YtdddhabemdbooaaDoorW.PrintWords

def Opens {α : Type} (P : Program) (t : TypeId) (d : Kd α) (good : α → Prop) : Prop :=
  ∀ {H : Type} {enc : TypeId × Value → H} {w : World} {base : Nat} {spare : Nat → Bool} {held : Bool} {fuel : Nat} {cs : List Value} {x : DataW H × List MemPlace},
    DataW.trod enc P w base spare held fuel t cs = some x → (∀ m ∈ x.1.weights P t, m ≤ reachBytes) → ∃ a, d.K w a cs ∧ good a

theorem opens_int {P : Program} {t : TypeId} {k : IntKind} (ht : P.underlying t = some (.int k)) : Opens P t (Kd.int k) (fun n => (Lit.int k n).wf = true) := by
  intro H enc w base spare held fuel cs x hx _
  obtain ⟨n, rfl, rfl, hn⟩ := DataW.trod_int ht hx
  exact ⟨n, rfl, hn⟩
theorem opens_bool {P : Program} {t : TypeId} (ht : P.underlying t = some .bool) : Opens P t Kd.bool (fun _ => True) := by
  intro H enc w base spare held fuel cs x hx _
  obtain ⟨n, rfl, rfl⟩ := DataW.trod_bool ht hx
  exact ⟨n, rfl, trivial⟩
theorem opens_string {P : Program} {t : TypeId} (ht : P.underlying t = some .string) : Opens P t Kd.string (fun s => s.size ≤ reachBytes) := by
  intro H enc w base spare held fuel cs x hx hw
  obtain ⟨s, rfl, rfl, _⟩ := DataW.trod_string ht hx
  refine ⟨s, rfl, ?_⟩
  have := hw s.data.toList.length (by simp [DataW.weights])
  simpa using this

theorem weightsAll_mem {H : Type} {P : Program} {e : TypeId} : ∀ {l : List (DataW H)} {d : DataW H}, d ∈ l → ∀ m ∈ d.weights P e, m ∈ DataW.weightsAll P e l
  | d0 :: l, d, hd, m, hm => by
    simp only [DataW.weightsAll, List.mem_append]
    rcases List.mem_cons.1 hd with rfl | hd
    · exact Or.inl hm
    · exact Or.inr (weightsAll_mem hd m hm)
  | [], _, hd, _, _ => by simp at hd

def OpensTail {α : Type} (P : Program) (fs : List Field) (o len : Nat) (d : Kd α) (good : α → Prop) : Prop :=
  ∀ {H : Type} {enc : TypeId × Value → H} {w : World} {base : Nat} {spare : Nat → Bool} {held : Bool} {n : Nat} {cs : List Value} {xs : List (DataW H × List MemPlace)},
    cs.length = len → xs.length = fs.length →
    (∀ (i : Nat) (f : Field), fs[i]? = some f → DataW.trod enc P w base spare held n f.type ((cs.drop f.offset).take (P.cellsOf f.type)) = xs[i]?) →
    (∀ m ∈ DataW.weightsEach P (fs.map (·.type)) (xs.map (·.1)), m ≤ reachBytes) → ∃ a, d.K w a (cs.drop o) ∧ good a

theorem tail_one {α : Type} {P : Program} {f : Field} {o len : Nat} {d : Kd α} {good : α → Prop} (ho : f.offset = o) (hl : len ≤ o + P.cellsOf f.type) (h : Opens P f.type d good) : OpensTail P [f] o len d good := by
  intro H enc w base spare held n cs xs hcs hxs hall hw
  obtain ⟨x, rfl⟩ : ∃ x, xs = [x] := by
    match xs, hxs with
    | [x], _ => exact ⟨x, rfl⟩
  have h0 := hall 0 f rfl
  rw [ho, List.take_of_length_le (by rw [List.length_drop]; omega)] at h0
  exact h h0 (fun m hm => hw m (by simp only [List.map_cons, List.map_nil, DataW.weightsEach, List.mem_append]; exact Or.inl hm))
theorem tail_cons {α β : Type} {P : Program} {f : Field} {fs : List Field} {o o' len : Nat} {a : Kd α} {b : Kd β} {ga : α → Prop} {gb : β → Prop} (ho : f.offset = o) (ho' : o' = o + P.cellsOf f.type)
    (h : Opens P f.type a ga) (ht : OpensTail P fs o' len b gb) : OpensTail P (f :: fs) o len (Kd.pair a b) (fun x => ga x.1 ∧ gb x.2) := by
  intro H enc w base spare held n cs xs hcs hxs hall hw
  obtain ⟨x, xs, rfl⟩ : ∃ x r, xs = x :: r := by
    match xs, hxs with
    | x :: r, _ => exact ⟨x, r, rfl⟩
  have h0 := hall 0 f rfl
  rw [ho] at h0
  obtain ⟨y, hy, hgy⟩ := h h0 (fun m hm => hw m (by simp only [List.map_cons, DataW.weightsEach, List.mem_append]; exact Or.inl hm))
  obtain ⟨z, hz, hgz⟩ := ht (xs := xs) hcs (by simpa using hxs) (fun i g hg => by simpa using hall (i + 1) g (by simpa using hg))
    (fun m hm => hw m (by simp only [List.map_cons, DataW.weightsEach, List.mem_append]; exact Or.inr hm))
  refine ⟨(y, z), ⟨(cs.drop o).take (P.cellsOf f.type), cs.drop o', ?_, hy, hz⟩, hgy, hgz⟩
  rw [ho', ← List.drop_drop, List.take_append_drop]
theorem opens_struct {α β : Type} {P : Program} {t : TypeId} {fs : Array Field} {len : Nat} {d : Kd α} {good : α → Prop} (ht : P.underlying t = some (.struct fs)) (hl : P.cellsOf t = len) (h : OpensTail P fs.toList 0 len d good) (f : β → α) (g : α → β) (hfg : ∀ a, f (g a) = a) :
    Opens P t (Kd.iso d f) (fun x => good (f x)) := by
  intro H enc w base spare held fuel cs x hx hw
  obtain ⟨xs, n, rfl, rfl, hcs, hxs, hall⟩ := DataW.trod_struct ht hx
  obtain ⟨a, ha, hga⟩ := h (xs := xs) (hcs.trans hl) (by simpa using hxs) (fun i f hf => hall i f (by simpa using hf)) (fun m hm => hw m (by simp only [DataW.weights, ht]; exact hm))
  refine ⟨g a, ?_, by show good (f (g a)); rw [hfg]; exact hga⟩
  show d.K w (f (g a)) cs
  rw [hfg]
  simpa using ha
theorem Opens.iso {α β : Type} {P : Program} {t : TypeId} {d : Kd α} {good : α → Prop} (h : Opens P t d good) (f : β → α) (g : α → β) (hfg : ∀ a, f (g a) = a) : Opens P t (Kd.iso d f) (fun x => good (f x)) := by
  intro H enc w base spare held fuel cs x hx hw
  obtain ⟨a, ha, hga⟩ := h hx hw
  refine ⟨g a, ?_, by show good (f (g a)); rw [hfg]; exact hga⟩
  show d.K w (f (g a)) cs
  rw [hfg]
  exact ha
end Go.Proofs.YtdddhabemdbooaaDoor.Opn
/- The opening of a type that leads back into itself (a tree): by the datum's size. -/
set_option linter.unusedVariables false
set_option linter.unusedSimpArgs false
namespace Go.Proofs.YtdddhabemdbooaaDoor.Opn
open Go.ChangeShapes Go.WideShapes Go.RowKit Go.Proofs.YtdddhabemdbooaaDoorW.PrintWords
def OpensS {α : Type} (S : Nat) (P : Program) (t : TypeId) (d : Kd α) (good : α → Prop) : Prop :=
  ∀ {H : Type} {enc : TypeId × Value → H} {w : World} {base : Nat} {spare : Nat → Bool} {held : Bool} {fuel : Nat} {cs : List Value} {x : DataW H × List MemPlace},
    SizeOf.sizeOf x.1 < S → DataW.trod enc P w base spare held fuel t cs = some x → (∀ m ∈ x.1.weights P t, m ≤ reachBytes) → ∃ a, d.K w a cs ∧ good a
theorem Opens.toS {α : Type} {P : Program} {t : TypeId} {d : Kd α} {good : α → Prop} (h : Opens P t d good) (S : Nat) : OpensS S P t d good := fun _ hx hw => h hx hw
theorem OpensS.to {α : Type} {P : Program} {t : TypeId} {d : Kd α} {good : α → Prop} (h : ∀ S, OpensS S P t d good) : Opens P t d good := fun hx hw => h _ (Nat.lt_succ_self _) hx hw
theorem opensS_slice {α : Type} {S : Nat} {P : Program} {t e : TypeId} {d : Kd α} {good : α → Prop} (ht : P.underlying t = some (.slice e)) (hc : P.cellsOf e = d.sz) {B : Nat} (hB : P.bytesOf e = B) (z : α) (h : OpensS S P e d good) :
    OpensS S P t (Kd.slice e d) (fun xs => (∀ x ∈ xs, good x) ∧ xs.length * B ≤ reachBytes) := by
  intro H enc w base spare held fuel cs x hsz hx hw
  rcases Go.Deep.open_slice ht hx with ⟨rfl, rfl⟩ | ⟨a, len, cap, m, n, D, Pl, rfl, hb, hl, hm, hmm, rfl, hel⟩
  · exact ⟨[], ⟨none, 0, rfl, Nat.le_refl _, rfl, by simp, fun h0 => absurd h0 (by simp)⟩, by simp, by simp⟩
  · have hlm : len ≤ m := by rw [hmm]; split <;> omega
    have hmx : len ≤ 9223372036854775807 := by unfold maxLen at hm; omega
    have hs' : ∀ i, i < len → SizeOf.sizeOf (D i) < S := by
      intro i hi
      have h1 := List.sizeOf_lt_of_mem (show D i ∈ (List.range len).map D from List.mem_map.2 ⟨i, List.mem_range.2 hi, rfl⟩)
      simp only [DataW.slice.sizeOf_spec] at hsz
      omega
    have hw' : ∀ i, i < len → ∀ q ∈ (D i).weights P e, q ≤ reachBytes := by
      intro i hi q hq
      refine hw q ?_
      simp only [DataW.weights, ht]
      refine List.mem_cons_of_mem _ (List.mem_append.2 (Or.inl ?_))
      exact weightsAll_mem (d := D i) (List.mem_map.2 ⟨i, List.mem_range.2 hi, rfl⟩) q hq
    have hB' : len * B ≤ reachBytes := by
      have h0 := hw ((((List.range len).map D).length + ((List.range (m - len)).map fun j => D (len + j)).length) * P.bytesOf e) (by simp only [DataW.weights, ht]; exact List.mem_cons_self ..)
      rw [hB] at h0
      simp only [List.length_map, List.length_range] at h0
      exact Nat.le_trans (Nat.mul_le_mul_right B (by omega)) h0
    have key : ∀ i, i < len → ∃ y : α × List Value, d.K w y.1 y.2 ∧ good y.1 ∧ w.cells? base (a.add (i * P.cellsOf e)) (P.cellsOf e) = some y.2 := by
      intro i hi
      obtain ⟨cs', h1, h2⟩ := hel i (by omega)
      obtain ⟨y, h3, h4⟩ := h (hs' i hi) h2 (hw' i hi)
      exact ⟨(y, cs'), h3, h4, h1⟩
    haveI : Inhabited (α × List Value) := ⟨(z, [])⟩
    obtain ⟨F, hF⟩ := Go.Deep.choose_lt key
    refine ⟨(List.range len).map fun i => (F i).1, ⟨some a, cap, by simp, by simpa using hl, by simp, by simpa using hmx, fun h0 => ⟨a, rfl, ?_⟩⟩, ?_, by simpa using hB'⟩
    · intro j p hj
      have hjl : j < len := by
        have := (List.getElem?_eq_some_iff.1 hj).1
        simpa using this
      have hp : p = (F j).1 := by
        rw [List.getElem?_map, List.getElem?_range hjl] at hj
        simpa using hj.symm
      subst hp
      obtain ⟨h1, h2, h3⟩ := hF j hjl
      obtain ⟨_, hlen, hcell⟩ := World.cells?_some h3
      refine ⟨(F j).2, by rw [hlen, hc], h1, fun i u hu => ?_⟩
      have hi : i < P.cellsOf e := by
        have := (List.getElem?_eq_some_iff.1 hu).1
        omega
      have := hcell i hi
      rw [Go.Deep.add_add] at this
      rw [← hc, this, hu]
    · intro x hx
      obtain ⟨i, hi, rfl⟩ := List.mem_map.1 hx
      exact (hF i (List.mem_range.1 hi)).2.1
def OpensTailS {α : Type} (S : Nat) (P : Program) (fs : List Field) (o len : Nat) (d : Kd α) (good : α → Prop) : Prop :=
  ∀ {H : Type} {enc : TypeId × Value → H} {w : World} {base : Nat} {spare : Nat → Bool} {held : Bool} {n : Nat} {cs : List Value} {xs : List (DataW H × List MemPlace)},
    (∀ y ∈ xs, SizeOf.sizeOf y.1 < S) → cs.length = len → xs.length = fs.length →
    (∀ (i : Nat) (f : Field), fs[i]? = some f → DataW.trod enc P w base spare held n f.type ((cs.drop f.offset).take (P.cellsOf f.type)) = xs[i]?) →
    (∀ m ∈ DataW.weightsEach P (fs.map (·.type)) (xs.map (·.1)), m ≤ reachBytes) → ∃ a, d.K w a (cs.drop o) ∧ good a
theorem tailS_one {α : Type} {S : Nat} {P : Program} {f : Field} {o len : Nat} {d : Kd α} {good : α → Prop} (ho : f.offset = o) (hl : len ≤ o + P.cellsOf f.type) (h : OpensS S P f.type d good) : OpensTailS S P [f] o len d good := by
  intro H enc w base spare held n cs xs hsz hcs hxs hall hw
  obtain ⟨x, rfl⟩ : ∃ x, xs = [x] := by
    match xs, hxs with
    | [x], _ => exact ⟨x, rfl⟩
  have h0 := hall 0 f rfl
  rw [ho, List.take_of_length_le (by rw [List.length_drop]; omega)] at h0
  exact h (hsz x (by simp)) h0 (fun m hm => hw m (by simp only [List.map_cons, List.map_nil, DataW.weightsEach, List.mem_append]; exact Or.inl hm))
theorem tailS_cons {α β : Type} {S : Nat} {P : Program} {f : Field} {fs : List Field} {o o' len : Nat} {a : Kd α} {b : Kd β} {ga : α → Prop} {gb : β → Prop} (ho : f.offset = o) (ho' : o' = o + P.cellsOf f.type)
    (h : OpensS S P f.type a ga) (ht : OpensTailS S P fs o' len b gb) : OpensTailS S P (f :: fs) o len (Kd.pair a b) (fun x => ga x.1 ∧ gb x.2) := by
  intro H enc w base spare held n cs xs hsz hcs hxs hall hw
  obtain ⟨x, xs, rfl⟩ : ∃ x r, xs = x :: r := by
    match xs, hxs with
    | x :: r, _ => exact ⟨x, r, rfl⟩
  have h0 := hall 0 f rfl
  rw [ho] at h0
  obtain ⟨y, hy, hgy⟩ := h (hsz x (by simp)) h0 (fun m hm => hw m (by simp only [List.map_cons, DataW.weightsEach, List.mem_append]; exact Or.inl hm))
  obtain ⟨z, hz, hgz⟩ := ht (xs := xs) (fun y hy => hsz y (by simp [hy])) hcs (by simpa using hxs) (fun i g hg => by simpa using hall (i + 1) g (by simpa using hg))
    (fun m hm => hw m (by simp only [List.map_cons, DataW.weightsEach, List.mem_append]; exact Or.inr hm))
  refine ⟨(y, z), ⟨(cs.drop o).take (P.cellsOf f.type), cs.drop o', ?_, hy, hz⟩, hgy, hgz⟩
  rw [ho', ← List.drop_drop, List.take_append_drop]
theorem opensS_struct {α β : Type} {S : Nat} {P : Program} {t : TypeId} {fs : Array Field} {len : Nat} {d : Kd α} {good : α → Prop} (ht : P.underlying t = some (.struct fs)) (hl : P.cellsOf t = len) (h : OpensTailS S P fs.toList 0 len d good) (f : β → α) (g : α → β) (hfg : ∀ a, f (g a) = a) :
    OpensS (S + 1) P t (Kd.iso d f) (fun x => good (f x)) := by
  intro H enc w base spare held fuel cs x hsz hx hw
  obtain ⟨xs, n, rfl, rfl, hcs, hxs, hall⟩ := DataW.trod_struct ht hx
  obtain ⟨a, ha, hga⟩ := h (xs := xs) (fun y hy => by
    have h1 := List.sizeOf_lt_of_mem (show y.1 ∈ xs.map (·.1) from List.mem_map.2 ⟨y, hy, rfl⟩)
    simp only [DataW.agg.sizeOf_spec] at hsz
    omega) (hcs.trans hl) (by simpa using hxs) (fun i f hf => hall i f (by simpa using hf)) (fun m hm => hw m (by simp only [DataW.weights, ht]; exact hm))
  refine ⟨g a, ?_, by show good (f (g a)); rw [hfg]; exact hga⟩
  show d.K w (f (g a)) cs
  rw [hfg]
  simpa using ha
end Go.Proofs.YtdddhabemdbooaaDoor.Opn
namespace Go.Proofs.YtdddhabemdbooaaDoor.X
open Go.RowKit Go.Proofs.YtdddhabemdbooaaDoorW.PrintWords Go.Proofs.YtdddhabemdbooaaDoorW.PrintLast Go.Proofs.YtdddhabemdbooaaDoorW.PrintMore Go.Proofs.YtdddhabemdbooaaDoor.Opn
def good23 (x : S23) : Prop := ((Lit.int .i64 x.f0).wf = true) ∧ ((Lit.int .i64 x.f1).wf = true) ∧ (x.f2.size ≤ reachBytes)
theorem opens23 : Opens Tryd.prog 23 k23 good23 := opens_struct Tryd.underlying23 (len := 3) (by kernel_rfl) (tail_cons rfl (by kernel_rfl) (opens_int Tryd.underlying3) (tail_cons rfl (by kernel_rfl) (opens_int Tryd.underlying2) (tail_one rfl (Nat.le_of_eq (by kernel_rfl)) (opens_string Tryd.underlying9)))) (fun x : S23 => (x.f0, x.f1, x.f2)) (fun a => ⟨a.1, a.2.1, a.2.2⟩) (fun _ => rfl)
def good25 (x : S25) : Prop := ((Lit.int .i64 x.f0).wf = true) ∧ ((Lit.int .i64 x.f1).wf = true) ∧ (True) ∧ (True)
theorem opens25 : Opens Tryd.prog 25 k25 good25 := opens_struct Tryd.underlying25 (len := 4) (by kernel_rfl) (tail_cons rfl (by kernel_rfl) (opens_int Tryd.underlying3) (tail_cons rfl (by kernel_rfl) (opens_int Tryd.underlying3) (tail_cons rfl (by kernel_rfl) (opens_bool Tryd.underlying4) (tail_one rfl (Nat.le_of_eq (by kernel_rfl)) (opens_bool Tryd.underlying4))))) (fun x : S25 => (x.f0, x.f1, x.f2, x.f3)) (fun a => ⟨a.1, a.2.1, a.2.2.1, a.2.2.2⟩) (fun _ => rfl)
inductive good28 : S28 → Prop
  | mk (x : S28) (h0 : (Lit.int .i64 x.f0).wf = true) (h1 : (Lit.int .i64 x.f1).wf = true) (h2 : good23 x.f2) (h3 : good25 x.f3) (h4 : good25 x.f4) (h5 : ∀ y ∈ x.f5, good28 y) (h6 : x.f5.length * 120 ≤ reachBytes) : good28 x
theorem opensS28 (S : Nat) : OpensS S Tryd.prog 28 k28 good28 := by
  induction S with
  | zero =>
    intro H enc w base spare held fuel cs x hsz
    exact absurd hsz (Nat.not_lt_zero _)
  | succ S ih =>
    have hF : OpensS (S + 1) Tryd.prog 28 (F28 k28) _ := opensS_struct Tryd.underlying28 (len := 14) (by kernel_rfl) (tailS_cons rfl (by kernel_rfl) (Opens.toS (opens_int Tryd.underlying3) S) (tailS_cons rfl (by kernel_rfl) (Opens.toS (opens_int Tryd.underlying3) S) (tailS_cons rfl (by kernel_rfl) (Opens.toS opens23 S) (tailS_cons rfl (by kernel_rfl) (Opens.toS opens25 S) (tailS_cons rfl (by kernel_rfl) (Opens.toS opens25 S) (tailS_one rfl (Nat.le_of_eq (by kernel_rfl)) (opensS_slice Tryd.underlying26 (by kernel_rfl) (B := 120) (by kernel_rfl) z28 ih))))))) (fun x : S28 => (x.f0, x.f1, x.f2, x.f3, x.f4, x.f5)) (fun a => ⟨a.1, a.2.1, a.2.2.1, a.2.2.2.1, a.2.2.2.2.1, a.2.2.2.2.2⟩) (fun _ => rfl)
    intro H enc w base spare held fuel cs x hsz hx hw
    obtain ⟨a, hK, g0, g1, g2, g3, g4, g5, g6⟩ := hF hsz hx hw
    refine ⟨a, ?_, good28.mk a g0 g1 g2 g3 g4 g5 g6⟩
    obtain ⟨_, _, rfl, rfl, ⟨_, _, rfl, rfl, ⟨_, _, rfl, s2, ⟨_, _, rfl, s5, ⟨_, _, rfl, s9, ⟨A13, c13, rfl, l13, g13⟩⟩⟩⟩⟩⟩ := hK
    obtain rfl := k23_open s2
    obtain rfl := k25_open s5
    obtain rfl := k25_open s9
    exact k28_mk w a l13 g13
theorem opens28 : Opens Tryd.prog 28 k28 good28 := OpensS.to opensS28
end Go.Proofs.YtdddhabemdbooaaDoor.X
/- The openings of the arguments of the law NodeParts, and its pure statement. -/
set_option linter.unusedVariables false
namespace Go.Proofs.YtdddhabemdbooaaDoor.X
open Go.RowKit Go.Proofs.YtdddhabemdbooaaDoorW.PrintWords Go.Proofs.YtdddhabemdbooaaDoorW.PrintLast Go.Proofs.YtdddhabemdbooaaDoorW.PrintMore Go.Proofs.YtdddhabemdbooaaDoor.Opn
def oculuslaw22_NodeParts.PureX : Prop := ∀ (a0 : S28), (good28 a0) → ∃ k, oculuslaw22_NodeParts.f k (a0.f0) (a0.f1) (a0.f2.f0) (a0.f2.f1) (a0.f2.f2) (a0.f3.f0) (a0.f3.f1) (a0.f3.f2) (a0.f3.f3) (a0.f4.f0) (a0.f4.f1) (a0.f4.f2) (a0.f4.f3) (a0.f5) = some true
end Go.Proofs.YtdddhabemdbooaaDoor.X
/- Plain facts on whole numbers, bits and lists that the pure statements use. -/
set_option linter.unusedVariables false
set_option linter.unusedSimpArgs false
namespace Go.Proofs.YtdddhabemdbooaaDoor.X
open Go.RowKit Go.Proofs.YtdddhabemdbooaaDoorW.PrintWords Go.Proofs.YtdddhabemdbooaaDoorW.PrintLast Go.Proofs.YtdddhabemdbooaaDoorW.PrintMore

theorem w64 {x : Int} (h0 : -9223372036854775808 ≤ x) (h1 : x ≤ 9223372036854775807) : wrap64 x = x := by unfold wrap64; omega
theorem w64s {i n : Nat} (h : i < n) (hn : n ≤ 9223372036854775807) : wrap64 ((i : Int) + 1) = ((i + 1 : Nat) : Int) := by unfold wrap64; omega

theorem ev_some {α : Type} {g : Nat → Option α} {r : α} (h : ∀ k, g k = some r) : Ev g r := ⟨0, fun k _ => h k⟩
theorem ev_ite {α : Type} {c : Prop} [Decidable c] {f g : Nat → Option α} {r : α} (h1 : c → Ev f r) (h2 : ¬ c → Ev g r) : Ev (fun k => if c then f k else g k) r := by
  by_cases h : c
  · simp only [if_pos h]; exact h1 h
  · simp only [if_neg h]; exact h2 h
theorem ev_pos {α : Type} {c : Prop} [Decidable c] {f g : Nat → Option α} {r : α} (h : c) (h1 : Ev f r) : Ev (fun k => if c then f k else g k) r := by simp only [if_pos h]; exact h1
theorem ev_neg {α : Type} {c : Prop} [Decidable c] {f g : Nat → Option α} {r : α} (h : ¬ c) (h1 : Ev g r) : Ev (fun k => if c then f k else g k) r := by simp only [if_neg h]; exact h1
theorem ev_bind {α β : Type} {g : Nat → Option α} {f : Nat → α → Option β} {a : α} {r : β} (h : Ev g a) (k : Ev (fun n => f n a) r) : Ev (fun n => (g n).bind (f n)) r := Ev.bind h k
theorem ev_bsome {α β : Type} {x : α} {f : Nat → α → Option β} {r : β} (k : Ev (fun n => f n x) r) : Ev (fun n => (some x).bind (f n)) r := k

end Go.Proofs.YtdddhabemdbooaaDoor.X
/- Plain facts on texts as lists of bytes. -/
set_option linter.unusedVariables false
set_option linter.unusedSimpArgs false
namespace Go.Proofs.YtdddhabemdbooaaDoor.X
open Go.RowKit Go.Proofs.YtdddhabemdbooaaDoorW.PrintWords Go.Proofs.YtdddhabemdbooaaDoorW.PrintLast Go.Proofs.YtdddhabemdbooaaDoorW.PrintMore
def by_ (s : ByteArray) : List UInt8 := s.data.toList
def tx (l : List UInt8) : ByteArray := ⟨l.toArray⟩
theorem by_tx (l : List UInt8) : by_ (tx l) = l := by simp [by_, tx]
theorem tx_by (s : ByteArray) : tx (by_ s) = s := by
  obtain ⟨⟨l⟩⟩ := s
  rfl
theorem by_inj {s t : ByteArray} (h : by_ s = by_ t) : s = t := by rw [← tx_by s, ← tx_by t, h]
theorem toList_by (s : ByteArray) : s.toList = by_ s := ByteArray.toList_eq s
theorem size_by (s : ByteArray) : s.size = (by_ s).length := by
  obtain ⟨⟨l⟩⟩ := s
  rfl
theorem size_tx (l : List UInt8) : (tx l).size = l.length := by rw [size_by, by_tx]
theorem toList_inj {s t : ByteArray} : s.toList = t.toList ↔ s = t := by
  rw [toList_by, toList_by]
  exact ⟨by_inj, fun h => by rw [h]⟩
theorem by_extract (s : ByteArray) (a b : Nat) : by_ (s.extract a b) = ((by_ s).drop a).take (b - a) := Go.Lib.extract_data s a b
theorem by_head (s : ByteArray) (b : Nat) : by_ (s.extract 0 b) = (by_ s).take b := by rw [by_extract]; simp
theorem by_tail (s : ByteArray) (a : Nat) : by_ (s.extract a s.size) = (by_ s).drop a := by
  rw [by_extract, List.take_of_length_le]
  rw [List.length_drop, size_by]
  exact Nat.le_refl _
theorem ext_head (s : ByteArray) (b : Nat) : s.extract 0 b = tx ((by_ s).take b) := by_inj (by rw [by_head, by_tx])
theorem ext_tail (s : ByteArray) (a : Nat) : s.extract a s.size = tx ((by_ s).drop a) := by_inj (by rw [by_tail, by_tx])
theorem bt_by (s : ByteArray) (i : Nat) (h : i < (by_ s).length) : bt s (i : Int) = ((by_ s)[i].toNat : Int) := by
  obtain ⟨⟨l⟩⟩ := s
  have h' : (i : Int).toNat < (⟨⟨l⟩⟩ : ByteArray).size := by rw [Int.toNat_natCast]; exact h
  unfold bt
  rw [dif_pos h']
  simp only [Int.toNat_natCast]
  rfl
theorem bt_tx (l : List UInt8) (i : Nat) (h : i < l.length) : bt (tx l) (i : Int) = (l[i].toNat : Int) := by
  rw [bt_by (tx l) i (by rw [by_tx]; exact h)]
  simp only [by_tx]
theorem bt_tx0 (c : UInt8) (l : List UInt8) : bt (tx (c :: l)) 0 = (c.toNat : Int) := bt_tx (c :: l) 0 (by simp)
theorem u8_lt (c : UInt8) : c.toNat < 256 := c.toNat_lt
end Go.Proofs.YtdddhabemdbooaaDoor.X
/- Trees of formulas: their list, depth and count, and when two are the same; plain, with enough rounds. -/
set_option linter.unusedVariables false
set_option linter.unusedSimpArgs false
namespace Go.Proofs.YtdddhabemdbooaaDoor.X
open Go.RowKit Go.Proofs.YtdddhabemdbooaaDoorW.PrintWords Go.Proofs.YtdddhabemdbooaaDoorW.PrintLast Go.Proofs.YtdddhabemdbooaaDoorW.PrintMore
abbrev N : Type := S28
theorem n_sz {x y : N} (h : y ∈ x.f5) : SizeOf.sizeOf y < SizeOf.sizeOf x := by
  have := List.sizeOf_lt_of_mem h
  cases x
  simp only [S28.mk.sizeOf_spec]
  dsimp only at this
  omega
theorem n_ind {P : N → Prop} (h : ∀ x, (∀ y ∈ x.f5, P y) → P x) (x : N) : P x := h x (fun y _ => n_ind h y)
termination_by SizeOf.sizeOf x
decreasing_by exact n_sz ‹_›
def lst (x : N) : List N := x :: x.f5.attach.flatMap (fun y => lst y.1)
termination_by SizeOf.sizeOf x
decreasing_by exact n_sz y.2
theorem lst_eq (x : N) : lst x = x :: x.f5.flatMap lst := by
  rw [lst]
  congr 1
  show x.f5.attach.flatMap (fun y => lst (Subtype.val y)) = _
  rw [← List.flatMap_map, List.attach_map_subtype_val]
def dps (f : N → Nat) (l : List N) : Nat := l.foldr (fun y n => max (f y) n) 0
def dp (x : N) : Nat := x.f5.attach.foldr (fun y n => max (dp y.1) n) 0 + 1
termination_by SizeOf.sizeOf x
decreasing_by exact n_sz y.2
theorem dp_eq (x : N) : dp x = dps dp x.f5 + 1 := by
  rw [dp]
  unfold dps
  congr 1
  show x.f5.attach.foldr (fun y n => (fun z n => max (dp z) n) (Subtype.val y) n) 0 = _
  rw [← List.foldr_map (f := Subtype.val) (g := fun z n => max (dp z) n), List.attach_map_subtype_val]
theorem dps_mem {f : N → Nat} {l : List N} {y : N} (h : y ∈ l) : f y ≤ dps f l := by
  induction l with
  | nil => cases h
  | cons a l ih =>
    unfold dps
    rw [List.foldr_cons]
    rcases List.mem_cons.1 h with rfl | h
    · exact Nat.le_max_left _ _
    · exact Nat.le_trans (ih h) (Nat.le_max_right _ _)
theorem dps_le {f : N → Nat} {l : List N} {n : Nat} (h : ∀ y ∈ l, f y ≤ n) : dps f l ≤ n := by
  induction l with
  | nil => exact Nat.zero_le _
  | cons a l ih =>
    unfold dps
    rw [List.foldr_cons]
    exact Nat.max_le.2 ⟨h a List.mem_cons_self, ih (fun y hy => h y (List.mem_cons_of_mem _ hy))⟩
theorem len_mem {l : List N} {y : N} (h : y ∈ l) : (lst y).length ≤ (l.flatMap lst).length := by
  induction l with
  | nil => cases h
  | cons a l ih =>
    rw [List.flatMap_cons, List.length_append]
    rcases List.mem_cons.1 h with rfl | h
    · omega
    · have := ih h; omega
theorem dp_le (x : N) : dp x ≤ (lst x).length := by
  induction x using n_ind with
  | h x ih =>
    rw [dp_eq, lst_eq, List.length_cons]
    have : dps dp x.f5 ≤ (x.f5.flatMap lst).length := dps_le (fun y hy => Nat.le_trans (ih y hy) (len_mem hy))
    omega
theorem dp_mem : ∀ (x y : N), y ∈ lst x → y = x ∨ dp y < dp x := by
  intro x
  induction x using n_ind with
  | h x ih =>
    intro y hy
    rw [lst_eq] at hy
    rcases List.mem_cons.1 hy with rfl | hy
    · exact Or.inl rfl
    · obtain ⟨z, hz, hy⟩ := List.mem_flatMap.1 hy
      have h1 := dps_mem (f := dp) hz
      have h2 := dp_eq x
      rcases ih z hz y hy with rfl | h
      · exact Or.inr (by omega)
      · exact Or.inr (by omega)
theorem tail_deep (x : N) (i : Nat) (hi : i < (lst x).length) (h0 : 0 < i) : dp (lst x)[i] < dp x := by
  obtain ⟨j, rfl⟩ : ∃ j, i = j + 1 := ⟨i - 1, by omega⟩
  have hm : (lst x)[j + 1] ∈ x.f5.flatMap lst := by
    have e : (lst x)[j + 1] = (x :: x.f5.flatMap lst)[j + 1]'(by rw [← lst_eq]; exact hi) := by
      congr 1
      exact lst_eq x
    rw [e, List.getElem_cons_succ]
    exact List.getElem_mem _
  obtain ⟨z, hz, hy⟩ := List.mem_flatMap.1 hm
  have h1 := dps_mem (f := dp) hz
  have h2 := dp_eq x
  rcases dp_mem z _ hy with h | h
  · rw [h]; omega
  · omega
theorem rdN (l : List N) (i : Nat) (h : i < l.length) : rd_T28 l (i : Int) = l[i] := by
  unfold rd_T28
  rw [Int.toNat_natCast, List.getD_eq_getElem?_getD, List.getElem?_eq_getElem h]
  rfl
theorem drop_at {l : List N} {i : Nat} (h : i < l.length) : l.drop i = l[i] :: l.drop (i + 1) := List.drop_eq_getElem_cons h
theorem mkN (x : N) : (⟨x.f0, x.f1, ⟨x.f2.f0, x.f2.f1, x.f2.f2⟩, ⟨x.f3.f0, x.f3.f1, x.f3.f2, x.f3.f3⟩, ⟨x.f4.f0, x.f4.f1, x.f4.f2, x.f4.f3⟩, x.f5⟩ : N) = x := by cases x; rfl
abbrev leftF (k : Nat) (x : N) (m : Int) := oculusref22_Left.f k x.f0 x.f1 x.f2.f0 x.f2.f1 x.f2.f2 x.f3.f0 x.f3.f1 x.f3.f2 x.f3.f3 x.f4.f0 x.f4.f1 x.f4.f2 x.f4.f3 x.f5 m
abbrev countF (k : Nat) (x : N) := node_Count.f k x.f0 x.f1 x.f2.f0 x.f2.f1 x.f2.f2 x.f3.f0 x.f3.f1 x.f3.f2 x.f3.f3 x.f4.f0 x.f4.f1 x.f4.f2 x.f4.f3 x.f5
abbrev deepF (k : Nat) (x : N) := node_Deep.f k x.f0 x.f1 x.f2.f0 x.f2.f1 x.f2.f2 x.f3.f0 x.f3.f1 x.f3.f2 x.f3.f3 x.f4.f0 x.f4.f1 x.f4.f2 x.f4.f3 x.f5
abbrev listF (k : Nat) (x : N) := node_List.f k x.f0 x.f1 x.f2.f0 x.f2.f1 x.f2.f2 x.f3.f0 x.f3.f1 x.f3.f2 x.f3.f3 x.f4.f0 x.f4.f1 x.f4.f2 x.f4.f3 x.f5
abbrev sameF (k : Nat) (x y : N) := node_Same.f k x.f0 x.f1 x.f2.f0 x.f2.f1 x.f2.f2 x.f3.f0 x.f3.f1 x.f3.f2 x.f3.f3 x.f4.f0 x.f4.f1 x.f4.f2 x.f4.f3 x.f5 y.f0 y.f1 y.f2.f0 y.f2.f1 y.f2.f2 y.f3.f0 y.f3.f1 y.f3.f2 y.f3.f3 y.f4.f0 y.f4.f1 y.f4.f2 y.f4.f3 y.f5
def Lft (n m r : Int) : Prop := -1 ≤ r ∧ r ≤ 200 ∧ (n ≤ m → r = m - n) ∧ (m < n → r = -1)
theorem left_ev (x : N) (hx : x.f5.length ≤ 9223372036854775806 ∧ ∀ y ∈ x.f5, ∀ m : Int, 0 ≤ m → m ≤ 200 → ∃ r, Ev (fun k => leftF k y m) r ∧ Lft ((lst y).length : Int) m r) : ∀ m : Int, 0 ≤ m → m ≤ 200 → ∃ r, Ev (fun k => leftF k x m) r ∧ Lft ((lst x).length : Int) m r := by
  obtain ⟨hlen, ih⟩ := hx
  have loop : ∀ (d i : Nat) (m : Int), i + d = x.f5.length → -1 ≤ m → m ≤ 200 → ∃ r, Ev (fun k => oculusref22_Left.l0 k m (i : Int) x.f0 x.f1 x.f2.f0 x.f2.f1 x.f2.f2 x.f3.f0 x.f3.f1 x.f3.f2 x.f3.f3 x.f4.f0 x.f4.f1 x.f4.f2 x.f4.f3 x.f5) r ∧ (m < 0 → r = -1) ∧ (0 ≤ m → Lft (((x.f5.drop i).flatMap lst).length : Int) m r) := by
    intro d
    induction d with
    | zero =>
      intro i m hi h0 h1
      refine ⟨m, Ev.step (f := fun _ => some m) (fun k => ?_) (Ev.now _), fun h => by omega, fun h => ?_⟩
      · simp only [oculusref22_Left.l0]
        rw [if_neg (by omega)]
      · rw [List.drop_of_length_le (by omega)]
        exact ⟨h0, h1, fun _ => by simp, fun h => by simp at h; omega⟩
    | succ d ihd =>
      intro i m hi h0 h1
      by_cases hm : 0 ≤ m
      · have hil : i < x.f5.length := by omega
        obtain ⟨r1, e1, q0, q1, q2, q3⟩ := ih x.f5[i] (List.getElem_mem _) m hm h1
        obtain ⟨r2, e2, p1, p2⟩ := ihd (i + 1) r1 (by omega) q0 q1
        have hl : (lst x.f5[i] ++ (x.f5.drop (i + 1)).flatMap lst).length = (lst x.f5[i]).length + ((x.f5.drop (i + 1)).flatMap lst).length := List.length_append
        refine ⟨r2, Ev.step (f := fun k => (leftF k x.f5[i] m).bind fun t => oculusref22_Left.l0 k t ((i + 1 : Nat) : Int) x.f0 x.f1 x.f2.f0 x.f2.f1 x.f2.f2 x.f3.f0 x.f3.f1 x.f3.f2 x.f3.f3 x.f4.f0 x.f4.f1 x.f4.f2 x.f4.f3 x.f5) (fun k => ?_) (ev_bind e1 e2), fun h => by omega, fun _ => ?_⟩
        · simp only [oculusref22_Left.l0]
          rw [if_pos (by omega), if_pos (by omega), if_pos (by omega), rdN x.f5 i hil, w64s (n := x.f5.length) hil (by omega)]
        · rw [drop_at hil, List.flatMap_cons, hl]
          unfold Lft at *
          by_cases hq : ((lst x.f5[i]).length : Int) ≤ m
          · have := q2 hq
            obtain ⟨a, b, c, d⟩ := p2 (by omega)
            exact ⟨a, b, fun h => by rw [c (by omega)]; omega, fun h => d (by omega)⟩
          · have := q3 (by omega)
            have := p1 (by omega)
            exact ⟨by omega, by omega, fun h => by omega, fun h => by omega⟩
      · refine ⟨m, Ev.step (f := fun _ => some m) (fun k => ?_) (Ev.now _), fun h => by omega, fun h => by omega⟩
        simp only [oculusref22_Left.l0]
        rw [if_pos (by omega), if_neg (by omega)]
  intro m h0 h1
  obtain ⟨r, e, p1, p2⟩ := loop x.f5.length 0 (m - 1) (by omega) (by omega) (by omega)
  refine ⟨r, Ev.step (f := fun k => oculusref22_Left.l0 k (m - 1) ((0 : Nat) : Int) x.f0 x.f1 x.f2.f0 x.f2.f1 x.f2.f2 x.f3.f0 x.f3.f1 x.f3.f2 x.f3.f3 x.f4.f0 x.f4.f1 x.f4.f2 x.f4.f3 x.f5) (fun k => ?_) e, ?_⟩
  · simp only [leftF, oculusref22_Left.f]
    rw [w64 (x := m - 1) (by omega) (by omega)]
    rfl
  · rw [lst_eq, List.length_cons]
    rw [List.drop_zero] at p2
    unfold Lft at *
    by_cases hm : m = 0
    · have := p1 (by omega)
      exact ⟨by omega, by omega, fun h => by omega, fun _ => by omega⟩
    · obtain ⟨a, b, c, d⟩ := p2 (by omega)
      exact ⟨a, b, fun h => by rw [c (by omega)]; omega, fun h => d (by omega)⟩
inductive Fin1 : N → Prop
  | mk (x : N) (h : x.f5.length ≤ 9223372036854775806) (hs : ∀ y ∈ x.f5, Fin1 y) : Fin1 x
theorem left_ev' {x : N} (h : Fin1 x) : ∀ m : Int, 0 ≤ m → m ≤ 200 → ∃ r, Ev (fun k => leftF k x m) r ∧ Lft ((lst x).length : Int) m r := by
  induction h with
  | mk x h hs ih => exact left_ev x ⟨h, ih⟩
theorem few_ev {x : N} (h : Fin1 x) : Ev (fun k => oculuslaw22_few.f k x.f0 x.f1 x.f2.f0 x.f2.f1 x.f2.f2 x.f3.f0 x.f3.f1 x.f3.f2 x.f3.f3 x.f4.f0 x.f4.f1 x.f4.f2 x.f4.f3 x.f5 200) (decide ((lst x).length ≤ 200)) := by
  obtain ⟨r, e, a, b, c, d⟩ := left_ev' h 200 (by omega) (by omega)
  unfold oculuslaw22_few.f oculusref22_Few.f
  refine ev_bind (a := decide ((lst x).length ≤ 200)) ?_ (Ev.now _)
  refine ev_bind e ?_
  rw [show decide (r ≥ 0) = decide ((lst x).length ≤ 200) by
    by_cases hq : (lst x).length ≤ 200
    · rw [decide_eq_true hq, decide_eq_true (by rw [c (by omega)]; omega)]
    · rw [decide_eq_false hq, decide_eq_false (by rw [d (by omega)]; omega)]]
  exact Ev.now _
theorem few_sub {x y : N} (h : (lst x).length ≤ 200) (hy : y ∈ x.f5) : (lst y).length ≤ 200 ∧ x.f5.length ≤ 200 := by
  have h1 := len_mem hy
  rw [lst_eq, List.length_cons] at h
  refine ⟨by omega, ?_⟩
  have : x.f5.length ≤ (x.f5.flatMap lst).length := by
    generalize x.f5 = l
    induction l with
    | nil => simp
    | cons a l ih =>
      rw [List.flatMap_cons, List.length_append, List.length_cons, lst_eq, List.length_cons]
      omega
  omega
theorem few_len {x : N} (h : (lst x).length ≤ 200) : x.f5.length ≤ 200 := by
  cases hl : x.f5 with
  | nil => simp
  | cons a l => rw [← hl]; exact (few_sub (y := a) h (by rw [hl]; exact List.mem_cons_self)).2
theorem deep_ev (x : N) : (lst x).length ≤ 200 → Ev (fun k => deepF k x) (dp x : Int) := by
  induction x using n_ind with
  | h x ih =>
    intro hs
    have hlen := few_len hs
    have hdx : dps dp x.f5 + 1 ≤ 200 := by have := dp_le x; rw [dp_eq] at this; omega
    have loop : ∀ (d i : Nat) (m : Nat), i + d = x.f5.length → max m (dps dp (x.f5.drop i)) ≤ 200 → Ev (fun k => node_Deep.l0 k (m : Int) x.f5 (x.f5.length : Int) (i : Int)) ((max m (dps dp (x.f5.drop i)) + 1 : Nat) : Int) := by
      intro d
      induction d with
      | zero =>
        intro i m hi hm
        rw [List.drop_of_length_le (by omega)] at hm ⊢
        have e0 : max m (dps dp []) = m := Nat.max_eq_left (Nat.zero_le _)
        rw [e0] at hm ⊢
        refine Ev.step (f := fun _ => some ((m + 1 : Nat) : Int)) (fun k => ?_) (Ev.now _)
        simp only [node_Deep.l0]
        rw [if_neg (by omega), w64 (by omega) (by omega)]
        rfl
      | succ d ihd =>
        intro i m hi hm
        have hil : i < x.f5.length := by omega
        have e1 := ih x.f5[i] (List.getElem_mem _) (few_sub hs (List.getElem_mem _)).1
        have em : max m (dps dp (x.f5.drop i)) = max (max m (dp x.f5[i])) (dps dp (x.f5.drop (i + 1))) := by
          rw [drop_at hil]
          show max m (max (dp x.f5[i]) (dps dp (x.f5.drop (i + 1)))) = _
          rw [Nat.max_assoc]
        rw [em] at hm ⊢
        have e2 := ihd (i + 1) (max m (dp x.f5[i])) (by omega) hm
        refine Ev.step (f := fun k => (deepF k x.f5[i]).bind fun t => node_Deep.l0 k (mx (m : Int) t) x.f5 (x.f5.length : Int) ((i + 1 : Nat) : Int)) (fun k => ?_) (ev_bind e1 ?_)
        · simp only [node_Deep.l0]
          rw [if_pos (by omega), if_pos (by omega), if_pos (by omega), rdN x.f5 i hil, w64s (n := x.f5.length) hil (by omega)]
        · rw [show mx (m : Int) (dp x.f5[i] : Int) = ((max m (dp x.f5[i]) : Nat) : Int) by unfold mx; split <;> omega]
          exact e2
    refine Ev.step (f := fun k => node_Deep.l0 k ((0 : Nat) : Int) x.f5 (x.f5.length : Int) ((0 : Nat) : Int)) (fun k => ?_) ?_
    · simp only [deepF, node_Deep.f]
      rfl
    · rw [dp_eq]
      have h0 : max 0 (dps dp x.f5) = dps dp x.f5 := Nat.zero_max _
      have := loop x.f5.length 0 0 (by omega) (by rw [List.drop_zero, h0]; omega)
      rw [List.drop_zero, h0] at this
      exact this
theorem nlist_ev (x : N) : (lst x).length ≤ 200 → Ev (fun k => listF k x) (lst x) := by
  induction x using n_ind with
  | h x ih =>
    intro hs
    have hlen := few_len hs
    have hl : (lst x).length = 1 + (x.f5.flatMap lst).length := by rw [lst_eq, List.length_cons]; omega
    have loop : ∀ (d i : Nat) (m : List N), i + d = x.f5.length → m.length + ((x.f5.drop i).flatMap lst).length ≤ 200 → Ev (fun k => node_List.l0 k m x.f5 (x.f5.length : Int) (i : Int)) (m ++ (x.f5.drop i).flatMap lst) := by
      intro d
      induction d with
      | zero =>
        intro i m hi hm
        rw [List.drop_of_length_le (by omega), List.flatMap_nil, List.append_nil]
        refine Ev.step (f := fun _ => some m) (fun k => ?_) (Ev.now _)
        simp only [node_List.l0]
        rw [if_neg (by omega)]
      | succ d ihd =>
        intro i m hi hm
        have hil : i < x.f5.length := by omega
        have e1 := ih x.f5[i] (List.getElem_mem _) (few_sub hs (List.getElem_mem _)).1
        rw [drop_at hil, List.flatMap_cons, List.length_append] at hm
        have e2 := ihd (i + 1) (m ++ lst x.f5[i]) (by omega) (by rw [List.length_append]; omega)
        rw [drop_at hil, List.flatMap_cons, ← List.append_assoc]
        refine Ev.step (f := fun k => (listF k x.f5[i]).bind fun t => if m.length + t.length < 1172812402961 then node_List.l0 k (m ++ t) x.f5 (x.f5.length : Int) ((i + 1 : Nat) : Int) else none) (fun k => ?_) (ev_bind e1 (ev_pos (by omega) e2))
        simp only [node_List.l0]
        rw [if_pos (by omega), if_pos (by omega), if_pos (by omega), rdN x.f5 i hil, w64s (n := x.f5.length) hil (by omega)]
    refine Ev.step (f := fun k => node_List.l0 k [x] x.f5 (x.f5.length : Int) ((0 : Nat) : Int)) (fun k => ?_) ?_
    · simp only [listF, node_List.f]
      rw [mkN x]
      rfl
    · have := loop x.f5.length 0 [x] (by omega) (by rw [List.drop_zero, List.length_singleton]; omega)
      rw [List.drop_zero, List.singleton_append, ← lst_eq] at this
      exact this
def hd (x : N) : Int × Int × S23 × S25 × S25 × Nat := (x.f0, x.f1, x.f2, x.f3, x.f4, x.f5.length)
end Go.Proofs.YtdddhabemdbooaaDoor.X
/- What strings.Cut at one byte answers. -/
set_option linter.unusedVariables false
set_option linter.unusedSimpArgs false
namespace Go.Proofs.YtdddhabemdbooaaDoor.X
open Go.RowKit Go.Proofs.YtdddhabemdbooaaDoorW.PrintWords Go.Proofs.YtdddhabemdbooaaDoorW.PrintLast Go.Proofs.YtdddhabemdbooaaDoorW.PrintMore
def cutL (c : UInt8) : List UInt8 → List UInt8 × List UInt8 × Bool
  | [] => ([], [], false)
  | b :: l => if b = c then ([], l, true) else (b :: (cutL c l).1, (cutL c l).2.1, (cutL c l).2.2)
theorem index_cut (c : UInt8) : ∀ l : List UInt8, (Lib.indexByte l c = -1 ∧ (cutL c l).1 = l ∧ (cutL c l).2.1 = [] ∧ (cutL c l).2.2 = false) ∨
    ∃ n : Nat, Lib.indexByte l c = (n : Int) ∧ n < l.length ∧ (cutL c l).1 = l.take n ∧ (cutL c l).2.1 = l.drop (n + 1) ∧ (cutL c l).2.2 = true
  | [] => Or.inl ⟨rfl, rfl, rfl, rfl⟩
  | b :: l => by
    by_cases h : b = c
    · refine Or.inr ⟨0, ?_, by simp, ?_, ?_, ?_⟩
      · simp [Lib.indexByte, h]
      · simp [cutL, h]
      · simp [cutL, h]
      · simp [cutL, h]
    · rcases index_cut c l with ⟨h1, h2, h3, h4⟩ | ⟨n, h1, h2, h3, h4, h5⟩
      · left
        refine ⟨?_, ?_, ?_, ?_⟩
        · simp [Lib.indexByte, h, h1]
        · simp [cutL, h, h2]
        · simp [cutL, h, h3]
        · simp [cutL, h, h4]
      · right
        refine ⟨n + 1, ?_, by simp; omega, ?_, ?_, ?_⟩
        · simp only [Lib.indexByte, beq_eq_false_iff_ne.2 h, h1]
          rw [if_neg (by simp), if_neg (by first | (simp; done) | (simp; omega))]
          omega
        · simp [cutL, h, h3]
        · simp [cutL, h, h4]
        · simp [cutL, h, h5]
theorem cut_eq (s : ByteArray) (c : UInt8) (hs : s.size ≤ 4611686018427387904) : strings_Cut.f s (tx [c]) = some (tx (cutL c (by_ s)).1, tx (cutL c (by_ s)).2.1, (cutL c (by_ s)).2.2) := by
  unfold strings_Cut.f stringslite_Cut.f stringslite_Index.f
  have h1 : (tx [c]).size = 1 := by rw [size_tx]; rfl
  have h2 : (tx [c])[0]'(by rw [h1]; decide) = c := rfl
  rw [dif_pos h1, h2]
  simp only [Option.bind_some]
  rcases index_cut c (by_ s) with ⟨g1, g2, g3, g4⟩ | ⟨n, g1, g2, g3, g4, g5⟩
  · rw [show Lib.indexByte s.data.toList c = -1 from g1, if_neg (by decide), g2, g3, g4, tx_by]
    rfl
  · have hl := size_by s
    rw [show Lib.indexByte s.data.toList c = (n : Int) from g1, if_pos (by omega), if_pos (by omega), if_pos (by omega), h1]
    have hw : wrap64 ((n : Int) + ((1 : Nat) : Int)) = ((n + 1 : Nat) : Int) := by unfold wrap64; omega
    rw [hw, if_pos (by omega), if_pos (by omega), g3, g4, g5]
    simp only [Option.bind_some, Int.toNat_natCast, ext_head, ext_tail]
theorem cutL_length (c : UInt8) (l : List UInt8) : (cutL c l).1.length ≤ l.length ∧ (cutL c l).2.1.length ≤ l.length := by
  rcases index_cut c l with ⟨g1, g2, g3, g4⟩ | ⟨n, g1, g2, g3, g4, g5⟩
  · rw [g2, g3]; simp
  · rw [g3, g4]; simp; omega
end Go.Proofs.YtdddhabemdbooaaDoor.X
namespace Go.Proofs.YtdddhabemdbooaaDoor.X
open Go.RowKit Go.Proofs.YtdddhabemdbooaaDoorW.PrintWords Go.Proofs.YtdddhabemdbooaaDoorW.PrintLast Go.Proofs.YtdddhabemdbooaaDoorW.PrintMore
attribute [local go_sem] max2_int min2_int max_two min_two max_three min_three max_four min_four
set_option linter.unusedVariables false
set_option linter.unusedSimpArgs false
def oculusref19_Rows.f  : Option (List ByteArray) := some (([(⟨#[49, 49, 118]⟩ : ByteArray), (⟨#[49, 56, 101]⟩ : ByteArray), (⟨#[49, 56, 108]⟩ : ByteArray), (⟨#[50, 50, 114, 118]⟩ : ByteArray), (⟨#[50, 50, 118]⟩ : ByteArray), (⟨#[49, 49, 118]⟩ : ByteArray), (⟨#[50, 56, 101]⟩ : ByteArray), (⟨#[49, 49, 118]⟩ : ByteArray), (⟨#[49, 49, 110]⟩ : ByteArray), (⟨#[49, 49, 110]⟩ : ByteArray), (⟨#[50, 50, 118]⟩ : ByteArray), (⟨#[49, 56, 108]⟩ : ByteArray), (⟨#[49, 56, 108]⟩ : ByteArray), (⟨#[49, 56, 108]⟩ : ByteArray), (⟨#[49, 56, 108]⟩ : ByteArray), (⟨#[50, 50, 114, 118]⟩ : ByteArray), (⟨#[50, 50, 101, 116]⟩ : ByteArray), (⟨#[49, 49, 118]⟩ : ByteArray), (⟨#[50, 50, 118]⟩ : ByteArray), (⟨#[49, 49, 118]⟩ : ByteArray), (⟨#[50, 50, 118]⟩ : ByteArray), (⟨#[50, 50, 118]⟩ : ByteArray), (⟨#[50, 50, 118]⟩ : ByteArray), (⟨#[51, 51, 118, 114, 118]⟩ : ByteArray), (⟨#[50, 51, 101]⟩ : ByteArray), (⟨#[50, 50, 101]⟩ : ByteArray), (⟨#[50, 51, 114, 118]⟩ : ByteArray), (⟨#[49, 49, 118]⟩ : ByteArray), (⟨#[49, 49, 118]⟩ : ByteArray), (⟨#[49, 49, 118]⟩ : ByteArray), (⟨#[49, 49, 118]⟩ : ByteArray), (⟨#[49, 49, 118]⟩ : ByteArray), (⟨#[49, 49, 118]⟩ : ByteArray), (⟨#[50, 50, 114, 118]⟩ : ByteArray), (⟨#[50, 50, 118]⟩ : ByteArray), (⟨#[50, 50, 118]⟩ : ByteArray), (⟨#[49, 49, 118]⟩ : ByteArray), (⟨#[49, 49, 118]⟩ : ByteArray), (⟨#[50, 50, 118, 114]⟩ : ByteArray), (⟨#[49, 56, 108]⟩ : ByteArray), (⟨#[49, 56, 108]⟩ : ByteArray), (⟨#[51, 51, 118]⟩ : ByteArray), (⟨#[49, 56, 108]⟩ : ByteArray), (⟨#[50, 50, 118]⟩ : ByteArray), (⟨#[49, 56, 108]⟩ : ByteArray), (⟨#[48, 48]⟩ : ByteArray), (⟨#[49, 49, 118]⟩ : ByteArray), (⟨#[49, 49, 118]⟩ : ByteArray), (⟨#[49, 56, 101]⟩ : ByteArray), (⟨#[50, 50, 118]⟩ : ByteArray), (⟨#[49, 56, 108]⟩ : ByteArray), (⟨#[49, 49, 118]⟩ : ByteArray), (⟨#[50, 50, 118]⟩ : ByteArray), (⟨#[50, 50, 118, 114]⟩ : ByteArray), (⟨#[50, 50, 118]⟩ : ByteArray), (⟨#[49, 49, 118]⟩ : ByteArray), (⟨#[50, 50, 118]⟩ : ByteArray), (⟨#[50, 50, 118]⟩ : ByteArray), (⟨#[50, 50, 118]⟩ : ByteArray), (⟨#[50, 50, 118]⟩ : ByteArray), (⟨#[49, 49, 110]⟩ : ByteArray), (⟨#[49, 49, 110]⟩ : ByteArray), (⟨#[49, 49, 118]⟩ : ByteArray), (⟨#[50, 50, 114, 118]⟩ : ByteArray), (⟨#[49, 49, 118]⟩ : ByteArray), (⟨#[51, 51, 118]⟩ : ByteArray), (⟨#[49, 56, 108]⟩ : ByteArray), (⟨#[50, 50, 114, 118]⟩ : ByteArray), (⟨#[50, 50, 114]⟩ : ByteArray), (⟨#[49, 56, 108]⟩ : ByteArray), (⟨#[51, 56, 101]⟩ : ByteArray), (⟨#[50, 50, 118]⟩ : ByteArray), (⟨#[49, 49, 118]⟩ : ByteArray), (⟨#[49, 49, 118]⟩ : ByteArray), (⟨#[49, 49, 118]⟩ : ByteArray), (⟨#[49, 49, 118]⟩ : ByteArray), (⟨#[51, 51, 118, 114, 118]⟩ : ByteArray), (⟨#[49, 56, 108]⟩ : ByteArray)] : List ByteArray))
end Go.Proofs.YtdddhabemdbooaaDoor.X
/- What fname and its reference answer. -/
set_option linter.unusedVariables false
set_option linter.unusedSimpArgs false
namespace Go.Proofs.YtdddhabemdbooaaDoor.X
open Go.RowKit Go.Proofs.YtdddhabemdbooaaDoorW.PrintWords Go.Proofs.YtdddhabemdbooaaDoorW.PrintLast Go.Proofs.YtdddhabemdbooaaDoorW.PrintMore
def RB : List ByteArray := oculusref19_Rows.f.getD []
def RS : List (List UInt8) := RB.map by_
def rs (n : Nat) : List UInt8 := RS.getD n []
def rowsL : List UInt8 := [65, 66, 83, 49, 49, 118, 59, 65, 78, 68, 49, 56, 101, 59, 65, 86, 69, 82, 65, 71, 69, 49, 56, 108, 59, 65, 86, 69, 82, 65, 71, 69, 73, 70, 50, 50, 114, 118, 59, 67, 69, 73, 76, 73, 78, 71, 50, 50, 118, 59, 67, 72, 65, 82, 49, 49, 118, 59, 67, 72, 79, 79, 83, 69, 50, 56, 101, 59, 67, 79, 68, 69, 49, 49, 118, 59, 67, 79, 76, 85, 77, 78, 49, 49, 110, 59, 67, 79, 76, 85, 77, 78, 83, 49, 49, 110, 59, 67, 79, 77, 66, 73, 78, 50, 50, 118, 59, 67, 79, 78, 67, 65, 84, 49, 56, 108, 59, 67, 79, 85, 78, 84, 49, 56, 108, 59, 67, 79, 85, 78, 84, 65, 49, 56, 108, 59, 67, 79, 85, 78, 84, 66, 76, 65, 78, 75, 49, 56, 108, 59, 67, 79, 85, 78, 84, 73, 70, 50, 50, 114, 118, 59, 68, 69, 67, 76, 65, 83, 83, 50, 50, 101, 116, 59, 69, 86, 69, 78, 49, 49, 118, 59, 69, 88, 65, 67, 84, 50, 50, 118, 59, 70, 65, 67, 84, 49, 49, 118, 59, 70, 73, 78, 68, 50, 50, 118, 59, 70, 76, 79, 79, 82, 50, 50, 118, 59, 71, 67, 68, 50, 50, 118, 59, 72, 76, 79, 79, 75, 85, 80, 51, 51, 118, 114, 118, 59, 73, 70, 50, 51, 101, 59, 73, 70, 69, 82, 82, 79, 82, 50, 50, 101, 59, 73, 78, 68, 69, 88, 50, 51, 114, 118, 59, 73, 78, 84, 49, 49, 118, 59, 73, 83, 66, 76, 65, 78, 75, 49, 49, 118, 59, 73, 83, 69, 82, 82, 79, 82, 49, 49, 118, 59, 73, 83, 76, 79, 71, 73, 67, 65, 76, 49, 49, 118, 59, 73, 83, 78, 85, 77, 66, 69, 82, 49, 49, 118, 59, 73, 83, 84, 69, 88, 84, 49, 49, 118, 59, 76, 65, 82, 71, 69, 50, 50, 114, 118, 59, 76, 67, 77, 50, 50, 118, 59, 76, 69, 70, 84, 50, 50, 118, 59, 76, 69, 78, 49, 49, 118, 59, 76, 79, 87, 69, 82, 49, 49, 118, 59, 77, 65, 84, 67, 72, 50, 50, 118, 114, 59, 77, 65, 88, 49, 56, 108, 59, 77, 69, 68, 73, 65, 78, 49, 56, 108, 59, 77, 73, 68, 51, 51, 118, 59, 77, 73, 78, 49, 56, 108, 59, 77, 79, 68, 50, 50, 118, 59, 77, 79, 68, 69, 49, 56, 108, 59, 78, 65, 48, 48, 59, 78, 79, 84, 49, 49, 118, 59, 79, 68, 68, 49, 49, 118, 59, 79, 82, 49, 56, 101, 59, 80, 79, 87, 69, 82, 50, 50, 118, 59, 80, 82, 79, 68, 85, 67, 84, 49, 56, 108, 59, 80, 82, 79, 80, 69, 82, 49, 49, 118, 59, 81, 85, 79, 84, 73, 69, 78, 84, 50, 50, 118, 59, 82, 65, 78, 75, 50, 50, 118, 114, 59, 82, 69, 80, 84, 50, 50, 118, 59, 82, 69, 86, 69, 82, 83, 69, 49, 49, 118, 59, 82, 73, 71, 72, 84, 50, 50, 118, 59, 82, 79, 85, 78, 68, 50, 50, 118, 59, 82, 79, 85, 78, 68, 68, 79, 87, 78, 50, 50, 118, 59, 82, 79, 85, 78, 68, 85, 80, 50, 50, 118, 59, 82, 79, 87, 49, 49, 110, 59, 82, 79, 87, 83, 49, 49, 110, 59, 83, 73, 71, 78, 49, 49, 118, 59, 83, 77, 65, 76, 76, 50, 50, 114, 118, 59, 83, 81, 82, 84, 49, 49, 118, 59, 83, 85, 66, 83, 84, 73, 84, 85, 84, 69, 51, 51, 118, 59, 83, 85, 77, 49, 56, 108, 59, 83, 85, 77, 73, 70, 50, 50, 114, 118, 59, 83, 85, 77, 80, 82, 79, 68, 85, 67, 84, 50, 50, 114, 59, 83, 85, 77, 83, 81, 49, 56, 108, 59, 83, 87, 73, 84, 67, 72, 51, 56, 101, 59, 84, 69, 88, 84, 50, 50, 118, 59, 84, 82, 73, 77, 49, 49, 118, 59, 84, 82, 85, 78, 67, 49, 49, 118, 59, 85, 80, 80, 69, 82, 49, 49, 118, 59, 86, 65, 76, 85, 69, 49, 49, 118, 59, 86, 76, 79, 79, 75, 85, 80, 51, 51, 118, 114, 118, 59, 88, 79, 82, 49, 56, 108]
def okR : List UInt8 → Bool
  | c0 :: c1 :: tl => decide (48 ≤ c0.toNat) && decide (c0.toNat < 65) && decide (48 ≤ c1.toNat) && decide (c1.toNat < 65) && decide (tl.length ≤ 10)
  | _ => false
def cutN : Nat → List UInt8 × List UInt8 → List UInt8 × List UInt8
  | 0, p => p
  | n + 1, p => cutN n ((cutL 59 p.2).1, (cutL 59 p.2).2.1)
def row0 : List UInt8 × List UInt8 := ((cutL 59 rowsL).1, (cutL 59 rowsL).2.1)
def nm (n : Nat) : List UInt8 := (cutN n row0).1.takeWhile fun x => decide (65 ≤ x.toNat)
theorem rows_check : ∀ n : Fin 78, (cutN n.val row0).1 = nm n.val ++ rs n.val ∧ ((nm n.val).all fun x => decide (65 ≤ x.toNat)) = true ∧ okR (rs n.val) = true ∧ (nm n.val).length < 100 := by decide +kernel
theorem rs_shape {n : Nat} (h : n < 78) : ∃ c0 c1 tl, rs n = c0 :: c1 :: tl ∧ 48 ≤ c0.toNat ∧ c0.toNat < 65 ∧ 48 ≤ c1.toNat ∧ c1.toNat < 65 ∧ tl.length ≤ 10 := by
  have := (rows_check ⟨n, h⟩).2.2.1
  simp only at this
  revert this
  match rs n with
  | [] => intro h; simp [okR] at h
  | [_] => intro h; simp [okR] at h
  | c0 :: c1 :: tl =>
    intro h
    simp only [okR, Bool.and_eq_true, decide_eq_true_eq] at h
    exact ⟨c0, c1, tl, rfl, h.1.1.1.1, h.1.1.1.2, h.1.1.2, h.1.2, h.2⟩
theorem row_l1 (a : List UInt8) (c : UInt8) (b : List UInt8) (ha : ∀ x ∈ a, 65 ≤ x.toNat) (hc : c.toNat < 65) (hl : a.length + b.length < 1000) :
    ∀ d i, i + d = a.length → Ev (fun k => fname_row.l1 k (tx (a ++ c :: b)) (i : Int)) (tx a, tx (c :: b))
  | 0, i, h => by
    have hz : (tx (a ++ c :: b)).size = a.length + (b.length + 1) := by rw [size_tx]; simp
    have hb : bt (tx (a ++ c :: b)) (i : Int) = (c.toNat : Int) := by
      rw [bt_tx _ i (by simp; omega)]
      have : i = a.length := by omega
      subst this
      simp
    refine Ev.step (f := fun k => some (tx a, tx (c :: b))) (fun k => ?_) (Ev.now _)
    simp only [fname_row.l1]
    rw [if_pos (by omega), if_pos (by omega), hb, if_neg (by omega), if_pos (by omega), Int.toNat_natCast, ext_head, ext_tail, by_tx]
    have : i = a.length := by omega
    subst this
    simp
  | d + 1, i, h => by
    have hz : (tx (a ++ c :: b)).size = a.length + (b.length + 1) := by rw [size_tx]; simp
    have hi : i < a.length := by omega
    have hb : bt (tx (a ++ c :: b)) (i : Int) = ((a[i]).toNat : Int) := by
      rw [bt_tx _ i (by simp; omega)]
      rw [List.getElem_append_left hi]
    have := ha _ (List.getElem_mem hi)
    refine Ev.step (f := fun k => fname_row.l1 k (tx (a ++ c :: b)) ((i + 1 : Nat) : Int)) (fun k => ?_) (row_l1 a c b ha hc hl d (i + 1) (by omega))
    simp only [fname_row.l1]
    rw [if_pos (by omega), if_pos (by omega), hb, if_pos (by omega), w64s (n := 2000) (by omega) (by omega)]
theorem row_l0 (fn : Nat) (hf : fn ≤ 78) : ∀ d n s r, n + d = fn → r.length ≤ 4611686018427387904 → ∀ q, Ev (fun k => fname_row.l1 k (tx (cutN d (s, r)).1) 0) q → Ev (fun k => fname_row.l0 k (fn : Int) (tx s) (tx r) (n : Int)) q
  | 0, n, s, r, h, hr, q, hq => by
    refine Ev.step (f := fun k => fname_row.l1 k (tx s) 0) (fun k => ?_) hq
    simp only [fname_row.l0]
    rw [if_neg (by omega)]
  | d + 1, n, s, r, h, hr, q, hq => by
    have hl := (cutL_length 59 r).2
    refine Ev.step (f := fun k => fname_row.l0 k (fn : Int) (tx (cutL 59 r).1) (tx (cutL 59 r).2.1) ((n + 1 : Nat) : Int)) (fun k => ?_) (row_l0 fn hf d (n + 1) _ _ (by omega) (by omega) q hq)
    simp only [fname_row.l0]
    rw [if_pos (by omega)]
    have e : strings_Cut.f (tx r) (⟨#[59]⟩ : ByteArray) = some (tx (cutL 59 r).1, tx (cutL 59 r).2.1, (cutL 59 r).2.2) := by
      have := cut_eq (tx r) 59 (by rw [size_tx]; exact hr)
      rw [by_tx] at this
      exact this
    rw [e, Option.bind_some, w64s (n := 2000) (by omega) (by omega)]
theorem row_ev (n : Nat) (h : n < 78) : Ev (fun k => fname_row.f k ((n + 1 : Nat) : Int)) (tx (nm n), tx (rs n)) := by
  unfold fname_row.f
  refine ev_neg (by omega) ?_
  rw [decide_eq_false (by omega : ¬ ((n + 1 : Nat) : Int) > 78)]
  refine Ev.step (fun k => fname_row.j0.eq_2 _ _ _) ?_
  refine ev_neg (by simp) ?_
  refine ev_bind (a := (tx row0.1, tx row0.2, (cutL 59 rowsL).2.2)) (ev_some fun _ => ?_) ?_
  · refine (cut_eq _ 59 (by decide +kernel)).trans ?_
    exact congrArg (fun l => some (tx (cutL 59 l).1, tx (cutL 59 l).2.1, (cutL 59 l).2.2)) (by decide +kernel : by_ _ = rowsL)
  refine row_l0 (n + 1) (by omega) n 1 _ _ (by omega) (by decide +kernel) _ ?_
  obtain ⟨h1, h2, h3, h4⟩ := rows_check ⟨n, h⟩
  simp only at h1 h2 h3 h4
  rw [show (cutN n (row0.1, row0.2)).1 = nm n ++ rs n from h1]
  obtain ⟨c0, c1, tl, e, g1, g2, g3, g4, g5⟩ := rs_shape h
  rw [e]
  refine row_l1 (nm n) c0 (c1 :: tl) ?_ g2 (by simp; omega) (nm n).length 0 (by omega)
  intro x hx
  have := List.all_eq_true.1 h2 x hx
  simpa using this
theorem row_out (fn : Int) (h : fn < 1 ∨ fn > 78) : Ev (fun k => fname_row.f k fn) (tx [], tx []) := by
  unfold fname_row.f
  have hj : Ev (fun k => fname_row.j0 k fn true) (tx [], tx []) := by
    refine Ev.step (fun k => fname_row.j0.eq_2 _ _ _) ?_
    exact ev_pos rfl (Ev.now _)
  refine ev_ite (fun _ => hj) (fun h1 => ?_)
  rw [decide_eq_true (by omega : fn > 78)]
  exact hj
def nmI (fn : Int) : List UInt8 := if fn < 1 ∨ fn > 78 then [] else nm (fn - 1).toNat
def rsI (fn : Int) : List UInt8 := if fn < 1 ∨ fn > 78 then [] else rs (fn - 1).toNat
theorem rowI_ev (fn : Int) : Ev (fun k => fname_row.f k fn) (tx (nmI fn), tx (rsI fn)) := by
  unfold nmI rsI
  by_cases h : fn < 1 ∨ fn > 78
  · rw [if_pos h, if_pos h]; exact row_out fn h
  · rw [if_neg h, if_neg h]
    have e : fn = (((fn - 1).toNat + 1 : Nat) : Int) := by omega
    have := row_ev (fn - 1).toNat (by omega)
    rw [← e] at this
    exact this
def fitsL : List UInt8 → Int → Bool
  | c0 :: c1 :: _, n => if n ≥ (c0.toNat : Int) - 48 then decide (n ≤ (c1.toNat : Int) - 48) else false
  | _, _ => false
def kindL : List UInt8 → Int → Int
  | c0 :: c1 :: tl, i => if i < 0 then 0 else if i ≥ (c1.toNat : Int) - 48 then 0 else (((c0 :: c1 :: tl).getD (min (2 + i.toNat) (tl.length + 1)) 0).toNat : Int)
  | _, _ => 0
theorem rsI_shape (fn : Int) : (rsI fn = [] ∧ (fn < 1 ∨ fn > 78)) ∨ (¬ (fn < 1 ∨ fn > 78) ∧ ∃ c0 c1 tl, rs (fn - 1).toNat = c0 :: c1 :: tl ∧ rsI fn = c0 :: c1 :: tl ∧ 48 ≤ c0.toNat ∧ c0.toNat < 65 ∧ 48 ≤ c1.toNat ∧ c1.toNat < 65 ∧ tl.length ≤ 10) := by
  unfold rsI
  by_cases h : fn < 1 ∨ fn > 78
  · exact Or.inl ⟨if_pos h, h⟩
  · refine Or.inr ⟨h, ?_⟩
    obtain ⟨c0, c1, tl, e, g⟩ := rs_shape (n := (fn - 1).toNat) (by omega)
    exact ⟨c0, c1, tl, e, by rw [if_neg h, e], g⟩
theorem fits_ev (fn n : Int) : Ev (fun k => fname_Fits.f k fn n) (fitsL (rsI fn) n) := by
  unfold fname_Fits.f
  refine ev_bind (rowI_ev fn) (ev_some fun k => ?_)
  rcases rsI_shape fn with ⟨e, _⟩ | ⟨_, c0, c1, tl, _, e, g1, g2, g3, g4, g5⟩
  · rw [e, if_pos (by rw [toList_by, by_tx])]; rfl
  · rw [e]
    have hz : (tx (c0 :: c1 :: tl)).size = tl.length + 2 := by rw [size_tx]; rfl
    have b0 : bt (tx (c0 :: c1 :: tl)) 0 = (c0.toNat : Int) := bt_tx _ 0 (by simp)
    have b1 : bt (tx (c0 :: c1 :: tl)) 1 = (c1.toNat : Int) := bt_tx _ 1 (by simp)
    simp only [fitsL, b0, b1]
    rw [if_neg (by rw [toList_by, by_tx]; simp), if_pos (by omega)]
    have e0 : ((c0.toNat : Int) - 48) % 256 = (c0.toNat : Int) - 48 := by omega
    have e1 : ((c1.toNat : Int) - 48) % 256 = (c1.toNat : Int) - 48 := by omega
    rw [e0, e1]
    by_cases hn : n ≥ (c0.toNat : Int) - 48
    · rw [if_pos hn, if_pos hn, if_pos (by omega)]
    · rw [if_neg hn, if_neg hn]
theorem bt_getD (l : List UInt8) (i : Nat) (h : i < l.length) : bt (tx l) (i : Int) = ((l.getD i 0).toNat : Int) := by
  rw [bt_tx l i h, List.getD_eq_getElem?_getD, List.getElem?_eq_getElem h]; rfl
theorem kind_ev (fn i : Int) : Ev (fun k => fname_Kind.f k fn i) (kindL (rsI fn) i) := by
  unfold fname_Kind.f
  refine ev_bind (rowI_ev fn) ?_
  simp only
  rcases rsI_shape fn with ⟨e, _⟩ | ⟨_, c0, c1, tl, _, e, g1, g2, g3, g4, g5⟩
  · rw [e]
    exact Ev.step (f := fun k => some 0) (fun k => by simp only [fname_Kind.j0]; rw [if_pos (by rw [toList_by, by_tx])]) (Ev.now _)
  · rw [e]
    have hz : (tx (c0 :: c1 :: tl)).size = tl.length + 2 := by rw [size_tx]; rfl
    have b1 : bt (tx (c0 :: c1 :: tl)) 1 = (c1.toNat : Int) := bt_tx _ 1 (by simp)
    refine Ev.step (f := fun k => some (kindL (c0 :: c1 :: tl) i)) (fun k => ?_) (Ev.now _)
    simp only [fname_Kind.j0, kindL, b1, hz]
    have e1 : ((c1.toNat : Int) - 48) % 256 = (c1.toNat : Int) - 48 := by omega
    rw [if_neg (by rw [toList_by, by_tx]; simp), e1]
    by_cases h1 : i < 0
    · rw [if_pos h1, if_pos h1]
    · rw [if_neg h1, if_neg h1, if_pos (by omega)]
      by_cases h2 : i ≥ (c1.toNat : Int) - 48
      · rw [if_pos h2, if_pos h2]
      · rw [if_neg h2, if_neg h2]
        have em : mn (wrap64 (2 + i)) (wrap64 (((tl.length + 2 : Nat) : Int) - 1)) = ((min (2 + i.toNat) (tl.length + 1) : Nat) : Int) := by
          rw [w64 (by omega) (by omega), w64 (by omega) (by omega)]
          unfold mn
          split <;> omega
        rw [em, if_pos (by omega), if_pos (by omega), bt_getD _ _ (by simp only [List.length_cons]; omega)]
end Go.Proofs.YtdddhabemdbooaaDoor.X
/- When two trees are the same: of node and of the reference; that the statements of node live. -/
set_option linter.unusedVariables false
set_option linter.unusedSimpArgs false
namespace Go.Proofs.YtdddhabemdbooaaDoor.X
open Go.RowKit Go.Proofs.YtdddhabemdbooaaDoorW.PrintWords Go.Proofs.YtdddhabemdbooaaDoorW.PrintLast Go.Proofs.YtdddhabemdbooaaDoorW.PrintMore
abbrev E0 : ByteArray := ⟨#[]⟩
abbrev rN : N := ⟨4, 0, ⟨0, 0, E0⟩, ⟨0, 0, false, false⟩, ⟨2, 0, false, false⟩, []⟩
abbrev oN : N := ⟨1, 0, ⟨1, 10000, E0⟩, ⟨0, 0, false, false⟩, ⟨0, 0, false, false⟩, []⟩
abbrev sN : N := ⟨7, 67, ⟨0, 0, E0⟩, ⟨0, 0, false, false⟩, ⟨0, 0, false, false⟩, [rN]⟩
abbrev nN : N := ⟨6, 2, ⟨0, 0, E0⟩, ⟨0, 0, false, false⟩, ⟨0, 0, false, false⟩, [sN, oN]⟩
abbrev gN : N := ⟨5, 0, ⟨0, 0, E0⟩, ⟨0, 0, false, false⟩, ⟨0, 0, false, false⟩, [rN]⟩
abbrev rightF (k : Nat) (x : N) := node_Right.f k x.f0 x.f1 x.f2.f0 x.f2.f1 x.f2.f2 x.f3.f0 x.f3.f1 x.f3.f2 x.f3.f3 x.f4.f0 x.f4.f1 x.f4.f2 x.f4.f3 x.f5
abbrev formF (k : Nat) (x : N) := node_Formula.f k x.f0 x.f1 x.f2.f0 x.f2.f1 x.f2.f2 x.f3.f0 x.f3.f1 x.f3.f2 x.f3.f3 x.f4.f0 x.f4.f1 x.f4.f2 x.f4.f3 x.f5
theorem fits67 : Ev (fun k => fname_Fits.f k 67 1) true := by
  have h := fits_ev 67 1
  rw [show fitsL (rsI 67) 1 = true by decide +kernel] at h
  exact h
theorem kind67 : Ev (fun k => fname_Kind.f k 67 0) 108 := by
  have h := kind_ev 67 0
  rw [show kindL (rsI 67) 0 = 108 by decide +kernel] at h
  exact h
theorem called_s : Ev (fun k => node_called.f k 7 67 0 0 E0 0 0 false false 0 0 false false [rN]) true := by
  unfold node_called.f
  refine ev_bind fits67 (ev_pos rfl ?_)
  refine Ev.step (fun k => node_called.l0.eq_2 ..) (ev_pos (by decide) (ev_pos (by decide) (ev_pos (by decide) (ev_bind kind67 ?_))))
  refine ev_bind (a := true) (ev_some fun _ => rfl) ?_
  refine Ev.step (fun k => node_called.j1.eq_2 ..) (ev_neg (by decide) ?_)
  exact Ev.step (fun k => node_called.l0.eq_2 ..) (ev_neg (by decide +kernel) (Ev.now _))
set_option maxRecDepth 100000 in
theorem right_r : Ev (fun k => rightF k rN) true := Ev.of (fun k => node_Right.mono _ _ _ _ _ _ _ _ _ _ _ _ _ _ k) (k := 30) (by decide +kernel)
set_option maxRecDepth 100000 in
theorem right_o : Ev (fun k => rightF k oN) true := Ev.of (fun k => node_Right.mono _ _ _ _ _ _ _ _ _ _ _ _ _ _ k) (k := 30) (by decide +kernel)
set_option maxRecDepth 100000 in
theorem right_g : Ev (fun k => rightF k gN) false := Ev.of (fun k => node_Right.mono _ _ _ _ _ _ _ _ _ _ _ _ _ _ k) (k := 40) (by decide +kernel)
set_option maxRecDepth 100000 in
theorem form_r : Ev (fun k => formF k rN) false := Ev.of (fun k => node_Formula.mono _ _ _ _ _ _ _ _ _ _ _ _ _ _ k) (k := 40) (by decide +kernel)
set_option maxRecDepth 100000 in
theorem deep_n : Ev (fun k => deepF k nN) 3 := Ev.of (fun k => node_Deep.mono _ _ _ _ _ _ _ _ _ _ _ _ _ _ k) (k := 40) (by decide +kernel)
set_option maxRecDepth 100000 in
theorem count_n : Ev (fun k => countF k nN) 4 := Ev.of (fun k => node_Count.mono _ _ _ _ _ _ _ _ _ _ _ _ _ _ k) (k := 40) (by decide +kernel)
theorem right_s : Ev (fun k => rightF k sN) true := by
  refine Ev.step (fun k => node_Right.f.eq_2 ..) ?_
  refine Ev.step (fun k => node_Right.l0.eq_2 ..) (ev_pos (by decide) (ev_pos (by decide) (ev_pos (by decide) (ev_bind right_r ?_))))
  refine Ev.step (fun k => node_Right.j1.eq_2 ..) (ev_neg (by decide) ?_)
  refine Ev.step (fun k => node_Right.l0.eq_2 ..) (ev_neg (by decide +kernel) ?_)
  refine ev_bind (a := 17) (ev_some fun _ => by decide +kernel) ?_
  refine Ev.step (fun k => node_Right.j2.eq_2 ..) ?_
  refine ev_neg (by decide) (ev_neg (by decide) (ev_neg (by decide) (ev_neg (by decide) (ev_neg (by decide) (ev_neg (by decide) (ev_pos (by decide) (ev_pos (by decide +kernel) ?_)))))))
  exact ev_bind called_s (Ev.now _)
theorem right_n : Ev (fun k => rightF k nN) true := by
  refine Ev.step (fun k => node_Right.f.eq_2 ..) ?_
  refine Ev.step (fun k => node_Right.l0.eq_2 ..) (ev_pos (by decide) (ev_pos (by decide) (ev_pos (by decide) (ev_bind right_s ?_))))
  refine Ev.step (fun k => node_Right.j1.eq_2 ..) (ev_neg (by decide) ?_)
  rw [show wrap64 (0 + 1) = 1 by decide +kernel]
  refine Ev.step (fun k => node_Right.l0.eq_2 ..) (ev_pos (by decide) (ev_pos (by decide) (ev_pos (by decide) (ev_bind right_o ?_))))
  refine Ev.step (fun k => node_Right.j1.eq_2 ..) (ev_neg (by decide) ?_)
  refine Ev.step (fun k => node_Right.l0.eq_2 ..) (ev_neg (by decide +kernel) ?_)
  refine ev_bind (a := 17) (ev_some fun _ => by decide +kernel) ?_
  refine Ev.of (fun k => (node_Right.mono_l k).2.2.2 _ _ _ _ _ _ _ _ _ _ _ _ _ _ _) (k := 20) (by decide +kernel)
theorem form_n : Ev (fun k => formF k nN) true := by
  unfold formF node_Formula.f
  refine ev_neg (by decide) (ev_bind deep_n (ev_pos (by decide) (ev_bind right_n (Ev.now _))))
set_option maxRecDepth 100000 in
theorem list_n : Ev (fun k => listF k nN) [nN, sN, rN, oN] := Ev.of (fun k => node_List.mono _ _ _ _ _ _ _ _ _ _ _ _ _ _ k) (k := 40) (by kernel_rfl)
set_option maxRecDepth 100000 in
theorem same_o : Ev (fun k => sameF k oN oN) true := Ev.of (fun k => node_Same.mono _ _ _ _ _ _ _ _ _ _ _ _ _ _ _ _ _ _ _ _ _ _ _ _ _ _ _ _ k) (k := 20) (by decide +kernel)
theorem alive22_ev : Ev (fun k => oculuslaw22_alive.f k) true := by
  unfold oculuslaw22_alive.f
  refine ev_bsome (ev_bind form_n (ev_pos rfl (ev_bind right_r (ev_pos rfl (ev_bind form_r (ev_neg (by decide) (ev_bind deep_n (ev_pos rfl (ev_bind count_n (ev_pos rfl (ev_bind right_g (ev_neg (by decide) (ev_bind list_n (ev_pos (by decide) ?_))))))))))))))
  exact ev_bind same_o (Ev.now _)
end Go.Proofs.YtdddhabemdbooaaDoor.X
/- What the references of cats and label answer: plain, with enough rounds. -/
set_option linter.unusedVariables false
set_option linter.unusedSimpArgs false
namespace Go.Proofs.YtdddhabemdbooaaDoor.X
open Go.RowKit Go.Proofs.YtdddhabemdbooaaDoorW.PrintWords Go.Proofs.YtdddhabemdbooaaDoorW.PrintLast Go.Proofs.YtdddhabemdbooaaDoorW.PrintMore

theorem pow_lt64 {i : Nat} (h : i ≤ 63) : 2 ^ i < 18446744073709551616 := Nat.lt_of_le_of_lt (Nat.pow_le_pow_right (by omega) h) (by decide)
end Go.Proofs.YtdddhabemdbooaaDoor.X
/- Sets as texts: plain. -/
set_option linter.unusedVariables false
set_option linter.unusedSimpArgs false
namespace Go.Proofs.YtdddhabemdbooaaDoor.X
open Go.RowKit Go.Proofs.YtdddhabemdbooaaDoorW.PrintWords Go.Proofs.YtdddhabemdbooaaDoorW.PrintLast Go.Proofs.YtdddhabemdbooaaDoorW.PrintMore
def splC (c : UInt8) : List UInt8 → List (List UInt8)
  | [] => [[]]
  | b :: l => if b = c then [] :: splC c l else match splC c l with
    | [] => [[b]]
    | p :: ps => (b :: p) :: ps
theorem splC_ne (c : UInt8) : ∀ l, ∃ p ps, splC c l = p :: ps
  | [] => ⟨_, _, rfl⟩
  | b :: l => by
    obtain ⟨p, ps, h⟩ := splC_ne c l
    unfold splC
    split
    · exact ⟨_, _, rfl⟩
    · rw [h]; exact ⟨_, _, rfl⟩
theorem splC_cons_eq (c : UInt8) (l : List UInt8) : splC c (c :: l) = [] :: splC c l := by rw [splC, if_pos rfl]
theorem splC_cons_ne {b c : UInt8} (h : b ≠ c) {l : List UInt8} {p : List UInt8} {ps : List (List UInt8)} (hl : splC c l = p :: ps) : splC c (b :: l) = (b :: p) :: ps := by rw [splC, if_neg h, hl]
theorem splC_length (c : UInt8) : ∀ l : List UInt8, (splC c l).length ≤ l.length + 1
  | [] => by simp [splC]
  | b :: l => by
    have ih := splC_length c l
    obtain ⟨p, ps, h⟩ := splC_ne c l
    by_cases hb : b = c
    · subst hb; rw [splC_cons_eq]; simp; omega
    · rw [splC_cons_ne hb h]; rw [h] at ih; simpa using Nat.le_succ_of_le ih
theorem splC_piece (c : UInt8) : ∀ l : List UInt8, ∀ p ∈ splC c l, p.length ≤ l.length
  | [], p, hp => by simp [splC] at hp; subst hp; simp
  | b :: l, p, hp => by
    have ih := splC_piece c l
    obtain ⟨q, qs, h⟩ := splC_ne c l
    by_cases hb : b = c
    · subst hb; rw [splC_cons_eq] at hp
      rcases List.mem_cons.1 hp with rfl | hp
      · simp
      · have := ih p hp; simp; omega
    · rw [splC_cons_ne hb h] at hp; rw [h] at ih
      rcases List.mem_cons.1 hp with rfl | hp
      · have := ih q (by simp); simp; omega
      · have := ih p (List.mem_cons_of_mem _ hp); simp; omega
theorem index_one_cons (b c : UInt8) (l : List UInt8) (h : b ≠ c) : Lib.index (b :: l) [c] = if Lib.index l [c] == -1 then -1 else Lib.index l [c] + 1 := by
  rw [Lib.index]
  rw [if_neg (by simp [List.isPrefixOf]; exact fun e => h e.symm)]
theorem split_one (c : UInt8) : ∀ l : List UInt8, Lib.splitK [c] 0 (Lib.count l [c]) l = splC c l
  | [] => by rw [Lib.count_one]; rfl
  | b :: l => by
    have ih := split_one c l
    by_cases hb : b = c
    · subst hb
      rw [Lib.count_cons_eq, Nat.add_comm, Lib.splitK, splC_cons_eq]
      have hi : Lib.index (b :: l) [b] = 0 := by rw [Lib.index, if_pos (by simp [List.isPrefixOf])]
      rw [hi, if_neg (by decide)]
      simp only [Int.toNat_zero, Nat.add_zero, List.take_zero, List.length_cons, List.length_nil, Nat.zero_add, List.drop_succ_cons, List.drop_zero, ih]
    · rw [Lib.count_cons_ne b c l hb]
      have hix := index_one_cons b c l hb
      cases hk : Lib.count l [c] with
      | zero =>
        rw [hk] at ih
        have ih' : [l] = splC c l := ih
        rw [splC_cons_ne hb ih'.symm]; rfl
      | succ k =>
        rw [hk] at ih
        have hne : Lib.index l [c] ≠ -1 := fun e => by rw [Lib.count_miss e] at hk; omega
        have hge := Lib.index_ge l [c]
        obtain ⟨i, hi⟩ : ∃ i : Nat, Lib.index l [c] = (i : Int) := ⟨(Lib.index l [c]).toNat, by omega⟩
        rw [Lib.splitK, hi, if_neg (by rw [beq_iff_eq]; omega)] at ih
        rw [splC_cons_ne hb ih.symm]
        rw [Lib.splitK, hix, hi, if_neg (show ¬ ((i : Int) == -1) = true by rw [beq_iff_eq]; omega), if_neg (by rw [beq_iff_eq]; omega)]
        have e : ((i : Int) + 1).toNat = i + 1 := by omega
        rw [e]
        simp only [Int.toNat_natCast, Nat.add_zero, List.length_cons, List.length_nil, Nat.zero_add, List.take_succ_cons, List.drop_succ_cons]
def du8 (n : Nat) : UInt8 := UInt8.ofNat n
def digT (n : Nat) : List UInt8 := if n < 10 then [du8 (48 + n)] else [du8 (48 + n / 10), du8 (48 + n % 10)]
theorem du8_nat (n : Nat) (h : n < 256) : (du8 n).toNat = n := by unfold du8; rw [UInt8.toNat_ofNat']; omega
def numZ : List UInt8 → Option Nat
  | [a] => if 48 ≤ a.toNat ∧ a.toNat ≤ 57 then some (a.toNat - 48) else none
  | [a, b] => if a.toNat ≠ 48 ∧ (48 ≤ a.toNat ∧ a.toNat ≤ 57) ∧ (48 ≤ b.toNat ∧ b.toNat ≤ 57) ∧ (a.toNat - 48) * 10 + (b.toNat - 48) < 64 then some ((a.toNat - 48) * 10 + (b.toNat - 48)) else none
  | _ => none
theorem numZ_digT : ∀ n, n < 64 → numZ (digT n) = some n := by decide +kernel
theorem u8eq {a : UInt8} {n : Nat} (h : a.toNat = n) (hn : n < 256) : a = du8 n := UInt8.toNat_inj.1 (by rw [du8_nat n hn, h])
theorem numZ_back : ∀ (w : List UInt8) (n : Nat), numZ w = some n → n < 64 ∧ digT n = w
  | [], _, h => by simp [numZ] at h
  | [a], n, h => by
    replace h : (if 48 ≤ a.toNat ∧ a.toNat ≤ 57 then some (a.toNat - 48) else none) = some n := h
    split at h
    · rename_i g
      obtain rfl := Option.some.inj h
      refine ⟨by omega, ?_⟩
      unfold digT
      rw [if_pos (by omega)]
      congr 1
      exact (u8eq (by omega) (by omega)).symm
    · cases h
  | [a, b], n, h => by
    replace h : (if a.toNat ≠ 48 ∧ (48 ≤ a.toNat ∧ a.toNat ≤ 57) ∧ (48 ≤ b.toNat ∧ b.toNat ≤ 57) ∧ (a.toNat - 48) * 10 + (b.toNat - 48) < 64 then some ((a.toNat - 48) * 10 + (b.toNat - 48)) else none) = some n := h
    split at h
    · rename_i g
      obtain rfl := Option.some.inj h
      refine ⟨by omega, ?_⟩
      unfold digT
      rw [if_neg (by omega)]
      have ha : du8 (48 + ((a.toNat - 48) * 10 + (b.toNat - 48)) / 10) = a := (u8eq (by omega) (by omega)).symm
      have hb : du8 (48 + ((a.toNat - 48) * 10 + (b.toNat - 48)) % 10) = b := (u8eq (by omega) (by omega)).symm
      rw [ha, hb]
    · cases h
  | a :: b :: c :: l, _, h => by simp [numZ] at h
def parC : Nat → List (List UInt8) → Option Nat
  | s, [] => some s
  | s, w :: ws => match numZ w with
    | none => none
    | some c => if s / 2 ^ c = 0 then parC (s ||| 2 ^ c) ws else none
def parT (t : List UInt8) : Option Nat := if t = [] then some 0 else parC 0 (splC 44 t)
end Go.Proofs.YtdddhabemdbooaaDoor.X
