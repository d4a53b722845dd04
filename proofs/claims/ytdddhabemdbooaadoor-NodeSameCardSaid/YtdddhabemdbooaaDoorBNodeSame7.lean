/- The law NodeSame: for every input the call returns true, and each argument reads afterwards as it read before: the statement Rows.NodeSameSaid, whole, with no condition of ours. -/
import Derived.Deep.Slices
import Derived.ChangeArms
import Derived.SizedLaws
import Derived.OpenShut
import Derived.Laws.BitsAllLaws
import Derived.Lib.Strings
import Derived.Lib.IndexBytes
import Derived.Test.YtdddhabemdbooaaDoorRows
import Derived.WalkKit
import Derived.ProofKit
import Derived.ShutString
import Derived.ChangeOld
import Derived.Below
import Derived.Carry
import Derived.Handed
import Derived.LaidLaws
import Derived.Lib.LaidTab
import Derived.Test.YtdddhabemdbooaaDoorCards
import Derived.Test.YtdddhabemdbooaaDoorTie
import Derived.SevenTiedAt
import Derived.Test.YtdddhabemdbooaaDoorBNodeSame6
namespace Go.Proofs.YtdddhabemdbooaaDoor.X
open Go.RowKit Go.Proofs.YtdddhabemdbooaaDoorW.PrintWords Go.Proofs.YtdddhabemdbooaaDoorW.PrintLast Go.Proofs.YtdddhabemdbooaaDoorW.PrintMore
attribute [local go_sem] max2_int min2_int max_two min_two max_three min_three max_four min_four
set_option linter.unusedVariables false
set_option linter.unusedSimpArgs false
def oculuslaw22_NodeSame.j0 : Nat → Bool → Int → Int → Int → Int → ByteArray → Int → Int → Bool → Bool → Int → Int → Bool → Bool → List (S28) → Int → Int → Int → Int → ByteArray → Int → Int → Bool → Bool → Int → Int → Bool → Bool → List (S28) → Option (Bool)
 | 0, _, _, _, _, _, _, _, _, _, _, _, _, _, _, _, _, _, _, _, _, _, _, _, _, _, _, _, _, _ => none
 | k + 1, x13, x102000, x102001, x102002, x102003, x102004, x102005, x102006, x102007, x102008, x102009, x102010, x102011, x102012, x102013, x103000, x103001, x103002, x103003, x103004, x103005, x103006, x103007, x103008, x103009, x103010, x103011, x103012, x103013 => if x13 = true then ((oculuslaw22_alive.f k).bind fun t105 => (some t105)) else ((node_Same.f k x102000 x102001 x102002 x102003 x102004 x102005 x102006 x102007 x102008 x102009 x102010 x102011 x102012 x102013 x103000 x103001 x103002 x103003 x103004 x103005 x103006 x103007 x103008 x103009 x103010 x103011 x103012 x103013).bind fun t106 => ((oculusref22_Same.f k x102000 x102001 x102002 x102003 x102004 x102005 x102006 x102007 x102008 x102009 x102010 x102011 x102012 x102013 x103000 x103001 x103002 x103003 x103004 x103005 x103006 x103007 x103008 x103009 x103010 x103011 x103012 x103013).bind fun t107 => (if (t106 == t107) = true then ((node_Same.f k x102000 x102001 x102002 x102003 x102004 x102005 x102006 x102007 x102008 x102009 x102010 x102011 x102012 x102013 x102000 x102001 x102002 x102003 x102004 x102005 x102006 x102007 x102008 x102009 x102010 x102011 x102012 x102013).bind fun t108 => (if t108 = true then ((node_Same.f k x103000 x103001 x103002 x103003 x103004 x103005 x103006 x103007 x103008 x103009 x103010 x103011 x103012 x103013 x102000 x102001 x102002 x102003 x102004 x102005 x102006 x102007 x102008 x102009 x102010 x102011 x102012 x102013).bind fun t109 => (if (t109 == t106) = true then (if t106 = true then ((node_Count.f k x102000 x102001 x102002 x102003 x102004 x102005 x102006 x102007 x102008 x102009 x102010 x102011 x102012 x102013).bind fun t110 => ((node_Count.f k x103000 x103001 x103002 x103003 x103004 x103005 x103006 x103007 x103008 x103009 x103010 x103011 x103012 x103013).bind fun t111 => (if t110 = t111 then ((oculuslaw22_alive.f k).bind fun t112 => (some t112)) else (none)))) else ((oculuslaw22_alive.f k).bind fun t113 => (some t113))) else (none))) else (none))) else (none))))
def oculuslaw22_NodeSame.f (k : Nat) (a0_0 : Int) (a0_1 : Int) (a0_2 : Int) (a0_3 : Int) (a0_4 : ByteArray) (a0_5 : Int) (a0_6 : Int) (a0_7 : Bool) (a0_8 : Bool) (a0_9 : Int) (a0_10 : Int) (a0_11 : Bool) (a0_12 : Bool) (l0_13 : List (S28)) (a1_0 : Int) (a1_1 : Int) (a1_2 : Int) (a1_3 : Int) (a1_4 : ByteArray) (a1_5 : Int) (a1_6 : Int) (a1_7 : Bool) (a1_8 : Bool) (a1_9 : Int) (a1_10 : Int) (a1_11 : Bool) (a1_12 : Bool) (l1_13 : List (S28)) : Option (Bool) := (oculuslaw22_few.f k a0_0 a0_1 a0_2 a0_3 a0_4 a0_5 a0_6 a0_7 a0_8 a0_9 a0_10 a0_11 a0_12 l0_13 200).bind fun t103 => (if t103 = true then ((oculuslaw22_few.f k a1_0 a1_1 a1_2 a1_3 a1_4 a1_5 a1_6 a1_7 a1_8 a1_9 a1_10 a1_11 a1_12 l1_13 200).bind fun t104 => (oculuslaw22_NodeSame.j0 k (!t104) a0_0 a0_1 a0_2 a0_3 a0_4 a0_5 a0_6 a0_7 a0_8 a0_9 a0_10 a0_11 a0_12 l0_13 a1_0 a1_1 a1_2 a1_3 a1_4 a1_5 a1_6 a1_7 a1_8 a1_9 a1_10 a1_11 a1_12 l1_13)) else (oculuslaw22_NodeSame.j0 k true a0_0 a0_1 a0_2 a0_3 a0_4 a0_5 a0_6 a0_7 a0_8 a0_9 a0_10 a0_11 a0_12 l0_13 a1_0 a1_1 a1_2 a1_3 a1_4 a1_5 a1_6 a1_7 a1_8 a1_9 a1_10 a1_11 a1_12 l1_13))
def oculuslaw22_NodeSame.T4 : Bool × List (List Nat × List Nat) := (true, [([], []), ([], []), ([], []), ([1, 2], [1, 2]), ([0, 3], [0, 3]), ([4, 3], [4]), ([5], [5]), ([5], [5]), ([6, 7, 5, 5], [5, 6, 7]), ([5, 8], [5, 8]), ([9, 8], [9]), ([10], [10]), ([10], [10]), ([11, 12, 10, 10], [10, 11, 12]), ([10], [10]), ([13, 14, 10], [10, 13, 14]), ([10, 15], [10, 15]), ([16, 13], [16]), ([17], [17]), ([18, 17], [17, 18]), ([19, 17, 17], [17, 19]), ([20], [20]), ([21, 20, 20], [20, 21]), ([20], [20]), ([23, 22, 20], [20, 23]), ([22, 24, 20], [20, 22, 24]), ([20, 25, 17], [17, 20, 25]), ([17, 26], [17, 26]), ([27, 24], [27]), ([28, 28], [28]), ([28, 29], [28, 29]), ([30, 29, 0, 1, 2, 3, 4, 5, 6, 7, 8, 9, 10, 11, 12, 13, 14, 15, 16, 17, 18, 19, 20, 21, 22, 23, 24, 25, 26, 27, 28, 29, 30], [30])])
def oculuslaw22_NodeSame.B4 : List Nat := [0, 0, 0, 6, 15, 31, 63, 63, 255, 511, 1023, 2047, 2047, 8191, 2047, 32767, 65535, 131071, 262143, 524287, 1048575, 2097151, 4194303, 2097151, 16777215, 33554431, 67108863, 134217727, 268435455, 536870911, 1073741823, 2147483647]
theorem oculuslaw22_NodeSame.tab4 : rtab .any (opsOf Tryd.f5 4) = oculuslaw22_NodeSame.T4 := by kernel_rfl
theorem oculuslaw22_NodeSame.bits4 : waitsOk oculuslaw22_NodeSame.T4.2 oculuslaw22_NodeSame.B4 = true := by kernel_rfl
set_option maxHeartbeats 8000000 in
set_option maxRecDepth 100000 in
theorem oculuslaw22_NodeSame.calls (k : Nat) (a0_0 : Int) (a0_1 : Int) (a0_2 : Int) (a0_3 : Int) (a0_4 : ByteArray) (a0_5 : Int) (a0_6 : Int) (a0_7 : Bool) (a0_8 : Bool) (a0_9 : Int) (a0_10 : Int) (a0_11 : Bool) (a0_12 : Bool) (A0_13 : Option Addr) (c0_13 : Nat) (l0_13 : List (S28)) (a1_0 : Int) (a1_1 : Int) (a1_2 : Int) (a1_3 : Int) (a1_4 : ByteArray) (a1_5 : Int) (a1_6 : Int) (a1_7 : Bool) (a1_8 : Bool) (a1_9 : Int) (a1_10 : Int) (a1_11 : Bool) (a1_12 : Bool) (A1_13 : Option Addr) (c1_13 : Nat) (l1_13 : List (S28)) (r : Bool) (w : World) (hT : Aside0 (Tab w)) (hr0_13 : Kd.C k28 w A0_13 l0_13.length l0_13) (hc0_13 : l0_13.length ≤ c0_13) (hr1_13 : Kd.C k28 w A1_13 l1_13.length l1_13) (hc1_13 : l1_13.length ≤ c1_13) (h : oculuslaw22_NodeSame.f k a0_0 a0_1 a0_2 a0_3 a0_4 a0_5 a0_6 a0_7 a0_8 a0_9 a0_10 a0_11 a0_12 l0_13 a1_0 a1_1 a1_2 a1_3 a1_4 a1_5 a1_6 a1_7 a1_8 a1_9 a1_10 a1_11 a1_12 l1_13 = some r) :
  Calls Tryd.prog 5 #[.agg #[.int .i64 a0_0, .int .i64 a0_1, .int .i64 a0_2, .int .i64 a0_3, .string a0_4, .int .i64 a0_5, .int .i64 a0_6, .bool a0_7, .bool a0_8, .int .i64 a0_9, .int .i64 a0_10, .bool a0_11, .bool a0_12, .slice A0_13 l0_13.length c0_13], .agg #[.int .i64 a1_0, .int .i64 a1_1, .int .i64 a1_2, .int .i64 a1_3, .string a1_4, .int .i64 a1_5, .int .i64 a1_6, .bool a1_7, .bool a1_8, .int .i64 a1_9, .int .i64 a1_10, .bool a1_11, .bool a1_12, .slice A1_13 l1_13.length c1_13]] w fun e w' => e = .returned (.bool r) ∧ Below w.heap.size w w' := by
 have hu28 := Tryd.underlying28; have HR0_13 := Aside0.mk hr0_13; have HC0_13 := Aside0.mk hc0_13; clear hr0_13 hc0_13; have HR1_13 := Aside0.mk hr1_13; have HC1_13 := Aside0.mk hc1_13; clear hr1_13 hc1_13; have HB := Aside0.mk (Below.refl w.heap.size w)
 have H : ((oculuslaw22_few.f k a0_0 a0_1 a0_2 a0_3 a0_4 a0_5 a0_6 a0_7 a0_8 a0_9 a0_10 a0_11 a0_12 l0_13 200).bind fun t103 => (if t103 = true then ((oculuslaw22_few.f k a1_0 a1_1 a1_2 a1_3 a1_4 a1_5 a1_6 a1_7 a1_8 a1_9 a1_10 a1_11 a1_12 l1_13 200).bind fun t104 => (oculuslaw22_NodeSame.j0 k (!t104) a0_0 a0_1 a0_2 a0_3 a0_4 a0_5 a0_6 a0_7 a0_8 a0_9 a0_10 a0_11 a0_12 l0_13 a1_0 a1_1 a1_2 a1_3 a1_4 a1_5 a1_6 a1_7 a1_8 a1_9 a1_10 a1_11 a1_12 l1_13)) else (oculuslaw22_NodeSame.j0 k true a0_0 a0_1 a0_2 a0_3 a0_4 a0_5 a0_6 a0_7 a0_8 a0_9 a0_10 a0_11 a0_12 l0_13 a1_0 a1_1 a1_2 a1_3 a1_4 a1_5 a1_6 a1_7 a1_8 a1_9 a1_10 a1_11 a1_12 l1_13))) = some r := h
 clear h; have HC3 := Aside0.mk H; clear H
 go_enter Tryd.func5, Tryd.ntmps5
 go_upto_region 1 with (first | ((with_reducible refine gate_dst (N:=2) rfl ?_); refine be_ (N:=2) (cs := #[.int .i64 a0_0, .int .i64 a0_1, .int .i64 a0_2, .int .i64 a0_3, .string a0_4, .int .i64 a0_5, .int .i64 a0_6, .bool a0_7, .bool a0_8, .int .i64 a0_9, .int .i64 a0_10, .bool a0_11, .bool a0_12, .slice A0_13 l0_13.length c0_13]) (t:=28) ?_; intro gb101 hg w4 hbox hb; have BK101 := Aside0.mk (hbox); have GW101 := hs_ HB hg; have GE101 := hs_ HB hg; replace HB := bs_ HB hb; clear hb hbox hg) | ((with_reducible refine gate_dst (N:=3) rfl ?_); refine be_ (N:=3) (cs := #[.int .i64 a1_0, .int .i64 a1_1, .int .i64 a1_2, .int .i64 a1_3, .string a1_4, .int .i64 a1_5, .int .i64 a1_6, .bool a1_7, .bool a1_8, .int .i64 a1_9, .int .i64 a1_10, .bool a1_11, .bool a1_12, .slice A1_13 l1_13.length c1_13]) (t:=28) ?_; intro gb102 hg w5 hbox hb; have BK102 := Aside0.mk (hbox); have GW102 := hs_ HB hg; have GE102 := hs_ HB hg; have NB101_102 := hl_ BK101 hg; have NB102_101 := hr_ BK101 hg; replace BK101 := bb_ BK101 hb; replace HB := bs_ HB hb; clear hb hbox hg))
 (try simp only [q_])
 go_cut [13] (fun v13 wc => ∃ (kq : Nat) (x13_2 : Bool), v13 = .bool x13_2 ∧ Aside0 (oculuslaw22_NodeSame.j0 kq x13_2 a0_0 a0_1 a0_2 a0_3 a0_4 a0_5 a0_6 a0_7 a0_8 a0_9 a0_10 a0_11 a0_12 l0_13 a1_0 a1_1 a1_2 a1_3 a1_4 a1_5 a1_6 a1_7 a1_8 a1_9 a1_10 a1_11 a1_12 l1_13 = some r) ∧ Aside0 (kq ≤ k) ∧ Aside0 (wc.heap[gb101]? = some (.cells #[.int .i64 a0_0, .int .i64 a0_1, .int .i64 a0_2, .int .i64 a0_3, .string a0_4, .int .i64 a0_5, .int .i64 a0_6, .bool a0_7, .bool a0_8, .int .i64 a0_9, .int .i64 a0_10, .bool a0_11, .bool a0_12, (.slice A0_13 l0_13.length c0_13)] 28 (0, 0))) ∧ Aside0 (wc.heap[gb102]? = some (.cells #[.int .i64 a1_0, .int .i64 a1_1, .int .i64 a1_2, .int .i64 a1_3, .string a1_4, .int .i64 a1_5, .int .i64 a1_6, .bool a1_7, .bool a1_8, .int .i64 a1_9, .int .i64 a1_10, .bool a1_11, .bool a1_12, (.slice A1_13 l1_13.length c1_13)] 28 (0, 0))) ∧ Aside0 (Below w.heap.size w wc))
 case first =>
  have H := HC3.out; clear HC3; replace H := Option.bind_eq_some_iff.mp H; obtain ⟨t103, A60, H⟩ := H
  replace H : (if t103 = true then ((oculuslaw22_few.f k a1_0 a1_1 a1_2 a1_3 a1_4 a1_5 a1_6 a1_7 a1_8 a1_9 a1_10 a1_11 a1_12 l1_13 200).bind fun t104 => (oculuslaw22_NodeSame.j0 k (!t104) a0_0 a0_1 a0_2 a0_3 a0_4 a0_5 a0_6 a0_7 a0_8 a0_9 a0_10 a0_11 a0_12 l0_13 a1_0 a1_1 a1_2 a1_3 a1_4 a1_5 a1_6 a1_7 a1_8 a1_9 a1_10 a1_11 a1_12 l1_13)) else (oculuslaw22_NodeSame.j0 k true a0_0 a0_1 a0_2 a0_3 a0_4 a0_5 a0_6 a0_7 a0_8 a0_9 a0_10 a0_11 a0_12 l0_13 a1_0 a1_1 a1_2 a1_3 a1_4 a1_5 a1_6 a1_7 a1_8 a1_9 a1_10 a1_11 a1_12 l1_13)) = some r := H
  have A6 := Aside0.mk A60; clear A60
  by_cases c7 : t103 = true
  ·subst c7
   have H1 : ((oculuslaw22_few.f k a1_0 a1_1 a1_2 a1_3 a1_4 a1_5 a1_6 a1_7 a1_8 a1_9 a1_10 a1_11 a1_12 l1_13 200).bind fun t104 => (oculuslaw22_NodeSame.j0 k (!t104) a0_0 a0_1 a0_2 a0_3 a0_4 a0_5 a0_6 a0_7 a0_8 a0_9 a0_10 a0_11 a0_12 l0_13 a1_0 a1_1 a1_2 a1_3 a1_4 a1_5 a1_6 a1_7 a1_8 a1_9 a1_10 a1_11 a1_12 l1_13)) = some r := by rw [if_pos rfl] at H; exact H
   clear H; have H := H1; clear H1; replace H := Option.bind_eq_some_iff.mp H; obtain ⟨t104, A80, H⟩ := H
   replace H : (oculuslaw22_NodeSame.j0 k (!t104) a0_0 a0_1 a0_2 a0_3 a0_4 a0_5 a0_6 a0_7 a0_8 a0_9 a0_10 a0_11 a0_12 l0_13 a1_0 a1_1 a1_2 a1_3 a1_4 a1_5 a1_6 a1_7 a1_8 a1_9 a1_10 a1_11 a1_12 l1_13) = some r := H
   have A8 := Aside0.mk A80; clear A80
   have H' := Aside0.mk H
   clear H; have hnb9 := NB101_102.out; have hnc9 := NB102_101.out
   have hcz10_0 : w5.cell? ⟨gb101, 0, none⟩ = some (.int .i64 a0_0) := bc_ BK101 0 rfl
   have hcz10_1 : w5.cell? ⟨gb101, 1, none⟩ = some (.int .i64 a0_1) := bc_ BK101 1 rfl
   have hcz10_2 : w5.cell? ⟨gb101, 2, none⟩ = some (.int .i64 a0_2) := bc_ BK101 2 rfl
   have hcz10_3 : w5.cell? ⟨gb101, 3, none⟩ = some (.int .i64 a0_3) := bc_ BK101 3 rfl
   have hcz10_4 : w5.cell? ⟨gb101, 4, none⟩ = some (.string a0_4) := bc_ BK101 4 rfl
   have hcz10_5 : w5.cell? ⟨gb101, 5, none⟩ = some (.int .i64 a0_5) := bc_ BK101 5 rfl
   have hcz10_6 : w5.cell? ⟨gb101, 6, none⟩ = some (.int .i64 a0_6) := bc_ BK101 6 rfl
   have hcz10_7 : w5.cell? ⟨gb101, 7, none⟩ = some (.bool a0_7) := bc_ BK101 7 rfl
   have hcz10_8 : w5.cell? ⟨gb101, 8, none⟩ = some (.bool a0_8) := bc_ BK101 8 rfl
   have hcz10_9 : w5.cell? ⟨gb101, 9, none⟩ = some (.int .i64 a0_9) := bc_ BK101 9 rfl
   have hcz10_10 : w5.cell? ⟨gb101, 10, none⟩ = some (.int .i64 a0_10) := bc_ BK101 10 rfl
   have hcz10_11 : w5.cell? ⟨gb101, 11, none⟩ = some (.bool a0_11) := bc_ BK101 11 rfl
   have hcz10_12 : w5.cell? ⟨gb101, 12, none⟩ = some (.bool a0_12) := bc_ BK101 12 rfl
   have hcz10_13 : w5.cell? ⟨gb101, 13, none⟩ = some (.slice A0_13 l0_13.length c0_13) := bc_ BK101 13 rfl
   have hfz10_0 := blk_frozen BK101.out 0; have hfz10_1 := blk_frozen BK101.out 1; have hfz10_2 := blk_frozen BK101.out 2; have hfz10_3 := blk_frozen BK101.out 3; have hfz10_4 := blk_frozen BK101.out 4; have hfz10_5 := blk_frozen BK101.out 5; have hfz10_6 := blk_frozen BK101.out 6; have hfz10_7 := blk_frozen BK101.out 7; have hfz10_8 := blk_frozen BK101.out 8; have hfz10_9 := blk_frozen BK101.out 9; have hfz10_10 := blk_frozen BK101.out 10; have hfz10_11 := blk_frozen BK101.out 11; have hfz10_12 := blk_frozen BK101.out 12; have hfz10_13 := blk_frozen BK101.out 13
   go_wp2_with (first | ((with_reducible refine gate_callee (f:=6) rfl ?_); refine gL_ (some 7) rfl rfl Tryd.func6 rfl #[.agg #[.int .i64 a0_0, .int .i64 a0_1, .int .i64 a0_2, .int .i64 a0_3, .string a0_4, .int .i64 a0_5, .int .i64 a0_6, .bool a0_7, .bool a0_8, .int .i64 a0_9, .int .i64 a0_10, .bool a0_11, .bool a0_12, .slice A0_13 l0_13.length c0_13], .int .i64 200] rfl ?_; (with_reducible refine (oculuslaw22_few.calls k a0_0 a0_1 a0_2 a0_3 a0_4 a0_5 a0_6 a0_7 a0_8 a0_9 a0_10 a0_11 a0_12 _ _ l0_13 200 true _ ?side1 ?side2 A6.out).mono ?_); (case side1 => repeat (first | exact (Kd.C_below HR0_13.out HB.out) | (with_reducible refine Kd.C_alloc ?_ _) | (with_reducible refine Kd.C_drewN ?_ _) | (with_reducible refine Kd.C_drew ?_))); (case side2 => exact HC0_13.out); rintro e w11 ⟨rfl, hb⟩; refine ⟨_, rfl, ?_⟩; replace BK101 := bb_ BK101 hb; replace BK102 := bb_ BK102 hb; replace HB := bs_ HB hb; (try clear hb); (try clear hb2); (try clear hk); (try clear hi); have hcz12_0 : w11.cell? ⟨gb102, 0, none⟩ = some (.int .i64 a1_0) := bc_ BK102 0 rfl; have hcz12_1 : w11.cell? ⟨gb102, 1, none⟩ = some (.int .i64 a1_1) := bc_ BK102 1 rfl; have hcz12_2 : w11.cell? ⟨gb102, 2, none⟩ = some (.int .i64 a1_2) := bc_ BK102 2 rfl; have hcz12_3 : w11.cell? ⟨gb102, 3, none⟩ = some (.int .i64 a1_3) := bc_ BK102 3 rfl; have hcz12_4 : w11.cell? ⟨gb102, 4, none⟩ = some (.string a1_4) := bc_ BK102 4 rfl; have hcz12_5 : w11.cell? ⟨gb102, 5, none⟩ = some (.int .i64 a1_5) := bc_ BK102 5 rfl; have hcz12_6 : w11.cell? ⟨gb102, 6, none⟩ = some (.int .i64 a1_6) := bc_ BK102 6 rfl; have hcz12_7 : w11.cell? ⟨gb102, 7, none⟩ = some (.bool a1_7) := bc_ BK102 7 rfl; have hcz12_8 : w11.cell? ⟨gb102, 8, none⟩ = some (.bool a1_8) := bc_ BK102 8 rfl; have hcz12_9 : w11.cell? ⟨gb102, 9, none⟩ = some (.int .i64 a1_9) := bc_ BK102 9 rfl; have hcz12_10 : w11.cell? ⟨gb102, 10, none⟩ = some (.int .i64 a1_10) := bc_ BK102 10 rfl; have hcz12_11 : w11.cell? ⟨gb102, 11, none⟩ = some (.bool a1_11) := bc_ BK102 11 rfl; have hcz12_12 : w11.cell? ⟨gb102, 12, none⟩ = some (.bool a1_12) := bc_ BK102 12 rfl; have hcz12_13 : w11.cell? ⟨gb102, 13, none⟩ = some (.slice A1_13 l1_13.length c1_13) := bc_ BK102 13 rfl; have hfz12_0 := blk_frozen BK102.out 0; have hfz12_1 := blk_frozen BK102.out 1; have hfz12_2 := blk_frozen BK102.out 2; have hfz12_3 := blk_frozen BK102.out 3; have hfz12_4 := blk_frozen BK102.out 4; have hfz12_5 := blk_frozen BK102.out 5; have hfz12_6 := blk_frozen BK102.out 6; have hfz12_7 := blk_frozen BK102.out 7; have hfz12_8 := blk_frozen BK102.out 8; have hfz12_9 := blk_frozen BK102.out 9; have hfz12_10 := blk_frozen BK102.out 10; have hfz12_11 := blk_frozen BK102.out 11; have hfz12_12 := blk_frozen BK102.out 12; have hfz12_13 := blk_frozen BK102.out 13) | (go_at_call 6; (with_reducible refine (oculuslaw22_few.calls k a1_0 a1_1 a1_2 a1_3 a1_4 a1_5 a1_6 a1_7 a1_8 a1_9 a1_10 a1_11 a1_12 _ _ l1_13 200 t104 _ ?side1 ?side2 A8.out).mono ?_); (case side1 => repeat (first | exact (Kd.C_below HR1_13.out HB.out) | (with_reducible refine Kd.C_alloc ?_ _) | (with_reducible refine Kd.C_drewN ?_ _) | (with_reducible refine Kd.C_drew ?_))); (case side2 => exact HC1_13.out); rintro e w13 ⟨rfl, hb⟩; replace BK101 := bb_ BK101 hb; replace BK102 := bb_ BK102 hb; replace HB := bs_ HB hb; (try clear hb); (try clear hb2); (try clear hk); (try clear hi)))
   go_meet
   case rel => exact ⟨_, (!t104), (by first | rfl | (simp; done) | (simp [*]; done) | (cases t104 <;> simp; done)), H', ⟨by first | omega | exact Nat.le_refl _⟩, ⟨pkx BK101⟩, ⟨pkx BK102⟩, ⟨pbx HB⟩⟩
  ·replace c7 := Bool.eq_false_iff.mpr c7; subst c7
   have H1 : (oculuslaw22_NodeSame.j0 k true a0_0 a0_1 a0_2 a0_3 a0_4 a0_5 a0_6 a0_7 a0_8 a0_9 a0_10 a0_11 a0_12 l0_13 a1_0 a1_1 a1_2 a1_3 a1_4 a1_5 a1_6 a1_7 a1_8 a1_9 a1_10 a1_11 a1_12 l1_13) = some r := by rw [if_neg (show ¬ (false = true) by decide)] at H; exact H
   clear H; have H := H1; clear H1
   have H' := Aside0.mk H
   clear H; have hnb14 := NB101_102.out; have hnc14 := NB102_101.out
   have hcz15_0 : w5.cell? ⟨gb101, 0, none⟩ = some (.int .i64 a0_0) := bc_ BK101 0 rfl
   have hcz15_1 : w5.cell? ⟨gb101, 1, none⟩ = some (.int .i64 a0_1) := bc_ BK101 1 rfl
   have hcz15_2 : w5.cell? ⟨gb101, 2, none⟩ = some (.int .i64 a0_2) := bc_ BK101 2 rfl
   have hcz15_3 : w5.cell? ⟨gb101, 3, none⟩ = some (.int .i64 a0_3) := bc_ BK101 3 rfl
   have hcz15_4 : w5.cell? ⟨gb101, 4, none⟩ = some (.string a0_4) := bc_ BK101 4 rfl
   have hcz15_5 : w5.cell? ⟨gb101, 5, none⟩ = some (.int .i64 a0_5) := bc_ BK101 5 rfl
   have hcz15_6 : w5.cell? ⟨gb101, 6, none⟩ = some (.int .i64 a0_6) := bc_ BK101 6 rfl
   have hcz15_7 : w5.cell? ⟨gb101, 7, none⟩ = some (.bool a0_7) := bc_ BK101 7 rfl
   have hcz15_8 : w5.cell? ⟨gb101, 8, none⟩ = some (.bool a0_8) := bc_ BK101 8 rfl
   have hcz15_9 : w5.cell? ⟨gb101, 9, none⟩ = some (.int .i64 a0_9) := bc_ BK101 9 rfl
   have hcz15_10 : w5.cell? ⟨gb101, 10, none⟩ = some (.int .i64 a0_10) := bc_ BK101 10 rfl
   have hcz15_11 : w5.cell? ⟨gb101, 11, none⟩ = some (.bool a0_11) := bc_ BK101 11 rfl
   have hcz15_12 : w5.cell? ⟨gb101, 12, none⟩ = some (.bool a0_12) := bc_ BK101 12 rfl
   have hcz15_13 : w5.cell? ⟨gb101, 13, none⟩ = some (.slice A0_13 l0_13.length c0_13) := bc_ BK101 13 rfl
   have hfz15_0 := blk_frozen BK101.out 0; have hfz15_1 := blk_frozen BK101.out 1; have hfz15_2 := blk_frozen BK101.out 2; have hfz15_3 := blk_frozen BK101.out 3; have hfz15_4 := blk_frozen BK101.out 4; have hfz15_5 := blk_frozen BK101.out 5; have hfz15_6 := blk_frozen BK101.out 6; have hfz15_7 := blk_frozen BK101.out 7; have hfz15_8 := blk_frozen BK101.out 8; have hfz15_9 := blk_frozen BK101.out 9; have hfz15_10 := blk_frozen BK101.out 10; have hfz15_11 := blk_frozen BK101.out 11; have hfz15_12 := blk_frozen BK101.out 12; have hfz15_13 := blk_frozen BK101.out 13
   go_wp2_with (first | ((with_reducible refine gate_callee (f:=6) rfl ?_); refine gL_ (some 7) rfl rfl Tryd.func6 rfl #[.agg #[.int .i64 a0_0, .int .i64 a0_1, .int .i64 a0_2, .int .i64 a0_3, .string a0_4, .int .i64 a0_5, .int .i64 a0_6, .bool a0_7, .bool a0_8, .int .i64 a0_9, .int .i64 a0_10, .bool a0_11, .bool a0_12, .slice A0_13 l0_13.length c0_13], .int .i64 200] rfl ?_; (with_reducible refine (oculuslaw22_few.calls k a0_0 a0_1 a0_2 a0_3 a0_4 a0_5 a0_6 a0_7 a0_8 a0_9 a0_10 a0_11 a0_12 _ _ l0_13 200 false _ ?side1 ?side2 A6.out).mono ?_); (case side1 => repeat (first | exact (Kd.C_below HR0_13.out HB.out) | (with_reducible refine Kd.C_alloc ?_ _) | (with_reducible refine Kd.C_drewN ?_ _) | (with_reducible refine Kd.C_drew ?_))); (case side2 => exact HC0_13.out); rintro e w16 ⟨rfl, hb⟩; refine ⟨_, rfl, ?_⟩; replace BK101 := bb_ BK101 hb; replace BK102 := bb_ BK102 hb; replace HB := bs_ HB hb; (try clear hb); (try clear hb2); (try clear hk); (try clear hi)))
   go_meet
   case rel => exact ⟨_, (true), (by first | rfl | (simp; done) | (simp [*]; done)), H', ⟨by first | omega | exact Nat.le_refl _⟩, ⟨pkx BK101⟩, ⟨pkx BK102⟩, ⟨pbx HB⟩⟩
 case rest =>
  clear HC3; (try clear c1); (try clear p2); (try clear c5); (try clear c6); (try clear c7); (try clear c9); (try clear c14); (try clear hcz10_0); (try clear hcz10_1); (try clear hcz10_10); (try clear hcz10_11); (try clear hcz10_12); (try clear hcz10_13); (try clear hcz10_2); (try clear hcz10_3); (try clear hcz10_4); (try clear hcz10_5); (try clear hcz10_6); (try clear hcz10_7); (try clear hcz10_8); (try clear hcz10_9); (try clear hcz12_0); (try clear hcz12_1); (try clear hcz12_10); (try clear hcz12_11); (try clear hcz12_12); (try clear hcz12_13); (try clear hcz12_2); (try clear hcz12_3); (try clear hcz12_4); (try clear hcz12_5); (try clear hcz12_6); (try clear hcz12_7); (try clear hcz12_8); (try clear hcz12_9); (try clear hcz15_0); (try clear hcz15_1); (try clear hcz15_10); (try clear hcz15_11); (try clear hcz15_12); (try clear hcz15_13); (try clear hcz15_2); (try clear hcz15_3); (try clear hcz15_4); (try clear hcz15_5); (try clear hcz15_6); (try clear hcz15_7); (try clear hcz15_8); (try clear hcz15_9); (try clear hfz10_0); (try clear hfz10_1); (try clear hfz10_10); (try clear hfz10_11); (try clear hfz10_12); (try clear hfz10_13); (try clear hfz10_2); (try clear hfz10_3); (try clear hfz10_4); (try clear hfz10_5); (try clear hfz10_6); (try clear hfz10_7); (try clear hfz10_8); (try clear hfz10_9); (try clear hfz12_0); (try clear hfz12_1); (try clear hfz12_10); (try clear hfz12_11); (try clear hfz12_12); (try clear hfz12_13); (try clear hfz12_2); (try clear hfz12_3); (try clear hfz12_4); (try clear hfz12_5); (try clear hfz12_6); (try clear hfz12_7); (try clear hfz12_8); (try clear hfz12_9); (try clear hfz15_0); (try clear hfz15_1); (try clear hfz15_10); (try clear hfz15_11); (try clear hfz15_12); (try clear hfz15_13); (try clear hfz15_2); (try clear hfz15_3); (try clear hfz15_4); (try clear hfz15_5)
  (try clear hfz15_6); (try clear hfz15_7); (try clear hfz15_8); (try clear hfz15_9); obtain ⟨kq, x13_2, rfl, HA, HJ2, BK101, BK102, HB⟩ := hcut
  cases kq with
  | zero => exact absurd HA.out (by simp [oculuslaw22_NodeSame.j0])
  | succ kj2 =>
   have H := HA.out; clear HA
   simp only [oculuslaw22_NodeSame.j0] at H
   by_cases c17 : x13_2 = true
   ·subst c17
    have H1 : ((oculuslaw22_alive.f kj2).bind fun t105 => (some t105)) = some r := by rw [if_pos rfl] at H; exact H
    clear H; have H := H1; clear H1; replace H := Option.bind_eq_some_iff.mp H; obtain ⟨t105, A180, H⟩ := H
    replace H : (some t105) = some r := H
    have A18 := Aside0.mk A180; clear A180; obtain rfl := Option.some.inj H
    go_wp2_with (first | ((with_reducible refine gate_callee (f:=7) rfl ?_); refine gL_ (some 14) rfl rfl Tryd.func7 rfl #[] rfl ?_; (with_reducible refine (oculuslaw22_alive.calls kj2  t105 _ (by refine tb_ ?_ hT; repeat' (first | exact pbx HB | exact Below.refl _ _ | assumption | refine below_set ?_ (Aside0.out ?_))) A18.out).mono ?_); rintro e w19 ⟨rfl, hb⟩; refine ⟨_, rfl, ?_⟩; replace BK101 := bb_ BK101 hb; replace BK102 := bb_ BK102 hb; replace HB := bs_ HB hb; (try clear hb); (try clear hb2); (try clear hk); (try clear hi)))
    go_ret
    exact ⟨by first | rfl | (simp [errW_none, errW_some] <;> rfl) | (simp [*, errW_none, errW_some] <;> rfl), pbx HB⟩
   ·replace c17 := Bool.eq_false_iff.mpr c17; subst c17
    have H1 : ((node_Same.f kj2 a0_0 a0_1 a0_2 a0_3 a0_4 a0_5 a0_6 a0_7 a0_8 a0_9 a0_10 a0_11 a0_12 l0_13 a1_0 a1_1 a1_2 a1_3 a1_4 a1_5 a1_6 a1_7 a1_8 a1_9 a1_10 a1_11 a1_12 l1_13).bind fun t106 => ((oculusref22_Same.f kj2 a0_0 a0_1 a0_2 a0_3 a0_4 a0_5 a0_6 a0_7 a0_8 a0_9 a0_10 a0_11 a0_12 l0_13 a1_0 a1_1 a1_2 a1_3 a1_4 a1_5 a1_6 a1_7 a1_8 a1_9 a1_10 a1_11 a1_12 l1_13).bind fun t107 => (if (t106 == t107) = true then ((node_Same.f kj2 a0_0 a0_1 a0_2 a0_3 a0_4 a0_5 a0_6 a0_7 a0_8 a0_9 a0_10 a0_11 a0_12 l0_13 a0_0 a0_1 a0_2 a0_3 a0_4 a0_5 a0_6 a0_7 a0_8 a0_9 a0_10 a0_11 a0_12 l0_13).bind fun t108 => (if t108 = true then ((node_Same.f kj2 a1_0 a1_1 a1_2 a1_3 a1_4 a1_5 a1_6 a1_7 a1_8 a1_9 a1_10 a1_11 a1_12 l1_13 a0_0 a0_1 a0_2 a0_3 a0_4 a0_5 a0_6 a0_7 a0_8 a0_9 a0_10 a0_11 a0_12 l0_13).bind fun t109 => (if (t109 == t106) = true then (if t106 = true then ((node_Count.f kj2 a0_0 a0_1 a0_2 a0_3 a0_4 a0_5 a0_6 a0_7 a0_8 a0_9 a0_10 a0_11 a0_12 l0_13).bind fun t110 => ((node_Count.f kj2 a1_0 a1_1 a1_2 a1_3 a1_4 a1_5 a1_6 a1_7 a1_8 a1_9 a1_10 a1_11 a1_12 l1_13).bind fun t111 => (if t110 = t111 then ((oculuslaw22_alive.f kj2).bind fun t112 => (some t112)) else (none)))) else ((oculuslaw22_alive.f kj2).bind fun t113 => (some t113))) else (none))) else (none))) else (none)))) = some r := by rw [if_neg (show ¬ (false = true) by decide)] at H; exact H
    clear H; have H := H1; clear H1; replace H := Option.bind_eq_some_iff.mp H; obtain ⟨t106, A200, H⟩ := H
    replace H : ((oculusref22_Same.f kj2 a0_0 a0_1 a0_2 a0_3 a0_4 a0_5 a0_6 a0_7 a0_8 a0_9 a0_10 a0_11 a0_12 l0_13 a1_0 a1_1 a1_2 a1_3 a1_4 a1_5 a1_6 a1_7 a1_8 a1_9 a1_10 a1_11 a1_12 l1_13).bind fun t107 => (if (t106 == t107) = true then ((node_Same.f kj2 a0_0 a0_1 a0_2 a0_3 a0_4 a0_5 a0_6 a0_7 a0_8 a0_9 a0_10 a0_11 a0_12 l0_13 a0_0 a0_1 a0_2 a0_3 a0_4 a0_5 a0_6 a0_7 a0_8 a0_9 a0_10 a0_11 a0_12 l0_13).bind fun t108 => (if t108 = true then ((node_Same.f kj2 a1_0 a1_1 a1_2 a1_3 a1_4 a1_5 a1_6 a1_7 a1_8 a1_9 a1_10 a1_11 a1_12 l1_13 a0_0 a0_1 a0_2 a0_3 a0_4 a0_5 a0_6 a0_7 a0_8 a0_9 a0_10 a0_11 a0_12 l0_13).bind fun t109 => (if (t109 == t106) = true then (if t106 = true then ((node_Count.f kj2 a0_0 a0_1 a0_2 a0_3 a0_4 a0_5 a0_6 a0_7 a0_8 a0_9 a0_10 a0_11 a0_12 l0_13).bind fun t110 => ((node_Count.f kj2 a1_0 a1_1 a1_2 a1_3 a1_4 a1_5 a1_6 a1_7 a1_8 a1_9 a1_10 a1_11 a1_12 l1_13).bind fun t111 => (if t110 = t111 then ((oculuslaw22_alive.f kj2).bind fun t112 => (some t112)) else (none)))) else ((oculuslaw22_alive.f kj2).bind fun t113 => (some t113))) else (none))) else (none))) else (none))) = some r := H
    have A20 := Aside0.mk A200; clear A200; replace H := Option.bind_eq_some_iff.mp H; obtain ⟨t107, A210, H⟩ := H
    replace H : (if (t106 == t107) = true then ((node_Same.f kj2 a0_0 a0_1 a0_2 a0_3 a0_4 a0_5 a0_6 a0_7 a0_8 a0_9 a0_10 a0_11 a0_12 l0_13 a0_0 a0_1 a0_2 a0_3 a0_4 a0_5 a0_6 a0_7 a0_8 a0_9 a0_10 a0_11 a0_12 l0_13).bind fun t108 => (if t108 = true then ((node_Same.f kj2 a1_0 a1_1 a1_2 a1_3 a1_4 a1_5 a1_6 a1_7 a1_8 a1_9 a1_10 a1_11 a1_12 l1_13 a0_0 a0_1 a0_2 a0_3 a0_4 a0_5 a0_6 a0_7 a0_8 a0_9 a0_10 a0_11 a0_12 l0_13).bind fun t109 => (if (t109 == t106) = true then (if t106 = true then ((node_Count.f kj2 a0_0 a0_1 a0_2 a0_3 a0_4 a0_5 a0_6 a0_7 a0_8 a0_9 a0_10 a0_11 a0_12 l0_13).bind fun t110 => ((node_Count.f kj2 a1_0 a1_1 a1_2 a1_3 a1_4 a1_5 a1_6 a1_7 a1_8 a1_9 a1_10 a1_11 a1_12 l1_13).bind fun t111 => (if t110 = t111 then ((oculuslaw22_alive.f kj2).bind fun t112 => (some t112)) else (none)))) else ((oculuslaw22_alive.f kj2).bind fun t113 => (some t113))) else (none))) else (none))) else (none)) = some r := H
    have A21 := Aside0.mk A210; clear A210
    by_cases c22 : (t106 == t107) = true
    ·rw [if_pos c22] at H
     have c22b0 : (t106 == t107) = true := c22
     (try (have c22b1 : decide (t106 = t107) = true := by simpa using c22)); (try (have c22b2 : (t106 == t107) = true := by simpa using c22))
     clear c22; replace H := Option.bind_eq_some_iff.mp H; obtain ⟨t108, A230, H⟩ := H
     replace H : (if t108 = true then ((node_Same.f kj2 a1_0 a1_1 a1_2 a1_3 a1_4 a1_5 a1_6 a1_7 a1_8 a1_9 a1_10 a1_11 a1_12 l1_13 a0_0 a0_1 a0_2 a0_3 a0_4 a0_5 a0_6 a0_7 a0_8 a0_9 a0_10 a0_11 a0_12 l0_13).bind fun t109 => (if (t109 == t106) = true then (if t106 = true then ((node_Count.f kj2 a0_0 a0_1 a0_2 a0_3 a0_4 a0_5 a0_6 a0_7 a0_8 a0_9 a0_10 a0_11 a0_12 l0_13).bind fun t110 => ((node_Count.f kj2 a1_0 a1_1 a1_2 a1_3 a1_4 a1_5 a1_6 a1_7 a1_8 a1_9 a1_10 a1_11 a1_12 l1_13).bind fun t111 => (if t110 = t111 then ((oculuslaw22_alive.f kj2).bind fun t112 => (some t112)) else (none)))) else ((oculuslaw22_alive.f kj2).bind fun t113 => (some t113))) else (none))) else (none)) = some r := H
     have A23 := Aside0.mk A230; clear A230
     by_cases c24 : t108 = true
     ·subst c24
      have H1 : ((node_Same.f kj2 a1_0 a1_1 a1_2 a1_3 a1_4 a1_5 a1_6 a1_7 a1_8 a1_9 a1_10 a1_11 a1_12 l1_13 a0_0 a0_1 a0_2 a0_3 a0_4 a0_5 a0_6 a0_7 a0_8 a0_9 a0_10 a0_11 a0_12 l0_13).bind fun t109 => (if (t109 == t106) = true then (if t106 = true then ((node_Count.f kj2 a0_0 a0_1 a0_2 a0_3 a0_4 a0_5 a0_6 a0_7 a0_8 a0_9 a0_10 a0_11 a0_12 l0_13).bind fun t110 => ((node_Count.f kj2 a1_0 a1_1 a1_2 a1_3 a1_4 a1_5 a1_6 a1_7 a1_8 a1_9 a1_10 a1_11 a1_12 l1_13).bind fun t111 => (if t110 = t111 then ((oculuslaw22_alive.f kj2).bind fun t112 => (some t112)) else (none)))) else ((oculuslaw22_alive.f kj2).bind fun t113 => (some t113))) else (none))) = some r := by rw [if_pos rfl] at H; exact H
      clear H; have H := H1; clear H1; replace H := Option.bind_eq_some_iff.mp H; obtain ⟨t109, A250, H⟩ := H
      replace H : (if (t109 == t106) = true then (if t106 = true then ((node_Count.f kj2 a0_0 a0_1 a0_2 a0_3 a0_4 a0_5 a0_6 a0_7 a0_8 a0_9 a0_10 a0_11 a0_12 l0_13).bind fun t110 => ((node_Count.f kj2 a1_0 a1_1 a1_2 a1_3 a1_4 a1_5 a1_6 a1_7 a1_8 a1_9 a1_10 a1_11 a1_12 l1_13).bind fun t111 => (if t110 = t111 then ((oculuslaw22_alive.f kj2).bind fun t112 => (some t112)) else (none)))) else ((oculuslaw22_alive.f kj2).bind fun t113 => (some t113))) else (none)) = some r := H
      have A25 := Aside0.mk A250; clear A250
      by_cases c26 : (t109 == t106) = true
      ·rw [if_pos c26] at H
       have c26b0 : (t109 == t106) = true := c26
       (try (have c26b1 : decide (t109 = t106) = true := by simpa using c26)); (try (have c26b2 : (t109 == t106) = true := by simpa using c26)); clear c26
       by_cases c27 : t106 = true
       ·subst c27
        have H1 : ((node_Count.f kj2 a0_0 a0_1 a0_2 a0_3 a0_4 a0_5 a0_6 a0_7 a0_8 a0_9 a0_10 a0_11 a0_12 l0_13).bind fun t110 => ((node_Count.f kj2 a1_0 a1_1 a1_2 a1_3 a1_4 a1_5 a1_6 a1_7 a1_8 a1_9 a1_10 a1_11 a1_12 l1_13).bind fun t111 => (if t110 = t111 then ((oculuslaw22_alive.f kj2).bind fun t112 => (some t112)) else (none)))) = some r := by rw [if_pos rfl] at H; exact H
        clear H; have H := H1; clear H1; replace H := Option.bind_eq_some_iff.mp H; obtain ⟨t110, A280, H⟩ := H
        replace H : ((node_Count.f kj2 a1_0 a1_1 a1_2 a1_3 a1_4 a1_5 a1_6 a1_7 a1_8 a1_9 a1_10 a1_11 a1_12 l1_13).bind fun t111 => (if t110 = t111 then ((oculuslaw22_alive.f kj2).bind fun t112 => (some t112)) else (none))) = some r := H
        have A28 := Aside0.mk A280; clear A280; replace H := Option.bind_eq_some_iff.mp H; obtain ⟨t111, A290, H⟩ := H
        replace H : (if t110 = t111 then ((oculuslaw22_alive.f kj2).bind fun t112 => (some t112)) else (none)) = some r := H
        have A29 := Aside0.mk A290; clear A290
        by_cases c30 : t110 = t111
        ·rw [if_pos c30] at H; have c30b0 : (t110 == t111) = true := beq_iff_eq.mpr c30; have c30b1 : (t110 != t111) = false := bne_eq_false_iff_eq.mpr c30; clear c30; replace H := Option.bind_eq_some_iff.mp H; obtain ⟨t112, A310, H⟩ := H
         replace H : (some t112) = some r := H
         have A31 := Aside0.mk A310; clear A310; obtain rfl := Option.some.inj H; have hnb32 := NB101_102.out; have hnc32 := NB102_101.out
         have hcz33_0 : wc.cell? ⟨gb101, 0, none⟩ = some (.int .i64 a0_0) := bc_ BK101 0 rfl
         have hcz33_1 : wc.cell? ⟨gb101, 1, none⟩ = some (.int .i64 a0_1) := bc_ BK101 1 rfl
         have hcz33_2 : wc.cell? ⟨gb101, 2, none⟩ = some (.int .i64 a0_2) := bc_ BK101 2 rfl
         have hcz33_3 : wc.cell? ⟨gb101, 3, none⟩ = some (.int .i64 a0_3) := bc_ BK101 3 rfl
         have hcz33_4 : wc.cell? ⟨gb101, 4, none⟩ = some (.string a0_4) := bc_ BK101 4 rfl
         have hcz33_5 : wc.cell? ⟨gb101, 5, none⟩ = some (.int .i64 a0_5) := bc_ BK101 5 rfl
         have hcz33_6 : wc.cell? ⟨gb101, 6, none⟩ = some (.int .i64 a0_6) := bc_ BK101 6 rfl
         have hcz33_7 : wc.cell? ⟨gb101, 7, none⟩ = some (.bool a0_7) := bc_ BK101 7 rfl
         have hcz33_8 : wc.cell? ⟨gb101, 8, none⟩ = some (.bool a0_8) := bc_ BK101 8 rfl
         have hcz33_9 : wc.cell? ⟨gb101, 9, none⟩ = some (.int .i64 a0_9) := bc_ BK101 9 rfl
         have hcz33_10 : wc.cell? ⟨gb101, 10, none⟩ = some (.int .i64 a0_10) := bc_ BK101 10 rfl
         have hcz33_11 : wc.cell? ⟨gb101, 11, none⟩ = some (.bool a0_11) := bc_ BK101 11 rfl
         have hcz33_12 : wc.cell? ⟨gb101, 12, none⟩ = some (.bool a0_12) := bc_ BK101 12 rfl
         have hcz33_13 : wc.cell? ⟨gb101, 13, none⟩ = some (.slice A0_13 l0_13.length c0_13) := bc_ BK101 13 rfl
         have hfz33_0 := blk_frozen BK101.out 0; have hfz33_1 := blk_frozen BK101.out 1; have hfz33_2 := blk_frozen BK101.out 2; have hfz33_3 := blk_frozen BK101.out 3; have hfz33_4 := blk_frozen BK101.out 4; have hfz33_5 := blk_frozen BK101.out 5; have hfz33_6 := blk_frozen BK101.out 6; have hfz33_7 := blk_frozen BK101.out 7; have hfz33_8 := blk_frozen BK101.out 8; have hfz33_9 := blk_frozen BK101.out 9; have hfz33_10 := blk_frozen BK101.out 10; have hfz33_11 := blk_frozen BK101.out 11; have hfz33_12 := blk_frozen BK101.out 12; have hfz33_13 := blk_frozen BK101.out 13
         have hcz34_0 : wc.cell? ⟨gb102, 0, none⟩ = some (.int .i64 a1_0) := bc_ BK102 0 rfl
         have hcz34_1 : wc.cell? ⟨gb102, 1, none⟩ = some (.int .i64 a1_1) := bc_ BK102 1 rfl
         have hcz34_2 : wc.cell? ⟨gb102, 2, none⟩ = some (.int .i64 a1_2) := bc_ BK102 2 rfl
         have hcz34_3 : wc.cell? ⟨gb102, 3, none⟩ = some (.int .i64 a1_3) := bc_ BK102 3 rfl
         have hcz34_4 : wc.cell? ⟨gb102, 4, none⟩ = some (.string a1_4) := bc_ BK102 4 rfl
         have hcz34_5 : wc.cell? ⟨gb102, 5, none⟩ = some (.int .i64 a1_5) := bc_ BK102 5 rfl
         have hcz34_6 : wc.cell? ⟨gb102, 6, none⟩ = some (.int .i64 a1_6) := bc_ BK102 6 rfl
         have hcz34_7 : wc.cell? ⟨gb102, 7, none⟩ = some (.bool a1_7) := bc_ BK102 7 rfl
         have hcz34_8 : wc.cell? ⟨gb102, 8, none⟩ = some (.bool a1_8) := bc_ BK102 8 rfl
         have hcz34_9 : wc.cell? ⟨gb102, 9, none⟩ = some (.int .i64 a1_9) := bc_ BK102 9 rfl
         have hcz34_10 : wc.cell? ⟨gb102, 10, none⟩ = some (.int .i64 a1_10) := bc_ BK102 10 rfl
         have hcz34_11 : wc.cell? ⟨gb102, 11, none⟩ = some (.bool a1_11) := bc_ BK102 11 rfl
         have hcz34_12 : wc.cell? ⟨gb102, 12, none⟩ = some (.bool a1_12) := bc_ BK102 12 rfl
         have hcz34_13 : wc.cell? ⟨gb102, 13, none⟩ = some (.slice A1_13 l1_13.length c1_13) := bc_ BK102 13 rfl
         have hfz34_0 := blk_frozen BK102.out 0; have hfz34_1 := blk_frozen BK102.out 1; have hfz34_2 := blk_frozen BK102.out 2; have hfz34_3 := blk_frozen BK102.out 3; have hfz34_4 := blk_frozen BK102.out 4; have hfz34_5 := blk_frozen BK102.out 5; have hfz34_6 := blk_frozen BK102.out 6; have hfz34_7 := blk_frozen BK102.out 7; have hfz34_8 := blk_frozen BK102.out 8; have hfz34_9 := blk_frozen BK102.out 9; have hfz34_10 := blk_frozen BK102.out 10; have hfz34_11 := blk_frozen BK102.out 11; have hfz34_12 := blk_frozen BK102.out 12; have hfz34_13 := blk_frozen BK102.out 13
         try go_wp2_with (first | ((with_reducible refine gate_callee (f:=18) rfl ?_); refine gL_ (some 17) rfl rfl Tryd.func18 rfl #[.agg #[.int .i64 a0_0, .int .i64 a0_1, .int .i64 a0_2, .int .i64 a0_3, .string a0_4, .int .i64 a0_5, .int .i64 a0_6, .bool a0_7, .bool a0_8, .int .i64 a0_9, .int .i64 a0_10, .bool a0_11, .bool a0_12, .slice A0_13 l0_13.length c0_13], .agg #[.int .i64 a1_0, .int .i64 a1_1, .int .i64 a1_2, .int .i64 a1_3, .string a1_4, .int .i64 a1_5, .int .i64 a1_6, .bool a1_7, .bool a1_8, .int .i64 a1_9, .int .i64 a1_10, .bool a1_11, .bool a1_12, .slice A1_13 l1_13.length c1_13]] rfl ?_; (with_reducible refine (node_Same.calls kj2 a0_0 a0_1 a0_2 a0_3 a0_4 a0_5 a0_6 a0_7 a0_8 a0_9 a0_10 a0_11 a0_12 _ _ l0_13 a1_0 a1_1 a1_2 a1_3 a1_4 a1_5 a1_6 a1_7 a1_8 a1_9 a1_10 a1_11 a1_12 _ _ l1_13 true _ ?side1 ?side2 ?side3 ?side4 A20.out).mono ?_); (case side1 => repeat (first | exact (Kd.C_below HR0_13.out HB.out) | (with_reducible refine Kd.C_alloc ?_ _) | (with_reducible refine Kd.C_drewN ?_ _) | (with_reducible refine Kd.C_drew ?_))); (case side2 => exact HC0_13.out); (case side3 => repeat (first | exact (Kd.C_below HR1_13.out HB.out) | (with_reducible refine Kd.C_alloc ?_ _) | (with_reducible refine Kd.C_drewN ?_ _) | (with_reducible refine Kd.C_drew ?_))); (case side4 => exact HC1_13.out); rintro e w35 ⟨rfl, hb⟩; refine ⟨_, rfl, ?_⟩; replace BK101 := bb_ BK101 hb; replace BK102 := bb_ BK102 hb; replace HB := bs_ HB hb; (try clear hb); (try clear hb2); (try clear hk); (try clear hi)))
         (try (rw [drewN_self w35]; generalize hq_ : World.drewN w35 _ = w35; have n0_ : Aside0 (w35.heap[gb101]? = some (.cells #[.int .i64 a0_0, .int .i64 a0_1, .int .i64 a0_2, .int .i64 a0_3, .string a0_4, .int .i64 a0_5, .int .i64 a0_6, .bool a0_7, .bool a0_8, .int .i64 a0_9, .int .i64 a0_10, .bool a0_11, .bool a0_12, .slice A0_13 l0_13.length c0_13] 28 (0, 0))) := ⟨by rw [← hq_]; exact (pkx BK101)⟩; have n1_ : Aside0 (w35.heap[gb102]? = some (.cells #[.int .i64 a1_0, .int .i64 a1_1, .int .i64 a1_2, .int .i64 a1_3, .string a1_4, .int .i64 a1_5, .int .i64 a1_6, .bool a1_7, .bool a1_8, .int .i64 a1_9, .int .i64 a1_10, .bool a1_11, .bool a1_12, .slice A1_13 l1_13.length c1_13] 28 (0, 0))) := ⟨by rw [← hq_]; exact (pkx BK102)⟩; have n2_ : Aside0 (Below w.heap.size w w35) := ⟨by rw [← hq_]; exact (pbx HB)⟩; clear BK101 BK102 HB hq_; have BK101 := n0_; have BK102 := n1_; have HB := n2_; clear n0_ n1_ n2_))
         replace BK101 := Aside0.mk (blk_drew BK101.out); replace BK102 := Aside0.mk (blk_drew BK102.out); replace HB := Aside0.mk (below_drew1 HB.out)
         refine start_ (n:=32) (S := fun w' => w'.cell? ⟨gb101, 0, none⟩ = some (.int .i64 a0_0) ∧ w'.cell? ⟨gb101, 1, none⟩ = some (.int .i64 a0_1) ∧ w'.cell? ⟨gb101, 2, none⟩ = some (.int .i64 a0_2) ∧ w'.cell? ⟨gb101, 3, none⟩ = some (.int .i64 a0_3) ∧ w'.cell? ⟨gb101, 4, none⟩ = some (.string a0_4) ∧ w'.cell? ⟨gb101, 5, none⟩ = some (.int .i64 a0_5) ∧ w'.cell? ⟨gb101, 6, none⟩ = some (.int .i64 a0_6) ∧ w'.cell? ⟨gb101, 7, none⟩ = some (.bool a0_7) ∧ w'.cell? ⟨gb101, 8, none⟩ = some (.bool a0_8) ∧ w'.cell? ⟨gb101, 9, none⟩ = some (.int .i64 a0_9) ∧ w'.cell? ⟨gb101, 10, none⟩ = some (.int .i64 a0_10) ∧ w'.cell? ⟨gb101, 11, none⟩ = some (.bool a0_11) ∧ w'.cell? ⟨gb101, 12, none⟩ = some (.bool a0_12) ∧ w'.cell? ⟨gb101, 13, none⟩ = some (.slice A0_13 l0_13.length c0_13) ∧ w'.cell? ⟨gb102, 0, none⟩ = some (.int .i64 a1_0) ∧ w'.cell? ⟨gb102, 1, none⟩ = some (.int .i64 a1_1) ∧ w'.cell? ⟨gb102, 2, none⟩ = some (.int .i64 a1_2) ∧ w'.cell? ⟨gb102, 3, none⟩ = some (.int .i64 a1_3) ∧ w'.cell? ⟨gb102, 4, none⟩ = some (.string a1_4) ∧ w'.cell? ⟨gb102, 5, none⟩ = some (.int .i64 a1_5) ∧ w'.cell? ⟨gb102, 6, none⟩ = some (.int .i64 a1_6) ∧ w'.cell? ⟨gb102, 7, none⟩ = some (.bool a1_7) ∧ w'.cell? ⟨gb102, 8, none⟩ = some (.bool a1_8) ∧ w'.cell? ⟨gb102, 9, none⟩ = some (.int .i64 a1_9) ∧ w'.cell? ⟨gb102, 10, none⟩ = some (.int .i64 a1_10) ∧ w'.cell? ⟨gb102, 11, none⟩ = some (.bool a1_11) ∧ w'.cell? ⟨gb102, 12, none⟩ = some (.bool a1_12) ∧ w'.cell? ⟨gb102, 13, none⟩ = some (.slice A1_13 l1_13.length c1_13)) (ds := []) #[F,F,F,F,F,F,F,F,F,F,F,F,F,F,F,F,F,F,F,F,F,F,F,F,F,F,F,F,F,F,F,F] (by kernel_rfl) rfl rfl ⟨bc_ BK101 0 rfl, bc_ BK101 1 rfl, bc_ BK101 2 rfl, bc_ BK101 3 rfl, bc_ BK101 4 rfl, bc_ BK101 5 rfl, bc_ BK101 6 rfl, bc_ BK101 7 rfl, bc_ BK101 8 rfl, bc_ BK101 9 rfl, bc_ BK101 10 rfl, bc_ BK101 11 rfl, bc_ BK101 12 rfl, bc_ BK101 13 rfl, bc_ BK102 0 rfl, bc_ BK102 1 rfl, bc_ BK102 2 rfl, bc_ BK102 3 rfl, bc_ BK102 4 rfl, bc_ BK102 5 rfl, bc_ BK102 6 rfl, bc_ BK102 7 rfl, bc_ BK102 8 rfl, bc_ BK102 9 rfl, bc_ BK102 10 rfl, bc_ BK102 11 rfl, bc_ BK102 12 rfl, bc_ BK102 13 rfl⟩ (fun hHeld => ?_); refine with_tabW oculuslaw22_NodeSame.tab4 oculuslaw22_NodeSame.bits4 (fun HT_ HW_ => ?_)
         generalize w35.drew = w36 at BK101 BK102 HB hHeld ⊢; refine pure_ (i:=0) (N:=some 18) (v:=?_) (a':=?_) ⟨m_ 32 1⟩ rfl rfl (any_of HT_.out (by kernel_rfl)) (fun _ _ _ h=>h) (Or.inl ⟨rfl, ?_⟩) ?_ ?_; rotate_left
         ·intro w'; go_simp; with_reducible rfl
         rotate_left
         ·simp only [q_, i64_w, i32_w]; rfl
         refine take_ (i:=1) (N:=some 19) (v:=?_) (a':=?_) ⟨m_ 32 3⟩ rfl rfl (take_ofW HT_.out HW_.out (by kernel_rfl)) (fun _ _ _ h=>h) (Or.inl ⟨rfl, ?_⟩) hHeld ?_ ?_; rotate_left
         ·rintro w' ⟨s0, s1, s2, s3, s4, s5, s6, s7, s8, s9, s10, s11, s12, s13, s14, s15, s16, s17, s18, s19, s20, s21, s22, s23, s24, s25, s26, s27⟩; go_simp; with_reducible rfl
         rotate_left
         ·simp only [q_, i64_w, i32_w]; rfl
         refine take_ (i:=2) (N:=some 20) (v:=?_) (a':=?_) ⟨m_ 32 7⟩ rfl rfl (take_ofW HT_.out HW_.out (by kernel_rfl)) (fun _ _ _ h=>h) (Or.inl ⟨rfl, ?_⟩) hHeld ?_ ?_; rotate_left
         ·rintro w' ⟨s0, s1, s2, s3, s4, s5, s6, s7, s8, s9, s10, s11, s12, s13, s14, s15, s16, s17, s18, s19, s20, s21, s22, s23, s24, s25, s26, s27⟩; go_simp; with_reducible rfl
         rotate_left
         ·simp only [q_, i64_w, i32_w]; rfl
         as_aux_lemma =>
          refine one_ (i:=3) (N:=some 21) ⟨m_ 32 15⟩ rfl rfl (one_of HT_.out (by kernel_rfl)) (by decide) (fun K hK => ?_); refine goes_ Tryd.func17 (by kernel_rfl) rfl #[.agg #[.int .i64 a0_0, .int .i64 a0_1, .int .i64 a0_2, .int .i64 a0_3, .string a0_4, .int .i64 a0_5, .int .i64 a0_6, .bool a0_7, .bool a0_8, .int .i64 a0_9, .int .i64 a0_10, .bool a0_11, .bool a0_12, .slice A0_13 l0_13.length c0_13], .agg #[.int .i64 a1_0, .int .i64 a1_1, .int .i64 a1_2, .int .i64 a1_3, .string a1_4, .int .i64 a1_5, .int .i64 a1_6, .bool a1_7, .bool a1_8, .int .i64 a1_9, .int .i64 a1_10, .bool a1_11, .bool a1_12, .slice A1_13 l1_13.length c1_13]] (by rfl) rfl rfl (by (try simp only [List.map_toArray, List.map_cons, List.map_nil]); first | done | rfl | (simp only [List.length_drop, List.length_take]; rfl)) ?_; with_reducible refine (oculusref22_Same.calls kj2 a0_0 a0_1 a0_2 a0_3 a0_4 a0_5 a0_6 a0_7 a0_8 a0_9 a0_10 a0_11 a0_12 _ _ l0_13 a1_0 a1_1 a1_2 a1_3 a1_4 a1_5 a1_6 a1_7 a1_8 a1_9 a1_10 a1_11 a1_12 _ _ l1_13 t107 _ ?side1 ?side2 ?side3 ?side4 A21.out).mono ?_; (case side1 => repeat (first | exact (Kd.C_below HR0_13.out HB.out) | (with_reducible refine Kd.C_alloc ?_ _) | (with_reducible refine Kd.C_drewN ?_ _) | (with_reducible refine Kd.C_drew ?_))); (case side2 => exact HC0_13.out); (case side3 => repeat (first | exact (Kd.C_below HR1_13.out HB.out) | (with_reducible refine Kd.C_alloc ?_ _) | (with_reducible refine Kd.C_drewN ?_ _) | (with_reducible refine Kd.C_drew ?_)))
          (case side4 => exact HC1_13.out); rintro e w37 ⟨rfl, hb⟩; refine ⟨_, rfl, ?_⟩
          replace BK101 := bb_ BK101 hb; replace BK102 := bb_ BK102 hb; replace HB := bs_ HB hb; (try clear hb); (try clear hb2); (try clear hk); (try clear hi); refine hK.out _ _ ⟨bc_ BK101 0 rfl, bc_ BK101 1 rfl, bc_ BK101 2 rfl, bc_ BK101 3 rfl, bc_ BK101 4 rfl, bc_ BK101 5 rfl, bc_ BK101 6 rfl, bc_ BK101 7 rfl, bc_ BK101 8 rfl, bc_ BK101 9 rfl, bc_ BK101 10 rfl, bc_ BK101 11 rfl, bc_ BK101 12 rfl, bc_ BK101 13 rfl, bc_ BK102 0 rfl, bc_ BK102 1 rfl, bc_ BK102 2 rfl, bc_ BK102 3 rfl, bc_ BK102 4 rfl, bc_ BK102 5 rfl, bc_ BK102 6 rfl, bc_ BK102 7 rfl, bc_ BK102 8 rfl, bc_ BK102 9 rfl, bc_ BK102 10 rfl, bc_ BK102 11 rfl, bc_ BK102 12 rfl, bc_ BK102 13 rfl⟩ (fun hHeld => ?_); clear hK K; refine norm_ (a':=?_) ?_ ?_; rotate_left
          ·show Act.put _ (some 21) _ = _; simp only [q_, i64_w, i32_w]; rfl
          refine pure_ (i:=4) (N:=some 22) (v:=?_) (a':=?_) ⟨m_ 32 31⟩ rfl rfl (any_of HT_.out (by kernel_rfl)) (fun _ _ _ h=>h) (Or.inl ⟨rfl, ?_⟩) ?_ ?_; rotate_left
          ·intro w'; go_simp; with_reducible rfl
          rotate_left
          ·simp only [q_, i64_w, i32_w]; rfl
          refine pure_ (i:=5) (N:=some 23) (v:=?_) (a':=?_) ⟨m_ 32 63⟩ rfl rfl (any_of HT_.out (by kernel_rfl)) (fun _ _ _ h=>h) (Or.inl ⟨rfl, ?_⟩) ?_ ?_; rotate_left
          ·intro w'; go_simp; with_reducible rfl
          rotate_left
          ·simp only [q_, i64_w, i32_w]; rfl
          refine take_ (i:=6) (N:=some 24) (v:=?_) (a':=?_) ⟨m_ 32 127⟩ rfl rfl (take_ofW HT_.out HW_.out (by kernel_rfl)) (fun _ _ _ h=>h) (Or.inl ⟨rfl, ?_⟩) hHeld ?_ ?_; rotate_left
          ·rintro w' ⟨s0, s1, s2, s3, s4, s5, s6, s7, s8, s9, s10, s11, s12, s13, s14, s15, s16, s17, s18, s19, s20, s21, s22, s23, s24, s25, s26, s27⟩; go_simp; with_reducible rfl
          rotate_left
          ·simp only [q_, i64_w, i32_w]; rfl
          refine take_ (i:=7) (N:=some 25) (v:=?_) (a':=?_) ⟨m_ 32 255⟩ rfl rfl (take_ofW HT_.out HW_.out (by kernel_rfl)) (fun _ _ _ h=>h) (Or.inl ⟨rfl, ?_⟩) hHeld ?_ ?_; rotate_left
          ·rintro w' ⟨s0, s1, s2, s3, s4, s5, s6, s7, s8, s9, s10, s11, s12, s13, s14, s15, s16, s17, s18, s19, s20, s21, s22, s23, s24, s25, s26, s27⟩; go_simp; with_reducible rfl
          rotate_left
          ·simp only [q_, i64_w, i32_w]; rfl
          as_aux_lemma =>
           refine one_ (i:=8) (N:=some 26) ⟨m_ 32 511⟩ rfl rfl (one_of HT_.out (by kernel_rfl)) (by decide) (fun K hK => ?_); refine goes_ Tryd.func18 (by kernel_rfl) rfl #[.agg #[.int .i64 a0_0, .int .i64 a0_1, .int .i64 a0_2, .int .i64 a0_3, .string a0_4, .int .i64 a0_5, .int .i64 a0_6, .bool a0_7, .bool a0_8, .int .i64 a0_9, .int .i64 a0_10, .bool a0_11, .bool a0_12, .slice A0_13 l0_13.length c0_13], .agg #[.int .i64 a0_0, .int .i64 a0_1, .int .i64 a0_2, .int .i64 a0_3, .string a0_4, .int .i64 a0_5, .int .i64 a0_6, .bool a0_7, .bool a0_8, .int .i64 a0_9, .int .i64 a0_10, .bool a0_11, .bool a0_12, .slice A0_13 l0_13.length c0_13]] (by rfl) rfl rfl (by (try simp only [List.map_toArray, List.map_cons, List.map_nil]); first | done | rfl | (simp only [List.length_drop, List.length_take]; rfl)) ?_; with_reducible refine (node_Same.calls kj2 a0_0 a0_1 a0_2 a0_3 a0_4 a0_5 a0_6 a0_7 a0_8 a0_9 a0_10 a0_11 a0_12 _ _ l0_13 a0_0 a0_1 a0_2 a0_3 a0_4 a0_5 a0_6 a0_7 a0_8 a0_9 a0_10 a0_11 a0_12 _ _ l0_13 true _ ?side1 ?side2 ?side3 ?side4 A23.out).mono ?_; (case side1 => repeat (first | exact (Kd.C_below HR0_13.out HB.out) | (with_reducible refine Kd.C_alloc ?_ _) | (with_reducible refine Kd.C_drewN ?_ _) | (with_reducible refine Kd.C_drew ?_))); (case side2 => exact HC0_13.out); (case side3 => repeat (first | exact (Kd.C_below HR0_13.out HB.out) | (with_reducible refine Kd.C_alloc ?_ _) | (with_reducible refine Kd.C_drewN ?_ _) | (with_reducible refine Kd.C_drew ?_)))
           (case side4 => exact HC0_13.out); rintro e w38 ⟨rfl, hb⟩; refine ⟨_, rfl, ?_⟩
           replace BK101 := bb_ BK101 hb; replace BK102 := bb_ BK102 hb; replace HB := bs_ HB hb; (try clear hb); (try clear hb2); (try clear hk); (try clear hi); refine hK.out _ _ ⟨bc_ BK101 0 rfl, bc_ BK101 1 rfl, bc_ BK101 2 rfl, bc_ BK101 3 rfl, bc_ BK101 4 rfl, bc_ BK101 5 rfl, bc_ BK101 6 rfl, bc_ BK101 7 rfl, bc_ BK101 8 rfl, bc_ BK101 9 rfl, bc_ BK101 10 rfl, bc_ BK101 11 rfl, bc_ BK101 12 rfl, bc_ BK101 13 rfl, bc_ BK102 0 rfl, bc_ BK102 1 rfl, bc_ BK102 2 rfl, bc_ BK102 3 rfl, bc_ BK102 4 rfl, bc_ BK102 5 rfl, bc_ BK102 6 rfl, bc_ BK102 7 rfl, bc_ BK102 8 rfl, bc_ BK102 9 rfl, bc_ BK102 10 rfl, bc_ BK102 11 rfl, bc_ BK102 12 rfl, bc_ BK102 13 rfl⟩ (fun hHeld => ?_); clear hK K; refine norm_ (a':=?_) ?_ ?_; rotate_left
           ·show Act.put _ (some 26) _ = _; simp only [q_, i64_w, i32_w]; rfl
           refine pure_ (i:=9) (N:=some 27) (v:=?_) (a':=?_) ⟨m_ 32 1023⟩ rfl rfl (any_of HT_.out (by kernel_rfl)) (fun _ _ _ h=>h) (Or.inl ⟨rfl, ?_⟩) ?_ ?_; rotate_left
           ·intro w'; go_simp; with_reducible rfl
           rotate_left
           ·simp only [q_, i64_w, i32_w]; rfl
           refine pure_ (i:=10) (N:=some 28) (v:=?_) (a':=?_) ⟨m_ 32 2047⟩ rfl rfl (any_of HT_.out (by kernel_rfl)) (fun _ _ _ h=>h) (Or.inl ⟨rfl, ?_⟩) ?_ ?_; rotate_left
           ·intro w'; go_simp; with_reducible rfl
           rotate_left
           ·simp only [q_, i64_w, i32_w]; rfl
           refine pure_ (i:=14) (N:=some 32) (v:=?_) (a':=?_) ⟨m_ 32 18431⟩ rfl rfl (any_of HT_.out (by kernel_rfl)) (fun _ _ _ h=>h) (Or.inl ⟨rfl, ?_⟩) ?_ ?_; rotate_left
           ·intro w'; go_simp; with_reducible rfl
           rotate_left
           ·simp only [q_, i64_w, i32_w]; rfl
           refine take_ (i:=11) (N:=some 29) (v:=?_) (a':=?_) ⟨m_ 32 20479⟩ rfl rfl (take_ofW HT_.out HW_.out (by kernel_rfl)) (fun _ _ _ h=>h) (Or.inl ⟨rfl, ?_⟩) hHeld ?_ ?_; rotate_left
           ·rintro w' ⟨s0, s1, s2, s3, s4, s5, s6, s7, s8, s9, s10, s11, s12, s13, s14, s15, s16, s17, s18, s19, s20, s21, s22, s23, s24, s25, s26, s27⟩; go_simp; with_reducible rfl
           rotate_left
           ·simp only [q_, i64_w, i32_w]; rfl
           refine take_ (i:=12) (N:=some 30) (v:=?_) (a':=?_) ⟨m_ 32 24575⟩ rfl rfl (take_ofW HT_.out HW_.out (by kernel_rfl)) (fun _ _ _ h=>h) (Or.inl ⟨rfl, ?_⟩) hHeld ?_ ?_; rotate_left
           ·rintro w' ⟨s0, s1, s2, s3, s4, s5, s6, s7, s8, s9, s10, s11, s12, s13, s14, s15, s16, s17, s18, s19, s20, s21, s22, s23, s24, s25, s26, s27⟩; go_simp; with_reducible rfl
           rotate_left
           ·simp only [q_, i64_w, i32_w]; rfl
           as_aux_lemma =>
            refine one_ (i:=13) (N:=some 31) ⟨m_ 32 32767⟩ rfl rfl (one_of HT_.out (by kernel_rfl)) (by decide) (fun K hK => ?_); refine goes_ Tryd.func18 (by kernel_rfl) rfl #[.agg #[.int .i64 a1_0, .int .i64 a1_1, .int .i64 a1_2, .int .i64 a1_3, .string a1_4, .int .i64 a1_5, .int .i64 a1_6, .bool a1_7, .bool a1_8, .int .i64 a1_9, .int .i64 a1_10, .bool a1_11, .bool a1_12, .slice A1_13 l1_13.length c1_13], .agg #[.int .i64 a0_0, .int .i64 a0_1, .int .i64 a0_2, .int .i64 a0_3, .string a0_4, .int .i64 a0_5, .int .i64 a0_6, .bool a0_7, .bool a0_8, .int .i64 a0_9, .int .i64 a0_10, .bool a0_11, .bool a0_12, .slice A0_13 l0_13.length c0_13]] (by rfl) rfl rfl (by (try simp only [List.map_toArray, List.map_cons, List.map_nil]); first | done | rfl | (simp only [List.length_drop, List.length_take]; rfl)) ?_; with_reducible refine (node_Same.calls kj2 a1_0 a1_1 a1_2 a1_3 a1_4 a1_5 a1_6 a1_7 a1_8 a1_9 a1_10 a1_11 a1_12 _ _ l1_13 a0_0 a0_1 a0_2 a0_3 a0_4 a0_5 a0_6 a0_7 a0_8 a0_9 a0_10 a0_11 a0_12 _ _ l0_13 t109 _ ?side1 ?side2 ?side3 ?side4 A25.out).mono ?_; (case side1 => repeat (first | exact (Kd.C_below HR1_13.out HB.out) | (with_reducible refine Kd.C_alloc ?_ _) | (with_reducible refine Kd.C_drewN ?_ _) | (with_reducible refine Kd.C_drew ?_))); (case side2 => exact HC1_13.out); (case side3 => repeat (first | exact (Kd.C_below HR0_13.out HB.out) | (with_reducible refine Kd.C_alloc ?_ _) | (with_reducible refine Kd.C_drewN ?_ _) | (with_reducible refine Kd.C_drew ?_)))
            (case side4 => exact HC0_13.out); rintro e w39 ⟨rfl, hb⟩; refine ⟨_, rfl, ?_⟩
            replace BK101 := bb_ BK101 hb; replace BK102 := bb_ BK102 hb; replace HB := bs_ HB hb; (try clear hb); (try clear hb2); (try clear hk); (try clear hi); refine hK.out _ _ ⟨bc_ BK101 0 rfl, bc_ BK101 1 rfl, bc_ BK101 2 rfl, bc_ BK101 3 rfl, bc_ BK101 4 rfl, bc_ BK101 5 rfl, bc_ BK101 6 rfl, bc_ BK101 7 rfl, bc_ BK101 8 rfl, bc_ BK101 9 rfl, bc_ BK101 10 rfl, bc_ BK101 11 rfl, bc_ BK101 12 rfl, bc_ BK101 13 rfl, bc_ BK102 0 rfl, bc_ BK102 1 rfl, bc_ BK102 2 rfl, bc_ BK102 3 rfl, bc_ BK102 4 rfl, bc_ BK102 5 rfl, bc_ BK102 6 rfl, bc_ BK102 7 rfl, bc_ BK102 8 rfl, bc_ BK102 9 rfl, bc_ BK102 10 rfl, bc_ BK102 11 rfl, bc_ BK102 12 rfl, bc_ BK102 13 rfl⟩ (fun hHeld => ?_); clear hK K; refine norm_ (a':=?_) ?_ ?_; rotate_left
            ·show Act.put _ (some 31) _ = _; simp only [q_, i64_w, i32_w]; rfl
            refine pure_ (i:=15) (N:=some 33) (v:=?_) (a':=?_) ⟨m_ 32 65535⟩ rfl rfl (any_of HT_.out (by kernel_rfl)) (fun _ _ _ h=>h) (Or.inl ⟨rfl, ?_⟩) ?_ ?_; rotate_left
            ·intro w'; go_simp; with_reducible rfl
            rotate_left
            ·simp only [q_, i64_w, i32_w]; rfl
            refine pure_ (i:=16) (N:=some 34) (v:=?_) (a':=?_) ⟨m_ 32 131071⟩ rfl rfl (any_of HT_.out (by kernel_rfl)) (fun _ _ _ h=>h) (Or.inl ⟨rfl, ?_⟩) ?_ ?_; rotate_left
            ·intro w'; go_simp; with_reducible rfl
            rotate_left
            ·simp only [q_, i64_w, i32_w]; rfl
            refine pure_ (i:=17) (N:=some 35) (v:=?_) (a':=?_) ⟨m_ 32 262143⟩ rfl rfl (any_of HT_.out (by kernel_rfl)) (fun _ _ _ h=>h) (Or.inl ⟨rfl, ?_⟩) ?_ ?_; rotate_left
            ·intro w'; go_simp; with_reducible rfl
            rotate_left
            ·simp only [q_, i64_w, i32_w]; rfl
            refine pure_ (i:=18) (N:=some 36) (v:=?_) (a':=?_) ⟨m_ 32 524287⟩ rfl rfl (any_of HT_.out (by kernel_rfl)) (fun _ _ _ h=>h) (Or.inl ⟨rfl, ?_⟩) ?_ ?_; rotate_left
            ·intro w'; go_simp; with_reducible rfl
            rotate_left
            ·simp only [q_, i64_w, i32_w]; rfl
            refine pure_ (i:=19) (N:=some 37) (v:=?_) (a':=?_) ⟨m_ 32 1048575⟩ rfl rfl (any_of HT_.out (by kernel_rfl)) (fun _ _ _ h=>h) (Or.inl ⟨rfl, ?_⟩) ?_ ?_; rotate_left
            ·intro w'; go_simp; with_reducible rfl
            rotate_left
            ·simp only [q_, i64_w, i32_w]; rfl
            refine pure_ (i:=20) (N:=some 38) (v:=?_) (a':=?_) ⟨m_ 32 2097151⟩ rfl rfl (any_of HT_.out (by kernel_rfl)) (fun _ _ _ h=>h) (Or.inl ⟨rfl, ?_⟩) ?_ ?_; rotate_left
            ·intro w'; go_simp; with_reducible rfl
            rotate_left
            ·simp only [q_, i64_w, i32_w]; rfl
            refine take_ (i:=21) (N:=some 39) (v:=?_) (a':=?_) ⟨m_ 32 4194303⟩ rfl rfl (take_ofW HT_.out HW_.out (by kernel_rfl)) (fun _ _ _ h=>h) (Or.inl ⟨rfl, ?_⟩) hHeld ?_ ?_; rotate_left
            ·rintro w' ⟨s0, s1, s2, s3, s4, s5, s6, s7, s8, s9, s10, s11, s12, s13, s14, s15, s16, s17, s18, s19, s20, s21, s22, s23, s24, s25, s26, s27⟩; go_simp; with_reducible rfl
            rotate_left
            ·simp only [q_, i64_w, i32_w]; rfl
            refine take_ (i:=23) (N:=some 41) (v:=?_) (a':=?_) ⟨m_ 32 12582911⟩ rfl rfl (take_ofW HT_.out HW_.out (by kernel_rfl)) (fun _ _ _ h=>h) (Or.inl ⟨rfl, ?_⟩) hHeld ?_ ?_; rotate_left
            ·rintro w' ⟨s0, s1, s2, s3, s4, s5, s6, s7, s8, s9, s10, s11, s12, s13, s14, s15, s16, s17, s18, s19, s20, s21, s22, s23, s24, s25, s26, s27⟩; go_simp; with_reducible rfl
            rotate_left
            ·simp only [q_, i64_w, i32_w]; rfl
            as_aux_lemma =>
             refine one_ (i:=22) (N:=some 40) ⟨m_ 32 16777215⟩ rfl rfl (one_of HT_.out (by kernel_rfl)) (by decide) (fun K hK => ?_); refine goes_ Tryd.func10 (by kernel_rfl) rfl #[.agg #[.int .i64 a0_0, .int .i64 a0_1, .int .i64 a0_2, .int .i64 a0_3, .string a0_4, .int .i64 a0_5, .int .i64 a0_6, .bool a0_7, .bool a0_8, .int .i64 a0_9, .int .i64 a0_10, .bool a0_11, .bool a0_12, .slice A0_13 l0_13.length c0_13]] (by rfl) rfl rfl (by (try simp only [List.map_toArray, List.map_cons, List.map_nil]); first | done | rfl | (simp only [List.length_drop, List.length_take]; rfl)) ?_; with_reducible refine (node_Count.calls kj2 a0_0 a0_1 a0_2 a0_3 a0_4 a0_5 a0_6 a0_7 a0_8 a0_9 a0_10 a0_11 a0_12 _ _ l0_13 t110 _ ?side1 ?side2 A28.out).mono ?_; (case side1 => repeat (first | exact (Kd.C_below HR0_13.out HB.out) | (with_reducible refine Kd.C_alloc ?_ _) | (with_reducible refine Kd.C_drewN ?_ _) | (with_reducible refine Kd.C_drew ?_))); (case side2 => exact HC0_13.out); rintro e w40 ⟨rfl, hb⟩; refine ⟨_, rfl, ?_⟩
             replace BK101 := bb_ BK101 hb; replace BK102 := bb_ BK102 hb; replace HB := bs_ HB hb; (try clear hb); (try clear hb2); (try clear hk); (try clear hi); refine hK.out _ _ ⟨bc_ BK101 0 rfl, bc_ BK101 1 rfl, bc_ BK101 2 rfl, bc_ BK101 3 rfl, bc_ BK101 4 rfl, bc_ BK101 5 rfl, bc_ BK101 6 rfl, bc_ BK101 7 rfl, bc_ BK101 8 rfl, bc_ BK101 9 rfl, bc_ BK101 10 rfl, bc_ BK101 11 rfl, bc_ BK101 12 rfl, bc_ BK101 13 rfl, bc_ BK102 0 rfl, bc_ BK102 1 rfl, bc_ BK102 2 rfl, bc_ BK102 3 rfl, bc_ BK102 4 rfl, bc_ BK102 5 rfl, bc_ BK102 6 rfl, bc_ BK102 7 rfl, bc_ BK102 8 rfl, bc_ BK102 9 rfl, bc_ BK102 10 rfl, bc_ BK102 11 rfl, bc_ BK102 12 rfl, bc_ BK102 13 rfl⟩ (fun hHeld => ?_); clear hK K; refine norm_ (a':=?_) ?_ ?_; rotate_left
             ·show Act.put _ (some 40) _ = _; simp only [q_, i64_w, i32_w]; rfl
             as_aux_lemma =>
              refine one_ (i:=24) (N:=some 42) ⟨m_ 32 33554431⟩ rfl rfl (one_of HT_.out (by kernel_rfl)) (by decide) (fun K hK => ?_); refine goes_ Tryd.func10 (by kernel_rfl) rfl #[.agg #[.int .i64 a1_0, .int .i64 a1_1, .int .i64 a1_2, .int .i64 a1_3, .string a1_4, .int .i64 a1_5, .int .i64 a1_6, .bool a1_7, .bool a1_8, .int .i64 a1_9, .int .i64 a1_10, .bool a1_11, .bool a1_12, .slice A1_13 l1_13.length c1_13]] (by rfl) rfl rfl (by (try simp only [List.map_toArray, List.map_cons, List.map_nil]); first | done | rfl | (simp only [List.length_drop, List.length_take]; rfl)) ?_; with_reducible refine (node_Count.calls kj2 a1_0 a1_1 a1_2 a1_3 a1_4 a1_5 a1_6 a1_7 a1_8 a1_9 a1_10 a1_11 a1_12 _ _ l1_13 t111 _ ?side1 ?side2 A29.out).mono ?_; (case side1 => repeat (first | exact (Kd.C_below HR1_13.out HB.out) | (with_reducible refine Kd.C_alloc ?_ _) | (with_reducible refine Kd.C_drewN ?_ _) | (with_reducible refine Kd.C_drew ?_))); (case side2 => exact HC1_13.out); rintro e w41 ⟨rfl, hb⟩; refine ⟨_, rfl, ?_⟩
              replace BK101 := bb_ BK101 hb; replace BK102 := bb_ BK102 hb; replace HB := bs_ HB hb; (try clear hb); (try clear hb2); (try clear hk); (try clear hi); refine hK.out _ _ ⟨bc_ BK101 0 rfl, bc_ BK101 1 rfl, bc_ BK101 2 rfl, bc_ BK101 3 rfl, bc_ BK101 4 rfl, bc_ BK101 5 rfl, bc_ BK101 6 rfl, bc_ BK101 7 rfl, bc_ BK101 8 rfl, bc_ BK101 9 rfl, bc_ BK101 10 rfl, bc_ BK101 11 rfl, bc_ BK101 12 rfl, bc_ BK101 13 rfl, bc_ BK102 0 rfl, bc_ BK102 1 rfl, bc_ BK102 2 rfl, bc_ BK102 3 rfl, bc_ BK102 4 rfl, bc_ BK102 5 rfl, bc_ BK102 6 rfl, bc_ BK102 7 rfl, bc_ BK102 8 rfl, bc_ BK102 9 rfl, bc_ BK102 10 rfl, bc_ BK102 11 rfl, bc_ BK102 12 rfl, bc_ BK102 13 rfl⟩ (fun hHeld => ?_); clear hK K; refine norm_ (a':=?_) ?_ ?_; rotate_left
              ·show Act.put _ (some 42) _ = _; simp only [q_, i64_w, i32_w]; rfl
              refine pure_ (i:=25) (N:=some 43) (v:=?_) (a':=?_) ⟨m_ 32 67108863⟩ rfl rfl (any_of HT_.out (by kernel_rfl)) (fun _ _ _ h=>h) (Or.inl ⟨rfl, ?_⟩) ?_ ?_; rotate_left
              ·intro w'; go_simp; with_reducible rfl
              rotate_left
              ·simp only [q_, i64_w, i32_w]; rfl
              refine pure_ (i:=26) (N:=some 44) (v:=?_) (a':=?_) ⟨m_ 32 134217727⟩ rfl rfl (any_of HT_.out (by kernel_rfl)) (fun _ _ _ h=>h) (Or.inl ⟨rfl, ?_⟩) ?_ ?_; rotate_left
              ·intro w'; go_simp; with_reducible rfl
              rotate_left
              ·simp only [q_, i64_w, i32_w]; rfl
              refine pure_ (i:=27) (N:=some 45) (v:=?_) (a':=?_) ⟨m_ 32 268435455⟩ rfl rfl (any_of HT_.out (by kernel_rfl)) (fun _ _ _ h=>h) (Or.inl ⟨rfl, ?_⟩) ?_ ?_; rotate_left
              ·intro w'; go_simp; with_reducible rfl
              rotate_left
              ·simp only [q_, i64_w, i32_w]; rfl
              refine pure_ (i:=28) (N:=some 46) (v:=?_) (a':=?_) ⟨m_ 32 536870911⟩ rfl rfl (any_of HT_.out (by kernel_rfl)) (fun _ _ _ h=>h) (Or.inl ⟨rfl, ?_⟩) ?_ ?_; rotate_left
              ·intro w'; go_simp; with_reducible rfl
              rotate_left
              ·simp only [q_, i64_w, i32_w]; rfl
              as_aux_lemma =>
               refine one_ (i:=29) (N:=some 47) ⟨m_ 32 1073741823⟩ rfl rfl (one_of HT_.out (by kernel_rfl)) (by decide) (fun K hK => ?_); refine goes_ Tryd.func7 (by kernel_rfl) rfl #[] (by rfl) rfl rfl (by (try simp only [List.map_toArray, List.map_cons, List.map_nil]); first | done | rfl | (simp only [List.length_drop, List.length_take]; rfl)) ?_; with_reducible refine (oculuslaw22_alive.calls kj2  t112 _ (by refine tb_ ?_ hT; repeat' (first | exact pbx HB | exact Below.refl _ _ | assumption | refine below_set ?_ (Aside0.out ?_))) A31.out).mono ?_; rintro e w42 ⟨rfl, hb⟩; refine ⟨_, rfl, ?_⟩
               replace BK101 := bb_ BK101 hb; replace BK102 := bb_ BK102 hb; replace HB := bs_ HB hb; (try clear hb); (try clear hb2); (try clear hk); (try clear hi); refine hK.out _ _ ⟨bc_ BK101 0 rfl, bc_ BK101 1 rfl, bc_ BK101 2 rfl, bc_ BK101 3 rfl, bc_ BK101 4 rfl, bc_ BK101 5 rfl, bc_ BK101 6 rfl, bc_ BK101 7 rfl, bc_ BK101 8 rfl, bc_ BK101 9 rfl, bc_ BK101 10 rfl, bc_ BK101 11 rfl, bc_ BK101 12 rfl, bc_ BK101 13 rfl, bc_ BK102 0 rfl, bc_ BK102 1 rfl, bc_ BK102 2 rfl, bc_ BK102 3 rfl, bc_ BK102 4 rfl, bc_ BK102 5 rfl, bc_ BK102 6 rfl, bc_ BK102 7 rfl, bc_ BK102 8 rfl, bc_ BK102 9 rfl, bc_ BK102 10 rfl, bc_ BK102 11 rfl, bc_ BK102 12 rfl, bc_ BK102 13 rfl⟩ (fun hHeld => ?_); clear hK K; refine norm_ (a':=?_) ?_ ?_; rotate_left
               ·show Act.put _ (some 47) _ = _; simp only [q_, i64_w, i32_w]; rfl
               refine pure_ (i:=30) (N:=some 48) (v:=?_) (a':=?_) ⟨m_ 32 2147483647⟩ rfl rfl (any_of HT_.out (by kernel_rfl)) (fun _ _ _ h=>h) (Or.inl ⟨rfl, ?_⟩) ?_ ?_; rotate_left
               ·intro w'; go_simp; with_reducible rfl
               rotate_left
               ·simp only [q_, i64_w, i32_w]; rfl
               refine pure_ (i:=31) (N:=some 4) (v:=?_) (a':=?_) ⟨m_ 32 4294967295⟩ rfl rfl (any_of HT_.out (by kernel_rfl)) (fun _ _ _ h=>h) (Or.inl ⟨rfl, ?_⟩) ?_ ?_; rotate_left
               ·intro w'; go_simp; with_reducible rfl
               rotate_left
               ·simp only [q_, i64_w, i32_w]; rfl
               refine done_ (done_of HT_.out (by kernel_rfl)) ?_
               try go_wp2
               go_ret
               exact ⟨by first | rfl | (simp [errW_none, errW_some] <;> rfl) | (simp [*, errW_none, errW_some] <;> rfl), pbx HB⟩
        ·rw [if_neg c30] at H; have c30b0 : (t110 == t111) = false := beq_eq_false_iff_ne.mpr c30; have c30b1 : (t110 != t111) = true := bne_iff_ne.mpr c30
         exact absurd H (by simp)
       ·replace c27 := Bool.eq_false_iff.mpr c27; subst c27
        have H1 : ((oculuslaw22_alive.f kj2).bind fun t113 => (some t113)) = some r := by rw [if_neg (show ¬ (false = true) by decide)] at H; exact H
        clear H; have H := H1; clear H1; replace H := Option.bind_eq_some_iff.mp H; obtain ⟨t113, A430, H⟩ := H
        replace H : (some t113) = some r := H
        have A43 := Aside0.mk A430; clear A430; obtain rfl := Option.some.inj H; have hnb44 := NB101_102.out; have hnc44 := NB102_101.out
        have hcz45_0 : wc.cell? ⟨gb101, 0, none⟩ = some (.int .i64 a0_0) := bc_ BK101 0 rfl
        have hcz45_1 : wc.cell? ⟨gb101, 1, none⟩ = some (.int .i64 a0_1) := bc_ BK101 1 rfl
        have hcz45_2 : wc.cell? ⟨gb101, 2, none⟩ = some (.int .i64 a0_2) := bc_ BK101 2 rfl
        have hcz45_3 : wc.cell? ⟨gb101, 3, none⟩ = some (.int .i64 a0_3) := bc_ BK101 3 rfl
        have hcz45_4 : wc.cell? ⟨gb101, 4, none⟩ = some (.string a0_4) := bc_ BK101 4 rfl
        have hcz45_5 : wc.cell? ⟨gb101, 5, none⟩ = some (.int .i64 a0_5) := bc_ BK101 5 rfl
        have hcz45_6 : wc.cell? ⟨gb101, 6, none⟩ = some (.int .i64 a0_6) := bc_ BK101 6 rfl
        have hcz45_7 : wc.cell? ⟨gb101, 7, none⟩ = some (.bool a0_7) := bc_ BK101 7 rfl
        have hcz45_8 : wc.cell? ⟨gb101, 8, none⟩ = some (.bool a0_8) := bc_ BK101 8 rfl
        have hcz45_9 : wc.cell? ⟨gb101, 9, none⟩ = some (.int .i64 a0_9) := bc_ BK101 9 rfl
        have hcz45_10 : wc.cell? ⟨gb101, 10, none⟩ = some (.int .i64 a0_10) := bc_ BK101 10 rfl
        have hcz45_11 : wc.cell? ⟨gb101, 11, none⟩ = some (.bool a0_11) := bc_ BK101 11 rfl
        have hcz45_12 : wc.cell? ⟨gb101, 12, none⟩ = some (.bool a0_12) := bc_ BK101 12 rfl
        have hcz45_13 : wc.cell? ⟨gb101, 13, none⟩ = some (.slice A0_13 l0_13.length c0_13) := bc_ BK101 13 rfl
        have hfz45_0 := blk_frozen BK101.out 0; have hfz45_1 := blk_frozen BK101.out 1; have hfz45_2 := blk_frozen BK101.out 2; have hfz45_3 := blk_frozen BK101.out 3; have hfz45_4 := blk_frozen BK101.out 4; have hfz45_5 := blk_frozen BK101.out 5; have hfz45_6 := blk_frozen BK101.out 6; have hfz45_7 := blk_frozen BK101.out 7; have hfz45_8 := blk_frozen BK101.out 8; have hfz45_9 := blk_frozen BK101.out 9; have hfz45_10 := blk_frozen BK101.out 10; have hfz45_11 := blk_frozen BK101.out 11; have hfz45_12 := blk_frozen BK101.out 12; have hfz45_13 := blk_frozen BK101.out 13
        have hcz46_0 : wc.cell? ⟨gb102, 0, none⟩ = some (.int .i64 a1_0) := bc_ BK102 0 rfl
        have hcz46_1 : wc.cell? ⟨gb102, 1, none⟩ = some (.int .i64 a1_1) := bc_ BK102 1 rfl
        have hcz46_2 : wc.cell? ⟨gb102, 2, none⟩ = some (.int .i64 a1_2) := bc_ BK102 2 rfl
        have hcz46_3 : wc.cell? ⟨gb102, 3, none⟩ = some (.int .i64 a1_3) := bc_ BK102 3 rfl
        have hcz46_4 : wc.cell? ⟨gb102, 4, none⟩ = some (.string a1_4) := bc_ BK102 4 rfl
        have hcz46_5 : wc.cell? ⟨gb102, 5, none⟩ = some (.int .i64 a1_5) := bc_ BK102 5 rfl
        have hcz46_6 : wc.cell? ⟨gb102, 6, none⟩ = some (.int .i64 a1_6) := bc_ BK102 6 rfl
        have hcz46_7 : wc.cell? ⟨gb102, 7, none⟩ = some (.bool a1_7) := bc_ BK102 7 rfl
        have hcz46_8 : wc.cell? ⟨gb102, 8, none⟩ = some (.bool a1_8) := bc_ BK102 8 rfl
        have hcz46_9 : wc.cell? ⟨gb102, 9, none⟩ = some (.int .i64 a1_9) := bc_ BK102 9 rfl
        have hcz46_10 : wc.cell? ⟨gb102, 10, none⟩ = some (.int .i64 a1_10) := bc_ BK102 10 rfl
        have hcz46_11 : wc.cell? ⟨gb102, 11, none⟩ = some (.bool a1_11) := bc_ BK102 11 rfl
        have hcz46_12 : wc.cell? ⟨gb102, 12, none⟩ = some (.bool a1_12) := bc_ BK102 12 rfl
        have hcz46_13 : wc.cell? ⟨gb102, 13, none⟩ = some (.slice A1_13 l1_13.length c1_13) := bc_ BK102 13 rfl
        have hfz46_0 := blk_frozen BK102.out 0; have hfz46_1 := blk_frozen BK102.out 1; have hfz46_2 := blk_frozen BK102.out 2; have hfz46_3 := blk_frozen BK102.out 3; have hfz46_4 := blk_frozen BK102.out 4; have hfz46_5 := blk_frozen BK102.out 5; have hfz46_6 := blk_frozen BK102.out 6; have hfz46_7 := blk_frozen BK102.out 7; have hfz46_8 := blk_frozen BK102.out 8; have hfz46_9 := blk_frozen BK102.out 9; have hfz46_10 := blk_frozen BK102.out 10; have hfz46_11 := blk_frozen BK102.out 11; have hfz46_12 := blk_frozen BK102.out 12; have hfz46_13 := blk_frozen BK102.out 13
        try go_wp2_with (first | ((with_reducible refine gate_callee (f:=18) rfl ?_); refine gL_ (some 17) rfl rfl Tryd.func18 rfl #[.agg #[.int .i64 a0_0, .int .i64 a0_1, .int .i64 a0_2, .int .i64 a0_3, .string a0_4, .int .i64 a0_5, .int .i64 a0_6, .bool a0_7, .bool a0_8, .int .i64 a0_9, .int .i64 a0_10, .bool a0_11, .bool a0_12, .slice A0_13 l0_13.length c0_13], .agg #[.int .i64 a1_0, .int .i64 a1_1, .int .i64 a1_2, .int .i64 a1_3, .string a1_4, .int .i64 a1_5, .int .i64 a1_6, .bool a1_7, .bool a1_8, .int .i64 a1_9, .int .i64 a1_10, .bool a1_11, .bool a1_12, .slice A1_13 l1_13.length c1_13]] rfl ?_; (with_reducible refine (node_Same.calls kj2 a0_0 a0_1 a0_2 a0_3 a0_4 a0_5 a0_6 a0_7 a0_8 a0_9 a0_10 a0_11 a0_12 _ _ l0_13 a1_0 a1_1 a1_2 a1_3 a1_4 a1_5 a1_6 a1_7 a1_8 a1_9 a1_10 a1_11 a1_12 _ _ l1_13 false _ ?side1 ?side2 ?side3 ?side4 A20.out).mono ?_); (case side1 => repeat (first | exact (Kd.C_below HR0_13.out HB.out) | (with_reducible refine Kd.C_alloc ?_ _) | (with_reducible refine Kd.C_drewN ?_ _) | (with_reducible refine Kd.C_drew ?_))); (case side2 => exact HC0_13.out); (case side3 => repeat (first | exact (Kd.C_below HR1_13.out HB.out) | (with_reducible refine Kd.C_alloc ?_ _) | (with_reducible refine Kd.C_drewN ?_ _) | (with_reducible refine Kd.C_drew ?_))); (case side4 => exact HC1_13.out); rintro e w47 ⟨rfl, hb⟩; refine ⟨_, rfl, ?_⟩; replace BK101 := bb_ BK101 hb; replace BK102 := bb_ BK102 hb; replace HB := bs_ HB hb; (try clear hb); (try clear hb2); (try clear hk); (try clear hi)))
        (try (rw [drewN_self w47]; generalize hq_ : World.drewN w47 _ = w47; have n0_ : Aside0 (w47.heap[gb101]? = some (.cells #[.int .i64 a0_0, .int .i64 a0_1, .int .i64 a0_2, .int .i64 a0_3, .string a0_4, .int .i64 a0_5, .int .i64 a0_6, .bool a0_7, .bool a0_8, .int .i64 a0_9, .int .i64 a0_10, .bool a0_11, .bool a0_12, .slice A0_13 l0_13.length c0_13] 28 (0, 0))) := ⟨by rw [← hq_]; exact (pkx BK101)⟩; have n1_ : Aside0 (w47.heap[gb102]? = some (.cells #[.int .i64 a1_0, .int .i64 a1_1, .int .i64 a1_2, .int .i64 a1_3, .string a1_4, .int .i64 a1_5, .int .i64 a1_6, .bool a1_7, .bool a1_8, .int .i64 a1_9, .int .i64 a1_10, .bool a1_11, .bool a1_12, .slice A1_13 l1_13.length c1_13] 28 (0, 0))) := ⟨by rw [← hq_]; exact (pkx BK102)⟩; have n2_ : Aside0 (Below w.heap.size w w47) := ⟨by rw [← hq_]; exact (pbx HB)⟩; clear BK101 BK102 HB hq_; have BK101 := n0_; have BK102 := n1_; have HB := n2_; clear n0_ n1_ n2_))
        replace BK101 := Aside0.mk (blk_drew BK101.out); replace BK102 := Aside0.mk (blk_drew BK102.out); replace HB := Aside0.mk (below_drew1 HB.out)
        refine start_ (n:=32) (S := fun w' => w'.cell? ⟨gb101, 0, none⟩ = some (.int .i64 a0_0) ∧ w'.cell? ⟨gb101, 1, none⟩ = some (.int .i64 a0_1) ∧ w'.cell? ⟨gb101, 2, none⟩ = some (.int .i64 a0_2) ∧ w'.cell? ⟨gb101, 3, none⟩ = some (.int .i64 a0_3) ∧ w'.cell? ⟨gb101, 4, none⟩ = some (.string a0_4) ∧ w'.cell? ⟨gb101, 5, none⟩ = some (.int .i64 a0_5) ∧ w'.cell? ⟨gb101, 6, none⟩ = some (.int .i64 a0_6) ∧ w'.cell? ⟨gb101, 7, none⟩ = some (.bool a0_7) ∧ w'.cell? ⟨gb101, 8, none⟩ = some (.bool a0_8) ∧ w'.cell? ⟨gb101, 9, none⟩ = some (.int .i64 a0_9) ∧ w'.cell? ⟨gb101, 10, none⟩ = some (.int .i64 a0_10) ∧ w'.cell? ⟨gb101, 11, none⟩ = some (.bool a0_11) ∧ w'.cell? ⟨gb101, 12, none⟩ = some (.bool a0_12) ∧ w'.cell? ⟨gb101, 13, none⟩ = some (.slice A0_13 l0_13.length c0_13) ∧ w'.cell? ⟨gb102, 0, none⟩ = some (.int .i64 a1_0) ∧ w'.cell? ⟨gb102, 1, none⟩ = some (.int .i64 a1_1) ∧ w'.cell? ⟨gb102, 2, none⟩ = some (.int .i64 a1_2) ∧ w'.cell? ⟨gb102, 3, none⟩ = some (.int .i64 a1_3) ∧ w'.cell? ⟨gb102, 4, none⟩ = some (.string a1_4) ∧ w'.cell? ⟨gb102, 5, none⟩ = some (.int .i64 a1_5) ∧ w'.cell? ⟨gb102, 6, none⟩ = some (.int .i64 a1_6) ∧ w'.cell? ⟨gb102, 7, none⟩ = some (.bool a1_7) ∧ w'.cell? ⟨gb102, 8, none⟩ = some (.bool a1_8) ∧ w'.cell? ⟨gb102, 9, none⟩ = some (.int .i64 a1_9) ∧ w'.cell? ⟨gb102, 10, none⟩ = some (.int .i64 a1_10) ∧ w'.cell? ⟨gb102, 11, none⟩ = some (.bool a1_11) ∧ w'.cell? ⟨gb102, 12, none⟩ = some (.bool a1_12) ∧ w'.cell? ⟨gb102, 13, none⟩ = some (.slice A1_13 l1_13.length c1_13)) (ds := []) #[F,F,F,F,F,F,F,F,F,F,F,F,F,F,F,F,F,F,F,F,F,F,F,F,F,F,F,F,F,F,F,F] (by kernel_rfl) rfl rfl ⟨bc_ BK101 0 rfl, bc_ BK101 1 rfl, bc_ BK101 2 rfl, bc_ BK101 3 rfl, bc_ BK101 4 rfl, bc_ BK101 5 rfl, bc_ BK101 6 rfl, bc_ BK101 7 rfl, bc_ BK101 8 rfl, bc_ BK101 9 rfl, bc_ BK101 10 rfl, bc_ BK101 11 rfl, bc_ BK101 12 rfl, bc_ BK101 13 rfl, bc_ BK102 0 rfl, bc_ BK102 1 rfl, bc_ BK102 2 rfl, bc_ BK102 3 rfl, bc_ BK102 4 rfl, bc_ BK102 5 rfl, bc_ BK102 6 rfl, bc_ BK102 7 rfl, bc_ BK102 8 rfl, bc_ BK102 9 rfl, bc_ BK102 10 rfl, bc_ BK102 11 rfl, bc_ BK102 12 rfl, bc_ BK102 13 rfl⟩ (fun hHeld => ?_); refine with_tabW oculuslaw22_NodeSame.tab4 oculuslaw22_NodeSame.bits4 (fun HT_ HW_ => ?_)
        generalize w47.drew = w48 at BK101 BK102 HB hHeld ⊢; refine pure_ (i:=0) (N:=some 18) (v:=?_) (a':=?_) ⟨m_ 32 1⟩ rfl rfl (any_of HT_.out (by kernel_rfl)) (fun _ _ _ h=>h) (Or.inl ⟨rfl, ?_⟩) ?_ ?_; rotate_left
        ·intro w'; go_simp; with_reducible rfl
        rotate_left
        ·simp only [q_, i64_w, i32_w]; rfl
        refine take_ (i:=1) (N:=some 19) (v:=?_) (a':=?_) ⟨m_ 32 3⟩ rfl rfl (take_ofW HT_.out HW_.out (by kernel_rfl)) (fun _ _ _ h=>h) (Or.inl ⟨rfl, ?_⟩) hHeld ?_ ?_; rotate_left
        ·rintro w' ⟨s0, s1, s2, s3, s4, s5, s6, s7, s8, s9, s10, s11, s12, s13, s14, s15, s16, s17, s18, s19, s20, s21, s22, s23, s24, s25, s26, s27⟩; go_simp; with_reducible rfl
        rotate_left
        ·simp only [q_, i64_w, i32_w]; rfl
        refine take_ (i:=2) (N:=some 20) (v:=?_) (a':=?_) ⟨m_ 32 7⟩ rfl rfl (take_ofW HT_.out HW_.out (by kernel_rfl)) (fun _ _ _ h=>h) (Or.inl ⟨rfl, ?_⟩) hHeld ?_ ?_; rotate_left
        ·rintro w' ⟨s0, s1, s2, s3, s4, s5, s6, s7, s8, s9, s10, s11, s12, s13, s14, s15, s16, s17, s18, s19, s20, s21, s22, s23, s24, s25, s26, s27⟩; go_simp; with_reducible rfl
        rotate_left
        ·simp only [q_, i64_w, i32_w]; rfl
        as_aux_lemma =>
         refine one_ (i:=3) (N:=some 21) ⟨m_ 32 15⟩ rfl rfl (one_of HT_.out (by kernel_rfl)) (by decide) (fun K hK => ?_); refine goes_ Tryd.func17 (by kernel_rfl) rfl #[.agg #[.int .i64 a0_0, .int .i64 a0_1, .int .i64 a0_2, .int .i64 a0_3, .string a0_4, .int .i64 a0_5, .int .i64 a0_6, .bool a0_7, .bool a0_8, .int .i64 a0_9, .int .i64 a0_10, .bool a0_11, .bool a0_12, .slice A0_13 l0_13.length c0_13], .agg #[.int .i64 a1_0, .int .i64 a1_1, .int .i64 a1_2, .int .i64 a1_3, .string a1_4, .int .i64 a1_5, .int .i64 a1_6, .bool a1_7, .bool a1_8, .int .i64 a1_9, .int .i64 a1_10, .bool a1_11, .bool a1_12, .slice A1_13 l1_13.length c1_13]] (by rfl) rfl rfl (by (try simp only [List.map_toArray, List.map_cons, List.map_nil]); first | done | rfl | (simp only [List.length_drop, List.length_take]; rfl)) ?_; with_reducible refine (oculusref22_Same.calls kj2 a0_0 a0_1 a0_2 a0_3 a0_4 a0_5 a0_6 a0_7 a0_8 a0_9 a0_10 a0_11 a0_12 _ _ l0_13 a1_0 a1_1 a1_2 a1_3 a1_4 a1_5 a1_6 a1_7 a1_8 a1_9 a1_10 a1_11 a1_12 _ _ l1_13 t107 _ ?side1 ?side2 ?side3 ?side4 A21.out).mono ?_; (case side1 => repeat (first | exact (Kd.C_below HR0_13.out HB.out) | (with_reducible refine Kd.C_alloc ?_ _) | (with_reducible refine Kd.C_drewN ?_ _) | (with_reducible refine Kd.C_drew ?_))); (case side2 => exact HC0_13.out); (case side3 => repeat (first | exact (Kd.C_below HR1_13.out HB.out) | (with_reducible refine Kd.C_alloc ?_ _) | (with_reducible refine Kd.C_drewN ?_ _) | (with_reducible refine Kd.C_drew ?_)))
         (case side4 => exact HC1_13.out); rintro e w49 ⟨rfl, hb⟩; refine ⟨_, rfl, ?_⟩
         replace BK101 := bb_ BK101 hb; replace BK102 := bb_ BK102 hb; replace HB := bs_ HB hb; (try clear hb); (try clear hb2); (try clear hk); (try clear hi); refine hK.out _ _ ⟨bc_ BK101 0 rfl, bc_ BK101 1 rfl, bc_ BK101 2 rfl, bc_ BK101 3 rfl, bc_ BK101 4 rfl, bc_ BK101 5 rfl, bc_ BK101 6 rfl, bc_ BK101 7 rfl, bc_ BK101 8 rfl, bc_ BK101 9 rfl, bc_ BK101 10 rfl, bc_ BK101 11 rfl, bc_ BK101 12 rfl, bc_ BK101 13 rfl, bc_ BK102 0 rfl, bc_ BK102 1 rfl, bc_ BK102 2 rfl, bc_ BK102 3 rfl, bc_ BK102 4 rfl, bc_ BK102 5 rfl, bc_ BK102 6 rfl, bc_ BK102 7 rfl, bc_ BK102 8 rfl, bc_ BK102 9 rfl, bc_ BK102 10 rfl, bc_ BK102 11 rfl, bc_ BK102 12 rfl, bc_ BK102 13 rfl⟩ (fun hHeld => ?_); clear hK K; refine norm_ (a':=?_) ?_ ?_; rotate_left
         ·show Act.put _ (some 21) _ = _; simp only [q_, i64_w, i32_w]; rfl
         refine pure_ (i:=4) (N:=some 22) (v:=?_) (a':=?_) ⟨m_ 32 31⟩ rfl rfl (any_of HT_.out (by kernel_rfl)) (fun _ _ _ h=>h) (Or.inl ⟨rfl, ?_⟩) ?_ ?_; rotate_left
         ·intro w'; go_simp; with_reducible rfl
         rotate_left
         ·simp only [q_, i64_w, i32_w]; rfl
         refine pure_ (i:=5) (N:=some 23) (v:=?_) (a':=?_) ⟨m_ 32 63⟩ rfl rfl (any_of HT_.out (by kernel_rfl)) (fun _ _ _ h=>h) (Or.inl ⟨rfl, ?_⟩) ?_ ?_; rotate_left
         ·intro w'; go_simp; with_reducible rfl
         rotate_left
         ·simp only [q_, i64_w, i32_w]; rfl
         refine take_ (i:=6) (N:=some 24) (v:=?_) (a':=?_) ⟨m_ 32 127⟩ rfl rfl (take_ofW HT_.out HW_.out (by kernel_rfl)) (fun _ _ _ h=>h) (Or.inl ⟨rfl, ?_⟩) hHeld ?_ ?_; rotate_left
         ·rintro w' ⟨s0, s1, s2, s3, s4, s5, s6, s7, s8, s9, s10, s11, s12, s13, s14, s15, s16, s17, s18, s19, s20, s21, s22, s23, s24, s25, s26, s27⟩; go_simp; with_reducible rfl
         rotate_left
         ·simp only [q_, i64_w, i32_w]; rfl
         refine take_ (i:=7) (N:=some 25) (v:=?_) (a':=?_) ⟨m_ 32 255⟩ rfl rfl (take_ofW HT_.out HW_.out (by kernel_rfl)) (fun _ _ _ h=>h) (Or.inl ⟨rfl, ?_⟩) hHeld ?_ ?_; rotate_left
         ·rintro w' ⟨s0, s1, s2, s3, s4, s5, s6, s7, s8, s9, s10, s11, s12, s13, s14, s15, s16, s17, s18, s19, s20, s21, s22, s23, s24, s25, s26, s27⟩; go_simp; with_reducible rfl
         rotate_left
         ·simp only [q_, i64_w, i32_w]; rfl
         as_aux_lemma =>
          refine one_ (i:=8) (N:=some 26) ⟨m_ 32 511⟩ rfl rfl (one_of HT_.out (by kernel_rfl)) (by decide) (fun K hK => ?_); refine goes_ Tryd.func18 (by kernel_rfl) rfl #[.agg #[.int .i64 a0_0, .int .i64 a0_1, .int .i64 a0_2, .int .i64 a0_3, .string a0_4, .int .i64 a0_5, .int .i64 a0_6, .bool a0_7, .bool a0_8, .int .i64 a0_9, .int .i64 a0_10, .bool a0_11, .bool a0_12, .slice A0_13 l0_13.length c0_13], .agg #[.int .i64 a0_0, .int .i64 a0_1, .int .i64 a0_2, .int .i64 a0_3, .string a0_4, .int .i64 a0_5, .int .i64 a0_6, .bool a0_7, .bool a0_8, .int .i64 a0_9, .int .i64 a0_10, .bool a0_11, .bool a0_12, .slice A0_13 l0_13.length c0_13]] (by rfl) rfl rfl (by (try simp only [List.map_toArray, List.map_cons, List.map_nil]); first | done | rfl | (simp only [List.length_drop, List.length_take]; rfl)) ?_; with_reducible refine (node_Same.calls kj2 a0_0 a0_1 a0_2 a0_3 a0_4 a0_5 a0_6 a0_7 a0_8 a0_9 a0_10 a0_11 a0_12 _ _ l0_13 a0_0 a0_1 a0_2 a0_3 a0_4 a0_5 a0_6 a0_7 a0_8 a0_9 a0_10 a0_11 a0_12 _ _ l0_13 true _ ?side1 ?side2 ?side3 ?side4 A23.out).mono ?_; (case side1 => repeat (first | exact (Kd.C_below HR0_13.out HB.out) | (with_reducible refine Kd.C_alloc ?_ _) | (with_reducible refine Kd.C_drewN ?_ _) | (with_reducible refine Kd.C_drew ?_))); (case side2 => exact HC0_13.out); (case side3 => repeat (first | exact (Kd.C_below HR0_13.out HB.out) | (with_reducible refine Kd.C_alloc ?_ _) | (with_reducible refine Kd.C_drewN ?_ _) | (with_reducible refine Kd.C_drew ?_)))
          (case side4 => exact HC0_13.out); rintro e w50 ⟨rfl, hb⟩; refine ⟨_, rfl, ?_⟩
          replace BK101 := bb_ BK101 hb; replace BK102 := bb_ BK102 hb; replace HB := bs_ HB hb; (try clear hb); (try clear hb2); (try clear hk); (try clear hi); refine hK.out _ _ ⟨bc_ BK101 0 rfl, bc_ BK101 1 rfl, bc_ BK101 2 rfl, bc_ BK101 3 rfl, bc_ BK101 4 rfl, bc_ BK101 5 rfl, bc_ BK101 6 rfl, bc_ BK101 7 rfl, bc_ BK101 8 rfl, bc_ BK101 9 rfl, bc_ BK101 10 rfl, bc_ BK101 11 rfl, bc_ BK101 12 rfl, bc_ BK101 13 rfl, bc_ BK102 0 rfl, bc_ BK102 1 rfl, bc_ BK102 2 rfl, bc_ BK102 3 rfl, bc_ BK102 4 rfl, bc_ BK102 5 rfl, bc_ BK102 6 rfl, bc_ BK102 7 rfl, bc_ BK102 8 rfl, bc_ BK102 9 rfl, bc_ BK102 10 rfl, bc_ BK102 11 rfl, bc_ BK102 12 rfl, bc_ BK102 13 rfl⟩ (fun hHeld => ?_); clear hK K; refine norm_ (a':=?_) ?_ ?_; rotate_left
          ·show Act.put _ (some 26) _ = _; simp only [q_, i64_w, i32_w]; rfl
          refine pure_ (i:=9) (N:=some 27) (v:=?_) (a':=?_) ⟨m_ 32 1023⟩ rfl rfl (any_of HT_.out (by kernel_rfl)) (fun _ _ _ h=>h) (Or.inl ⟨rfl, ?_⟩) ?_ ?_; rotate_left
          ·intro w'; go_simp; with_reducible rfl
          rotate_left
          ·simp only [q_, i64_w, i32_w]; rfl
          refine pure_ (i:=10) (N:=some 28) (v:=?_) (a':=?_) ⟨m_ 32 2047⟩ rfl rfl (any_of HT_.out (by kernel_rfl)) (fun _ _ _ h=>h) (Or.inl ⟨rfl, ?_⟩) ?_ ?_; rotate_left
          ·intro w'; go_simp; with_reducible rfl
          rotate_left
          ·simp only [q_, i64_w, i32_w]; rfl
          refine pure_ (i:=14) (N:=some 32) (v:=?_) (a':=?_) ⟨m_ 32 18431⟩ rfl rfl (any_of HT_.out (by kernel_rfl)) (fun _ _ _ h=>h) (Or.inl ⟨rfl, ?_⟩) ?_ ?_; rotate_left
          ·intro w'; go_simp; with_reducible rfl
          rotate_left
          ·simp only [q_, i64_w, i32_w]; rfl
          refine take_ (i:=11) (N:=some 29) (v:=?_) (a':=?_) ⟨m_ 32 20479⟩ rfl rfl (take_ofW HT_.out HW_.out (by kernel_rfl)) (fun _ _ _ h=>h) (Or.inl ⟨rfl, ?_⟩) hHeld ?_ ?_; rotate_left
          ·rintro w' ⟨s0, s1, s2, s3, s4, s5, s6, s7, s8, s9, s10, s11, s12, s13, s14, s15, s16, s17, s18, s19, s20, s21, s22, s23, s24, s25, s26, s27⟩; go_simp; with_reducible rfl
          rotate_left
          ·simp only [q_, i64_w, i32_w]; rfl
          refine take_ (i:=12) (N:=some 30) (v:=?_) (a':=?_) ⟨m_ 32 24575⟩ rfl rfl (take_ofW HT_.out HW_.out (by kernel_rfl)) (fun _ _ _ h=>h) (Or.inl ⟨rfl, ?_⟩) hHeld ?_ ?_; rotate_left
          ·rintro w' ⟨s0, s1, s2, s3, s4, s5, s6, s7, s8, s9, s10, s11, s12, s13, s14, s15, s16, s17, s18, s19, s20, s21, s22, s23, s24, s25, s26, s27⟩; go_simp; with_reducible rfl
          rotate_left
          ·simp only [q_, i64_w, i32_w]; rfl
          as_aux_lemma =>
           refine one_ (i:=13) (N:=some 31) ⟨m_ 32 32767⟩ rfl rfl (one_of HT_.out (by kernel_rfl)) (by decide) (fun K hK => ?_); refine goes_ Tryd.func18 (by kernel_rfl) rfl #[.agg #[.int .i64 a1_0, .int .i64 a1_1, .int .i64 a1_2, .int .i64 a1_3, .string a1_4, .int .i64 a1_5, .int .i64 a1_6, .bool a1_7, .bool a1_8, .int .i64 a1_9, .int .i64 a1_10, .bool a1_11, .bool a1_12, .slice A1_13 l1_13.length c1_13], .agg #[.int .i64 a0_0, .int .i64 a0_1, .int .i64 a0_2, .int .i64 a0_3, .string a0_4, .int .i64 a0_5, .int .i64 a0_6, .bool a0_7, .bool a0_8, .int .i64 a0_9, .int .i64 a0_10, .bool a0_11, .bool a0_12, .slice A0_13 l0_13.length c0_13]] (by rfl) rfl rfl (by (try simp only [List.map_toArray, List.map_cons, List.map_nil]); first | done | rfl | (simp only [List.length_drop, List.length_take]; rfl)) ?_; with_reducible refine (node_Same.calls kj2 a1_0 a1_1 a1_2 a1_3 a1_4 a1_5 a1_6 a1_7 a1_8 a1_9 a1_10 a1_11 a1_12 _ _ l1_13 a0_0 a0_1 a0_2 a0_3 a0_4 a0_5 a0_6 a0_7 a0_8 a0_9 a0_10 a0_11 a0_12 _ _ l0_13 t109 _ ?side1 ?side2 ?side3 ?side4 A25.out).mono ?_; (case side1 => repeat (first | exact (Kd.C_below HR1_13.out HB.out) | (with_reducible refine Kd.C_alloc ?_ _) | (with_reducible refine Kd.C_drewN ?_ _) | (with_reducible refine Kd.C_drew ?_))); (case side2 => exact HC1_13.out); (case side3 => repeat (first | exact (Kd.C_below HR0_13.out HB.out) | (with_reducible refine Kd.C_alloc ?_ _) | (with_reducible refine Kd.C_drewN ?_ _) | (with_reducible refine Kd.C_drew ?_)))
           (case side4 => exact HC0_13.out); rintro e w51 ⟨rfl, hb⟩; refine ⟨_, rfl, ?_⟩
           replace BK101 := bb_ BK101 hb; replace BK102 := bb_ BK102 hb; replace HB := bs_ HB hb; (try clear hb); (try clear hb2); (try clear hk); (try clear hi); refine hK.out _ _ ⟨bc_ BK101 0 rfl, bc_ BK101 1 rfl, bc_ BK101 2 rfl, bc_ BK101 3 rfl, bc_ BK101 4 rfl, bc_ BK101 5 rfl, bc_ BK101 6 rfl, bc_ BK101 7 rfl, bc_ BK101 8 rfl, bc_ BK101 9 rfl, bc_ BK101 10 rfl, bc_ BK101 11 rfl, bc_ BK101 12 rfl, bc_ BK101 13 rfl, bc_ BK102 0 rfl, bc_ BK102 1 rfl, bc_ BK102 2 rfl, bc_ BK102 3 rfl, bc_ BK102 4 rfl, bc_ BK102 5 rfl, bc_ BK102 6 rfl, bc_ BK102 7 rfl, bc_ BK102 8 rfl, bc_ BK102 9 rfl, bc_ BK102 10 rfl, bc_ BK102 11 rfl, bc_ BK102 12 rfl, bc_ BK102 13 rfl⟩ (fun hHeld => ?_); clear hK K; refine norm_ (a':=?_) ?_ ?_; rotate_left
           ·show Act.put _ (some 31) _ = _; simp only [q_, i64_w, i32_w]; rfl
           refine pure_ (i:=15) (N:=some 33) (v:=?_) (a':=?_) ⟨m_ 32 65535⟩ rfl rfl (any_of HT_.out (by kernel_rfl)) (fun _ _ _ h=>h) (Or.inl ⟨rfl, ?_⟩) ?_ ?_; rotate_left
           ·intro w'; go_simp; with_reducible rfl
           rotate_left
           ·simp only [q_, i64_w, i32_w]; rfl
           refine pure_ (i:=16) (N:=some 34) (v:=?_) (a':=?_) ⟨m_ 32 131071⟩ rfl rfl (any_of HT_.out (by kernel_rfl)) (fun _ _ _ h=>h) (Or.inl ⟨rfl, ?_⟩) ?_ ?_; rotate_left
           ·intro w'; go_simp; with_reducible rfl
           rotate_left
           ·simp only [q_, i64_w, i32_w]; rfl
           refine pure_ (i:=17) (N:=some 35) (v:=?_) (a':=?_) ⟨m_ 32 262143⟩ rfl rfl (any_of HT_.out (by kernel_rfl)) (fun _ _ _ h=>h) (Or.inl ⟨rfl, ?_⟩) ?_ ?_; rotate_left
           ·intro w'; go_simp; with_reducible rfl
           rotate_left
           ·simp only [q_, i64_w, i32_w]; rfl
           refine pure_ (i:=18) (N:=some 36) (v:=?_) (a':=?_) ⟨m_ 32 524287⟩ rfl rfl (any_of HT_.out (by kernel_rfl)) (fun _ _ _ h=>h) (Or.inl ⟨rfl, ?_⟩) ?_ ?_; rotate_left
           ·intro w'; go_simp; with_reducible rfl
           rotate_left
           ·simp only [q_, i64_w, i32_w]; rfl
           refine pure_ (i:=19) (N:=some 37) (v:=?_) (a':=?_) ⟨m_ 32 1048575⟩ rfl rfl (any_of HT_.out (by kernel_rfl)) (fun _ _ _ h=>h) (Or.inl ⟨rfl, ?_⟩) ?_ ?_; rotate_left
           ·intro w'; go_simp; with_reducible rfl
           rotate_left
           ·simp only [q_, i64_w, i32_w]; rfl
           refine pure_ (i:=20) (N:=some 38) (v:=?_) (a':=?_) ⟨m_ 32 2097151⟩ rfl rfl (any_of HT_.out (by kernel_rfl)) (fun _ _ _ h=>h) (Or.inl ⟨rfl, ?_⟩) ?_ ?_; rotate_left
           ·intro w'; go_simp; with_reducible rfl
           rotate_left
           ·simp only [q_, i64_w, i32_w]; rfl
           refine pure_ (i:=21) (N:=some 39) (v:=undef) (a':=?_) ⟨m_ 32 4194303⟩ rfl rfl (any_of HT_.out (by kernel_rfl)) (fun _ _ _ h=>h) (Or.inr ⟨by rfl, rfl⟩) ?_ ?_; rotate_left
           ·simp only [q_, i64_w, i32_w]; rfl
           refine pure_ (i:=22) (N:=some 40) (v:=undef) (a':=?_) ⟨m_ 32 8388607⟩ rfl rfl (any_of HT_.out (by kernel_rfl)) (fun _ _ _ h=>h) (Or.inr ⟨by rfl, rfl⟩) ?_ ?_; rotate_left
           ·simp only [q_, i64_w, i32_w]; rfl
           refine pure_ (i:=23) (N:=some 41) (v:=undef) (a':=?_) ⟨m_ 32 16777215⟩ rfl rfl (any_of HT_.out (by kernel_rfl)) (fun _ _ _ h=>h) (Or.inr ⟨by rfl, rfl⟩) ?_ ?_; rotate_left
           ·simp only [q_, i64_w, i32_w]; rfl
           refine pure_ (i:=24) (N:=some 42) (v:=undef) (a':=?_) ⟨m_ 32 33554431⟩ rfl rfl (any_of HT_.out (by kernel_rfl)) (fun _ _ _ h=>h) (Or.inr ⟨by rfl, rfl⟩) ?_ ?_; rotate_left
           ·simp only [q_, i64_w, i32_w]; rfl
           refine pure_ (i:=25) (N:=some 43) (v:=undef) (a':=?_) ⟨m_ 32 67108863⟩ rfl rfl (any_of HT_.out (by kernel_rfl)) (fun _ _ _ h=>h) (Or.inr ⟨by rfl, rfl⟩) ?_ ?_; rotate_left
           ·simp only [q_, i64_w, i32_w]; rfl
           refine pure_ (i:=26) (N:=some 44) (v:=?_) (a':=?_) ⟨m_ 32 134217727⟩ rfl rfl (any_of HT_.out (by kernel_rfl)) (fun _ _ _ h=>h) (Or.inl ⟨rfl, ?_⟩) ?_ ?_; rotate_left
           ·intro w'; go_simp; with_reducible rfl
           rotate_left
           ·simp only [q_, i64_w, i32_w]; rfl
           refine pure_ (i:=27) (N:=some 45) (v:=?_) (a':=?_) ⟨m_ 32 268435455⟩ rfl rfl (any_of HT_.out (by kernel_rfl)) (fun _ _ _ h=>h) (Or.inl ⟨rfl, ?_⟩) ?_ ?_; rotate_left
           ·intro w'; go_simp; with_reducible rfl
           rotate_left
           ·simp only [q_, i64_w, i32_w]; rfl
           refine pure_ (i:=28) (N:=some 46) (v:=?_) (a':=?_) ⟨m_ 32 536870911⟩ rfl rfl (any_of HT_.out (by kernel_rfl)) (fun _ _ _ h=>h) (Or.inl ⟨rfl, ?_⟩) ?_ ?_; rotate_left
           ·intro w'; go_simp; with_reducible rfl
           rotate_left
           ·simp only [q_, i64_w, i32_w]; rfl
           as_aux_lemma =>
            refine one_ (i:=29) (N:=some 47) ⟨m_ 32 1073741823⟩ rfl rfl (one_of HT_.out (by kernel_rfl)) (by decide) (fun K hK => ?_); refine goes_ Tryd.func7 (by kernel_rfl) rfl #[] (by rfl) rfl rfl (by (try simp only [List.map_toArray, List.map_cons, List.map_nil]); first | done | rfl | (simp only [List.length_drop, List.length_take]; rfl)) ?_; with_reducible refine (oculuslaw22_alive.calls kj2  t113 _ (by refine tb_ ?_ hT; repeat' (first | exact pbx HB | exact Below.refl _ _ | assumption | refine below_set ?_ (Aside0.out ?_))) A43.out).mono ?_; rintro e w52 ⟨rfl, hb⟩; refine ⟨_, rfl, ?_⟩
            replace BK101 := bb_ BK101 hb; replace BK102 := bb_ BK102 hb; replace HB := bs_ HB hb; (try clear hb); (try clear hb2); (try clear hk); (try clear hi); refine hK.out _ _ ⟨bc_ BK101 0 rfl, bc_ BK101 1 rfl, bc_ BK101 2 rfl, bc_ BK101 3 rfl, bc_ BK101 4 rfl, bc_ BK101 5 rfl, bc_ BK101 6 rfl, bc_ BK101 7 rfl, bc_ BK101 8 rfl, bc_ BK101 9 rfl, bc_ BK101 10 rfl, bc_ BK101 11 rfl, bc_ BK101 12 rfl, bc_ BK101 13 rfl, bc_ BK102 0 rfl, bc_ BK102 1 rfl, bc_ BK102 2 rfl, bc_ BK102 3 rfl, bc_ BK102 4 rfl, bc_ BK102 5 rfl, bc_ BK102 6 rfl, bc_ BK102 7 rfl, bc_ BK102 8 rfl, bc_ BK102 9 rfl, bc_ BK102 10 rfl, bc_ BK102 11 rfl, bc_ BK102 12 rfl, bc_ BK102 13 rfl⟩ (fun hHeld => ?_); clear hK K; refine norm_ (a':=?_) ?_ ?_; rotate_left
            ·show Act.put _ (some 47) _ = _; simp only [q_, i64_w, i32_w]; rfl
            refine pure_ (i:=30) (N:=some 48) (v:=?_) (a':=?_) ⟨m_ 32 2147483647⟩ rfl rfl (any_of HT_.out (by kernel_rfl)) (fun _ _ _ h=>h) (Or.inl ⟨rfl, ?_⟩) ?_ ?_; rotate_left
            ·intro w'; go_simp; with_reducible rfl
            rotate_left
            ·simp only [q_, i64_w, i32_w]; rfl
            refine pure_ (i:=31) (N:=some 4) (v:=?_) (a':=?_) ⟨m_ 32 4294967295⟩ rfl rfl (any_of HT_.out (by kernel_rfl)) (fun _ _ _ h=>h) (Or.inl ⟨rfl, ?_⟩) ?_ ?_; rotate_left
            ·intro w'; go_simp; with_reducible rfl
            rotate_left
            ·simp only [q_, i64_w, i32_w]; rfl
            refine done_ (done_of HT_.out (by kernel_rfl)) ?_
            try go_wp2
            go_ret
            exact ⟨by first | rfl | (simp [errW_none, errW_some] <;> rfl) | (simp [*, errW_none, errW_some] <;> rfl), pbx HB⟩
      ·rw [if_neg c26] at H
       have c26b0 : (t109 == t106) = false := by simpa using c26
       (try (have c26b1 : decide (t109 = t106) = false := by simpa using c26)); (try (have c26b2 : (t109 == t106) = false := by simpa using c26)); (try (have c26b3 : ¬ (t109 = t106) := by simpa using c26)); clear c26
       exact absurd H (by simp)
     ·replace c24 := Bool.eq_false_iff.mpr c24; subst c24
      have H1 : (none) = some r := by rw [if_neg (show ¬ (false = true) by decide)] at H; exact H
      clear H; have H := H1; clear H1
      exact absurd H (by simp)
    ·rw [if_neg c22] at H
     have c22b0 : (t106 == t107) = false := by simpa using c22
     (try (have c22b1 : decide (t106 = t107) = false := by simpa using c22)); (try (have c22b2 : (t106 == t107) = false := by simpa using c22)); (try (have c22b3 : ¬ (t106 = t107) := by simpa using c22)); clear c22
     exact absurd H (by simp)

end Go.Proofs.YtdddhabemdbooaaDoor.X
/- A general opening of a row's arguments: what a value of a type reads as, as a term of a kind 'Kd', with the bounds that the row's reach gives. -/
set_option linter.unusedVariables false
set_option linter.unusedSimpArgs false
namespace Go.Proofs.YtdddhabemdbooaaDoor.Opn
open Go.ChangeShapes Go.WideShapes Go.RowKit Go.Proofs.YtdddhabemdbooaaDoorW.PrintWords

def Opens {α : Type} (P : Program) (t : TypeId) (d : Kd α) (good : α → Prop) : Prop :=
  ∀ {H : Type} {enc : TypeId × Value → H} {w : World} {base : Nat} {spare : Nat → Bool} {held : Bool} {fuel : Nat} {cs : List Value} {x : DataW H × List MemPlace},
    DataW.trod enc P w base spare held fuel t cs = some x → (∀ m ∈ x.1.weights P t, m ≤ reachBytes) → ∃ a, d.K w a cs ∧ good a

theorem opens_int {P : Program} {t : TypeId} {k : IntKind} (ht : P.underlying t = some (.int k)) : Opens P t (Kd.int k) (fun n => (Lit.int k n).wf = true) := by
  intro H enc w base spare held fuel cs x hx _
  obtain ⟨n, rfl, rfl, hn⟩ := DataW.trod_int ht hx
  exact ⟨n, rfl, hn⟩
theorem opens_bool {P : Program} {t : TypeId} (ht : P.underlying t = some .bool) : Opens P t Kd.bool (fun _ => True) := by
  intro H enc w base spare held fuel cs x hx _
  obtain ⟨n, rfl, rfl⟩ := DataW.trod_bool ht hx
  exact ⟨n, rfl, trivial⟩
theorem opens_string {P : Program} {t : TypeId} (ht : P.underlying t = some .string) : Opens P t Kd.string (fun s => s.size ≤ reachBytes) := by
  intro H enc w base spare held fuel cs x hx hw
  obtain ⟨s, rfl, rfl, _⟩ := DataW.trod_string ht hx
  refine ⟨s, rfl, ?_⟩
  have := hw s.data.toList.length (by simp [DataW.weights])
  simpa using this

theorem weightsAll_mem {H : Type} {P : Program} {e : TypeId} : ∀ {l : List (DataW H)} {d : DataW H}, d ∈ l → ∀ m ∈ d.weights P e, m ∈ DataW.weightsAll P e l
  | d0 :: l, d, hd, m, hm => by
    simp only [DataW.weightsAll, List.mem_append]
    rcases List.mem_cons.1 hd with rfl | hd
    · exact Or.inl hm
    · exact Or.inr (weightsAll_mem hd m hm)
  | [], _, hd, _, _ => by simp at hd

def OpensTail {α : Type} (P : Program) (fs : List Field) (o len : Nat) (d : Kd α) (good : α → Prop) : Prop :=
  ∀ {H : Type} {enc : TypeId × Value → H} {w : World} {base : Nat} {spare : Nat → Bool} {held : Bool} {n : Nat} {cs : List Value} {xs : List (DataW H × List MemPlace)},
    cs.length = len → xs.length = fs.length →
    (∀ (i : Nat) (f : Field), fs[i]? = some f → DataW.trod enc P w base spare held n f.type ((cs.drop f.offset).take (P.cellsOf f.type)) = xs[i]?) →
    (∀ m ∈ DataW.weightsEach P (fs.map (·.type)) (xs.map (·.1)), m ≤ reachBytes) → ∃ a, d.K w a (cs.drop o) ∧ good a

theorem tail_one {α : Type} {P : Program} {f : Field} {o len : Nat} {d : Kd α} {good : α → Prop} (ho : f.offset = o) (hl : len ≤ o + P.cellsOf f.type) (h : Opens P f.type d good) : OpensTail P [f] o len d good := by
  intro H enc w base spare held n cs xs hcs hxs hall hw
  obtain ⟨x, rfl⟩ : ∃ x, xs = [x] := by
    match xs, hxs with
    | [x], _ => exact ⟨x, rfl⟩
  have h0 := hall 0 f rfl
  rw [ho, List.take_of_length_le (by rw [List.length_drop]; omega)] at h0
  exact h h0 (fun m hm => hw m (by simp only [List.map_cons, List.map_nil, DataW.weightsEach, List.mem_append]; exact Or.inl hm))
theorem tail_cons {α β : Type} {P : Program} {f : Field} {fs : List Field} {o o' len : Nat} {a : Kd α} {b : Kd β} {ga : α → Prop} {gb : β → Prop} (ho : f.offset = o) (ho' : o' = o + P.cellsOf f.type)
    (h : Opens P f.type a ga) (ht : OpensTail P fs o' len b gb) : OpensTail P (f :: fs) o len (Kd.pair a b) (fun x => ga x.1 ∧ gb x.2) := by
  intro H enc w base spare held n cs xs hcs hxs hall hw
  obtain ⟨x, xs, rfl⟩ : ∃ x r, xs = x :: r := by
    match xs, hxs with
    | x :: r, _ => exact ⟨x, r, rfl⟩
  have h0 := hall 0 f rfl
  rw [ho] at h0
  obtain ⟨y, hy, hgy⟩ := h h0 (fun m hm => hw m (by simp only [List.map_cons, DataW.weightsEach, List.mem_append]; exact Or.inl hm))
  obtain ⟨z, hz, hgz⟩ := ht (xs := xs) hcs (by simpa using hxs) (fun i g hg => by simpa using hall (i + 1) g (by simpa using hg))
    (fun m hm => hw m (by simp only [List.map_cons, DataW.weightsEach, List.mem_append]; exact Or.inr hm))
  refine ⟨(y, z), ⟨(cs.drop o).take (P.cellsOf f.type), cs.drop o', ?_, hy, hz⟩, hgy, hgz⟩
  rw [ho', ← List.drop_drop, List.take_append_drop]
theorem opens_struct {α β : Type} {P : Program} {t : TypeId} {fs : Array Field} {len : Nat} {d : Kd α} {good : α → Prop} (ht : P.underlying t = some (.struct fs)) (hl : P.cellsOf t = len) (h : OpensTail P fs.toList 0 len d good) (f : β → α) (g : α → β) (hfg : ∀ a, f (g a) = a) :
    Opens P t (Kd.iso d f) (fun x => good (f x)) := by
  intro H enc w base spare held fuel cs x hx hw
  obtain ⟨xs, n, rfl, rfl, hcs, hxs, hall⟩ := DataW.trod_struct ht hx
  obtain ⟨a, ha, hga⟩ := h (xs := xs) (hcs.trans hl) (by simpa using hxs) (fun i f hf => hall i f (by simpa using hf)) (fun m hm => hw m (by simp only [DataW.weights, ht]; exact hm))
  refine ⟨g a, ?_, by show good (f (g a)); rw [hfg]; exact hga⟩
  show d.K w (f (g a)) cs
  rw [hfg]
  simpa using ha
theorem Opens.iso {α β : Type} {P : Program} {t : TypeId} {d : Kd α} {good : α → Prop} (h : Opens P t d good) (f : β → α) (g : α → β) (hfg : ∀ a, f (g a) = a) : Opens P t (Kd.iso d f) (fun x => good (f x)) := by
  intro H enc w base spare held fuel cs x hx hw
  obtain ⟨a, ha, hga⟩ := h hx hw
  refine ⟨g a, ?_, by show good (f (g a)); rw [hfg]; exact hga⟩
  show d.K w (f (g a)) cs
  rw [hfg]
  exact ha
end Go.Proofs.YtdddhabemdbooaaDoor.Opn
/- The opening of a type that leads back into itself (a tree): by the datum's size. -/
set_option linter.unusedVariables false
set_option linter.unusedSimpArgs false
namespace Go.Proofs.YtdddhabemdbooaaDoor.Opn
open Go.ChangeShapes Go.WideShapes Go.RowKit Go.Proofs.YtdddhabemdbooaaDoorW.PrintWords
def OpensS {α : Type} (S : Nat) (P : Program) (t : TypeId) (d : Kd α) (good : α → Prop) : Prop :=
  ∀ {H : Type} {enc : TypeId × Value → H} {w : World} {base : Nat} {spare : Nat → Bool} {held : Bool} {fuel : Nat} {cs : List Value} {x : DataW H × List MemPlace},
    SizeOf.sizeOf x.1 < S → DataW.trod enc P w base spare held fuel t cs = some x → (∀ m ∈ x.1.weights P t, m ≤ reachBytes) → ∃ a, d.K w a cs ∧ good a
theorem Opens.toS {α : Type} {P : Program} {t : TypeId} {d : Kd α} {good : α → Prop} (h : Opens P t d good) (S : Nat) : OpensS S P t d good := fun _ hx hw => h hx hw
theorem OpensS.to {α : Type} {P : Program} {t : TypeId} {d : Kd α} {good : α → Prop} (h : ∀ S, OpensS S P t d good) : Opens P t d good := fun hx hw => h _ (Nat.lt_succ_self _) hx hw
theorem opensS_slice {α : Type} {S : Nat} {P : Program} {t e : TypeId} {d : Kd α} {good : α → Prop} (ht : P.underlying t = some (.slice e)) (hc : P.cellsOf e = d.sz) {B : Nat} (hB : P.bytesOf e = B) (z : α) (h : OpensS S P e d good) :
    OpensS S P t (Kd.slice e d) (fun xs => (∀ x ∈ xs, good x) ∧ xs.length * B ≤ reachBytes) := by
  intro H enc w base spare held fuel cs x hsz hx hw
  rcases Go.Deep.open_slice ht hx with ⟨rfl, rfl⟩ | ⟨a, len, cap, m, n, D, Pl, rfl, hb, hl, hm, hmm, rfl, hel⟩
  · exact ⟨[], ⟨none, 0, rfl, Nat.le_refl _, rfl, by simp, fun h0 => absurd h0 (by simp)⟩, by simp, by simp⟩
  · have hlm : len ≤ m := by rw [hmm]; split <;> omega
    have hmx : len ≤ 9223372036854775807 := by unfold maxLen at hm; omega
    have hs' : ∀ i, i < len → SizeOf.sizeOf (D i) < S := by
      intro i hi
      have h1 := List.sizeOf_lt_of_mem (show D i ∈ (List.range len).map D from List.mem_map.2 ⟨i, List.mem_range.2 hi, rfl⟩)
      simp only [DataW.slice.sizeOf_spec] at hsz
      omega
    have hw' : ∀ i, i < len → ∀ q ∈ (D i).weights P e, q ≤ reachBytes := by
      intro i hi q hq
      refine hw q ?_
      simp only [DataW.weights, ht]
      refine List.mem_cons_of_mem _ (List.mem_append.2 (Or.inl ?_))
      exact weightsAll_mem (d := D i) (List.mem_map.2 ⟨i, List.mem_range.2 hi, rfl⟩) q hq
    have hB' : len * B ≤ reachBytes := by
      have h0 := hw ((((List.range len).map D).length + ((List.range (m - len)).map fun j => D (len + j)).length) * P.bytesOf e) (by simp only [DataW.weights, ht]; exact List.mem_cons_self ..)
      rw [hB] at h0
      simp only [List.length_map, List.length_range] at h0
      exact Nat.le_trans (Nat.mul_le_mul_right B (by omega)) h0
    have key : ∀ i, i < len → ∃ y : α × List Value, d.K w y.1 y.2 ∧ good y.1 ∧ w.cells? base (a.add (i * P.cellsOf e)) (P.cellsOf e) = some y.2 := by
      intro i hi
      obtain ⟨cs', h1, h2⟩ := hel i (by omega)
      obtain ⟨y, h3, h4⟩ := h (hs' i hi) h2 (hw' i hi)
      exact ⟨(y, cs'), h3, h4, h1⟩
    haveI : Inhabited (α × List Value) := ⟨(z, [])⟩
    obtain ⟨F, hF⟩ := Go.Deep.choose_lt key
    refine ⟨(List.range len).map fun i => (F i).1, ⟨some a, cap, by simp, by simpa using hl, by simp, by simpa using hmx, fun h0 => ⟨a, rfl, ?_⟩⟩, ?_, by simpa using hB'⟩
    · intro j p hj
      have hjl : j < len := by
        have := (List.getElem?_eq_some_iff.1 hj).1
        simpa using this
      have hp : p = (F j).1 := by
        rw [List.getElem?_map, List.getElem?_range hjl] at hj
        simpa using hj.symm
      subst hp
      obtain ⟨h1, h2, h3⟩ := hF j hjl
      obtain ⟨_, hlen, hcell⟩ := World.cells?_some h3
      refine ⟨(F j).2, by rw [hlen, hc], h1, fun i u hu => ?_⟩
      have hi : i < P.cellsOf e := by
        have := (List.getElem?_eq_some_iff.1 hu).1
        omega
      have := hcell i hi
      rw [Go.Deep.add_add] at this
      rw [← hc, this, hu]
    · intro x hx
      obtain ⟨i, hi, rfl⟩ := List.mem_map.1 hx
      exact (hF i (List.mem_range.1 hi)).2.1
def OpensTailS {α : Type} (S : Nat) (P : Program) (fs : List Field) (o len : Nat) (d : Kd α) (good : α → Prop) : Prop :=
  ∀ {H : Type} {enc : TypeId × Value → H} {w : World} {base : Nat} {spare : Nat → Bool} {held : Bool} {n : Nat} {cs : List Value} {xs : List (DataW H × List MemPlace)},
    (∀ y ∈ xs, SizeOf.sizeOf y.1 < S) → cs.length = len → xs.length = fs.length →
    (∀ (i : Nat) (f : Field), fs[i]? = some f → DataW.trod enc P w base spare held n f.type ((cs.drop f.offset).take (P.cellsOf f.type)) = xs[i]?) →
    (∀ m ∈ DataW.weightsEach P (fs.map (·.type)) (xs.map (·.1)), m ≤ reachBytes) → ∃ a, d.K w a (cs.drop o) ∧ good a
theorem tailS_one {α : Type} {S : Nat} {P : Program} {f : Field} {o len : Nat} {d : Kd α} {good : α → Prop} (ho : f.offset = o) (hl : len ≤ o + P.cellsOf f.type) (h : OpensS S P f.type d good) : OpensTailS S P [f] o len d good := by
  intro H enc w base spare held n cs xs hsz hcs hxs hall hw
  obtain ⟨x, rfl⟩ : ∃ x, xs = [x] := by
    match xs, hxs with
    | [x], _ => exact ⟨x, rfl⟩
  have h0 := hall 0 f rfl
  rw [ho, List.take_of_length_le (by rw [List.length_drop]; omega)] at h0
  exact h (hsz x (by simp)) h0 (fun m hm => hw m (by simp only [List.map_cons, List.map_nil, DataW.weightsEach, List.mem_append]; exact Or.inl hm))
theorem tailS_cons {α β : Type} {S : Nat} {P : Program} {f : Field} {fs : List Field} {o o' len : Nat} {a : Kd α} {b : Kd β} {ga : α → Prop} {gb : β → Prop} (ho : f.offset = o) (ho' : o' = o + P.cellsOf f.type)
    (h : OpensS S P f.type a ga) (ht : OpensTailS S P fs o' len b gb) : OpensTailS S P (f :: fs) o len (Kd.pair a b) (fun x => ga x.1 ∧ gb x.2) := by
  intro H enc w base spare held n cs xs hsz hcs hxs hall hw
  obtain ⟨x, xs, rfl⟩ : ∃ x r, xs = x :: r := by
    match xs, hxs with
    | x :: r, _ => exact ⟨x, r, rfl⟩
  have h0 := hall 0 f rfl
  rw [ho] at h0
  obtain ⟨y, hy, hgy⟩ := h (hsz x (by simp)) h0 (fun m hm => hw m (by simp only [List.map_cons, DataW.weightsEach, List.mem_append]; exact Or.inl hm))
  obtain ⟨z, hz, hgz⟩ := ht (xs := xs) (fun y hy => hsz y (by simp [hy])) hcs (by simpa using hxs) (fun i g hg => by simpa using hall (i + 1) g (by simpa using hg))
    (fun m hm => hw m (by simp only [List.map_cons, DataW.weightsEach, List.mem_append]; exact Or.inr hm))
  refine ⟨(y, z), ⟨(cs.drop o).take (P.cellsOf f.type), cs.drop o', ?_, hy, hz⟩, hgy, hgz⟩
  rw [ho', ← List.drop_drop, List.take_append_drop]
theorem opensS_struct {α β : Type} {S : Nat} {P : Program} {t : TypeId} {fs : Array Field} {len : Nat} {d : Kd α} {good : α → Prop} (ht : P.underlying t = some (.struct fs)) (hl : P.cellsOf t = len) (h : OpensTailS S P fs.toList 0 len d good) (f : β → α) (g : α → β) (hfg : ∀ a, f (g a) = a) :
    OpensS (S + 1) P t (Kd.iso d f) (fun x => good (f x)) := by
  intro H enc w base spare held fuel cs x hsz hx hw
  obtain ⟨xs, n, rfl, rfl, hcs, hxs, hall⟩ := DataW.trod_struct ht hx
  obtain ⟨a, ha, hga⟩ := h (xs := xs) (fun y hy => by
    have h1 := List.sizeOf_lt_of_mem (show y.1 ∈ xs.map (·.1) from List.mem_map.2 ⟨y, hy, rfl⟩)
    simp only [DataW.agg.sizeOf_spec] at hsz
    omega) (hcs.trans hl) (by simpa using hxs) (fun i f hf => hall i f (by simpa using hf)) (fun m hm => hw m (by simp only [DataW.weights, ht]; exact hm))
  refine ⟨g a, ?_, by show good (f (g a)); rw [hfg]; exact hga⟩
  show d.K w (f (g a)) cs
  rw [hfg]
  simpa using ha
end Go.Proofs.YtdddhabemdbooaaDoor.Opn
namespace Go.Proofs.YtdddhabemdbooaaDoor.X
open Go.RowKit Go.Proofs.YtdddhabemdbooaaDoorW.PrintWords Go.Proofs.YtdddhabemdbooaaDoorW.PrintLast Go.Proofs.YtdddhabemdbooaaDoorW.PrintMore Go.Proofs.YtdddhabemdbooaaDoor.Opn
def good23 (x : S23) : Prop := ((Lit.int .i64 x.f0).wf = true) ∧ ((Lit.int .i64 x.f1).wf = true) ∧ (x.f2.size ≤ reachBytes)
theorem opens23 : Opens Tryd.prog 23 k23 good23 := opens_struct Tryd.underlying23 (len := 3) (by kernel_rfl) (tail_cons rfl (by kernel_rfl) (opens_int Tryd.underlying3) (tail_cons rfl (by kernel_rfl) (opens_int Tryd.underlying2) (tail_one rfl (Nat.le_of_eq (by kernel_rfl)) (opens_string Tryd.underlying9)))) (fun x : S23 => (x.f0, x.f1, x.f2)) (fun a => ⟨a.1, a.2.1, a.2.2⟩) (fun _ => rfl)
def good25 (x : S25) : Prop := ((Lit.int .i64 x.f0).wf = true) ∧ ((Lit.int .i64 x.f1).wf = true) ∧ (True) ∧ (True)
theorem opens25 : Opens Tryd.prog 25 k25 good25 := opens_struct Tryd.underlying25 (len := 4) (by kernel_rfl) (tail_cons rfl (by kernel_rfl) (opens_int Tryd.underlying3) (tail_cons rfl (by kernel_rfl) (opens_int Tryd.underlying3) (tail_cons rfl (by kernel_rfl) (opens_bool Tryd.underlying4) (tail_one rfl (Nat.le_of_eq (by kernel_rfl)) (opens_bool Tryd.underlying4))))) (fun x : S25 => (x.f0, x.f1, x.f2, x.f3)) (fun a => ⟨a.1, a.2.1, a.2.2.1, a.2.2.2⟩) (fun _ => rfl)
inductive good28 : S28 → Prop
  | mk (x : S28) (h0 : (Lit.int .i64 x.f0).wf = true) (h1 : (Lit.int .i64 x.f1).wf = true) (h2 : good23 x.f2) (h3 : good25 x.f3) (h4 : good25 x.f4) (h5 : ∀ y ∈ x.f5, good28 y) (h6 : x.f5.length * 120 ≤ reachBytes) : good28 x
theorem opensS28 (S : Nat) : OpensS S Tryd.prog 28 k28 good28 := by
  induction S with
  | zero =>
    intro H enc w base spare held fuel cs x hsz
    exact absurd hsz (Nat.not_lt_zero _)
  | succ S ih =>
    have hF : OpensS (S + 1) Tryd.prog 28 (F28 k28) _ := opensS_struct Tryd.underlying28 (len := 14) (by kernel_rfl) (tailS_cons rfl (by kernel_rfl) (Opens.toS (opens_int Tryd.underlying3) S) (tailS_cons rfl (by kernel_rfl) (Opens.toS (opens_int Tryd.underlying3) S) (tailS_cons rfl (by kernel_rfl) (Opens.toS opens23 S) (tailS_cons rfl (by kernel_rfl) (Opens.toS opens25 S) (tailS_cons rfl (by kernel_rfl) (Opens.toS opens25 S) (tailS_one rfl (Nat.le_of_eq (by kernel_rfl)) (opensS_slice Tryd.underlying26 (by kernel_rfl) (B := 120) (by kernel_rfl) z28 ih))))))) (fun x : S28 => (x.f0, x.f1, x.f2, x.f3, x.f4, x.f5)) (fun a => ⟨a.1, a.2.1, a.2.2.1, a.2.2.2.1, a.2.2.2.2.1, a.2.2.2.2.2⟩) (fun _ => rfl)
    intro H enc w base spare held fuel cs x hsz hx hw
    obtain ⟨a, hK, g0, g1, g2, g3, g4, g5, g6⟩ := hF hsz hx hw
    refine ⟨a, ?_, good28.mk a g0 g1 g2 g3 g4 g5 g6⟩
    obtain ⟨_, _, rfl, rfl, ⟨_, _, rfl, rfl, ⟨_, _, rfl, s2, ⟨_, _, rfl, s5, ⟨_, _, rfl, s9, ⟨A13, c13, rfl, l13, g13⟩⟩⟩⟩⟩⟩ := hK
    obtain rfl := k23_open s2
    obtain rfl := k25_open s5
    obtain rfl := k25_open s9
    exact k28_mk w a l13 g13
theorem opens28 : Opens Tryd.prog 28 k28 good28 := OpensS.to opensS28
end Go.Proofs.YtdddhabemdbooaaDoor.X
/- The openings of the arguments of the law NodeSame, and its pure statement. -/
set_option linter.unusedVariables false
namespace Go.Proofs.YtdddhabemdbooaaDoor.X
open Go.RowKit Go.Proofs.YtdddhabemdbooaaDoorW.PrintWords Go.Proofs.YtdddhabemdbooaaDoorW.PrintLast Go.Proofs.YtdddhabemdbooaaDoorW.PrintMore Go.Proofs.YtdddhabemdbooaaDoor.Opn
def oculuslaw22_NodeSame.PureX : Prop := ∀ (a0 : S28) (a1 : S28), (good28 a0) → (good28 a1) → ∃ k, oculuslaw22_NodeSame.f k (a0.f0) (a0.f1) (a0.f2.f0) (a0.f2.f1) (a0.f2.f2) (a0.f3.f0) (a0.f3.f1) (a0.f3.f2) (a0.f3.f3) (a0.f4.f0) (a0.f4.f1) (a0.f4.f2) (a0.f4.f3) (a0.f5) (a1.f0) (a1.f1) (a1.f2.f0) (a1.f2.f1) (a1.f2.f2) (a1.f3.f0) (a1.f3.f1) (a1.f3.f2) (a1.f3.f3) (a1.f4.f0) (a1.f4.f1) (a1.f4.f2) (a1.f4.f3) (a1.f5) = some true
end Go.Proofs.YtdddhabemdbooaaDoor.X
/- Plain facts on whole numbers, bits and lists that the pure statements use. -/
set_option linter.unusedVariables false
set_option linter.unusedSimpArgs false
namespace Go.Proofs.YtdddhabemdbooaaDoor.X
open Go.RowKit Go.Proofs.YtdddhabemdbooaaDoorW.PrintWords Go.Proofs.YtdddhabemdbooaaDoorW.PrintLast Go.Proofs.YtdddhabemdbooaaDoorW.PrintMore

theorem w64 {x : Int} (h0 : -9223372036854775808 ≤ x) (h1 : x ≤ 9223372036854775807) : wrap64 x = x := by unfold wrap64; omega
theorem w64s {i n : Nat} (h : i < n) (hn : n ≤ 9223372036854775807) : wrap64 ((i : Int) + 1) = ((i + 1 : Nat) : Int) := by unfold wrap64; omega

theorem ev_some {α : Type} {g : Nat → Option α} {r : α} (h : ∀ k, g k = some r) : Ev g r := ⟨0, fun k _ => h k⟩
theorem ev_ite {α : Type} {c : Prop} [Decidable c] {f g : Nat → Option α} {r : α} (h1 : c → Ev f r) (h2 : ¬ c → Ev g r) : Ev (fun k => if c then f k else g k) r := by
  by_cases h : c
  · simp only [if_pos h]; exact h1 h
  · simp only [if_neg h]; exact h2 h
theorem ev_pos {α : Type} {c : Prop} [Decidable c] {f g : Nat → Option α} {r : α} (h : c) (h1 : Ev f r) : Ev (fun k => if c then f k else g k) r := by simp only [if_pos h]; exact h1
theorem ev_neg {α : Type} {c : Prop} [Decidable c] {f g : Nat → Option α} {r : α} (h : ¬ c) (h1 : Ev g r) : Ev (fun k => if c then f k else g k) r := by simp only [if_neg h]; exact h1
theorem ev_bind {α β : Type} {g : Nat → Option α} {f : Nat → α → Option β} {a : α} {r : β} (h : Ev g a) (k : Ev (fun n => f n a) r) : Ev (fun n => (g n).bind (f n)) r := Ev.bind h k
theorem ev_bsome {α β : Type} {x : α} {f : Nat → α → Option β} {r : β} (k : Ev (fun n => f n x) r) : Ev (fun n => (some x).bind (f n)) r := k

end Go.Proofs.YtdddhabemdbooaaDoor.X
/- Plain facts on texts as lists of bytes. -/
set_option linter.unusedVariables false
set_option linter.unusedSimpArgs false
namespace Go.Proofs.YtdddhabemdbooaaDoor.X
open Go.RowKit Go.Proofs.YtdddhabemdbooaaDoorW.PrintWords Go.Proofs.YtdddhabemdbooaaDoorW.PrintLast Go.Proofs.YtdddhabemdbooaaDoorW.PrintMore
def by_ (s : ByteArray) : List UInt8 := s.data.toList
def tx (l : List UInt8) : ByteArray := ⟨l.toArray⟩
theorem by_tx (l : List UInt8) : by_ (tx l) = l := by simp [by_, tx]
theorem tx_by (s : ByteArray) : tx (by_ s) = s := by
  obtain ⟨⟨l⟩⟩ := s
  rfl
theorem by_inj {s t : ByteArray} (h : by_ s = by_ t) : s = t := by rw [← tx_by s, ← tx_by t, h]
theorem toList_by (s : ByteArray) : s.toList = by_ s := ByteArray.toList_eq s
theorem size_by (s : ByteArray) : s.size = (by_ s).length := by
  obtain ⟨⟨l⟩⟩ := s
  rfl
theorem size_tx (l : List UInt8) : (tx l).size = l.length := by rw [size_by, by_tx]
theorem toList_inj {s t : ByteArray} : s.toList = t.toList ↔ s = t := by
  rw [toList_by, toList_by]
  exact ⟨by_inj, fun h => by rw [h]⟩
theorem by_extract (s : ByteArray) (a b : Nat) : by_ (s.extract a b) = ((by_ s).drop a).take (b - a) := Go.Lib.extract_data s a b
theorem by_head (s : ByteArray) (b : Nat) : by_ (s.extract 0 b) = (by_ s).take b := by rw [by_extract]; simp
theorem by_tail (s : ByteArray) (a : Nat) : by_ (s.extract a s.size) = (by_ s).drop a := by
  rw [by_extract, List.take_of_length_le]
  rw [List.length_drop, size_by]
  exact Nat.le_refl _
theorem ext_head (s : ByteArray) (b : Nat) : s.extract 0 b = tx ((by_ s).take b) := by_inj (by rw [by_head, by_tx])
theorem ext_tail (s : ByteArray) (a : Nat) : s.extract a s.size = tx ((by_ s).drop a) := by_inj (by rw [by_tail, by_tx])
theorem bt_by (s : ByteArray) (i : Nat) (h : i < (by_ s).length) : bt s (i : Int) = ((by_ s)[i].toNat : Int) := by
  obtain ⟨⟨l⟩⟩ := s
  have h' : (i : Int).toNat < (⟨⟨l⟩⟩ : ByteArray).size := by rw [Int.toNat_natCast]; exact h
  unfold bt
  rw [dif_pos h']
  simp only [Int.toNat_natCast]
  rfl
theorem bt_tx (l : List UInt8) (i : Nat) (h : i < l.length) : bt (tx l) (i : Int) = (l[i].toNat : Int) := by
  rw [bt_by (tx l) i (by rw [by_tx]; exact h)]
  simp only [by_tx]
end Go.Proofs.YtdddhabemdbooaaDoor.X
/- Trees of formulas: their list, depth and count, and when two are the same; plain, with enough rounds. -/
set_option linter.unusedVariables false
set_option linter.unusedSimpArgs false
namespace Go.Proofs.YtdddhabemdbooaaDoor.X
open Go.RowKit Go.Proofs.YtdddhabemdbooaaDoorW.PrintWords Go.Proofs.YtdddhabemdbooaaDoorW.PrintLast Go.Proofs.YtdddhabemdbooaaDoorW.PrintMore
abbrev N : Type := S28
theorem n_sz {x y : N} (h : y ∈ x.f5) : SizeOf.sizeOf y < SizeOf.sizeOf x := by
  have := List.sizeOf_lt_of_mem h
  cases x
  simp only [S28.mk.sizeOf_spec]
  dsimp only at this
  omega
theorem n_ind {P : N → Prop} (h : ∀ x, (∀ y ∈ x.f5, P y) → P x) (x : N) : P x := h x (fun y _ => n_ind h y)
termination_by SizeOf.sizeOf x
decreasing_by exact n_sz ‹_›
def lst (x : N) : List N := x :: x.f5.attach.flatMap (fun y => lst y.1)
termination_by SizeOf.sizeOf x
decreasing_by exact n_sz y.2
theorem lst_eq (x : N) : lst x = x :: x.f5.flatMap lst := by
  rw [lst]
  congr 1
  show x.f5.attach.flatMap (fun y => lst (Subtype.val y)) = _
  rw [← List.flatMap_map, List.attach_map_subtype_val]
theorem len_mem {l : List N} {y : N} (h : y ∈ l) : (lst y).length ≤ (l.flatMap lst).length := by
  induction l with
  | nil => cases h
  | cons a l ih =>
    rw [List.flatMap_cons, List.length_append]
    rcases List.mem_cons.1 h with rfl | h
    · omega
    · have := ih h; omega
theorem rdN (l : List N) (i : Nat) (h : i < l.length) : rd_T28 l (i : Int) = l[i] := by
  unfold rd_T28
  rw [Int.toNat_natCast, List.getD_eq_getElem?_getD, List.getElem?_eq_getElem h]
  rfl
theorem drop_at {l : List N} {i : Nat} (h : i < l.length) : l.drop i = l[i] :: l.drop (i + 1) := List.drop_eq_getElem_cons h
theorem mkN (x : N) : (⟨x.f0, x.f1, ⟨x.f2.f0, x.f2.f1, x.f2.f2⟩, ⟨x.f3.f0, x.f3.f1, x.f3.f2, x.f3.f3⟩, ⟨x.f4.f0, x.f4.f1, x.f4.f2, x.f4.f3⟩, x.f5⟩ : N) = x := by cases x; rfl
abbrev leftF (k : Nat) (x : N) (m : Int) := oculusref22_Left.f k x.f0 x.f1 x.f2.f0 x.f2.f1 x.f2.f2 x.f3.f0 x.f3.f1 x.f3.f2 x.f3.f3 x.f4.f0 x.f4.f1 x.f4.f2 x.f4.f3 x.f5 m
abbrev countF (k : Nat) (x : N) := node_Count.f k x.f0 x.f1 x.f2.f0 x.f2.f1 x.f2.f2 x.f3.f0 x.f3.f1 x.f3.f2 x.f3.f3 x.f4.f0 x.f4.f1 x.f4.f2 x.f4.f3 x.f5
abbrev deepF (k : Nat) (x : N) := node_Deep.f k x.f0 x.f1 x.f2.f0 x.f2.f1 x.f2.f2 x.f3.f0 x.f3.f1 x.f3.f2 x.f3.f3 x.f4.f0 x.f4.f1 x.f4.f2 x.f4.f3 x.f5
abbrev listF (k : Nat) (x : N) := node_List.f k x.f0 x.f1 x.f2.f0 x.f2.f1 x.f2.f2 x.f3.f0 x.f3.f1 x.f3.f2 x.f3.f3 x.f4.f0 x.f4.f1 x.f4.f2 x.f4.f3 x.f5
abbrev rlistF (k : Nat) (x : N) := oculusref22_List.f k x.f0 x.f1 x.f2.f0 x.f2.f1 x.f2.f2 x.f3.f0 x.f3.f1 x.f3.f2 x.f3.f3 x.f4.f0 x.f4.f1 x.f4.f2 x.f4.f3 x.f5
abbrev sameF (k : Nat) (x y : N) := node_Same.f k x.f0 x.f1 x.f2.f0 x.f2.f1 x.f2.f2 x.f3.f0 x.f3.f1 x.f3.f2 x.f3.f3 x.f4.f0 x.f4.f1 x.f4.f2 x.f4.f3 x.f5 y.f0 y.f1 y.f2.f0 y.f2.f1 y.f2.f2 y.f3.f0 y.f3.f1 y.f3.f2 y.f3.f3 y.f4.f0 y.f4.f1 y.f4.f2 y.f4.f3 y.f5
abbrev rsameF (k : Nat) (x y : N) := oculusref22_Same.f k x.f0 x.f1 x.f2.f0 x.f2.f1 x.f2.f2 x.f3.f0 x.f3.f1 x.f3.f2 x.f3.f3 x.f4.f0 x.f4.f1 x.f4.f2 x.f4.f3 x.f5 y.f0 y.f1 y.f2.f0 y.f2.f1 y.f2.f2 y.f3.f0 y.f3.f1 y.f3.f2 y.f3.f3 y.f4.f0 y.f4.f1 y.f4.f2 y.f4.f3 y.f5
def Lft (n m r : Int) : Prop := -1 ≤ r ∧ r ≤ 200 ∧ (n ≤ m → r = m - n) ∧ (m < n → r = -1)
theorem left_ev (x : N) (hx : x.f5.length ≤ 9223372036854775806 ∧ ∀ y ∈ x.f5, ∀ m : Int, 0 ≤ m → m ≤ 200 → ∃ r, Ev (fun k => leftF k y m) r ∧ Lft ((lst y).length : Int) m r) : ∀ m : Int, 0 ≤ m → m ≤ 200 → ∃ r, Ev (fun k => leftF k x m) r ∧ Lft ((lst x).length : Int) m r := by
  obtain ⟨hlen, ih⟩ := hx
  have loop : ∀ (d i : Nat) (m : Int), i + d = x.f5.length → -1 ≤ m → m ≤ 200 → ∃ r, Ev (fun k => oculusref22_Left.l0 k m (i : Int) x.f0 x.f1 x.f2.f0 x.f2.f1 x.f2.f2 x.f3.f0 x.f3.f1 x.f3.f2 x.f3.f3 x.f4.f0 x.f4.f1 x.f4.f2 x.f4.f3 x.f5) r ∧ (m < 0 → r = -1) ∧ (0 ≤ m → Lft (((x.f5.drop i).flatMap lst).length : Int) m r) := by
    intro d
    induction d with
    | zero =>
      intro i m hi h0 h1
      refine ⟨m, Ev.step (f := fun _ => some m) (fun k => ?_) (Ev.now _), fun h => by omega, fun h => ?_⟩
      · simp only [oculusref22_Left.l0]
        rw [if_neg (by omega)]
      · rw [List.drop_of_length_le (by omega)]
        exact ⟨h0, h1, fun _ => by simp, fun h => by simp at h; omega⟩
    | succ d ihd =>
      intro i m hi h0 h1
      by_cases hm : 0 ≤ m
      · have hil : i < x.f5.length := by omega
        obtain ⟨r1, e1, q0, q1, q2, q3⟩ := ih x.f5[i] (List.getElem_mem _) m hm h1
        obtain ⟨r2, e2, p1, p2⟩ := ihd (i + 1) r1 (by omega) q0 q1
        have hl : (lst x.f5[i] ++ (x.f5.drop (i + 1)).flatMap lst).length = (lst x.f5[i]).length + ((x.f5.drop (i + 1)).flatMap lst).length := List.length_append
        refine ⟨r2, Ev.step (f := fun k => (leftF k x.f5[i] m).bind fun t => oculusref22_Left.l0 k t ((i + 1 : Nat) : Int) x.f0 x.f1 x.f2.f0 x.f2.f1 x.f2.f2 x.f3.f0 x.f3.f1 x.f3.f2 x.f3.f3 x.f4.f0 x.f4.f1 x.f4.f2 x.f4.f3 x.f5) (fun k => ?_) (ev_bind e1 e2), fun h => by omega, fun _ => ?_⟩
        · simp only [oculusref22_Left.l0]
          rw [if_pos (by omega), if_pos (by omega), if_pos (by omega), rdN x.f5 i hil, w64s (n := x.f5.length) hil (by omega)]
        · rw [drop_at hil, List.flatMap_cons, hl]
          unfold Lft at *
          by_cases hq : ((lst x.f5[i]).length : Int) ≤ m
          · have := q2 hq
            obtain ⟨a, b, c, d⟩ := p2 (by omega)
            exact ⟨a, b, fun h => by rw [c (by omega)]; omega, fun h => d (by omega)⟩
          · have := q3 (by omega)
            have := p1 (by omega)
            exact ⟨by omega, by omega, fun h => by omega, fun h => by omega⟩
      · refine ⟨m, Ev.step (f := fun _ => some m) (fun k => ?_) (Ev.now _), fun h => by omega, fun h => by omega⟩
        simp only [oculusref22_Left.l0]
        rw [if_pos (by omega), if_neg (by omega)]
  intro m h0 h1
  obtain ⟨r, e, p1, p2⟩ := loop x.f5.length 0 (m - 1) (by omega) (by omega) (by omega)
  refine ⟨r, Ev.step (f := fun k => oculusref22_Left.l0 k (m - 1) ((0 : Nat) : Int) x.f0 x.f1 x.f2.f0 x.f2.f1 x.f2.f2 x.f3.f0 x.f3.f1 x.f3.f2 x.f3.f3 x.f4.f0 x.f4.f1 x.f4.f2 x.f4.f3 x.f5) (fun k => ?_) e, ?_⟩
  · simp only [leftF, oculusref22_Left.f]
    rw [w64 (x := m - 1) (by omega) (by omega)]
    rfl
  · rw [lst_eq, List.length_cons]
    rw [List.drop_zero] at p2
    unfold Lft at *
    by_cases hm : m = 0
    · have := p1 (by omega)
      exact ⟨by omega, by omega, fun h => by omega, fun _ => by omega⟩
    · obtain ⟨a, b, c, d⟩ := p2 (by omega)
      exact ⟨a, b, fun h => by rw [c (by omega)]; omega, fun h => d (by omega)⟩
inductive Fin1 : N → Prop
  | mk (x : N) (h : x.f5.length ≤ 9223372036854775806) (hs : ∀ y ∈ x.f5, Fin1 y) : Fin1 x
theorem left_ev' {x : N} (h : Fin1 x) : ∀ m : Int, 0 ≤ m → m ≤ 200 → ∃ r, Ev (fun k => leftF k x m) r ∧ Lft ((lst x).length : Int) m r := by
  induction h with
  | mk x h hs ih => exact left_ev x ⟨h, ih⟩
theorem few_ev {x : N} (h : Fin1 x) : Ev (fun k => oculuslaw22_few.f k x.f0 x.f1 x.f2.f0 x.f2.f1 x.f2.f2 x.f3.f0 x.f3.f1 x.f3.f2 x.f3.f3 x.f4.f0 x.f4.f1 x.f4.f2 x.f4.f3 x.f5 200) (decide ((lst x).length ≤ 200)) := by
  obtain ⟨r, e, a, b, c, d⟩ := left_ev' h 200 (by omega) (by omega)
  unfold oculuslaw22_few.f oculusref22_Few.f
  refine ev_bind (a := decide ((lst x).length ≤ 200)) ?_ (Ev.now _)
  refine ev_bind e ?_
  rw [show decide (r ≥ 0) = decide ((lst x).length ≤ 200) by
    by_cases hq : (lst x).length ≤ 200
    · rw [decide_eq_true hq, decide_eq_true (by rw [c (by omega)]; omega)]
    · rw [decide_eq_false hq, decide_eq_false (by rw [d (by omega)]; omega)]]
  exact Ev.now _
theorem few_sub {x y : N} (h : (lst x).length ≤ 200) (hy : y ∈ x.f5) : (lst y).length ≤ 200 ∧ x.f5.length ≤ 200 := by
  have h1 := len_mem hy
  rw [lst_eq, List.length_cons] at h
  refine ⟨by omega, ?_⟩
  have : x.f5.length ≤ (x.f5.flatMap lst).length := by
    generalize x.f5 = l
    induction l with
    | nil => simp
    | cons a l ih =>
      rw [List.flatMap_cons, List.length_append, List.length_cons, lst_eq, List.length_cons]
      omega
  omega
theorem few_len {x : N} (h : (lst x).length ≤ 200) : x.f5.length ≤ 200 := by
  cases hl : x.f5 with
  | nil => simp
  | cons a l => rw [← hl]; exact (few_sub (y := a) h (by rw [hl]; exact List.mem_cons_self)).2
theorem count_ev (x : N) : (lst x).length ≤ 200 → Ev (fun k => countF k x) ((lst x).length : Int) := by
  induction x using n_ind with
  | h x ih =>
    intro hs
    have hlen := few_len hs
    have loop : ∀ (d i : Nat) (m : Nat), i + d = x.f5.length → m + ((x.f5.drop i).flatMap lst).length ≤ 200 → Ev (fun k => node_Count.l0 k (m : Int) x.f5 (x.f5.length : Int) (i : Int)) ((m + ((x.f5.drop i).flatMap lst).length : Nat) : Int) := by
      intro d
      induction d with
      | zero =>
        intro i m hi hm
        rw [List.drop_of_length_le (by omega)]
        refine Ev.step (f := fun _ => some (m : Int)) (fun k => ?_) (Ev.now _)
        simp only [node_Count.l0]
        rw [if_neg (by omega)]
      | succ d ihd =>
        intro i m hi hm
        have hil : i < x.f5.length := by omega
        have e1 := ih x.f5[i] (List.getElem_mem _) (few_sub hs (List.getElem_mem _)).1
        rw [drop_at hil, List.flatMap_cons, List.length_append] at hm ⊢
        have e2 := ihd (i + 1) (m + (lst x.f5[i]).length) (by omega) (by omega)
        refine Ev.step (f := fun k => (countF k x.f5[i]).bind fun t => node_Count.l0 k (wrap64 ((m : Int) + t)) x.f5 (x.f5.length : Int) ((i + 1 : Nat) : Int)) (fun k => ?_) (ev_bind e1 ?_)
        · simp only [node_Count.l0]
          rw [if_pos (by omega), if_pos (by omega), if_pos (by omega), rdN x.f5 i hil, w64s (n := x.f5.length) hil (by omega)]
        · rw [w64 (by omega) (by omega), show (m : Int) + ((lst x.f5[i]).length : Int) = ((m + (lst x.f5[i]).length : Nat) : Int) by omega, show m + ((lst x.f5[i]).length + ((x.f5.drop (i + 1)).flatMap lst).length) = m + (lst x.f5[i]).length + ((x.f5.drop (i + 1)).flatMap lst).length by omega]
          exact e2
    have hl : (lst x).length = 1 + (x.f5.flatMap lst).length := by rw [lst_eq, List.length_cons]; omega
    refine Ev.step (f := fun k => node_Count.l0 k ((1 : Nat) : Int) x.f5 (x.f5.length : Int) ((0 : Nat) : Int)) (fun k => ?_) ?_
    · simp only [countF, node_Count.f]
      rfl
    · rw [hl]
      have := loop x.f5.length 0 1 (by omega) (by rw [List.drop_zero]; omega)
      rw [List.drop_zero] at this
      exact this
theorem nrlist_ev (x : N) : (lst x).length ≤ 200 → Ev (fun k => rlistF k x) (lst x) := by
  induction x using n_ind with
  | h x ih =>
    intro hs
    have hlen := few_len hs
    have hl : (lst x).length = 1 + (x.f5.flatMap lst).length := by rw [lst_eq, List.length_cons]; omega
    have loop : ∀ (d i : Nat) (m : List N), i + d = x.f5.length → m.length + ((x.f5.drop i).flatMap lst).length ≤ 200 → Ev (fun k => oculusref22_List.l0 k m (i : Int) x.f0 x.f1 x.f2.f0 x.f2.f1 x.f2.f2 x.f3.f0 x.f3.f1 x.f3.f2 x.f3.f3 x.f4.f0 x.f4.f1 x.f4.f2 x.f4.f3 x.f5) (m ++ (x.f5.drop i).flatMap lst) := by
      intro d
      induction d with
      | zero =>
        intro i m hi hm
        rw [List.drop_of_length_le (by omega), List.flatMap_nil, List.append_nil]
        refine Ev.step (f := fun _ => some m) (fun k => ?_) (Ev.now _)
        simp only [oculusref22_List.l0]
        rw [if_neg (by omega)]
      | succ d ihd =>
        intro i m hi hm
        have hil : i < x.f5.length := by omega
        have e1 := ih x.f5[i] (List.getElem_mem _) (few_sub hs (List.getElem_mem _)).1
        rw [drop_at hil, List.flatMap_cons, List.length_append] at hm
        have e2 := ihd (i + 1) (m ++ lst x.f5[i]) (by omega) (by rw [List.length_append]; omega)
        rw [drop_at hil, List.flatMap_cons, ← List.append_assoc]
        refine Ev.step (f := fun k => (rlistF k x.f5[i]).bind fun t => if m.length + t.length < 1172812402961 then oculusref22_List.l0 k (m ++ t) ((i + 1 : Nat) : Int) x.f0 x.f1 x.f2.f0 x.f2.f1 x.f2.f2 x.f3.f0 x.f3.f1 x.f3.f2 x.f3.f3 x.f4.f0 x.f4.f1 x.f4.f2 x.f4.f3 x.f5 else none) (fun k => ?_) (ev_bind e1 (ev_pos (by omega) e2))
        simp only [oculusref22_List.l0]
        rw [if_pos (by omega), if_pos (by omega), rdN x.f5 i hil, w64s (n := x.f5.length) hil (by omega)]
    refine Ev.step (f := fun k => oculusref22_List.l0 k [x] ((0 : Nat) : Int) x.f0 x.f1 x.f2.f0 x.f2.f1 x.f2.f2 x.f3.f0 x.f3.f1 x.f3.f2 x.f3.f3 x.f4.f0 x.f4.f1 x.f4.f2 x.f4.f3 x.f5) (fun k => ?_) ?_
    · simp only [rlistF, oculusref22_List.f]
      rw [mkN x, if_pos (by decide)]
      rfl
    · have := loop x.f5.length 0 [x] (by omega) (by rw [List.drop_zero, List.length_singleton]; omega)
      rw [List.drop_zero, List.singleton_append, ← lst_eq] at this
      exact this
def hd (x : N) : Int × Int × S23 × S25 × S25 × Nat := (x.f0, x.f1, x.f2, x.f3, x.f4, x.f5.length)
theorem flat_same : ∀ (l m s t : List N), l.length = m.length → ((l.flatMap lst) ++ s).map hd = ((m.flatMap lst) ++ t).map hd → l = m ∧ s.map hd = t.map hd
  | [], [], s, t, _, h => ⟨rfl, h⟩
  | [], _ :: _, _, _, hl, _ => by simp at hl
  | _ :: _, [], _, _, hl, _ => by simp at hl
  | x :: l, y :: m, s, t, hl, h => by
    rw [List.flatMap_cons, List.flatMap_cons, lst_eq x, lst_eq y, List.cons_append, List.cons_append, List.cons_append, List.cons_append, List.map_cons, List.map_cons] at h
    injection h with h1 h2
    simp only [List.append_assoc] at h2
    have hx : x.f5.length = y.f5.length := congrArg (fun p => p.2.2.2.2.2) h1
    obtain ⟨h3, h4⟩ := flat_same x.f5 y.f5 _ _ hx h2
    obtain ⟨h5, h6⟩ := flat_same l m s t (by simpa using hl) h4
    refine ⟨?_, h6⟩
    rw [h5]
    congr 1
    cases x; cases y
    simp only [hd, Prod.mk.injEq] at h1
    obtain ⟨a, b, c, d, e, _⟩ := h1
    dsimp only at h3
    subst a b c d e h3
    rfl
termination_by l => SizeOf.sizeOf l
decreasing_by
  · cases x
    simp only [List.cons.sizeOf_spec, S28.mk.sizeOf_spec]
    omega
  · simp only [List.cons.sizeOf_spec]
    omega
theorem same_iff (x y : N) : (lst x).map hd = (lst y).map hd ↔ x = y := by
  constructor
  · intro h
    have := flat_same [x] [y] [] [] rfl (by simpa using h)
    simpa using this.1
  · rintro rfl
    rfl
end Go.Proofs.YtdddhabemdbooaaDoor.X
/- What strings.Cut at one byte answers. -/
set_option linter.unusedVariables false
set_option linter.unusedSimpArgs false
namespace Go.Proofs.YtdddhabemdbooaaDoor.X
open Go.RowKit Go.Proofs.YtdddhabemdbooaaDoorW.PrintWords Go.Proofs.YtdddhabemdbooaaDoorW.PrintLast Go.Proofs.YtdddhabemdbooaaDoorW.PrintMore
def cutL (c : UInt8) : List UInt8 → List UInt8 × List UInt8 × Bool
  | [] => ([], [], false)
  | b :: l => if b = c then ([], l, true) else (b :: (cutL c l).1, (cutL c l).2.1, (cutL c l).2.2)
theorem index_cut (c : UInt8) : ∀ l : List UInt8, (Lib.indexByte l c = -1 ∧ (cutL c l).1 = l ∧ (cutL c l).2.1 = [] ∧ (cutL c l).2.2 = false) ∨
    ∃ n : Nat, Lib.indexByte l c = (n : Int) ∧ n < l.length ∧ (cutL c l).1 = l.take n ∧ (cutL c l).2.1 = l.drop (n + 1) ∧ (cutL c l).2.2 = true
  | [] => Or.inl ⟨rfl, rfl, rfl, rfl⟩
  | b :: l => by
    by_cases h : b = c
    · refine Or.inr ⟨0, ?_, by simp, ?_, ?_, ?_⟩
      · simp [Lib.indexByte, h]
      · simp [cutL, h]
      · simp [cutL, h]
      · simp [cutL, h]
    · rcases index_cut c l with ⟨h1, h2, h3, h4⟩ | ⟨n, h1, h2, h3, h4, h5⟩
      · left
        refine ⟨?_, ?_, ?_, ?_⟩
        · simp [Lib.indexByte, h, h1]
        · simp [cutL, h, h2]
        · simp [cutL, h, h3]
        · simp [cutL, h, h4]
      · right
        refine ⟨n + 1, ?_, by simp; omega, ?_, ?_, ?_⟩
        · simp only [Lib.indexByte, beq_eq_false_iff_ne.2 h, h1]
          rw [if_neg (by simp), if_neg (by first | (simp; done) | (simp; omega))]
          omega
        · simp [cutL, h, h3]
        · simp [cutL, h, h4]
        · simp [cutL, h, h5]
theorem cut_eq (s : ByteArray) (c : UInt8) (hs : s.size ≤ 4611686018427387904) : strings_Cut.f s (tx [c]) = some (tx (cutL c (by_ s)).1, tx (cutL c (by_ s)).2.1, (cutL c (by_ s)).2.2) := by
  unfold strings_Cut.f stringslite_Cut.f stringslite_Index.f
  have h1 : (tx [c]).size = 1 := by rw [size_tx]; rfl
  have h2 : (tx [c])[0]'(by rw [h1]; decide) = c := rfl
  rw [dif_pos h1, h2]
  simp only [Option.bind_some]
  rcases index_cut c (by_ s) with ⟨g1, g2, g3, g4⟩ | ⟨n, g1, g2, g3, g4, g5⟩
  · rw [show Lib.indexByte s.data.toList c = -1 from g1, if_neg (by decide), g2, g3, g4, tx_by]
    rfl
  · have hl := size_by s
    rw [show Lib.indexByte s.data.toList c = (n : Int) from g1, if_pos (by omega), if_pos (by omega), if_pos (by omega), h1]
    have hw : wrap64 ((n : Int) + ((1 : Nat) : Int)) = ((n + 1 : Nat) : Int) := by unfold wrap64; omega
    rw [hw, if_pos (by omega), if_pos (by omega), g3, g4, g5]
    simp only [Option.bind_some, Int.toNat_natCast, ext_head, ext_tail]
theorem cutL_length (c : UInt8) (l : List UInt8) : (cutL c l).1.length ≤ l.length ∧ (cutL c l).2.1.length ≤ l.length := by
  rcases index_cut c l with ⟨g1, g2, g3, g4⟩ | ⟨n, g1, g2, g3, g4, g5⟩
  · rw [g2, g3]; simp
  · rw [g3, g4]; simp; omega
end Go.Proofs.YtdddhabemdbooaaDoor.X
namespace Go.Proofs.YtdddhabemdbooaaDoor.X
open Go.RowKit Go.Proofs.YtdddhabemdbooaaDoorW.PrintWords Go.Proofs.YtdddhabemdbooaaDoorW.PrintLast Go.Proofs.YtdddhabemdbooaaDoorW.PrintMore
attribute [local go_sem] max2_int min2_int max_two min_two max_three min_three max_four min_four
set_option linter.unusedVariables false
set_option linter.unusedSimpArgs false
def oculusref19_Rows.f  : Option (List ByteArray) := some (([(⟨#[49, 49, 118]⟩ : ByteArray), (⟨#[49, 56, 101]⟩ : ByteArray), (⟨#[49, 56, 108]⟩ : ByteArray), (⟨#[50, 50, 114, 118]⟩ : ByteArray), (⟨#[50, 50, 118]⟩ : ByteArray), (⟨#[49, 49, 118]⟩ : ByteArray), (⟨#[50, 56, 101]⟩ : ByteArray), (⟨#[49, 49, 118]⟩ : ByteArray), (⟨#[49, 49, 110]⟩ : ByteArray), (⟨#[49, 49, 110]⟩ : ByteArray), (⟨#[50, 50, 118]⟩ : ByteArray), (⟨#[49, 56, 108]⟩ : ByteArray), (⟨#[49, 56, 108]⟩ : ByteArray), (⟨#[49, 56, 108]⟩ : ByteArray), (⟨#[49, 56, 108]⟩ : ByteArray), (⟨#[50, 50, 114, 118]⟩ : ByteArray), (⟨#[50, 50, 101, 116]⟩ : ByteArray), (⟨#[49, 49, 118]⟩ : ByteArray), (⟨#[50, 50, 118]⟩ : ByteArray), (⟨#[49, 49, 118]⟩ : ByteArray), (⟨#[50, 50, 118]⟩ : ByteArray), (⟨#[50, 50, 118]⟩ : ByteArray), (⟨#[50, 50, 118]⟩ : ByteArray), (⟨#[51, 51, 118, 114, 118]⟩ : ByteArray), (⟨#[50, 51, 101]⟩ : ByteArray), (⟨#[50, 50, 101]⟩ : ByteArray), (⟨#[50, 51, 114, 118]⟩ : ByteArray), (⟨#[49, 49, 118]⟩ : ByteArray), (⟨#[49, 49, 118]⟩ : ByteArray), (⟨#[49, 49, 118]⟩ : ByteArray), (⟨#[49, 49, 118]⟩ : ByteArray), (⟨#[49, 49, 118]⟩ : ByteArray), (⟨#[49, 49, 118]⟩ : ByteArray), (⟨#[50, 50, 114, 118]⟩ : ByteArray), (⟨#[50, 50, 118]⟩ : ByteArray), (⟨#[50, 50, 118]⟩ : ByteArray), (⟨#[49, 49, 118]⟩ : ByteArray), (⟨#[49, 49, 118]⟩ : ByteArray), (⟨#[50, 50, 118, 114]⟩ : ByteArray), (⟨#[49, 56, 108]⟩ : ByteArray), (⟨#[49, 56, 108]⟩ : ByteArray), (⟨#[51, 51, 118]⟩ : ByteArray), (⟨#[49, 56, 108]⟩ : ByteArray), (⟨#[50, 50, 118]⟩ : ByteArray), (⟨#[49, 56, 108]⟩ : ByteArray), (⟨#[48, 48]⟩ : ByteArray), (⟨#[49, 49, 118]⟩ : ByteArray), (⟨#[49, 49, 118]⟩ : ByteArray), (⟨#[49, 56, 101]⟩ : ByteArray), (⟨#[50, 50, 118]⟩ : ByteArray), (⟨#[49, 56, 108]⟩ : ByteArray), (⟨#[49, 49, 118]⟩ : ByteArray), (⟨#[50, 50, 118]⟩ : ByteArray), (⟨#[50, 50, 118, 114]⟩ : ByteArray), (⟨#[50, 50, 118]⟩ : ByteArray), (⟨#[49, 49, 118]⟩ : ByteArray), (⟨#[50, 50, 118]⟩ : ByteArray), (⟨#[50, 50, 118]⟩ : ByteArray), (⟨#[50, 50, 118]⟩ : ByteArray), (⟨#[50, 50, 118]⟩ : ByteArray), (⟨#[49, 49, 110]⟩ : ByteArray), (⟨#[49, 49, 110]⟩ : ByteArray), (⟨#[49, 49, 118]⟩ : ByteArray), (⟨#[50, 50, 114, 118]⟩ : ByteArray), (⟨#[49, 49, 118]⟩ : ByteArray), (⟨#[51, 51, 118]⟩ : ByteArray), (⟨#[49, 56, 108]⟩ : ByteArray), (⟨#[50, 50, 114, 118]⟩ : ByteArray), (⟨#[50, 50, 114]⟩ : ByteArray), (⟨#[49, 56, 108]⟩ : ByteArray), (⟨#[51, 56, 101]⟩ : ByteArray), (⟨#[50, 50, 118]⟩ : ByteArray), (⟨#[49, 49, 118]⟩ : ByteArray), (⟨#[49, 49, 118]⟩ : ByteArray), (⟨#[49, 49, 118]⟩ : ByteArray), (⟨#[49, 49, 118]⟩ : ByteArray), (⟨#[51, 51, 118, 114, 118]⟩ : ByteArray), (⟨#[49, 56, 108]⟩ : ByteArray)] : List ByteArray))
end Go.Proofs.YtdddhabemdbooaaDoor.X
/- What fname and its reference answer. -/
set_option linter.unusedVariables false
set_option linter.unusedSimpArgs false
namespace Go.Proofs.YtdddhabemdbooaaDoor.X
open Go.RowKit Go.Proofs.YtdddhabemdbooaaDoorW.PrintWords Go.Proofs.YtdddhabemdbooaaDoorW.PrintLast Go.Proofs.YtdddhabemdbooaaDoorW.PrintMore
def RB : List ByteArray := oculusref19_Rows.f.getD []
def RS : List (List UInt8) := RB.map by_
def rs (n : Nat) : List UInt8 := RS.getD n []
def rowsL : List UInt8 := [65, 66, 83, 49, 49, 118, 59, 65, 78, 68, 49, 56, 101, 59, 65, 86, 69, 82, 65, 71, 69, 49, 56, 108, 59, 65, 86, 69, 82, 65, 71, 69, 73, 70, 50, 50, 114, 118, 59, 67, 69, 73, 76, 73, 78, 71, 50, 50, 118, 59, 67, 72, 65, 82, 49, 49, 118, 59, 67, 72, 79, 79, 83, 69, 50, 56, 101, 59, 67, 79, 68, 69, 49, 49, 118, 59, 67, 79, 76, 85, 77, 78, 49, 49, 110, 59, 67, 79, 76, 85, 77, 78, 83, 49, 49, 110, 59, 67, 79, 77, 66, 73, 78, 50, 50, 118, 59, 67, 79, 78, 67, 65, 84, 49, 56, 108, 59, 67, 79, 85, 78, 84, 49, 56, 108, 59, 67, 79, 85, 78, 84, 65, 49, 56, 108, 59, 67, 79, 85, 78, 84, 66, 76, 65, 78, 75, 49, 56, 108, 59, 67, 79, 85, 78, 84, 73, 70, 50, 50, 114, 118, 59, 68, 69, 67, 76, 65, 83, 83, 50, 50, 101, 116, 59, 69, 86, 69, 78, 49, 49, 118, 59, 69, 88, 65, 67, 84, 50, 50, 118, 59, 70, 65, 67, 84, 49, 49, 118, 59, 70, 73, 78, 68, 50, 50, 118, 59, 70, 76, 79, 79, 82, 50, 50, 118, 59, 71, 67, 68, 50, 50, 118, 59, 72, 76, 79, 79, 75, 85, 80, 51, 51, 118, 114, 118, 59, 73, 70, 50, 51, 101, 59, 73, 70, 69, 82, 82, 79, 82, 50, 50, 101, 59, 73, 78, 68, 69, 88, 50, 51, 114, 118, 59, 73, 78, 84, 49, 49, 118, 59, 73, 83, 66, 76, 65, 78, 75, 49, 49, 118, 59, 73, 83, 69, 82, 82, 79, 82, 49, 49, 118, 59, 73, 83, 76, 79, 71, 73, 67, 65, 76, 49, 49, 118, 59, 73, 83, 78, 85, 77, 66, 69, 82, 49, 49, 118, 59, 73, 83, 84, 69, 88, 84, 49, 49, 118, 59, 76, 65, 82, 71, 69, 50, 50, 114, 118, 59, 76, 67, 77, 50, 50, 118, 59, 76, 69, 70, 84, 50, 50, 118, 59, 76, 69, 78, 49, 49, 118, 59, 76, 79, 87, 69, 82, 49, 49, 118, 59, 77, 65, 84, 67, 72, 50, 50, 118, 114, 59, 77, 65, 88, 49, 56, 108, 59, 77, 69, 68, 73, 65, 78, 49, 56, 108, 59, 77, 73, 68, 51, 51, 118, 59, 77, 73, 78, 49, 56, 108, 59, 77, 79, 68, 50, 50, 118, 59, 77, 79, 68, 69, 49, 56, 108, 59, 78, 65, 48, 48, 59, 78, 79, 84, 49, 49, 118, 59, 79, 68, 68, 49, 49, 118, 59, 79, 82, 49, 56, 101, 59, 80, 79, 87, 69, 82, 50, 50, 118, 59, 80, 82, 79, 68, 85, 67, 84, 49, 56, 108, 59, 80, 82, 79, 80, 69, 82, 49, 49, 118, 59, 81, 85, 79, 84, 73, 69, 78, 84, 50, 50, 118, 59, 82, 65, 78, 75, 50, 50, 118, 114, 59, 82, 69, 80, 84, 50, 50, 118, 59, 82, 69, 86, 69, 82, 83, 69, 49, 49, 118, 59, 82, 73, 71, 72, 84, 50, 50, 118, 59, 82, 79, 85, 78, 68, 50, 50, 118, 59, 82, 79, 85, 78, 68, 68, 79, 87, 78, 50, 50, 118, 59, 82, 79, 85, 78, 68, 85, 80, 50, 50, 118, 59, 82, 79, 87, 49, 49, 110, 59, 82, 79, 87, 83, 49, 49, 110, 59, 83, 73, 71, 78, 49, 49, 118, 59, 83, 77, 65, 76, 76, 50, 50, 114, 118, 59, 83, 81, 82, 84, 49, 49, 118, 59, 83, 85, 66, 83, 84, 73, 84, 85, 84, 69, 51, 51, 118, 59, 83, 85, 77, 49, 56, 108, 59, 83, 85, 77, 73, 70, 50, 50, 114, 118, 59, 83, 85, 77, 80, 82, 79, 68, 85, 67, 84, 50, 50, 114, 59, 83, 85, 77, 83, 81, 49, 56, 108, 59, 83, 87, 73, 84, 67, 72, 51, 56, 101, 59, 84, 69, 88, 84, 50, 50, 118, 59, 84, 82, 73, 77, 49, 49, 118, 59, 84, 82, 85, 78, 67, 49, 49, 118, 59, 85, 80, 80, 69, 82, 49, 49, 118, 59, 86, 65, 76, 85, 69, 49, 49, 118, 59, 86, 76, 79, 79, 75, 85, 80, 51, 51, 118, 114, 118, 59, 88, 79, 82, 49, 56, 108]
def okR : List UInt8 → Bool
  | c0 :: c1 :: tl => decide (48 ≤ c0.toNat) && decide (c0.toNat < 65) && decide (48 ≤ c1.toNat) && decide (c1.toNat < 65) && decide (tl.length ≤ 10)
  | _ => false
def cutN : Nat → List UInt8 × List UInt8 → List UInt8 × List UInt8
  | 0, p => p
  | n + 1, p => cutN n ((cutL 59 p.2).1, (cutL 59 p.2).2.1)
def row0 : List UInt8 × List UInt8 := ((cutL 59 rowsL).1, (cutL 59 rowsL).2.1)
def nm (n : Nat) : List UInt8 := (cutN n row0).1.takeWhile fun x => decide (65 ≤ x.toNat)
theorem rows_check : ∀ n : Fin 78, (cutN n.val row0).1 = nm n.val ++ rs n.val ∧ ((nm n.val).all fun x => decide (65 ≤ x.toNat)) = true ∧ okR (rs n.val) = true ∧ (nm n.val).length < 100 := by decide +kernel
theorem rs_shape {n : Nat} (h : n < 78) : ∃ c0 c1 tl, rs n = c0 :: c1 :: tl ∧ 48 ≤ c0.toNat ∧ c0.toNat < 65 ∧ 48 ≤ c1.toNat ∧ c1.toNat < 65 ∧ tl.length ≤ 10 := by
  have := (rows_check ⟨n, h⟩).2.2.1
  simp only at this
  revert this
  match rs n with
  | [] => intro h; simp [okR] at h
  | [_] => intro h; simp [okR] at h
  | c0 :: c1 :: tl =>
    intro h
    simp only [okR, Bool.and_eq_true, decide_eq_true_eq] at h
    exact ⟨c0, c1, tl, rfl, h.1.1.1.1, h.1.1.1.2, h.1.1.2, h.1.2, h.2⟩
theorem row_l1 (a : List UInt8) (c : UInt8) (b : List UInt8) (ha : ∀ x ∈ a, 65 ≤ x.toNat) (hc : c.toNat < 65) (hl : a.length + b.length < 1000) :
    ∀ d i, i + d = a.length → Ev (fun k => fname_row.l1 k (tx (a ++ c :: b)) (i : Int)) (tx a, tx (c :: b))
  | 0, i, h => by
    have hz : (tx (a ++ c :: b)).size = a.length + (b.length + 1) := by rw [size_tx]; simp
    have hb : bt (tx (a ++ c :: b)) (i : Int) = (c.toNat : Int) := by
      rw [bt_tx _ i (by simp; omega)]
      have : i = a.length := by omega
      subst this
      simp
    refine Ev.step (f := fun k => some (tx a, tx (c :: b))) (fun k => ?_) (Ev.now _)
    simp only [fname_row.l1]
    rw [if_pos (by omega), if_pos (by omega), hb, if_neg (by omega), if_pos (by omega), Int.toNat_natCast, ext_head, ext_tail, by_tx]
    have : i = a.length := by omega
    subst this
    simp
  | d + 1, i, h => by
    have hz : (tx (a ++ c :: b)).size = a.length + (b.length + 1) := by rw [size_tx]; simp
    have hi : i < a.length := by omega
    have hb : bt (tx (a ++ c :: b)) (i : Int) = ((a[i]).toNat : Int) := by
      rw [bt_tx _ i (by simp; omega)]
      rw [List.getElem_append_left hi]
    have := ha _ (List.getElem_mem hi)
    refine Ev.step (f := fun k => fname_row.l1 k (tx (a ++ c :: b)) ((i + 1 : Nat) : Int)) (fun k => ?_) (row_l1 a c b ha hc hl d (i + 1) (by omega))
    simp only [fname_row.l1]
    rw [if_pos (by omega), if_pos (by omega), hb, if_pos (by omega), w64s (n := 2000) (by omega) (by omega)]
theorem row_l0 (fn : Nat) (hf : fn ≤ 78) : ∀ d n s r, n + d = fn → r.length ≤ 4611686018427387904 → ∀ q, Ev (fun k => fname_row.l1 k (tx (cutN d (s, r)).1) 0) q → Ev (fun k => fname_row.l0 k (fn : Int) (tx s) (tx r) (n : Int)) q
  | 0, n, s, r, h, hr, q, hq => by
    refine Ev.step (f := fun k => fname_row.l1 k (tx s) 0) (fun k => ?_) hq
    simp only [fname_row.l0]
    rw [if_neg (by omega)]
  | d + 1, n, s, r, h, hr, q, hq => by
    have hl := (cutL_length 59 r).2
    refine Ev.step (f := fun k => fname_row.l0 k (fn : Int) (tx (cutL 59 r).1) (tx (cutL 59 r).2.1) ((n + 1 : Nat) : Int)) (fun k => ?_) (row_l0 fn hf d (n + 1) _ _ (by omega) (by omega) q hq)
    simp only [fname_row.l0]
    rw [if_pos (by omega)]
    have e : strings_Cut.f (tx r) (⟨#[59]⟩ : ByteArray) = some (tx (cutL 59 r).1, tx (cutL 59 r).2.1, (cutL 59 r).2.2) := by
      have := cut_eq (tx r) 59 (by rw [size_tx]; exact hr)
      rw [by_tx] at this
      exact this
    rw [e, Option.bind_some, w64s (n := 2000) (by omega) (by omega)]
theorem row_ev (n : Nat) (h : n < 78) : Ev (fun k => fname_row.f k ((n + 1 : Nat) : Int)) (tx (nm n), tx (rs n)) := by
  unfold fname_row.f
  refine ev_neg (by omega) ?_
  rw [decide_eq_false (by omega : ¬ ((n + 1 : Nat) : Int) > 78)]
  refine Ev.step (fun k => fname_row.j0.eq_2 _ _ _) ?_
  refine ev_neg (by simp) ?_
  refine ev_bind (a := (tx row0.1, tx row0.2, (cutL 59 rowsL).2.2)) (ev_some fun _ => ?_) ?_
  · refine (cut_eq _ 59 (by decide +kernel)).trans ?_
    exact congrArg (fun l => some (tx (cutL 59 l).1, tx (cutL 59 l).2.1, (cutL 59 l).2.2)) (by decide +kernel : by_ _ = rowsL)
  refine row_l0 (n + 1) (by omega) n 1 _ _ (by omega) (by decide +kernel) _ ?_
  obtain ⟨h1, h2, h3, h4⟩ := rows_check ⟨n, h⟩
  simp only at h1 h2 h3 h4
  rw [show (cutN n (row0.1, row0.2)).1 = nm n ++ rs n from h1]
  obtain ⟨c0, c1, tl, e, g1, g2, g3, g4, g5⟩ := rs_shape h
  rw [e]
  refine row_l1 (nm n) c0 (c1 :: tl) ?_ g2 (by simp; omega) (nm n).length 0 (by omega)
  intro x hx
  have := List.all_eq_true.1 h2 x hx
  simpa using this
theorem row_out (fn : Int) (h : fn < 1 ∨ fn > 78) : Ev (fun k => fname_row.f k fn) (tx [], tx []) := by
  unfold fname_row.f
  have hj : Ev (fun k => fname_row.j0 k fn true) (tx [], tx []) := by
    refine Ev.step (fun k => fname_row.j0.eq_2 _ _ _) ?_
    exact ev_pos rfl (Ev.now _)
  refine ev_ite (fun _ => hj) (fun h1 => ?_)
  rw [decide_eq_true (by omega : fn > 78)]
  exact hj
def nmI (fn : Int) : List UInt8 := if fn < 1 ∨ fn > 78 then [] else nm (fn - 1).toNat
def rsI (fn : Int) : List UInt8 := if fn < 1 ∨ fn > 78 then [] else rs (fn - 1).toNat
theorem rowI_ev (fn : Int) : Ev (fun k => fname_row.f k fn) (tx (nmI fn), tx (rsI fn)) := by
  unfold nmI rsI
  by_cases h : fn < 1 ∨ fn > 78
  · rw [if_pos h, if_pos h]; exact row_out fn h
  · rw [if_neg h, if_neg h]
    have e : fn = (((fn - 1).toNat + 1 : Nat) : Int) := by omega
    have := row_ev (fn - 1).toNat (by omega)
    rw [← e] at this
    exact this
def fitsL : List UInt8 → Int → Bool
  | c0 :: c1 :: _, n => if n ≥ (c0.toNat : Int) - 48 then decide (n ≤ (c1.toNat : Int) - 48) else false
  | _, _ => false
def kindL : List UInt8 → Int → Int
  | c0 :: c1 :: tl, i => if i < 0 then 0 else if i ≥ (c1.toNat : Int) - 48 then 0 else (((c0 :: c1 :: tl).getD (min (2 + i.toNat) (tl.length + 1)) 0).toNat : Int)
  | _, _ => 0
theorem rsI_shape (fn : Int) : (rsI fn = [] ∧ (fn < 1 ∨ fn > 78)) ∨ (¬ (fn < 1 ∨ fn > 78) ∧ ∃ c0 c1 tl, rs (fn - 1).toNat = c0 :: c1 :: tl ∧ rsI fn = c0 :: c1 :: tl ∧ 48 ≤ c0.toNat ∧ c0.toNat < 65 ∧ 48 ≤ c1.toNat ∧ c1.toNat < 65 ∧ tl.length ≤ 10) := by
  unfold rsI
  by_cases h : fn < 1 ∨ fn > 78
  · exact Or.inl ⟨if_pos h, h⟩
  · refine Or.inr ⟨h, ?_⟩
    obtain ⟨c0, c1, tl, e, g⟩ := rs_shape (n := (fn - 1).toNat) (by omega)
    exact ⟨c0, c1, tl, e, by rw [if_neg h, e], g⟩
theorem fits_ev (fn n : Int) : Ev (fun k => fname_Fits.f k fn n) (fitsL (rsI fn) n) := by
  unfold fname_Fits.f
  refine ev_bind (rowI_ev fn) (ev_some fun k => ?_)
  rcases rsI_shape fn with ⟨e, _⟩ | ⟨_, c0, c1, tl, _, e, g1, g2, g3, g4, g5⟩
  · rw [e, if_pos (by rw [toList_by, by_tx])]; rfl
  · rw [e]
    have hz : (tx (c0 :: c1 :: tl)).size = tl.length + 2 := by rw [size_tx]; rfl
    have b0 : bt (tx (c0 :: c1 :: tl)) 0 = (c0.toNat : Int) := bt_tx _ 0 (by simp)
    have b1 : bt (tx (c0 :: c1 :: tl)) 1 = (c1.toNat : Int) := bt_tx _ 1 (by simp)
    simp only [fitsL, b0, b1]
    rw [if_neg (by rw [toList_by, by_tx]; simp), if_pos (by omega)]
    have e0 : ((c0.toNat : Int) - 48) % 256 = (c0.toNat : Int) - 48 := by omega
    have e1 : ((c1.toNat : Int) - 48) % 256 = (c1.toNat : Int) - 48 := by omega
    rw [e0, e1]
    by_cases hn : n ≥ (c0.toNat : Int) - 48
    · rw [if_pos hn, if_pos hn, if_pos (by omega)]
    · rw [if_neg hn, if_neg hn]
theorem bt_getD (l : List UInt8) (i : Nat) (h : i < l.length) : bt (tx l) (i : Int) = ((l.getD i 0).toNat : Int) := by
  rw [bt_tx l i h, List.getD_eq_getElem?_getD, List.getElem?_eq_getElem h]; rfl
theorem kind_ev (fn i : Int) : Ev (fun k => fname_Kind.f k fn i) (kindL (rsI fn) i) := by
  unfold fname_Kind.f
  refine ev_bind (rowI_ev fn) ?_
  simp only
  rcases rsI_shape fn with ⟨e, _⟩ | ⟨_, c0, c1, tl, _, e, g1, g2, g3, g4, g5⟩
  · rw [e]
    exact Ev.step (f := fun k => some 0) (fun k => by simp only [fname_Kind.j0]; rw [if_pos (by rw [toList_by, by_tx])]) (Ev.now _)
  · rw [e]
    have hz : (tx (c0 :: c1 :: tl)).size = tl.length + 2 := by rw [size_tx]; rfl
    have b1 : bt (tx (c0 :: c1 :: tl)) 1 = (c1.toNat : Int) := bt_tx _ 1 (by simp)
    refine Ev.step (f := fun k => some (kindL (c0 :: c1 :: tl) i)) (fun k => ?_) (Ev.now _)
    simp only [fname_Kind.j0, kindL, b1, hz]
    have e1 : ((c1.toNat : Int) - 48) % 256 = (c1.toNat : Int) - 48 := by omega
    rw [if_neg (by rw [toList_by, by_tx]; simp), e1]
    by_cases h1 : i < 0
    · rw [if_pos h1, if_pos h1]
    · rw [if_neg h1, if_neg h1, if_pos (by omega)]
      by_cases h2 : i ≥ (c1.toNat : Int) - 48
      · rw [if_pos h2, if_pos h2]
      · rw [if_neg h2, if_neg h2]
        have em : mn (wrap64 (2 + i)) (wrap64 (((tl.length + 2 : Nat) : Int) - 1)) = ((min (2 + i.toNat) (tl.length + 1) : Nat) : Int) := by
          rw [w64 (by omega) (by omega), w64 (by omega) (by omega)]
          unfold mn
          split <;> omega
        rw [em, if_pos (by omega), if_pos (by omega), bt_getD _ _ (by simp only [List.length_cons]; omega)]
end Go.Proofs.YtdddhabemdbooaaDoor.X
/- When two trees are the same: of node and of the reference; that the statements of node live. -/
set_option linter.unusedVariables false
set_option linter.unusedSimpArgs false
namespace Go.Proofs.YtdddhabemdbooaaDoor.X
open Go.RowKit Go.Proofs.YtdddhabemdbooaaDoorW.PrintWords Go.Proofs.YtdddhabemdbooaaDoorW.PrintLast Go.Proofs.YtdddhabemdbooaaDoorW.PrintMore
abbrev E0 : ByteArray := ⟨#[]⟩
abbrev rN : N := ⟨4, 0, ⟨0, 0, E0⟩, ⟨0, 0, false, false⟩, ⟨2, 0, false, false⟩, []⟩
abbrev oN : N := ⟨1, 0, ⟨1, 10000, E0⟩, ⟨0, 0, false, false⟩, ⟨0, 0, false, false⟩, []⟩
abbrev sN : N := ⟨7, 67, ⟨0, 0, E0⟩, ⟨0, 0, false, false⟩, ⟨0, 0, false, false⟩, [rN]⟩
abbrev nN : N := ⟨6, 2, ⟨0, 0, E0⟩, ⟨0, 0, false, false⟩, ⟨0, 0, false, false⟩, [sN, oN]⟩
abbrev gN : N := ⟨5, 0, ⟨0, 0, E0⟩, ⟨0, 0, false, false⟩, ⟨0, 0, false, false⟩, [rN]⟩
abbrev rightF (k : Nat) (x : N) := node_Right.f k x.f0 x.f1 x.f2.f0 x.f2.f1 x.f2.f2 x.f3.f0 x.f3.f1 x.f3.f2 x.f3.f3 x.f4.f0 x.f4.f1 x.f4.f2 x.f4.f3 x.f5
abbrev formF (k : Nat) (x : N) := node_Formula.f k x.f0 x.f1 x.f2.f0 x.f2.f1 x.f2.f2 x.f3.f0 x.f3.f1 x.f3.f2 x.f3.f3 x.f4.f0 x.f4.f1 x.f4.f2 x.f4.f3 x.f5
theorem fits67 : Ev (fun k => fname_Fits.f k 67 1) true := by
  have h := fits_ev 67 1
  rw [show fitsL (rsI 67) 1 = true by decide +kernel] at h
  exact h
theorem kind67 : Ev (fun k => fname_Kind.f k 67 0) 108 := by
  have h := kind_ev 67 0
  rw [show kindL (rsI 67) 0 = 108 by decide +kernel] at h
  exact h
theorem called_s : Ev (fun k => node_called.f k 7 67 0 0 E0 0 0 false false 0 0 false false [rN]) true := by
  unfold node_called.f
  refine ev_bind fits67 (ev_pos rfl ?_)
  refine Ev.step (fun k => node_called.l0.eq_2 ..) (ev_pos (by decide) (ev_pos (by decide) (ev_pos (by decide) (ev_bind kind67 ?_))))
  refine ev_bind (a := true) (ev_some fun _ => rfl) ?_
  refine Ev.step (fun k => node_called.j1.eq_2 ..) (ev_neg (by decide) ?_)
  exact Ev.step (fun k => node_called.l0.eq_2 ..) (ev_neg (by decide +kernel) (Ev.now _))
set_option maxRecDepth 100000 in
theorem right_r : Ev (fun k => rightF k rN) true := Ev.of (fun k => node_Right.mono _ _ _ _ _ _ _ _ _ _ _ _ _ _ k) (k := 30) (by decide +kernel)
set_option maxRecDepth 100000 in
theorem right_o : Ev (fun k => rightF k oN) true := Ev.of (fun k => node_Right.mono _ _ _ _ _ _ _ _ _ _ _ _ _ _ k) (k := 30) (by decide +kernel)
set_option maxRecDepth 100000 in
theorem right_g : Ev (fun k => rightF k gN) false := Ev.of (fun k => node_Right.mono _ _ _ _ _ _ _ _ _ _ _ _ _ _ k) (k := 40) (by decide +kernel)
set_option maxRecDepth 100000 in
theorem form_r : Ev (fun k => formF k rN) false := Ev.of (fun k => node_Formula.mono _ _ _ _ _ _ _ _ _ _ _ _ _ _ k) (k := 40) (by decide +kernel)
set_option maxRecDepth 100000 in
theorem deep_n : Ev (fun k => deepF k nN) 3 := Ev.of (fun k => node_Deep.mono _ _ _ _ _ _ _ _ _ _ _ _ _ _ k) (k := 40) (by decide +kernel)
set_option maxRecDepth 100000 in
theorem count_n : Ev (fun k => countF k nN) 4 := Ev.of (fun k => node_Count.mono _ _ _ _ _ _ _ _ _ _ _ _ _ _ k) (k := 40) (by decide +kernel)
theorem right_s : Ev (fun k => rightF k sN) true := by
  refine Ev.step (fun k => node_Right.f.eq_2 ..) ?_
  refine Ev.step (fun k => node_Right.l0.eq_2 ..) (ev_pos (by decide) (ev_pos (by decide) (ev_pos (by decide) (ev_bind right_r ?_))))
  refine Ev.step (fun k => node_Right.j1.eq_2 ..) (ev_neg (by decide) ?_)
  refine Ev.step (fun k => node_Right.l0.eq_2 ..) (ev_neg (by decide +kernel) ?_)
  refine ev_bind (a := 17) (ev_some fun _ => by decide +kernel) ?_
  refine Ev.step (fun k => node_Right.j2.eq_2 ..) ?_
  refine ev_neg (by decide) (ev_neg (by decide) (ev_neg (by decide) (ev_neg (by decide) (ev_neg (by decide) (ev_neg (by decide) (ev_pos (by decide) (ev_pos (by decide +kernel) ?_)))))))
  exact ev_bind called_s (Ev.now _)
theorem right_n : Ev (fun k => rightF k nN) true := by
  refine Ev.step (fun k => node_Right.f.eq_2 ..) ?_
  refine Ev.step (fun k => node_Right.l0.eq_2 ..) (ev_pos (by decide) (ev_pos (by decide) (ev_pos (by decide) (ev_bind right_s ?_))))
  refine Ev.step (fun k => node_Right.j1.eq_2 ..) (ev_neg (by decide) ?_)
  rw [show wrap64 (0 + 1) = 1 by decide +kernel]
  refine Ev.step (fun k => node_Right.l0.eq_2 ..) (ev_pos (by decide) (ev_pos (by decide) (ev_pos (by decide) (ev_bind right_o ?_))))
  refine Ev.step (fun k => node_Right.j1.eq_2 ..) (ev_neg (by decide) ?_)
  refine Ev.step (fun k => node_Right.l0.eq_2 ..) (ev_neg (by decide +kernel) ?_)
  refine ev_bind (a := 17) (ev_some fun _ => by decide +kernel) ?_
  refine Ev.of (fun k => (node_Right.mono_l k).2.2.2 _ _ _ _ _ _ _ _ _ _ _ _ _ _ _) (k := 20) (by decide +kernel)
theorem form_n : Ev (fun k => formF k nN) true := by
  unfold formF node_Formula.f
  refine ev_neg (by decide) (ev_bind deep_n (ev_pos (by decide) (ev_bind right_n (Ev.now _))))
set_option maxRecDepth 100000 in
theorem list_n : Ev (fun k => listF k nN) [nN, sN, rN, oN] := Ev.of (fun k => node_List.mono _ _ _ _ _ _ _ _ _ _ _ _ _ _ k) (k := 40) (by kernel_rfl)
set_option maxRecDepth 100000 in
theorem same_o : Ev (fun k => sameF k oN oN) true := Ev.of (fun k => node_Same.mono _ _ _ _ _ _ _ _ _ _ _ _ _ _ _ _ _ _ _ _ _ _ _ _ _ _ _ _ k) (k := 20) (by decide +kernel)
theorem alive22_ev : Ev (fun k => oculuslaw22_alive.f k) true := by
  unfold oculuslaw22_alive.f
  refine ev_bsome (ev_bind form_n (ev_pos rfl (ev_bind right_r (ev_pos rfl (ev_bind form_r (ev_neg (by decide) (ev_bind deep_n (ev_pos rfl (ev_bind count_n (ev_pos rfl (ev_bind right_g (ev_neg (by decide) (ev_bind list_n (ev_pos (by decide) ?_))))))))))))))
  exact ev_bind same_o (Ev.now _)
theorem ne23 (u v : S23) : ((!(u.f0 == v.f0) || (!(u.f1 == v.f1) || (!(u.f2.toList == v.f2.toList)))) = true) ↔ ¬ u = v := by
  obtain ⟨a, b, c⟩ := u
  obtain ⟨d, e, f⟩ := v
  simp only [S23.mk.injEq, Bool.or_eq_true, Bool.not_eq_true', beq_eq_false_iff_ne, ne_eq, toList_inj, Classical.not_and_iff_not_or_not]
theorem ne25 (u v : S25) : ((!(u.f0 == v.f0) || (!(u.f1 == v.f1) || (!(u.f2 == v.f2) || (!(u.f3 == v.f3))))) = true) ↔ ¬ u = v := by
  obtain ⟨a, b, c, a'⟩ := u
  obtain ⟨d, e, f, d'⟩ := v
  simp only [S25.mk.injEq, Bool.or_eq_true, Bool.not_eq_true', beq_eq_false_iff_ne, ne_eq, Classical.not_and_iff_not_or_not]
theorem N_ext {x y : N} : x = y ↔ x.f0 = y.f0 ∧ x.f1 = y.f1 ∧ x.f2 = y.f2 ∧ x.f3 = y.f3 ∧ x.f4 = y.f4 ∧ x.f5 = y.f5 := by
  cases x
  cases y
  simp only [S28.mk.injEq]
abbrev sj0 (k : Nat) (b : Bool) (x y : N) := node_Same.j0 k b x.f0 x.f1 x.f2.f0 x.f2.f1 x.f2.f2 x.f3.f0 x.f3.f1 x.f3.f2 x.f3.f3 x.f4.f0 x.f4.f1 x.f4.f2 x.f4.f3 x.f5 y.f0 y.f1 y.f2.f0 y.f2.f1 y.f2.f2 y.f3.f0 y.f3.f1 y.f3.f2 y.f3.f3 y.f4.f0 y.f4.f1 y.f4.f2 y.f4.f3 y.f5
abbrev sl0 (k : Nat) (l : List N) (n i : Int) (y : N) := node_Same.l0 k l n i y.f0 y.f1 y.f2.f0 y.f2.f1 y.f2.f2 y.f3.f0 y.f3.f1 y.f3.f2 y.f3.f3 y.f4.f0 y.f4.f1 y.f4.f2 y.f4.f3 y.f5
abbrev sj2 (k : Nat) (l : List N) (n i : Int) (b : Bool) (y : N) := node_Same.j2 k l n i b y.f0 y.f1 y.f2.f0 y.f2.f1 y.f2.f2 y.f3.f0 y.f3.f1 y.f3.f2 y.f3.f3 y.f4.f0 y.f4.f1 y.f4.f2 y.f4.f3 y.f5
theorem sj0_t (x y : N) : Ev (fun k => sj0 k true x y) false := Ev.step (f := fun _ => some false) (fun k => by simp only [sj0, node_Same.j0, if_true]) (Ev.now _)
theorem sj2_t (l : List N) (n i : Int) (y : N) : Ev (fun k => sj2 k l n i true y) false := Ev.step (f := fun _ => some false) (fun k => by simp only [sj2, node_Same.j2, if_true]) (Ev.now _)
theorem same_ev (x : N) : (lst x).length ≤ 200 → ∀ y : N, ∃ b : Bool, (b = true ↔ x = y) ∧ Ev (fun k => sameF k x y) b := by
  induction x using n_ind with
  | h x ih =>
    intro hs y
    have hlen := few_len hs
    have loop : x.f5.length = y.f5.length → ∀ (d i : Nat), i + d = x.f5.length → ∃ b : Bool, (b = true ↔ x.f5.drop i = y.f5.drop i) ∧ Ev (fun k => sl0 k x.f5 (x.f5.length : Int) (i : Int) y) b := by
      intro hxy d
      induction d with
      | zero =>
        intro i hi
        refine ⟨true, ?_, Ev.step (f := fun _ => some true) (fun k => ?_) (Ev.now _)⟩
        · rw [List.drop_of_length_le (by omega), List.drop_of_length_le (by omega)]
          simp
        · simp only [sl0, node_Same.l0]
          rw [if_neg (by omega)]
      | succ d ihd =>
        intro i hi
        have hil : i < x.f5.length := by omega
        have hjl : i < y.f5.length := by omega
        obtain ⟨b1, h1, e1⟩ := ih x.f5[i] (List.getElem_mem _) (few_sub hs (List.getElem_mem _)).1 y.f5[i]
        obtain ⟨b2, h2, e2⟩ := ihd (i + 1) (by omega)
        refine ⟨b1 && b2, ?_, Ev.step (f := fun k => (sameF k x.f5[i] y.f5[i]).bind fun t => sj2 k x.f5 (x.f5.length : Int) (i : Int) (!t) y) (fun k => ?_) (ev_bind e1 ?_)⟩
        · rw [Bool.and_eq_true, h1, h2, drop_at hil, drop_at hjl, List.cons.injEq]
        · simp only [sl0, node_Same.l0]
          rw [if_pos (by omega), if_pos (by omega), if_pos (by omega), if_pos (by omega), rdN x.f5 i hil, rdN y.f5 i hjl]
        · cases b1 with
          | false => exact sj2_t _ _ _ _
          | true =>
            refine Ev.step (f := fun k => sl0 k x.f5 (x.f5.length : Int) ((i + 1 : Nat) : Int) y) (fun k => ?_) e2
            simp only [sj2, node_Same.j2, Bool.not_true]
            rw [if_neg (by decide), w64s (n := x.f5.length) hil (by omega)]
    by_cases c0 : x.f0 = y.f0
    · by_cases c1 : x.f1 = y.f1
      · by_cases c2 : x.f2 = y.f2
        · by_cases c3 : x.f3 = y.f3
          · by_cases c4 : x.f4 = y.f4
            · by_cases c5 : x.f5.length = y.f5.length
              · obtain ⟨b, hb, e⟩ := loop c5 x.f5.length 0 (by omega)
                refine ⟨b, ?_, ?_⟩
                · rw [hb, List.drop_zero, List.drop_zero, N_ext]
                  exact ⟨fun h => ⟨c0, c1, c2, c3, c4, h⟩, fun h => h.2.2.2.2.2⟩
                · refine Ev.step (f := fun k => sj0 k ((x.f5.length : Int) != (y.f5.length : Int)) x y) (fun k => ?_) ?_
                  · simp only [sameF, node_Same.f]
                    rw [if_pos c0, if_pos c1, if_neg (by rw [ne23]; exact fun h => h c2), if_neg (by rw [ne25]; exact fun h => h c3), if_neg (by rw [ne25]; exact fun h => h c4)]
                  · rw [show ((x.f5.length : Int) != (y.f5.length : Int)) = false by rw [c5]; simp]
                    refine Ev.step (f := fun k => sl0 k x.f5 (x.f5.length : Int) ((0 : Nat) : Int) y) (fun k => ?_) e
                    simp only [sj0, node_Same.j0]
                    rw [if_neg (by decide)]
                    rfl
              · refine ⟨false, ?_, ?_⟩
                · exact ⟨fun h => absurd h Bool.false_ne_true, fun h => absurd (congrArg (fun z : N => z.f5.length) h) c5⟩
                · refine Ev.step (f := fun k => sj0 k ((x.f5.length : Int) != (y.f5.length : Int)) x y) (fun k => ?_) ?_
                  · simp only [sameF, node_Same.f]
                    rw [if_pos c0, if_pos c1, if_neg (by rw [ne23]; exact fun h => h c2), if_neg (by rw [ne25]; exact fun h => h c3), if_neg (by rw [ne25]; exact fun h => h c4)]
                  · rw [show ((x.f5.length : Int) != (y.f5.length : Int)) = true by rw [bne_iff_ne]; omega]
                    exact sj0_t x y
            · refine ⟨false, ⟨fun h => absurd h Bool.false_ne_true, fun h => absurd (congrArg (fun z : N => z.f4) h) c4⟩, Ev.step (f := fun k => sj0 k true x y) (fun k => ?_) (sj0_t x y)⟩
              simp only [sameF, node_Same.f]
              rw [if_pos c0, if_pos c1, if_neg (by rw [ne23]; exact fun h => h c2), if_neg (by rw [ne25]; exact fun h => h c3), if_pos (by rw [ne25]; exact c4)]
          · refine ⟨false, ⟨fun h => absurd h Bool.false_ne_true, fun h => absurd (congrArg (fun z : N => z.f3) h) c3⟩, Ev.step (f := fun k => sj0 k true x y) (fun k => ?_) (sj0_t x y)⟩
            simp only [sameF, node_Same.f]
            rw [if_pos c0, if_pos c1, if_neg (by rw [ne23]; exact fun h => h c2), if_pos (by rw [ne25]; exact c3)]
        · refine ⟨false, ⟨fun h => absurd h Bool.false_ne_true, fun h => absurd (congrArg (fun z : N => z.f2) h) c2⟩, Ev.step (f := fun k => sj0 k true x y) (fun k => ?_) (sj0_t x y)⟩
          simp only [sameF, node_Same.f]
          rw [if_pos c0, if_pos c1, if_pos (by rw [ne23]; exact c2)]
      · refine ⟨false, ⟨fun h => absurd h Bool.false_ne_true, fun h => absurd (congrArg (fun z : N => z.f1) h) c1⟩, Ev.step (f := fun k => sj0 k true x y) (fun k => ?_) (sj0_t x y)⟩
        simp only [sameF, node_Same.f]
        rw [if_pos c0, if_neg c1]
    · refine ⟨false, ⟨fun h => absurd h Bool.false_ne_true, fun h => absurd (congrArg (fun z : N => z.f0) h) c0⟩, Ev.step (f := fun k => sj0 k true x y) (fun k => ?_) (sj0_t x y)⟩
      simp only [sameF, node_Same.f]
      rw [if_neg c0]
theorem hd_iff {x y : N} : hd x = hd y ↔ x.f0 = y.f0 ∧ x.f1 = y.f1 ∧ x.f2 = y.f2 ∧ x.f3 = y.f3 ∧ x.f4 = y.f4 ∧ x.f5.length = y.f5.length := by
  unfold hd
  simp only [Prod.mk.injEq]
theorem rsame_l0 (L M : List N) (hL : L.length ≤ 200) (hLM : L.length = M.length) : ∀ (d i : Nat), i + d = L.length → ∃ b : Bool, (b = true ↔ (L.drop i).map hd = (M.drop i).map hd) ∧ Ev (fun k => oculusref22_Same.l0 k L M (i : Int)) b := by
  intro d
  induction d with
  | zero =>
    intro i hi
    refine ⟨true, ?_, Ev.step (f := fun _ => some true) (fun k => ?_) (Ev.now _)⟩
    · rw [List.drop_of_length_le (by omega), List.drop_of_length_le (by omega)]
      simp
    · simp only [oculusref22_Same.l0]
      rw [if_neg (by omega)]
  | succ d ihd =>
    intro i hi
    have hil : i < L.length := by omega
    have hjl : i < M.length := by omega
    obtain ⟨b2, h2, e2⟩ := ihd (i + 1) (by omega)
    have hno : ¬ hd L[i] = hd M[i] → (false = true ↔ (L.drop i).map hd = (M.drop i).map hd) := by
      intro h
      rw [drop_at hil, drop_at hjl, List.map_cons, List.map_cons, List.cons.injEq]
      exact ⟨fun h => absurd h Bool.false_ne_true, fun h' => absurd h'.1 h⟩
    by_cases c0 : L[i].f0 = M[i].f0
    · by_cases c1 : L[i].f1 = M[i].f1
      · by_cases c2 : L[i].f2 = M[i].f2
        · by_cases c3 : L[i].f3 = M[i].f3
          · by_cases c4 : L[i].f4 = M[i].f4
            · by_cases c5 : L[i].f5.length = M[i].f5.length
              · refine ⟨b2, ?_, Ev.step (f := fun k => oculusref22_Same.l0 k L M ((i + 1 : Nat) : Int)) (fun k => ?_) e2⟩
                · rw [h2, drop_at hil, drop_at hjl, List.map_cons, List.map_cons, List.cons.injEq]
                  exact ⟨fun h => ⟨hd_iff.2 ⟨c0, c1, c2, c3, c4, c5⟩, h⟩, fun h => h.2⟩
                · simp only [oculusref22_Same.l0]
                  rw [if_pos (by omega), if_pos (by omega), if_pos (by omega), rdN L i hil, rdN M i hjl, if_pos c0, if_pos c1, if_neg (by rw [ne23]; exact fun h => h c2), if_neg (by rw [ne25]; exact fun h => h c3), if_neg (by rw [ne25]; exact fun h => h c4), if_pos (by omega), w64s (n := L.length) hil (by omega)]
              · refine ⟨false, hno (fun h => c5 (hd_iff.1 h).2.2.2.2.2), Ev.step (f := fun _ => some false) (fun k => ?_) (Ev.now _)⟩
                simp only [oculusref22_Same.l0]
                rw [if_pos (by omega), if_pos (by omega), if_pos (by omega), rdN L i hil, rdN M i hjl, if_pos c0, if_pos c1, if_neg (by rw [ne23]; exact fun h => h c2), if_neg (by rw [ne25]; exact fun h => h c3), if_neg (by rw [ne25]; exact fun h => h c4), if_neg (by omega)]
            · refine ⟨false, hno (fun h => c4 (hd_iff.1 h).2.2.2.2.1), Ev.step (f := fun _ => some false) (fun k => ?_) (Ev.now _)⟩
              simp only [oculusref22_Same.l0]
              rw [if_pos (by omega), if_pos (by omega), if_pos (by omega), rdN L i hil, rdN M i hjl, if_pos c0, if_pos c1, if_neg (by rw [ne23]; exact fun h => h c2), if_neg (by rw [ne25]; exact fun h => h c3), if_pos (by rw [ne25]; exact c4)]
          · refine ⟨false, hno (fun h => c3 (hd_iff.1 h).2.2.2.1), Ev.step (f := fun _ => some false) (fun k => ?_) (Ev.now _)⟩
            simp only [oculusref22_Same.l0]
            rw [if_pos (by omega), if_pos (by omega), if_pos (by omega), rdN L i hil, rdN M i hjl, if_pos c0, if_pos c1, if_neg (by rw [ne23]; exact fun h => h c2), if_pos (by rw [ne25]; exact c3)]
        · refine ⟨false, hno (fun h => c2 (hd_iff.1 h).2.2.1), Ev.step (f := fun _ => some false) (fun k => ?_) (Ev.now _)⟩
          simp only [oculusref22_Same.l0]
          rw [if_pos (by omega), if_pos (by omega), if_pos (by omega), rdN L i hil, rdN M i hjl, if_pos c0, if_pos c1, if_pos (by rw [ne23]; exact c2)]
      · refine ⟨false, hno (fun h => c1 (hd_iff.1 h).2.1), Ev.step (f := fun _ => some false) (fun k => ?_) (Ev.now _)⟩
        simp only [oculusref22_Same.l0]
        rw [if_pos (by omega), if_pos (by omega), if_pos (by omega), rdN L i hil, rdN M i hjl, if_pos c0, if_neg c1]
    · refine ⟨false, hno (fun h => c0 (hd_iff.1 h).1), Ev.step (f := fun _ => some false) (fun k => ?_) (Ev.now _)⟩
      simp only [oculusref22_Same.l0]
      rw [if_pos (by omega), if_pos (by omega), if_pos (by omega), rdN L i hil, rdN M i hjl, if_neg c0]
theorem rsame_ev (x y : N) (hx : (lst x).length ≤ 200) (hy : (lst y).length ≤ 200) : ∃ b : Bool, (b = true ↔ x = y) ∧ Ev (fun k => rsameF k x y) b := by
  by_cases hl : (lst x).length = (lst y).length
  · obtain ⟨b, hb, e⟩ := rsame_l0 (lst x) (lst y) hx hl (lst x).length 0 (by omega)
    rw [List.drop_zero, List.drop_zero, same_iff] at hb
    refine ⟨b, hb, ?_⟩
    unfold rsameF oculusref22_Same.f
    exact ev_bind (nrlist_ev x hx) (ev_bind (nrlist_ev y hy) (ev_pos (by omega) e))
  · refine ⟨false, ⟨fun h => absurd h Bool.false_ne_true, fun h => absurd (by rw [h]) hl⟩, ?_⟩
    unfold rsameF oculusref22_Same.f
    exact ev_bind (nrlist_ev x hx) (ev_bind (nrlist_ev y hy) (ev_neg (by omega) (Ev.now _)))
end Go.Proofs.YtdddhabemdbooaaDoor.X
/- The pure statement of NodeSame: when two trees are the same is as the document says. -/
set_option linter.unusedVariables false
set_option linter.unusedSimpArgs false
namespace Go.Proofs.YtdddhabemdbooaaDoor.X
open Go.RowKit Go.Proofs.YtdddhabemdbooaaDoorW.PrintWords Go.Proofs.YtdddhabemdbooaaDoorW.PrintLast Go.Proofs.YtdddhabemdbooaaDoorW.PrintMore
theorem fin1_of {x : N} (h : good28 x) : Fin1 x := by
  induction h with
  | mk x h0 h1 h2 h3 h4 h5 h6 ih =>
    refine Fin1.mk x ?_ ih
    have : reachBytes ≤ 281474976710656 := by decide
    omega
abbrev lj0 (k : Nat) (b : Bool) (x y : N) := oculuslaw22_NodeSame.j0 k b x.f0 x.f1 x.f2.f0 x.f2.f1 x.f2.f2 x.f3.f0 x.f3.f1 x.f3.f2 x.f3.f3 x.f4.f0 x.f4.f1 x.f4.f2 x.f4.f3 x.f5 y.f0 y.f1 y.f2.f0 y.f2.f1 y.f2.f2 y.f3.f0 y.f3.f1 y.f3.f2 y.f3.f3 y.f4.f0 y.f4.f1 y.f4.f2 y.f4.f3 y.f5
theorem lj0_t (x y : N) : Ev (fun k => lj0 k true x y) true :=
  Ev.step (f := fun k => (oculuslaw22_alive.f k).bind fun t => some t) (fun k => by simp only [lj0, oculuslaw22_NodeSame.j0, if_true]) (ev_bind alive22_ev (Ev.now _))
end Go.Proofs.YtdddhabemdbooaaDoor.X
namespace Go.Proofs.YtdddhabemdbooaaDoor.Pure
open Go.RowKit Go.Proofs.YtdddhabemdbooaaDoor.X Go.Proofs.YtdddhabemdbooaaDoorW.PrintWords Go.Proofs.YtdddhabemdbooaaDoorW.PrintLast Go.Proofs.YtdddhabemdbooaaDoorW.PrintMore
theorem NodeSame : oculuslaw22_NodeSame.PureX := by
  intro x y gx gy
  apply Ev.rounds
  unfold oculuslaw22_NodeSame.f
  refine ev_bind (few_ev (fin1_of gx)) ?_
  by_cases hx : (lst x).length ≤ 200
  · refine ev_pos (decide_eq_true hx) (ev_bind (few_ev (fin1_of gy)) ?_)
    by_cases hy : (lst y).length ≤ 200
    · rw [decide_eq_true hy]
      obtain ⟨b, hb, e⟩ := same_ev x hx y
      obtain ⟨c, hc, f⟩ := rsame_ev x y hx hy
      obtain ⟨b1, hb1, e1⟩ := same_ev x hx x
      obtain ⟨b2, hb2, e2⟩ := same_ev y hy x
      obtain rfl : b1 = true := hb1.2 rfl
      obtain rfl : c = b := by rw [Bool.eq_iff_iff, hb, hc]
      obtain rfl : b2 = c := by rw [Bool.eq_iff_iff, hb, hb2]; exact eq_comm
      refine Ev.step (fun k => oculuslaw22_NodeSame.j0.eq_2 ..) (ev_neg (by decide) ?_)
      refine ev_bind e (ev_bind f (ev_pos (by simp) (ev_bind e1 (ev_pos rfl (ev_bind e2 (ev_pos (by simp) ?_))))))
      refine ev_ite (fun h => ?_) (fun h => ev_bind alive22_ev (Ev.now _))
      have hxy := hb.1 h
      exact ev_bind (count_ev x hx) (ev_bind (count_ev y hy) (ev_pos (by rw [hxy]) (ev_bind alive22_ev (Ev.now _))))
    · rw [decide_eq_false hy]
      exact lj0_t x y
  · exact ev_neg (by simp [hx]) (lj0_t x y)
end Go.Proofs.YtdddhabemdbooaaDoor.Pure
/- The row of the law NodeSame: for every input the call returns true and each argument reads afterwards as before, out of its pure statement and the contract of its function. Conditions: none beyond the given statement. -/
namespace Go.Proofs.YtdddhabemdbooaaDoor.nodeSame
open Go.ChangeShapes Go.WideShapes Go.ChangeAt Go.RowKit
open Go.ChangeMaps (open_string shut_string)
open Go.Proofs.YtdddhabemdbooaaDoor.Opn Go.Proofs.YtdddhabemdbooaaDoor.X
open Go.Proofs.YtdddhabemdbooaaDoorW.PrintWords (Kd Drawn0)
set_option linter.unusedVariables false
set_option maxRecDepth 100000
theorem own : ownKnob Tryd.prog.godebug = none := by kernel_rfl
theorem laidOut : laidOutB Tryd.prog = true := by kernel_rfl
theorem tab_vars {P : Program} {W : World} {name : String} {k : IntKind} {zs : List Int} {g : Nat} {t e : TypeId} {n : Nat}
    (hg : P.globalNamed name = some g) (hty : (P.globals[g]?).map (·.type) = some t) (ht : P.underlying t = some (.array n e)) (he : P.underlying e = some (.int k)) (hce : P.cellsOf e = 1) (hct : P.cellsOf t = n) :
    ∀ (l : List (String × DataW Unit)) (ps : List MemPlace), DataW.LaidVars P W l ps → (name, Lib.tabData k zs) ∈ l → Lib.TabIs P W name k zs
  | [], _, _, hm => by simp at hm
  | (nm, d) :: rest, ps, h, hm => by
    obtain ⟨g', t', cs, fuel, p, q, hg', ht', hvar, hd, hr, _⟩ := h
    rcases List.mem_cons.1 hm with e0 | hm
    · cases e0
      obtain rfl := Option.some.inj (hg.symm.trans hg')
      obtain rfl := Option.some.inj (hty.symm.trans ht')
      unfold Lib.TabIs
      rw [hvar, ← Lib.cells_of_tab ht he hce hct hd]
    · exact tab_vars hg hty ht he hce hct rest q hr hm
theorem e_pow : (Rows.laid_internal_strconv_uint64pow10 : DataW Unit) = Lib.tabData .u64 Lib.pow10Tab := by kernel_rfl
theorem e_bru : (Rows.laid_math_bits_deBruijn64tab : DataW Unit) = Lib.tabData .u8 bru64 := by kernel_rfl
theorem tab_of_laid {W : World} (h : laidMet Tryd.prog Rows.nodeSameRow.laid W) : Tab W := by
  obtain ⟨ps, hv, _⟩ := h
  have m_pow : (("internal/strconv.uint64pow10", (Rows.laid_internal_strconv_uint64pow10 : DataW Unit)) : String × DataW Unit) ∈ Rows.nodeSameRow.laid := List.mem_cons_of_mem _ (List.mem_cons_of_mem _ (List.mem_cons_self))
  rw [e_pow] at m_pow
  have h_pow : Lib.TabIs Tryd.prog W "internal/strconv.uint64pow10" .u64 Lib.pow10Tab := tab_vars (g := 1) (t := 99) (e := 47) (n := 20) (by kernel_rfl) (by kernel_rfl) Tryd.underlying99 Tryd.underlying47 (by kernel_rfl) (by kernel_rfl) _ ps hv m_pow
  have m_bru : (("math/bits.deBruijn64tab", (Rows.laid_math_bits_deBruijn64tab : DataW Unit)) : String × DataW Unit) ∈ Rows.nodeSameRow.laid := List.mem_cons_of_mem _ (List.mem_cons_self)
  rw [e_bru] at m_bru
  have h_bru : Lib.TabIs Tryd.prog W "math/bits.deBruijn64tab" .u8 bru64 := tab_vars (g := 3) (t := 108) (e := 5) (n := 64) (by kernel_rfl) (by kernel_rfl) Tryd.underlying108 Tryd.underlying5 (by kernel_rfl) (by kernel_rfl) _ ps hv m_bru
  exact ⟨h_pow, h_bru⟩
noncomputable def laidWorld (os : Os) : World :=
  { World.holding Tryd.prog os ⟨#[], #[], []⟩ with heap := ((((((World.holding Tryd.prog os ⟨#[], #[], []⟩).heap.modify 2 (fun | .cells _ t fr => .cells #[.int .u8 0, .int .u8 1, .int .u8 28, .int .u8 2, .int .u8 29, .int .u8 14, .int .u8 24, .int .u8 3, .int .u8 30, .int .u8 22, .int .u8 20, .int .u8 15, .int .u8 25, .int .u8 17, .int .u8 4, .int .u8 8, .int .u8 31, .int .u8 27, .int .u8 13, .int .u8 23, .int .u8 21, .int .u8 19, .int .u8 16, .int .u8 7, .int .u8 26, .int .u8 12, .int .u8 18, .int .u8 6, .int .u8 11, .int .u8 5, .int .u8 10, .int .u8 9] t fr | o => o)).modify 3 (fun | .cells _ t fr => .cells #[.int .u8 0, .int .u8 1, .int .u8 56, .int .u8 2, .int .u8 57, .int .u8 49, .int .u8 28, .int .u8 3, .int .u8 61, .int .u8 58, .int .u8 42, .int .u8 50, .int .u8 38, .int .u8 29, .int .u8 17, .int .u8 4, .int .u8 62, .int .u8 47, .int .u8 59, .int .u8 36, .int .u8 45, .int .u8 43, .int .u8 51, .int .u8 22, .int .u8 53, .int .u8 39, .int .u8 33, .int .u8 30, .int .u8 24, .int .u8 18, .int .u8 12, .int .u8 5, .int .u8 63, .int .u8 55, .int .u8 48, .int .u8 27, .int .u8 60, .int .u8 41, .int .u8 37, .int .u8 16, .int .u8 46, .int .u8 35, .int .u8 44, .int .u8 21, .int .u8 52, .int .u8 32, .int .u8 23, .int .u8 11, .int .u8 54, .int .u8 26, .int .u8 40, .int .u8 15, .int .u8 34, .int .u8 20, .int .u8 31, .int .u8 10, .int .u8 25, .int .u8 14, .int .u8 19, .int .u8 9, .int .u8 13, .int .u8 8, .int .u8 7, .int .u8 6] t fr | o => o)).modify 1 (fun | .cells _ t fr => .cells #[.int .u64 1, .int .u64 10, .int .u64 100, .int .u64 1000, .int .u64 10000, .int .u64 100000, .int .u64 1000000, .int .u64 10000000, .int .u64 100000000, .int .u64 1000000000, .int .u64 10000000000, .int .u64 100000000000, .int .u64 1000000000000, .int .u64 10000000000000, .int .u64 100000000000000, .int .u64 1000000000000000, .int .u64 10000000000000000, .int .u64 100000000000000000, .int .u64 1000000000000000000, .int .u64 10000000000000000000] t fr | o => o)).modify 5 (fun | .cells _ t fr => .cells #[.int .u8 128, .int .u8 191, .int .u8 160, .int .u8 191, .int .u8 128, .int .u8 159, .int .u8 144, .int .u8 191, .int .u8 128, .int .u8 143, .int .u8 0, .int .u8 0, .int .u8 0, .int .u8 0, .int .u8 0, .int .u8 0, .int .u8 0, .int .u8 0, .int .u8 0, .int .u8 0, .int .u8 0, .int .u8 0, .int .u8 0, .int .u8 0, .int .u8 0, .int .u8 0, .int .u8 0, .int .u8 0, .int .u8 0, .int .u8 0, .int .u8 0, .int .u8 0] t fr | o => o)).modify 4 (fun | .cells _ t fr => .cells #[.int .u8 240, .int .u8 240, .int .u8 240, .int .u8 240, .int .u8 240, .int .u8 240, .int .u8 240, .int .u8 240, .int .u8 240, .int .u8 240, .int .u8 240, .int .u8 240, .int .u8 240, .int .u8 240, .int .u8 240, .int .u8 240, .int .u8 240, .int .u8 240, .int .u8 240, .int .u8 240, .int .u8 240, .int .u8 240, .int .u8 240, .int .u8 240, .int .u8 240, .int .u8 240, .int .u8 240, .int .u8 240, .int .u8 240, .int .u8 240, .int .u8 240, .int .u8 240, .int .u8 240, .int .u8 240, .int .u8 240, .int .u8 240, .int .u8 240, .int .u8 240, .int .u8 240, .int .u8 240, .int .u8 240, .int .u8 240, .int .u8 240, .int .u8 240, .int .u8 240, .int .u8 240, .int .u8 240, .int .u8 240, .int .u8 240, .int .u8 240, .int .u8 240, .int .u8 240, .int .u8 240, .int .u8 240, .int .u8 240, .int .u8 240, .int .u8 240, .int .u8 240, .int .u8 240, .int .u8 240, .int .u8 240, .int .u8 240, .int .u8 240, .int .u8 240, .int .u8 240, .int .u8 240, .int .u8 240, .int .u8 240, .int .u8 240, .int .u8 240, .int .u8 240, .int .u8 240, .int .u8 240, .int .u8 240, .int .u8 240, .int .u8 240, .int .u8 240, .int .u8 240, .int .u8 240, .int .u8 240, .int .u8 240, .int .u8 240, .int .u8 240, .int .u8 240, .int .u8 240, .int .u8 240, .int .u8 240, .int .u8 240, .int .u8 240, .int .u8 240, .int .u8 240, .int .u8 240, .int .u8 240, .int .u8 240, .int .u8 240, .int .u8 240, .int .u8 240, .int .u8 240, .int .u8 240, .int .u8 240, .int .u8 240, .int .u8 240, .int .u8 240, .int .u8 240, .int .u8 240, .int .u8 240, .int .u8 240, .int .u8 240, .int .u8 240, .int .u8 240, .int .u8 240, .int .u8 240, .int .u8 240, .int .u8 240, .int .u8 240, .int .u8 240, .int .u8 240, .int .u8 240, .int .u8 240, .int .u8 240, .int .u8 240, .int .u8 240, .int .u8 240, .int .u8 240, .int .u8 240, .int .u8 240, .int .u8 240, .int .u8 240, .int .u8 241, .int .u8 241, .int .u8 241, .int .u8 241, .int .u8 241, .int .u8 241, .int .u8 241, .int .u8 241, .int .u8 241, .int .u8 241, .int .u8 241, .int .u8 241, .int .u8 241, .int .u8 241, .int .u8 241, .int .u8 241, .int .u8 241, .int .u8 241, .int .u8 241, .int .u8 241, .int .u8 241, .int .u8 241, .int .u8 241, .int .u8 241, .int .u8 241, .int .u8 241, .int .u8 241, .int .u8 241, .int .u8 241, .int .u8 241, .int .u8 241, .int .u8 241, .int .u8 241, .int .u8 241, .int .u8 241, .int .u8 241, .int .u8 241, .int .u8 241, .int .u8 241, .int .u8 241, .int .u8 241, .int .u8 241, .int .u8 241, .int .u8 241, .int .u8 241, .int .u8 241, .int .u8 241, .int .u8 241, .int .u8 241, .int .u8 241, .int .u8 241, .int .u8 241, .int .u8 241, .int .u8 241, .int .u8 241, .int .u8 241, .int .u8 241, .int .u8 241, .int .u8 241, .int .u8 241, .int .u8 241, .int .u8 241, .int .u8 241, .int .u8 241, .int .u8 241, .int .u8 241, .int .u8 2, .int .u8 2, .int .u8 2, .int .u8 2, .int .u8 2, .int .u8 2, .int .u8 2, .int .u8 2, .int .u8 2, .int .u8 2, .int .u8 2, .int .u8 2, .int .u8 2, .int .u8 2, .int .u8 2, .int .u8 2, .int .u8 2, .int .u8 2, .int .u8 2, .int .u8 2, .int .u8 2, .int .u8 2, .int .u8 2, .int .u8 2, .int .u8 2, .int .u8 2, .int .u8 2, .int .u8 2, .int .u8 2, .int .u8 2, .int .u8 19, .int .u8 3, .int .u8 3, .int .u8 3, .int .u8 3, .int .u8 3, .int .u8 3, .int .u8 3, .int .u8 3, .int .u8 3, .int .u8 3, .int .u8 3, .int .u8 3, .int .u8 35, .int .u8 3, .int .u8 3, .int .u8 52, .int .u8 4, .int .u8 4, .int .u8 4, .int .u8 68, .int .u8 241, .int .u8 241, .int .u8 241, .int .u8 241, .int .u8 241, .int .u8 241, .int .u8 241, .int .u8 241, .int .u8 241, .int .u8 241, .int .u8 241] t fr | o => o)) }
theorem laidWorld_met (os : Os) (args : Array Value) : laidMet Tryd.prog Rows.nodeSameRow.laid ((laidWorld os).forCall (fun _ _ => 0) ⟨#[], args, []⟩).memory := laidMet_of_run' 8 (by kernel_rfl) (by kernel_rfl)
set_option maxRecDepth 100000 in
set_option maxHeartbeats 1000000 in
theorem lifted (os : Os) (started : os.Started) (H : Type) (enc : TypeId × Value → H) :
    ReturnsInHanded {} Tryd.checked os 5 .any (fun w args => (Rows.nodeSameSpec.pre enc Tryd.prog Tryd.f5 Rows.nodeSameRow.domain false w args ∧ laidMet Tryd.prog Rows.nodeSameRow.laid w) ∧ sizedMet enc Tryd.prog Tryd.f5 (OpenSpec.ofChange Rows.nodeSameSpec) false w args) (Rows.nodeSameSpec.post enc Tryd.prog Tryd.f5 false true false false) := by
  refine returnsInHanded_of_change_and (C := Tryd.checked) (X := fun w _ => laidMet Tryd.prog Rows.nodeSameRow.laid w) (fun _ _ _ hh h => h.of_heap hh) own started (by kernel_rfl) Tryd.func5
    (ChangeSpec.witness_at (enc := enc) (C := Tryd.checked) (os := os) (X := fun w _ => laidMet Tryd.prog Rows.nodeSameRow.laid w) false (laidWorld os) #[.agg #[.int .i64 0, .int .i64 0, .int .i64 0, .int .i64 0, .string ByteArray.empty, .int .i64 0, .int .i64 0, .bool false, .bool false, .int .i64 0, .int .i64 0, .bool false, .bool false, .slice none 0 0], .agg #[.int .i64 0, .int .i64 0, .int .i64 0, .int .i64 0, .string ByteArray.empty, .int .i64 0, .int .i64 0, .bool false, .bool false, .int .i64 0, .int .i64 0, .bool false, .bool false, .slice none 0 0]] 8 rfl (by kernel_rfl) (by kernel_rfl) (by kernel_rfl) (by kernel_rfl) (by kernel_rfl) (laidWorld_met os _)) ?_
  intro W base args ds gs before hval0 hW hcnd hsz0 hL _
  have hsz : (DataW.weightsEach Tryd.prog (Tryd.f5.params.toList ++ Rows.nodeSameSpec.plain.varTypes Tryd.prog) (ds ++ gs)).all (· ≤ reachBytes) = true := hsz0
  have hval : ∀ (j : Nat) t v, Tryd.f5.params[j]? = some t → args[j]? = some v → Value.okWide Tryd.prog W .any base t v := hval0
  have hW' := hW
  obtain ⟨p, q, hA0, hV, rfl, hfz, hnd⟩ := hW
  have hA : DataW.TrodAll enc Tryd.prog W 0 (fun _ => true) true Tryd.f5.params.toList args.toList ds p := hA0
  rw [Tryd.params5] at hA hval hsz
  obtain ⟨v0, vs0, d0, ds0, p0, q0, hargs, rfl, rfl, h0, r0⟩ := trodAll_cons hA
  obtain ⟨v1, vs1, d1, ds1, p1, q1, rfl, rfl, rfl, h1, r1⟩ := trodAll_cons r0
  obtain ⟨rfl, rfl, rfl⟩ := trodAll_nil r1
  obtain rfl : args = #[v0, v1] := by cases args; simp_all
  obtain ⟨rfl, rfl⟩ := trodVars_none hV
  have lt0 : ∀ x ∈ p0, x.block < W.heap.size := by obtain ⟨m, hm⟩ := h0; exact DataW.trod_lt m _ _ _ hm
  have hw0 : ∀ m ∈ d0.weights Tryd.prog 28, m ≤ reachBytes := fun m hm => of_decide_eq_true (List.all_eq_true.1 hsz m (DataW.weights_mem_each (j := 0) (t := 28) rfl rfl m hm))
  obtain ⟨a0, K0, g0⟩ : ∃ a, (k28 : Kd S28).K W a v0.cells.toList ∧ (good28 a) := by
    obtain ⟨fuel, hf⟩ := h0
    exact opens28 hf hw0
  obtain ⟨cs0, rfl, _⟩ := okWide_struct Tryd.underlying28 (hval 0 28 v0 rfl rfl)
  have KO0 := k28_open K0
  obtain ⟨A0_0, c0_0, KE0, hc0_0, C0_0⟩ := KO0
  obtain rfl : cs0 = #[.int .i64 a0.f0, .int .i64 a0.f1, .int .i64 a0.f2.f0, .int .i64 a0.f2.f1, .string a0.f2.f2, .int .i64 a0.f3.f0, .int .i64 a0.f3.f1, .bool a0.f3.f2, .bool a0.f3.f3, .int .i64 a0.f4.f0, .int .i64 a0.f4.f1, .bool a0.f4.f2, .bool a0.f4.f3, .slice A0_0 (a0.f5).length c0_0] := by
    have : cs0.toList = _ := KE0
    cases cs0; simp_all
  have lt1 : ∀ x ∈ p1, x.block < W.heap.size := by obtain ⟨m, hm⟩ := h1; exact DataW.trod_lt m _ _ _ hm
  have hw1 : ∀ m ∈ d1.weights Tryd.prog 28, m ≤ reachBytes := fun m hm => of_decide_eq_true (List.all_eq_true.1 hsz m (DataW.weights_mem_each (j := 1) (t := 28) rfl rfl m hm))
  obtain ⟨a1, K1, g1⟩ : ∃ a, (k28 : Kd S28).K W a v1.cells.toList ∧ (good28 a) := by
    obtain ⟨fuel, hf⟩ := h1
    exact opens28 hf hw1
  obtain ⟨cs1, rfl, _⟩ := okWide_struct Tryd.underlying28 (hval 1 28 v1 rfl rfl)
  have KO1 := k28_open K1
  obtain ⟨A1_0, c1_0, KE1, hc1_0, C1_0⟩ := KO1
  obtain rfl : cs1 = #[.int .i64 a1.f0, .int .i64 a1.f1, .int .i64 a1.f2.f0, .int .i64 a1.f2.f1, .string a1.f2.f2, .int .i64 a1.f3.f0, .int .i64 a1.f3.f1, .bool a1.f3.f2, .bool a1.f3.f3, .int .i64 a1.f4.f0, .int .i64 a1.f4.f1, .bool a1.f4.f2, .bool a1.f4.f3, .slice A1_0 (a1.f5).length c1_0] := by
    have : cs1.toList = _ := KE1
    cases cs1; simp_all
  obtain ⟨k, hk⟩ := Pure.NodeSame a0 a1 g0 g1
  clear hA0 hval0 hsz0 hsz
  refine (oculuslaw22_NodeSame.calls k (a0.f0) (a0.f1) (a0.f2.f0) (a0.f2.f1) (a0.f2.f2) (a0.f3.f0) (a0.f3.f1) (a0.f3.f2) (a0.f3.f3) (a0.f4.f0) (a0.f4.f1) (a0.f4.f2) (a0.f4.f3) A0_0 c0_0 (a0.f5) (a1.f0) (a1.f1) (a1.f2.f0) (a1.f2.f1) (a1.f2.f2) (a1.f3.f0) (a1.f3.f1) (a1.f3.f2) (a1.f3.f3) (a1.f4.f0) (a1.f4.f1) (a1.f4.f2) (a1.f4.f3) A1_0 c1_0 (a1.f5) true W ⟨tab_of_laid hL⟩ C0_0 hc0_0 C1_0 hc1_0 hk).mono fun e W' ⟨he, bel0⟩ => ?_
  have bel : Below W.heap.size W W' := bel0
  subst he
  exact ⟨_, rfl, _, _, _, [], _, [], hW', trodAll_mk1 (shut_bool Tryd.underlying4 _), (trodAll_cons_mk (Below.trod laidOut (by kernel_rfl) (of_decide_eq_true (by kernel_rfl)) h0 bel lt0) (trodAll_cons_mk (Below.trod laidOut (by kernel_rfl) (of_decide_eq_true (by kernel_rfl)) h1 bel lt1) trodAll_mk0)), rfl, bel.frame _, fun h => by cases h⟩
theorem over : Rows.nodeSameRow.holds Tryd.pinned (OpenSpec.ofChange Rows.nodeSameSpec) :=
  OpenClaim.holds_of_wide 5 Tryd.f5 rfl rfl rfl rfl rfl rfl rfl ⟨rfl, rfl, rfl, rfl, rfl⟩ rfl rfl rfl rfl rfl (by kernel_rfl) Tryd.func5 (by kernel_rfl)
    (of_decide_eq_true (by kernel_rfl)) (by unfold Func.isWrapper; first | (rw [if_pos (by decide +kernel)]; kernel_rfl) | (rw [if_neg (by decide +kernel)]; exact ⟨rfl, rfl⟩))
    (fun os started H enc _ => lifted os started H enc)
theorem proved : Rows.NodeSameCardSaid :=
  Claim7.holds_tied_plain_at .later [] [.data, .data, .data, .data, .pinned] true (true, "31356eab8e7111e0eb49f97ca1bccb1d916a58e4287131ccde06c48b564e9e95") false
    over (fun _ h => by cases h) (by kernel_rfl) (fun _ h => by cases h) nodeSame_row_tie rfl ⟨rfl, rfl⟩ (by kernel_rfl) rfl
    (fun f fn hf hfn => by
      obtain rfl : f = 5 := Option.some.inj ((show Tryd.prog.funcNamed "oculus/oculuslaw22.NodeSame" = some 5 by kernel_rfl).symm.trans hf) |>.symm
      obtain rfl : fn = Tryd.f5 := (Option.some.inj (Tryd.func5.symm.trans hfn)).symm
      refine ⟨by kernel_rfl, fun j t ht => ?_⟩
      rw [Tryd.params5] at ht
      have hall : ∀ t ∈ #[(28 : TypeId), (28 : TypeId)], Tryd.prog.wantsStandIn t = false := by
        intro t ht
        simp only [List.mem_toArray, List.mem_cons, List.not_mem_nil, or_false] at ht
        rcases ht with rfl | rfl
        · exact (show Tryd.prog.wantsStandIn 28 = false by kernel_rfl)
        · exact (show Tryd.prog.wantsStandIn 28 = false by kernel_rfl)
      exact hall t (Array.mem_of_getElem? ht))
    (by kernel_rfl)
end Go.Proofs.YtdddhabemdbooaaDoor.nodeSame
namespace Go.Proofs.YtdddhabemdbooaaDoor
theorem nodeSame_holds : Rows.NodeSameCardSaid := nodeSame.proved
#print axioms nodeSame_holds
end Go.Proofs.YtdddhabemdbooaaDoor
