/- Contracts of the functions that the law NodeTells reaches, and what they answer (a session's own texts, joined; part 6). -/
import Derived.Deep.QuietTactic
import Derived.BigQuiet
import Derived.Test.YtdddhabemdbooaaDoorBNodeTells5
set_option maxHeartbeats 8000000
set_option maxRecDepth 100000
namespace Go.Proofs.YtdddhabemdbooaaDoor.X
open Go.RowKit Go.Proofs.YtdddhabemdbooaaDoorW.PrintWords Go.Proofs.YtdddhabemdbooaaDoorW.PrintLast Go.Proofs.YtdddhabemdbooaaDoorW.PrintMore
attribute [local go_sem] max2_int min2_int max_two min_two max_three min_three max_four min_four
set_option linter.unusedVariables false
set_option linter.unusedSimpArgs false
attribute [local go_sem high] eqA23 eqA25
mutual
def oculusref22_one.j0 : Nat → Bool → Int → Int → Int → Int → ByteArray → Int → Int → Bool → Bool → Int → Int → Bool → Bool → List (S28) → Int → Int → Bool → Bool → Option (Bool)
 | 0, _, _, _, _, _, _, _, _, _, _, _, _, _, _, _, _, _, _, _ => none
 | k + 1, x4, x102000, x102001, x102002, x102003, x102004, x102005, x102006, x102007, x102008, x102009, x102010, x102011, x102012, x102013, x103000, x103001, x103002, x103003 => if x102000 = 1 then (oculusref22_one.l0 k 0 x102000 x102001 x102002 x102003 x102004 x102005 x102006 x102007 x102008 x102009 x102010 x102011 x102012 x102013 x103000 x103001 x103002 x103003) else (if x102000 = 2 then (if x102001 = 0 then (if x4 = true then (some ((x102013.length : Int) == 0)) else (some false)) else (some false)) else (if x102000 = 3 then (if x102001 = 0 then (if (x102002 == 0 && (x102003 == 0 && (x102004.toList == ([] : List UInt8)))) = true then (if (x102009 == x103000 && (x102010 == x103001 && (x102011 == x103002 && (x102012 == x103003)))) = true then (if (x102013.length : Int) = 0 then ((oculusref22_ref.f x102005 x102006 x102007 x102008).bind fun t105 => (some t105)) else (some false)) else (some false)) else (some false)) else (some false)) else (if x102000 = 4 then (if x102001 = 0 then (if (x102002 == 0 && (x102003 == 0 && (x102004.toList == ([] : List UInt8)))) = true then (if (x102013.length : Int) = 0 then ((oculusref22_ref.f x102005 x102006 x102007 x102008).bind fun t106 => (if t106 = true then ((oculusref22_ref.f x102009 x102010 x102011 x102012).bind fun t107 => (some t107)) else (some false))) else (some false)) else (some false)) else (some false)) else (if x102000 = 5 then (if x102001 = 0 then (if x4 = true then (if (x102013.length : Int) = 1 then (if 0 < (x102013.length : Int) then ((oculusref22_arg.f k 118 ((rd_T28 x102013 0).f0) ((rd_T28 x102013 0).f1) ((rd_T28 x102013 0).f2.f0) ((rd_T28 x102013 0).f2.f1) ((rd_T28 x102013 0).f2.f2) ((rd_T28 x102013 0).f3.f0) ((rd_T28 x102013 0).f3.f1) ((rd_T28 x102013 0).f3.f2) ((rd_T28 x102013 0).f3.f3) ((rd_T28 x102013 0).f4.f0) ((rd_T28 x102013 0).f4.f1) ((rd_T28 x102013 0).f4.f2) ((rd_T28 x102013 0).f4.f3) ((rd_T28 x102013 0).f5)).bind fun t109 => (some t109)) else (none)) else (some false)) else (some false)) else (some false)) else (if x102000 = 6 then (if x102001 ≥ 1 then (if x102001 ≤ 12 then (if x4 = true then (if (x102013.length : Int) = 2 then (if 0 < (x102013.length : Int) then ((oculusref22_arg.f k 118 ((rd_T28 x102013 0).f0) ((rd_T28 x102013 0).f1) ((rd_T28 x102013 0).f2.f0) ((rd_T28 x102013 0).f2.f1) ((rd_T28 x102013 0).f2.f2) ((rd_T28 x102013 0).f3.f0) ((rd_T28 x102013 0).f3.f1) ((rd_T28 x102013 0).f3.f2) ((rd_T28 x102013 0).f3.f3) ((rd_T28 x102013 0).f4.f0) ((rd_T28 x102013 0).f4.f1) ((rd_T28 x102013 0).f4.f2) ((rd_T28 x102013 0).f4.f3) ((rd_T28 x102013 0).f5)).bind fun t111 => (if t111 = true then (if 1 < (x102013.length : Int) then ((oculusref22_arg.f k 118 ((rd_T28 x102013 1).f0) ((rd_T28 x102013 1).f1) ((rd_T28 x102013 1).f2.f0) ((rd_T28 x102013 1).f2.f1) ((rd_T28 x102013 1).f2.f2) ((rd_T28 x102013 1).f3.f0) ((rd_T28 x102013 1).f3.f1) ((rd_T28 x102013 1).f3.f2) ((rd_T28 x102013 1).f3.f3) ((rd_T28 x102013 1).f4.f0) ((rd_T28 x102013 1).f4.f1) ((rd_T28 x102013 1).f4.f2) ((rd_T28 x102013 1).f4.f3) ((rd_T28 x102013 1).f5)).bind fun t113 => (some t113)) else (none)) else (some false))) else (none)) else (some false)) else (some false)) else (some false)) else (some false)) else (if x102000 = 7 then (if x4 = true then ((oculusref19_Fits.f x102001 (x102013.length : Int)).bind fun t114 => (oculusref22_one.j2 k (!t114) x102000 x102001 x102002 x102003 x102004 x102005 x102006 x102007 x102008 x102009 x102010 x102011 x102012 x102013)) else (oculusref22_one.j2 k true x102000 x102001 x102002 x102003 x102004 x102005 x102006 x102007 x102008 x102009 x102010 x102011 x102012 x102013)) else (some false)))))))
def oculusref22_one.l0 : Nat → Int → Int → Int → Int → Int → ByteArray → Int → Int → Bool → Bool → Int → Int → Bool → Bool → List (S28) → Int → Int → Bool → Bool → Option (Bool)
 | 0, _, _, _, _, _, _, _, _, _, _, _, _, _, _, _, _, _, _, _ => none
 | k + 1, x5, x102000, x102001, x102002, x102003, x102004, x102005, x102006, x102007, x102008, x102009, x102010, x102011, x102012, x102013, x103000, x103001, x103002, x103003 => if x5 < (x102004.size : Int) then (if 0 ≤ x5 then ((oculusref21_Plain.f (bt x102004 x5)).bind fun t103 => (if t103 = true then (oculusref22_one.l0 k (wrap64 (x5 + 1)) x102000 x102001 x102002 x102003 x102004 x102005 x102006 x102007 x102008 x102009 x102010 x102011 x102012 x102013 x103000 x103001 x103002 x103003) else (some false))) else (none)) else (if x102001 = 0 then (if (x102005 == x103000 && (x102006 == x103001 && (x102007 == x103002 && (x102008 == x103003)))) = true then (if (x102009 == x103000 && (x102010 == x103001 && (x102011 == x103002 && (x102012 == x103003)))) = true then (if (x102013.length : Int) = 0 then (if x102002 ≥ 1 then (if x102002 ≤ 3 then (if x102003 ≥ 0 then ((oculusref12_May.f x102002 x102003 x102004).bind fun t104 => (some t104)) else (some false)) else (some false)) else (some false)) else (some false)) else (some false)) else (some false)) else (some false))
def oculusref22_one.j2 : Nat → Bool → Int → Int → Int → Int → ByteArray → Int → Int → Bool → Bool → Int → Int → Bool → Bool → List (S28) → Option (Bool)
 | 0, _, _, _, _, _, _, _, _, _, _, _, _, _, _, _ => none
 | k + 1, x222, x102000, x102001, x102002, x102003, x102004, x102005, x102006, x102007, x102008, x102009, x102010, x102011, x102012, x102013 => if x222 = true then (some false) else (oculusref22_one.l1 k 0 x102000 x102001 x102002 x102003 x102004 x102005 x102006 x102007 x102008 x102009 x102010 x102011 x102012 x102013)
def oculusref22_one.l1 : Nat → Int → Int → Int → Int → Int → ByteArray → Int → Int → Bool → Bool → Int → Int → Bool → Bool → List (S28) → Option (Bool)
 | 0, _, _, _, _, _, _, _, _, _, _, _, _, _, _, _ => none
 | k + 1, x6, x102000, x102001, x102002, x102003, x102004, x102005, x102006, x102007, x102008, x102009, x102010, x102011, x102012, x102013 => if x6 < (x102013.length : Int) then ((oculusref19_Kind.f k x102001 x6).bind fun t115 => (if 0 ≤ x6 then ((oculusref22_arg.f k t115 ((rd_T28 x102013 x6).f0) ((rd_T28 x102013 x6).f1) ((rd_T28 x102013 x6).f2.f0) ((rd_T28 x102013 x6).f2.f1) ((rd_T28 x102013 x6).f2.f2) ((rd_T28 x102013 x6).f3.f0) ((rd_T28 x102013 x6).f3.f1) ((rd_T28 x102013 x6).f3.f2) ((rd_T28 x102013 x6).f3.f3) ((rd_T28 x102013 x6).f4.f0) ((rd_T28 x102013 x6).f4.f1) ((rd_T28 x102013 x6).f4.f2) ((rd_T28 x102013 x6).f4.f3) ((rd_T28 x102013 x6).f5)).bind fun t117 => (oculusref22_one.j4 k x6 (!t117) x102000 x102001 x102002 x102003 x102004 x102005 x102006 x102007 x102008 x102009 x102010 x102011 x102012 x102013)) else (none))) else (some true)
def oculusref22_one.j4 : Nat → Int → Bool → Int → Int → Int → Int → ByteArray → Int → Int → Bool → Bool → Int → Int → Bool → Bool → List (S28) → Option (Bool)
 | 0, _, _, _, _, _, _, _, _, _, _, _, _, _, _, _, _ => none
 | k + 1, x6, x240, x102000, x102001, x102002, x102003, x102004, x102005, x102006, x102007, x102008, x102009, x102010, x102011, x102012, x102013 => if x240 = true then (some false) else (oculusref22_one.l1 k (wrap64 (x6 + 1)) x102000 x102001 x102002 x102003 x102004 x102005 x102006 x102007 x102008 x102009 x102010 x102011 x102012 x102013)
end
def oculusref22_one.f (k : Nat) (a0_0 : Int) (a0_1 : Int) (a0_2 : Int) (a0_3 : Int) (a0_4 : ByteArray) (a0_5 : Int) (a0_6 : Int) (a0_7 : Bool) (a0_8 : Bool) (a0_9 : Int) (a0_10 : Int) (a0_11 : Bool) (a0_12 : Bool) (l0_13 : List (S28)) : Option (Bool) := if (a0_2 == 0 && (a0_3 == 0 && (a0_4.toList == ([] : List UInt8)))) = true then (if (a0_5 == 0 && (a0_6 == 0 && (!a0_7 && (!a0_8)))) = true then (oculusref22_one.j0 k (a0_9 == 0 && (a0_10 == 0 && (!a0_11 && (!a0_12)))) a0_0 a0_1 a0_2 a0_3 a0_4 a0_5 a0_6 a0_7 a0_8 a0_9 a0_10 a0_11 a0_12 l0_13 0 0 false false) else (oculusref22_one.j0 k false a0_0 a0_1 a0_2 a0_3 a0_4 a0_5 a0_6 a0_7 a0_8 a0_9 a0_10 a0_11 a0_12 l0_13 0 0 false false)) else (oculusref22_one.j0 k false a0_0 a0_1 a0_2 a0_3 a0_4 a0_5 a0_6 a0_7 a0_8 a0_9 a0_10 a0_11 a0_12 l0_13 0 0 false false)
def oculusref22_one.T27 : Bool × List (List Nat × List Nat) := (true, [([], []), ([0], [0]), ([], []), ([1, 2], [1, 2]), ([], []), ([4], [4]), ([], []), ([5, 6], [5, 6]), ([7], [7]), ([3, 8, 3], [3, 8]), ([9], [9])])
def oculusref22_one.B27 : List Nat := [0, 1, 0, 7, 0, 16, 0, 112, 240, 511, 1023]
theorem oculusref22_one.tab27 : rtab .any (opsOf Tryd.f25 27) = oculusref22_one.T27 := by kernel_rfl
theorem oculusref22_one.bits27 : waitsOk oculusref22_one.T27.2 oculusref22_one.B27 = true := by kernel_rfl
theorem oculusref22_one.calls (k : Nat) (a0_0 : Int) (a0_1 : Int) (a0_2 : Int) (a0_3 : Int) (a0_4 : ByteArray) (a0_5 : Int) (a0_6 : Int) (a0_7 : Bool) (a0_8 : Bool) (a0_9 : Int) (a0_10 : Int) (a0_11 : Bool) (a0_12 : Bool) (A0_13 : Option Addr) (c0_13 : Nat) (l0_13 : List (S28)) (r : Bool) (w : World) (hr0_13 : Kd.C k28 w A0_13 l0_13.length l0_13) (hc0_13 : l0_13.length ≤ c0_13) (h : oculusref22_one.f k a0_0 a0_1 a0_2 a0_3 a0_4 a0_5 a0_6 a0_7 a0_8 a0_9 a0_10 a0_11 a0_12 l0_13 = some r) :
  Calls Tryd.prog 25 #[.agg #[.int .i64 a0_0, .int .i64 a0_1, .int .i64 a0_2, .int .i64 a0_3, .string a0_4, .int .i64 a0_5, .int .i64 a0_6, .bool a0_7, .bool a0_8, .int .i64 a0_9, .int .i64 a0_10, .bool a0_11, .bool a0_12, .slice A0_13 l0_13.length c0_13]] w fun e w' => e = .returned (.bool r) ∧ Below w.heap.size w w' := by
 have hu28 := Tryd.underlying28; have hu25 := Tryd.underlying25; have hu23 := Tryd.underlying23; have HR0_13 := A_ hr0_13; have HC0_13 := A_ hc0_13; clear hr0_13 hc0_13; have HB := A_ (Below.refl w.heap.size w)
 have H : (if (a0_2 == 0 && (a0_3 == 0 && (a0_4.toList == ([] : List UInt8)))) = true then (if (a0_5 == 0 && (a0_6 == 0 && (!a0_7 && (!a0_8)))) = true then (oculusref22_one.j0 k (a0_9 == 0 && (a0_10 == 0 && (!a0_11 && (!a0_12)))) a0_0 a0_1 a0_2 a0_3 a0_4 a0_5 a0_6 a0_7 a0_8 a0_9 a0_10 a0_11 a0_12 l0_13 0 0 false false) else (oculusref22_one.j0 k false a0_0 a0_1 a0_2 a0_3 a0_4 a0_5 a0_6 a0_7 a0_8 a0_9 a0_10 a0_11 a0_12 l0_13 0 0 false false)) else (oculusref22_one.j0 k false a0_0 a0_1 a0_2 a0_3 a0_4 a0_5 a0_6 a0_7 a0_8 a0_9 a0_10 a0_11 a0_12 l0_13 0 0 false false)) = some r := h
 clear h; have HC2 := A_ H; clear H
 go_enter Tryd.func25, Tryd.ntmps25
 go_upto_region 2 with (first | ((with_reducible refine gd_ 1 ?_); (try (refine gate_guard (by rfl) ?_; dsimp only)); refine be_ (N:=1) (cs := #[.int .i64 a0_0, .int .i64 a0_1, .int .i64 a0_2, .int .i64 a0_3, .string a0_4, .int .i64 a0_5, .int .i64 a0_6, .bool a0_7, .bool a0_8, .int .i64 a0_9, .int .i64 a0_10, .bool a0_11, .bool a0_12, .slice A0_13 l0_13.length c0_13]) (t:=28) ?_; intro g1 hg w3 hbox hb; have B1 := A_ (hbox); have GW101 := hs_ HB hg; have GE101 := hs_ HB hg; replace HB := bs_ HB hb; clear hb hbox hg) | ((with_reducible refine gd_ 3 ?_); (try (refine gate_guard (by rfl) ?_; dsimp only)); refine be_ (N:=3) (cs := #[.int .i64 0, .int .i64 0, .bool false, .bool false]) (t:=25) ?_; intro g2 hg w4 hbox hb; have B2 := A_ (hbox); have GW102 := hs_ HB hg; have GE102 := hs_ HB hg; have N12 := hl_ B1 hg; have N21 := hr_ B1 hg; replace B1 := bb_ B1 hb; replace HB := bs_ HB hb; clear hb hbox hg; have hnb5 := N21.out; have hnc5 := N12.out; have ⟨hcz6_0,hcz6_1,hcz6_2,hcz6_3,hfz6_0,hfz6_1,hfz6_2,hfz6_3⟩ := z4_ B2))
 (try simp only [q_])
 go_cut [0, 4] (fun _ v4 wc => ∃ (kq : Nat) (x4_1 : Bool), v4 = .bool x4_1 ∧ Aside0 (oculusref22_one.j0 kq x4_1 a0_0 a0_1 a0_2 a0_3 a0_4 a0_5 a0_6 a0_7 a0_8 a0_9 a0_10 a0_11 a0_12 l0_13 0 0 false false = some r) ∧ Aside0 (kq ≤ k) ∧ Aside0 (wc.heap[g1]? = some (.cells #[.int .i64 a0_0, .int .i64 a0_1, .int .i64 a0_2, .int .i64 a0_3, .string a0_4, .int .i64 a0_5, .int .i64 a0_6, .bool a0_7, .bool a0_8, .int .i64 a0_9, .int .i64 a0_10, .bool a0_11, .bool a0_12, (.slice A0_13 l0_13.length c0_13)] 28 (0, 0))) ∧ Aside0 (wc.heap[g2]? = some (.cells #[.int .i64 0, .int .i64 0, .bool false, .bool false] 25 (0, 0))) ∧ Aside0 (Below w.heap.size w wc))
 case first =>
  have H := HC2.out; clear HC2
  by_cases c7 : (a0_2 == 0 && (a0_3 == 0 && (a0_4.toList == ([] : List UInt8)))) = true
  ·rw [if_pos c7] at H
   have c7b0 : (a0_2 == 0 && (a0_3 == 0 && (a0_4.toList == ([] : List UInt8)))) = true := c7
   (try (have c7p : a0_2 = 0 ∧ a0_3 = 0 ∧ a0_4.toList = ([] : List UInt8) := by simpa using c7b0)); (try (have c7b1 : decide (a0_2 = 0 && (a0_3 == 0 && (a0_4.toList == ([] : List UInt8)))) = true := by simpa using c7)); (try (have c7b2 : (a0_2 == 0 && (a0_3 == 0 && (a0_4.toList == ([] : List UInt8)))) = true := by simpa using c7)); clear c7; (first | rw [c7b0] | (simp only [i64_w, i32_w]; rw [c7b0]) | skip)
   by_cases c8 : (a0_5 == 0 && (a0_6 == 0 && (!a0_7 && (!a0_8)))) = true
   ·rw [if_pos c8] at H
    have c8b0 : (a0_5 == 0 && (a0_6 == 0 && (!a0_7 && (!a0_8)))) = true := c8
    (try (have c8p : a0_5 = 0 ∧ a0_6 = 0 ∧ a0_7 = false ∧ a0_8 = false := by simpa using c8b0)); (try (have c8b1 : decide (a0_5 = 0 && (a0_6 == 0 && (!a0_7 && (!a0_8)))) = true := by simpa using c8)); (try (have c8b2 : (a0_5 == 0 && (a0_6 == 0 && (!a0_7 && (!a0_8)))) = true := by simpa using c8)); clear c8
    have H' := A_ H
    clear H; have hnb9 := N12.out; have hnc9 := N21.out; obtain ⟨⟨hcz10_0, hcz10_1, hcz10_2, hcz10_3, hcz10_4, hcz10_5, hcz10_6, hcz10_7, hcz10_8, hcz10_9, hcz10_10, hcz10_11, hcz10_12, hcz10_13⟩, hfz10_0, hfz10_1, hfz10_2, hfz10_3, hfz10_4, hfz10_5, hfz10_6, hfz10_7, hfz10_8, hfz10_9, hfz10_10, hfz10_11, hfz10_12, hfz10_13⟩ := bk14_ B1.out; obtain ⟨⟨hcz11_0, hcz11_1, hcz11_2, hcz11_3⟩, hfz11_0, hfz11_1, hfz11_2, hfz11_3⟩ := bk4_ B2.out
    go_wp2
    go_meet
    case rel => exact ⟨_, ((a0_9 == 0 && (a0_10 == 0 && (!a0_11 && (!a0_12))))), sq_, H', le_, ⟨by (iterate 4 refine pf_ ?_ N12.out); exact pkx B1⟩, ⟨by refine pp_ (cs := #[.int .i64 0, .int .i64 0, .bool false, .bool false]) 3 ?_ rfl; refine blk_put (cs := #[.int .i64 0, .int .i64 0, .bool false, .bool false]) ?_ 2 _ rfl; refine blk_put (cs := #[.int .i64 0, .int .i64 0, .bool false, .bool false]) ?_ 1 _ rfl; refine blk_put (cs := #[.int .i64 0, .int .i64 0, .bool false, .bool false]) ?_ 0 _ rfl; exact pkx B2⟩, ⟨bl_⟩⟩
   ·rw [if_neg c8] at H
    have c8b0 : (a0_5 == 0 && (a0_6 == 0 && (!a0_7 && (!a0_8)))) = false := by simpa using c8
    (try (have c8p : ¬ (a0_5 = 0 ∧ a0_6 = 0 ∧ a0_7 = false ∧ a0_8 = false) := by simpa using c8b0)); (try (have c8b1 : decide (a0_5 = 0 && (a0_6 == 0 && (!a0_7 && (!a0_8)))) = false := by simpa using c8)); (try (have c8b2 : (a0_5 == 0 && (a0_6 == 0 && (!a0_7 && (!a0_8)))) = false := by simpa using c8)); (try (have c8b3 : ¬ (a0_5 = 0 && (a0_6 == 0 && (!a0_7 && (!a0_8)))) := by simpa using c8)); clear c8
    have H' := A_ H
    clear H; have hnb12 := N12.out; have hnc12 := N21.out; obtain ⟨⟨hcz13_0, hcz13_1, hcz13_2, hcz13_3, hcz13_4, hcz13_5, hcz13_6, hcz13_7, hcz13_8, hcz13_9, hcz13_10, hcz13_11, hcz13_12, hcz13_13⟩, hfz13_0, hfz13_1, hfz13_2, hfz13_3, hfz13_4, hfz13_5, hfz13_6, hfz13_7, hfz13_8, hfz13_9, hfz13_10, hfz13_11, hfz13_12, hfz13_13⟩ := bk14_ B1.out; obtain ⟨⟨hcz14_0, hcz14_1, hcz14_2, hcz14_3⟩, hfz14_0, hfz14_1, hfz14_2, hfz14_3⟩ := bk4_ B2.out
    go_wp2
    go_meet
    case rel => exact ⟨_, (false), sq_, H', le_, ⟨by (iterate 4 refine pf_ ?_ N12.out); exact pkx B1⟩, ⟨by refine pp_ (cs := #[.int .i64 0, .int .i64 0, .bool false, .bool false]) 3 ?_ rfl; refine blk_put (cs := #[.int .i64 0, .int .i64 0, .bool false, .bool false]) ?_ 2 _ rfl; refine blk_put (cs := #[.int .i64 0, .int .i64 0, .bool false, .bool false]) ?_ 1 _ rfl; refine blk_put (cs := #[.int .i64 0, .int .i64 0, .bool false, .bool false]) ?_ 0 _ rfl; exact pkx B2⟩, ⟨bl_⟩⟩
  ·rw [if_neg c7] at H
   have c7b0 : (a0_2 == 0 && (a0_3 == 0 && (a0_4.toList == ([] : List UInt8)))) = false := by simpa using c7
   (try (have c7p : ¬ (a0_2 = 0 ∧ a0_3 = 0 ∧ a0_4.toList = ([] : List UInt8)) := by simpa using c7b0)); (try (have c7b1 : decide (a0_2 = 0 && (a0_3 == 0 && (a0_4.toList == ([] : List UInt8)))) = false := by simpa using c7)); (try (have c7b2 : (a0_2 == 0 && (a0_3 == 0 && (a0_4.toList == ([] : List UInt8)))) = false := by simpa using c7)); (try (have c7b3 : ¬ (a0_2 = 0 && (a0_3 == 0 && (a0_4.toList == ([] : List UInt8)))) := by simpa using c7)); clear c7; (first | rw [c7b0] | (simp only [i64_w, i32_w]; rw [c7b0]) | skip)
   have H' := A_ H
   clear H; have hnb15 := N12.out; have hnc15 := N21.out; obtain ⟨⟨hcz16_0, hcz16_1, hcz16_2, hcz16_3, hcz16_4, hcz16_5, hcz16_6, hcz16_7, hcz16_8, hcz16_9, hcz16_10, hcz16_11, hcz16_12, hcz16_13⟩, hfz16_0, hfz16_1, hfz16_2, hfz16_3, hfz16_4, hfz16_5, hfz16_6, hfz16_7, hfz16_8, hfz16_9, hfz16_10, hfz16_11, hfz16_12, hfz16_13⟩ := bk14_ B1.out
   go_wp2
   go_meet
   case rel => exact ⟨_, (false), sq_, H', le_, ⟨by (iterate 4 refine pf_ ?_ N12.out); exact pkx B1⟩, ⟨by refine pp_ (cs := #[.int .i64 0, .int .i64 0, .bool false, .bool false]) 3 ?_ rfl; refine blk_put (cs := #[.int .i64 0, .int .i64 0, .bool false, .bool false]) ?_ 2 _ rfl; refine blk_put (cs := #[.int .i64 0, .int .i64 0, .bool false, .bool false]) ?_ 1 _ rfl; refine blk_put (cs := #[.int .i64 0, .int .i64 0, .bool false, .bool false]) ?_ 0 _ rfl; exact pkx B2⟩, ⟨bl_⟩⟩
 case rest =>
  clear HC2; (try clear hcz6_0); (try clear hcz6_1); (try clear hcz6_2); (try clear hcz6_3)
  (try clear hfz6_0); (try clear hfz6_1); (try clear hfz6_2); (try clear hfz6_3); obtain ⟨kq, x4_1, rfl, HA, HJ1, B1, B2, HB⟩ := hcut
  cases kq with
  | zero => exact absurd HA.out (by simp [oculusref22_one.j0])
  | succ kj1 =>
   have H := HA.out; clear HA
   simp only [oculusref22_one.j0] at H
   by_cases c17 : a0_0 = 1
   ·rw [if_pos c17] at H; have ⟨c17b0,c17b1⟩ := e1_ c17; clear c17
    have H' := A_ H
    clear H; have hnb18 := N12.out; have hnc18 := N21.out; obtain ⟨⟨hcz19_0, hcz19_1, hcz19_2, hcz19_3, hcz19_4, hcz19_5, hcz19_6, hcz19_7, hcz19_8, hcz19_9, hcz19_10, hcz19_11, hcz19_12, hcz19_13⟩, hfz19_0, hfz19_1, hfz19_2, hfz19_3, hfz19_4, hfz19_5, hfz19_6, hfz19_7, hfz19_8, hfz19_9, hfz19_10, hfz19_11, hfz19_12, hfz19_13⟩ := bk14_ B1.out
    go_wp2
    go_loopg [5] kj1 (fun kq v5 w' => ∃ (x5_2 : Int), v5 = .int .i64 x5_2 ∧ Aside0 (oculusref22_one.l0 kq x5_2 a0_0 a0_1 a0_2 a0_3 a0_4 a0_5 a0_6 a0_7 a0_8 a0_9 a0_10 a0_11 a0_12 l0_13 0 0 false false = some r) ∧ Aside0 (kq ≤ kj1) ∧ Aside0 (w'.heap[g1]? = some (.cells #[.int .i64 a0_0, .int .i64 a0_1, .int .i64 a0_2, .int .i64 a0_3, .string a0_4, .int .i64 a0_5, .int .i64 a0_6, .bool a0_7, .bool a0_8, .int .i64 a0_9, .int .i64 a0_10, .bool a0_11, .bool a0_12, (.slice A0_13 l0_13.length c0_13)] 28 (0, 0))) ∧ Aside0 (w'.heap[g2]? = some (.cells #[.int .i64 0, .int .i64 0, .bool false, .bool false] 25 (0, 0))) ∧ Aside0 (Below w.heap.size w w'))
    case atStart => exact ⟨(0), sq_, H', ⟨Nat.le_refl _⟩, ⟨pkx B1⟩, ⟨pkx B2⟩, ⟨pbx HB⟩⟩
    case round =>
     clear H'; (try clear c17); (try clear c17b0); (try clear c17b1); (try clear hcz19_0); (try clear hcz19_1); (try clear hcz19_10); (try clear hcz19_11); (try clear hcz19_12); (try clear hcz19_13); (try clear hcz19_2); (try clear hcz19_3); (try clear hcz19_4); (try clear hcz19_5); (try clear hcz19_6); (try clear hcz19_7); (try clear hcz19_8); (try clear hcz19_9); (try clear hcz6_0); (try clear hcz6_1); (try clear hcz6_2)
     (try clear hcz6_3)
     (try clear hfz19_0); (try clear hfz19_1); (try clear hfz19_10); (try clear hfz19_11); (try clear hfz19_12); (try clear hfz19_13); (try clear hfz19_2); (try clear hfz19_3); (try clear hfz19_4); (try clear hfz19_5); (try clear hfz19_6); (try clear hfz19_7); (try clear hfz19_8); (try clear hfz19_9); (try clear hfz6_0); (try clear hfz6_1); (try clear hfz6_2); (try clear hfz6_3); obtain ⟨x5_2, rfl, HA, HK2, B1, B2, HB⟩ := hrel
     cases gk with
     | zero => exact absurd HA.out (by simp [oculusref22_one.l0])
     | succ k2 =>
      have H := HA.out; clear HA
      simp only [oculusref22_one.l0] at H
      by_cases c20 : x5_2 < (a0_4.size : Int)
      ·rw [if_pos c20] at H; have c20b0 := decide_eq_true c20; clear c20
       by_cases c21 : 0 ≤ x5_2
       ·rw [if_pos c21] at H; have c21b0 := decide_eq_true c21; clear c21; obtain ⟨t103, A23, H⟩ := bo_ H
        replace H := ib_ H; rcases H with ⟨rfl,H⟩|⟨rfl,H⟩
        ·have H' := A_ H
         clear H; have hnb25 := N12.out; have hnc25 := N21.out; obtain ⟨⟨hcz26_0, hcz26_1, hcz26_2, hcz26_3, hcz26_4, hcz26_5, hcz26_6, hcz26_7, hcz26_8, hcz26_9, hcz26_10, hcz26_11, hcz26_12, hcz26_13⟩, hfz26_0, hfz26_1, hfz26_2, hfz26_3, hfz26_4, hfz26_5, hfz26_6, hfz26_7, hfz26_8, hfz26_9, hfz26_10, hfz26_11, hfz26_12, hfz26_13⟩ := bk14_ B1.out
         have p22 : 0 ≤ (x5_2 : Int) := of_decide_eq_true as_
         have q22 : x5_2 < (a0_4.size : Int) := of_decide_eq_true as_
         have hx22 := bt_at a0_4 x5_2; replace p22 := eq_true p22; replace q22 := eq_true q22
         go_wp2_with (first | ((with_reducible refine gate_callee (f:=33) rfl ?_); refine gL_ (some 41) rfl rfl Tryd.func33 rfl #[.int .u8 (bt a0_4 x5_2)] rfl ?_; (with_reducible refine (oculusref21_Plain.calls (bt a0_4 x5_2) true _ A23.out).mono ?_); rintro e w' ⟨rfl, ⟨nd, rfl⟩⟩; refine ⟨_, rfl, ?_⟩))
         go_roundg k2
         case measure => have := HJ1.out; have := HK2.out; omega
         case rel => exact ⟨(wrap64 (x5_2 + 1)), sq_, H', ⟨by have := HJ1.out; have := HK2.out; omega⟩, ⟨pkx B1⟩, ⟨pkx B2⟩, ⟨pbx HB⟩⟩
        ·obtain rfl := Option.some.inj H
         as_aux_lemma =>
          have hnb27 := N12.out; have hnc27 := N21.out; obtain ⟨⟨hcz28_0, hcz28_1, hcz28_2, hcz28_3, hcz28_4, hcz28_5, hcz28_6, hcz28_7, hcz28_8, hcz28_9, hcz28_10, hcz28_11, hcz28_12, hcz28_13⟩, hfz28_0, hfz28_1, hfz28_2, hfz28_3, hfz28_4, hfz28_5, hfz28_6, hfz28_7, hfz28_8, hfz28_9, hfz28_10, hfz28_11, hfz28_12, hfz28_13⟩ := bk14_ B1.out
          have p22 : 0 ≤ (x5_2 : Int) := of_decide_eq_true as_
          have q22 : x5_2 < (a0_4.size : Int) := of_decide_eq_true as_
          have hx22 := bt_at a0_4 x5_2; replace p22 := eq_true p22; replace q22 := eq_true q22
          go_wp2_with (first | ((with_reducible refine gate_callee (f:=33) rfl ?_); refine gL_ (some 41) rfl rfl Tryd.func33 rfl #[.int .u8 (bt a0_4 x5_2)] rfl ?_; (with_reducible refine (oculusref21_Plain.calls (bt a0_4 x5_2) false _ A23.out).mono ?_); rintro e w' ⟨rfl, ⟨nd, rfl⟩⟩; refine ⟨_, rfl, ?_⟩))
          go_ret
          exact fi_ (pbx HB)
       ·rw [if_neg c21] at H
        exact absurd H (by simp)
      ·rw [if_neg c20] at H; have c20b0 := decide_eq_false c20; clear c20
       by_cases c29 : a0_1 = 0
       ·rw [if_pos c29] at H; have ⟨c29b0,c29b1⟩ := e1_ c29; clear c29
        by_cases c30 : (a0_5 == 0 && (a0_6 == 0 && (a0_7 == false && (a0_8 == false)))) = true
        ·rw [if_pos c30] at H
         have c30b0 : (a0_5 == 0 && (a0_6 == 0 && (a0_7 == false && (a0_8 == false)))) = true := c30
         (try (have c30p : a0_5 = 0 ∧ a0_6 = 0 ∧ a0_7 = false ∧ a0_8 = false := by simpa using c30b0)); (try (have c30b1 : decide (a0_5 = 0 && (a0_6 == 0 && (a0_7 == false && (a0_8 == false)))) = true := by simpa using c30)); (try (have c30b2 : (a0_5 == 0 && (a0_6 == 0 && (a0_7 == false && (a0_8 == false)))) = true := by simpa using c30)); clear c30
         by_cases c31 : (a0_9 == 0 && (a0_10 == 0 && (a0_11 == false && (a0_12 == false)))) = true
         ·rw [if_pos c31] at H
          have c31b0 : (a0_9 == 0 && (a0_10 == 0 && (a0_11 == false && (a0_12 == false)))) = true := c31
          (try (have c31p : a0_9 = 0 ∧ a0_10 = 0 ∧ a0_11 = false ∧ a0_12 = false := by simpa using c31b0)); (try (have c31b1 : decide (a0_9 = 0 && (a0_10 == 0 && (a0_11 == false && (a0_12 == false)))) = true := by simpa using c31)); (try (have c31b2 : (a0_9 == 0 && (a0_10 == 0 && (a0_11 == false && (a0_12 == false)))) = true := by simpa using c31)); clear c31
          by_cases c32 : (l0_13.length : Int) = 0
          ·rw [if_pos c32] at H; have ⟨c32b0,c32b1⟩ := e1_ c32; clear c32
           by_cases c33 : a0_2 ≥ 1
           ·rw [if_pos c33] at H; have c33b0 := decide_eq_true c33; clear c33
            by_cases c34 : a0_2 ≤ 3
            ·rw [if_pos c34] at H; have c34b0 := decide_eq_true c34; clear c34
             by_cases c35 : a0_3 ≥ 0
             ·rw [if_pos c35] at H; have c35b0 := decide_eq_true c35; clear c35; obtain ⟨t104, A36, H⟩ := bo_ H; obtain rfl := Option.some.inj H
              as_aux_lemma =>
               have hnb37 := N12.out; have hnc37 := N21.out; obtain ⟨⟨hcz38_0, hcz38_1, hcz38_2, hcz38_3, hcz38_4, hcz38_5, hcz38_6, hcz38_7, hcz38_8, hcz38_9, hcz38_10, hcz38_11, hcz38_12, hcz38_13⟩, hfz38_0, hfz38_1, hfz38_2, hfz38_3, hfz38_4, hfz38_5, hfz38_6, hfz38_7, hfz38_8, hfz38_9, hfz38_10, hfz38_11, hfz38_12, hfz38_13⟩ := bk14_ B1.out; obtain ⟨⟨hcz39_0, hcz39_1, hcz39_2, hcz39_3⟩, hfz39_0, hfz39_1, hfz39_2, hfz39_3⟩ := bk4_ B2.out
               go_wp2_with (first | (go_at_call 34; (with_reducible refine (oculusref12_May.calls a0_2 a0_3 a0_4 t104 _ A36.out).mono ?_); rintro e w40 ⟨rfl, hb⟩; replace B1 := bb_ B1 hb; replace B2 := bb_ B2 hb; replace HB := bs_ HB hb; (try clear hb); ))
               go_ret
               exact fi_ (pbx HB)
             ·rw [if_neg c35] at H; have c35b0 := decide_eq_false c35; clear c35; obtain rfl := Option.some.inj H
              as_aux_lemma =>
               have hnb41 := N12.out; have hnc41 := N21.out; obtain ⟨⟨hcz42_0, hcz42_1, hcz42_2, hcz42_3, hcz42_4, hcz42_5, hcz42_6, hcz42_7, hcz42_8, hcz42_9, hcz42_10, hcz42_11, hcz42_12, hcz42_13⟩, hfz42_0, hfz42_1, hfz42_2, hfz42_3, hfz42_4, hfz42_5, hfz42_6, hfz42_7, hfz42_8, hfz42_9, hfz42_10, hfz42_11, hfz42_12, hfz42_13⟩ := bk14_ B1.out; obtain ⟨⟨hcz43_0, hcz43_1, hcz43_2, hcz43_3⟩, hfz43_0, hfz43_1, hfz43_2, hfz43_3⟩ := bk4_ B2.out
               go_wp2
               go_ret
               exact fi_ (pbx HB)
            ·rw [if_neg c34] at H; have c34b0 := decide_eq_false c34; clear c34; obtain rfl := Option.some.inj H
             as_aux_lemma =>
              have hnb44 := N12.out; have hnc44 := N21.out; obtain ⟨⟨hcz45_0, hcz45_1, hcz45_2, hcz45_3, hcz45_4, hcz45_5, hcz45_6, hcz45_7, hcz45_8, hcz45_9, hcz45_10, hcz45_11, hcz45_12, hcz45_13⟩, hfz45_0, hfz45_1, hfz45_2, hfz45_3, hfz45_4, hfz45_5, hfz45_6, hfz45_7, hfz45_8, hfz45_9, hfz45_10, hfz45_11, hfz45_12, hfz45_13⟩ := bk14_ B1.out; obtain ⟨⟨hcz46_0, hcz46_1, hcz46_2, hcz46_3⟩, hfz46_0, hfz46_1, hfz46_2, hfz46_3⟩ := bk4_ B2.out
              go_wp2
              go_ret
              exact fi_ (pbx HB)
           ·rw [if_neg c33] at H; have c33b0 := decide_eq_false c33; clear c33; obtain rfl := Option.some.inj H
            as_aux_lemma =>
             have hnb47 := N12.out; have hnc47 := N21.out; obtain ⟨⟨hcz48_0, hcz48_1, hcz48_2, hcz48_3, hcz48_4, hcz48_5, hcz48_6, hcz48_7, hcz48_8, hcz48_9, hcz48_10, hcz48_11, hcz48_12, hcz48_13⟩, hfz48_0, hfz48_1, hfz48_2, hfz48_3, hfz48_4, hfz48_5, hfz48_6, hfz48_7, hfz48_8, hfz48_9, hfz48_10, hfz48_11, hfz48_12, hfz48_13⟩ := bk14_ B1.out; obtain ⟨⟨hcz49_0, hcz49_1, hcz49_2, hcz49_3⟩, hfz49_0, hfz49_1, hfz49_2, hfz49_3⟩ := bk4_ B2.out
             go_wp2
             go_ret
             exact fi_ (pbx HB)
          ·rw [if_neg c32] at H; have ⟨c32b0,c32b1⟩ := e0_ c32
           have c32b2 : ¬ (l0_13 = []) := fun h_ => c32 (by rw [h_]; rfl)
           obtain rfl := Option.some.inj H
           as_aux_lemma =>
            have hnb50 := N12.out; have hnc50 := N21.out; obtain ⟨⟨hcz51_0, hcz51_1, hcz51_2, hcz51_3, hcz51_4, hcz51_5, hcz51_6, hcz51_7, hcz51_8, hcz51_9, hcz51_10, hcz51_11, hcz51_12, hcz51_13⟩, hfz51_0, hfz51_1, hfz51_2, hfz51_3, hfz51_4, hfz51_5, hfz51_6, hfz51_7, hfz51_8, hfz51_9, hfz51_10, hfz51_11, hfz51_12, hfz51_13⟩ := bk14_ B1.out; obtain ⟨⟨hcz52_0, hcz52_1, hcz52_2, hcz52_3⟩, hfz52_0, hfz52_1, hfz52_2, hfz52_3⟩ := bk4_ B2.out
            go_wp2
            go_ret
            exact fi_ (pbx HB)
         ·rw [if_neg c31] at H
          have c31b0 : (a0_9 == 0 && (a0_10 == 0 && (a0_11 == false && (a0_12 == false)))) = false := by simpa using c31
          (try (have c31p : ¬ (a0_9 = 0 ∧ a0_10 = 0 ∧ a0_11 = false ∧ a0_12 = false) := by simpa using c31b0)); (try (have c31b1 : decide (a0_9 = 0 && (a0_10 == 0 && (a0_11 == false && (a0_12 == false)))) = false := by simpa using c31)); (try (have c31b2 : (a0_9 == 0 && (a0_10 == 0 && (a0_11 == false && (a0_12 == false)))) = false := by simpa using c31)); (try (have c31b3 : ¬ (a0_9 = 0 && (a0_10 == 0 && (a0_11 == false && (a0_12 == false)))) := by simpa using c31))
          clear c31; obtain rfl := Option.some.inj H
          as_aux_lemma =>
           have hnb53 := N12.out; have hnc53 := N21.out; obtain ⟨⟨hcz54_0, hcz54_1, hcz54_2, hcz54_3, hcz54_4, hcz54_5, hcz54_6, hcz54_7, hcz54_8, hcz54_9, hcz54_10, hcz54_11, hcz54_12, hcz54_13⟩, hfz54_0, hfz54_1, hfz54_2, hfz54_3, hfz54_4, hfz54_5, hfz54_6, hfz54_7, hfz54_8, hfz54_9, hfz54_10, hfz54_11, hfz54_12, hfz54_13⟩ := bk14_ B1.out; obtain ⟨⟨hcz55_0, hcz55_1, hcz55_2, hcz55_3⟩, hfz55_0, hfz55_1, hfz55_2, hfz55_3⟩ := bk4_ B2.out
           go_wp2
           go_ret
           exact fi_ (pbx HB)
        ·rw [if_neg c30] at H
         have c30b0 : (a0_5 == 0 && (a0_6 == 0 && (a0_7 == false && (a0_8 == false)))) = false := by simpa using c30
         (try (have c30p : ¬ (a0_5 = 0 ∧ a0_6 = 0 ∧ a0_7 = false ∧ a0_8 = false) := by simpa using c30b0)); (try (have c30b1 : decide (a0_5 = 0 && (a0_6 == 0 && (a0_7 == false && (a0_8 == false)))) = false := by simpa using c30)); (try (have c30b2 : (a0_5 == 0 && (a0_6 == 0 && (a0_7 == false && (a0_8 == false)))) = false := by simpa using c30)); (try (have c30b3 : ¬ (a0_5 = 0 && (a0_6 == 0 && (a0_7 == false && (a0_8 == false)))) := by simpa using c30))
         clear c30; obtain rfl := Option.some.inj H
         as_aux_lemma =>
          have hnb56 := N12.out; have hnc56 := N21.out; obtain ⟨⟨hcz57_0, hcz57_1, hcz57_2, hcz57_3, hcz57_4, hcz57_5, hcz57_6, hcz57_7, hcz57_8, hcz57_9, hcz57_10, hcz57_11, hcz57_12, hcz57_13⟩, hfz57_0, hfz57_1, hfz57_2, hfz57_3, hfz57_4, hfz57_5, hfz57_6, hfz57_7, hfz57_8, hfz57_9, hfz57_10, hfz57_11, hfz57_12, hfz57_13⟩ := bk14_ B1.out; obtain ⟨⟨hcz58_0, hcz58_1, hcz58_2, hcz58_3⟩, hfz58_0, hfz58_1, hfz58_2, hfz58_3⟩ := bk4_ B2.out
          go_wp2
          go_ret
          exact fi_ (pbx HB)
       ·rw [if_neg c29] at H; have ⟨c29b0,c29b1⟩ := e0_ c29; obtain rfl := Option.some.inj H
        as_aux_lemma =>
         have hnb59 := N12.out; have hnc59 := N21.out; obtain ⟨⟨hcz60_0, hcz60_1, hcz60_2, hcz60_3, hcz60_4, hcz60_5, hcz60_6, hcz60_7, hcz60_8, hcz60_9, hcz60_10, hcz60_11, hcz60_12, hcz60_13⟩, hfz60_0, hfz60_1, hfz60_2, hfz60_3, hfz60_4, hfz60_5, hfz60_6, hfz60_7, hfz60_8, hfz60_9, hfz60_10, hfz60_11, hfz60_12, hfz60_13⟩ := bk14_ B1.out
         go_wp2
         go_ret
         exact fi_ (pbx HB)
   ·rw [if_neg c17] at H; have ⟨c17b0,c17b1⟩ := e0_ c17
    by_cases c61 : a0_0 = 2
    ·rw [if_pos c61] at H; have ⟨c61b0,c61b1⟩ := e1_ c61; clear c61
     by_cases c62 : a0_1 = 0
     ·rw [if_pos c62] at H; have ⟨c62b0,c62b1⟩ := e1_ c62; clear c62
      replace H := ib_ H; rcases H with ⟨rfl,H⟩|⟨rfl,H⟩
      ·obtain rfl := Option.some.inj H
       as_aux_lemma =>
        have hnb64 := N12.out; have hnc64 := N21.out; obtain ⟨⟨hcz65_0, hcz65_1, hcz65_2, hcz65_3, hcz65_4, hcz65_5, hcz65_6, hcz65_7, hcz65_8, hcz65_9, hcz65_10, hcz65_11, hcz65_12, hcz65_13⟩, hfz65_0, hfz65_1, hfz65_2, hfz65_3, hfz65_4, hfz65_5, hfz65_6, hfz65_7, hfz65_8, hfz65_9, hfz65_10, hfz65_11, hfz65_12, hfz65_13⟩ := bk14_ B1.out
        go_wp2
        go_ret
        exact fi_ (pbx HB)
      ·obtain rfl := Option.some.inj H
       as_aux_lemma =>
        have hnb66 := N12.out; have hnc66 := N21.out; obtain ⟨⟨hcz67_0, hcz67_1, hcz67_2, hcz67_3, hcz67_4, hcz67_5, hcz67_6, hcz67_7, hcz67_8, hcz67_9, hcz67_10, hcz67_11, hcz67_12, hcz67_13⟩, hfz67_0, hfz67_1, hfz67_2, hfz67_3, hfz67_4, hfz67_5, hfz67_6, hfz67_7, hfz67_8, hfz67_9, hfz67_10, hfz67_11, hfz67_12, hfz67_13⟩ := bk14_ B1.out
        go_wp2
        go_ret
        exact fi_ (pbx HB)
     ·rw [if_neg c62] at H; have ⟨c62b0,c62b1⟩ := e0_ c62; obtain rfl := Option.some.inj H
      as_aux_lemma =>
       have hnb68 := N12.out; have hnc68 := N21.out; obtain ⟨⟨hcz69_0, hcz69_1, hcz69_2, hcz69_3, hcz69_4, hcz69_5, hcz69_6, hcz69_7, hcz69_8, hcz69_9, hcz69_10, hcz69_11, hcz69_12, hcz69_13⟩, hfz69_0, hfz69_1, hfz69_2, hfz69_3, hfz69_4, hfz69_5, hfz69_6, hfz69_7, hfz69_8, hfz69_9, hfz69_10, hfz69_11, hfz69_12, hfz69_13⟩ := bk14_ B1.out
       go_wp2
       go_ret
       exact fi_ (pbx HB)
    ·rw [if_neg c61] at H; have ⟨c61b0,c61b1⟩ := e0_ c61
     by_cases c70 : a0_0 = 3
     ·rw [if_pos c70] at H; have ⟨c70b0,c70b1⟩ := e1_ c70; clear c70
      by_cases c71 : a0_1 = 0
      ·rw [if_pos c71] at H; have ⟨c71b0,c71b1⟩ := e1_ c71; clear c71
       by_cases c72 : (a0_2 == 0 && (a0_3 == 0 && (a0_4.toList == ([] : List UInt8)))) = true
       ·rw [if_pos c72] at H
        have c72b0 : (a0_2 == 0 && (a0_3 == 0 && (a0_4.toList == ([] : List UInt8)))) = true := c72
        (try (have c72p : a0_2 = 0 ∧ a0_3 = 0 ∧ a0_4.toList = ([] : List UInt8) := by simpa using c72b0)); (try (have c72b1 : decide (a0_2 = 0 && (a0_3 == 0 && (a0_4.toList == ([] : List UInt8)))) = true := by simpa using c72)); (try (have c72b2 : (a0_2 == 0 && (a0_3 == 0 && (a0_4.toList == ([] : List UInt8)))) = true := by simpa using c72)); clear c72
        by_cases c73 : (a0_9 == 0 && (a0_10 == 0 && (a0_11 == false && (a0_12 == false)))) = true
        ·rw [if_pos c73] at H
         have c73b0 : (a0_9 == 0 && (a0_10 == 0 && (a0_11 == false && (a0_12 == false)))) = true := c73
         (try (have c73p : a0_9 = 0 ∧ a0_10 = 0 ∧ a0_11 = false ∧ a0_12 = false := by simpa using c73b0)); (try (have c73b1 : decide (a0_9 = 0 && (a0_10 == 0 && (a0_11 == false && (a0_12 == false)))) = true := by simpa using c73)); (try (have c73b2 : (a0_9 == 0 && (a0_10 == 0 && (a0_11 == false && (a0_12 == false)))) = true := by simpa using c73)); clear c73
         by_cases c74 : (l0_13.length : Int) = 0
         ·rw [if_pos c74] at H; have ⟨c74b0,c74b1⟩ := e1_ c74; clear c74; obtain ⟨t105, A75, H⟩ := bo_ H; obtain rfl := Option.some.inj H
          as_aux_lemma =>
           have hnb76 := N12.out; have hnc76 := N21.out; obtain ⟨⟨hcz77_0, hcz77_1, hcz77_2, hcz77_3, hcz77_4, hcz77_5, hcz77_6, hcz77_7, hcz77_8, hcz77_9, hcz77_10, hcz77_11, hcz77_12, hcz77_13⟩, hfz77_0, hfz77_1, hfz77_2, hfz77_3, hfz77_4, hfz77_5, hfz77_6, hfz77_7, hfz77_8, hfz77_9, hfz77_10, hfz77_11, hfz77_12, hfz77_13⟩ := bk14_ B1.out; obtain ⟨⟨hcz78_0, hcz78_1, hcz78_2, hcz78_3⟩, hfz78_0, hfz78_1, hfz78_2, hfz78_3⟩ := bk4_ B2.out
           go_wp2_with (first | (go_at_call 35; (with_reducible refine (oculusref22_ref.calls a0_5 a0_6 a0_7 a0_8 t105 _ A75.out).mono ?_); rintro e w79 ⟨rfl, hb⟩; replace B1 := bb_ B1 hb; replace B2 := bb_ B2 hb; replace HB := bs_ HB hb; (try clear hb); ))
           go_ret
           exact fi_ (pbx HB)
         ·rw [if_neg c74] at H; have ⟨c74b0,c74b1⟩ := e0_ c74
          have c74b2 : ¬ (l0_13 = []) := fun h_ => c74 (by rw [h_]; rfl)
          obtain rfl := Option.some.inj H
          as_aux_lemma =>
           have hnb80 := N12.out; have hnc80 := N21.out; obtain ⟨⟨hcz81_0, hcz81_1, hcz81_2, hcz81_3, hcz81_4, hcz81_5, hcz81_6, hcz81_7, hcz81_8, hcz81_9, hcz81_10, hcz81_11, hcz81_12, hcz81_13⟩, hfz81_0, hfz81_1, hfz81_2, hfz81_3, hfz81_4, hfz81_5, hfz81_6, hfz81_7, hfz81_8, hfz81_9, hfz81_10, hfz81_11, hfz81_12, hfz81_13⟩ := bk14_ B1.out; obtain ⟨⟨hcz82_0, hcz82_1, hcz82_2, hcz82_3⟩, hfz82_0, hfz82_1, hfz82_2, hfz82_3⟩ := bk4_ B2.out
           go_wp2
           go_ret
           exact fi_ (pbx HB)
        ·rw [if_neg c73] at H
         have c73b0 : (a0_9 == 0 && (a0_10 == 0 && (a0_11 == false && (a0_12 == false)))) = false := by simpa using c73
         (try (have c73p : ¬ (a0_9 = 0 ∧ a0_10 = 0 ∧ a0_11 = false ∧ a0_12 = false) := by simpa using c73b0)); (try (have c73b1 : decide (a0_9 = 0 && (a0_10 == 0 && (a0_11 == false && (a0_12 == false)))) = false := by simpa using c73)); (try (have c73b2 : (a0_9 == 0 && (a0_10 == 0 && (a0_11 == false && (a0_12 == false)))) = false := by simpa using c73)); (try (have c73b3 : ¬ (a0_9 = 0 && (a0_10 == 0 && (a0_11 == false && (a0_12 == false)))) := by simpa using c73))
         clear c73; obtain rfl := Option.some.inj H
         as_aux_lemma =>
          have hnb83 := N12.out; have hnc83 := N21.out; obtain ⟨⟨hcz84_0, hcz84_1, hcz84_2, hcz84_3, hcz84_4, hcz84_5, hcz84_6, hcz84_7, hcz84_8, hcz84_9, hcz84_10, hcz84_11, hcz84_12, hcz84_13⟩, hfz84_0, hfz84_1, hfz84_2, hfz84_3, hfz84_4, hfz84_5, hfz84_6, hfz84_7, hfz84_8, hfz84_9, hfz84_10, hfz84_11, hfz84_12, hfz84_13⟩ := bk14_ B1.out; obtain ⟨⟨hcz85_0, hcz85_1, hcz85_2, hcz85_3⟩, hfz85_0, hfz85_1, hfz85_2, hfz85_3⟩ := bk4_ B2.out
          go_wp2
          go_ret
          exact fi_ (pbx HB)
       ·rw [if_neg c72] at H
        have c72b0 : (a0_2 == 0 && (a0_3 == 0 && (a0_4.toList == ([] : List UInt8)))) = false := by simpa using c72
        (try (have c72p : ¬ (a0_2 = 0 ∧ a0_3 = 0 ∧ a0_4.toList = ([] : List UInt8)) := by simpa using c72b0)); (try (have c72b1 : decide (a0_2 = 0 && (a0_3 == 0 && (a0_4.toList == ([] : List UInt8)))) = false := by simpa using c72)); (try (have c72b2 : (a0_2 == 0 && (a0_3 == 0 && (a0_4.toList == ([] : List UInt8)))) = false := by simpa using c72)); (try (have c72b3 : ¬ (a0_2 = 0 && (a0_3 == 0 && (a0_4.toList == ([] : List UInt8)))) := by simpa using c72))
        clear c72; obtain rfl := Option.some.inj H
        as_aux_lemma =>
         have hnb86 := N12.out; have hnc86 := N21.out; obtain ⟨⟨hcz87_0, hcz87_1, hcz87_2, hcz87_3, hcz87_4, hcz87_5, hcz87_6, hcz87_7, hcz87_8, hcz87_9, hcz87_10, hcz87_11, hcz87_12, hcz87_13⟩, hfz87_0, hfz87_1, hfz87_2, hfz87_3, hfz87_4, hfz87_5, hfz87_6, hfz87_7, hfz87_8, hfz87_9, hfz87_10, hfz87_11, hfz87_12, hfz87_13⟩ := bk14_ B1.out
         go_wp2
         go_ret
         exact fi_ (pbx HB)
      ·rw [if_neg c71] at H; have ⟨c71b0,c71b1⟩ := e0_ c71; obtain rfl := Option.some.inj H
       as_aux_lemma =>
        have hnb88 := N12.out; have hnc88 := N21.out; obtain ⟨⟨hcz89_0, hcz89_1, hcz89_2, hcz89_3, hcz89_4, hcz89_5, hcz89_6, hcz89_7, hcz89_8, hcz89_9, hcz89_10, hcz89_11, hcz89_12, hcz89_13⟩, hfz89_0, hfz89_1, hfz89_2, hfz89_3, hfz89_4, hfz89_5, hfz89_6, hfz89_7, hfz89_8, hfz89_9, hfz89_10, hfz89_11, hfz89_12, hfz89_13⟩ := bk14_ B1.out
        go_wp2
        go_ret
        exact fi_ (pbx HB)
     ·rw [if_neg c70] at H; have ⟨c70b0,c70b1⟩ := e0_ c70
      by_cases c90 : a0_0 = 4
      ·rw [if_pos c90] at H; have ⟨c90b0,c90b1⟩ := e1_ c90; clear c90
       by_cases c91 : a0_1 = 0
       ·rw [if_pos c91] at H; have ⟨c91b0,c91b1⟩ := e1_ c91; clear c91
        by_cases c92 : (a0_2 == 0 && (a0_3 == 0 && (a0_4.toList == ([] : List UInt8)))) = true
        ·rw [if_pos c92] at H
         have c92b0 : (a0_2 == 0 && (a0_3 == 0 && (a0_4.toList == ([] : List UInt8)))) = true := c92
         (try (have c92p : a0_2 = 0 ∧ a0_3 = 0 ∧ a0_4.toList = ([] : List UInt8) := by simpa using c92b0)); (try (have c92b1 : decide (a0_2 = 0 && (a0_3 == 0 && (a0_4.toList == ([] : List UInt8)))) = true := by simpa using c92)); (try (have c92b2 : (a0_2 == 0 && (a0_3 == 0 && (a0_4.toList == ([] : List UInt8)))) = true := by simpa using c92)); clear c92
         by_cases c93 : (l0_13.length : Int) = 0
         ·rw [if_pos c93] at H; have ⟨c93b0,c93b1⟩ := e1_ c93; clear c93; obtain ⟨t106, A94, H⟩ := bo_ H
          replace H := ib_ H; rcases H with ⟨rfl,H⟩|⟨rfl,H⟩
          ·obtain ⟨t107, A96, H⟩ := bo_ H; obtain rfl := Option.some.inj H
           as_aux_lemma =>
            have hnb97 := N12.out; have hnc97 := N21.out; obtain ⟨⟨hcz98_0, hcz98_1, hcz98_2, hcz98_3, hcz98_4, hcz98_5, hcz98_6, hcz98_7, hcz98_8, hcz98_9, hcz98_10, hcz98_11, hcz98_12, hcz98_13⟩, hfz98_0, hfz98_1, hfz98_2, hfz98_3, hfz98_4, hfz98_5, hfz98_6, hfz98_7, hfz98_8, hfz98_9, hfz98_10, hfz98_11, hfz98_12, hfz98_13⟩ := bk14_ B1.out
            go_wp2_with (first | (go_at_call 35; (with_reducible refine (oculusref22_ref.calls a0_5 a0_6 a0_7 a0_8 true _ A94.out).mono ?_); rintro e w99 ⟨rfl, hb⟩; replace B1 := bb_ B1 hb; replace B2 := bb_ B2 hb; replace HB := bs_ HB hb; (try clear hb); have hcz100_0 : w99.cell? ⟨g1, 0, none⟩ = some (.int .i64 a0_0) := bc_ B1 0 rfl; have hcz100_1 : w99.cell? ⟨g1, 1, none⟩ = some (.int .i64 a0_1) := bc_ B1 1 rfl; have hcz100_2 : w99.cell? ⟨g1, 2, none⟩ = some (.int .i64 a0_2) := bc_ B1 2 rfl; have hcz100_3 : w99.cell? ⟨g1, 3, none⟩ = some (.int .i64 a0_3) := bc_ B1 3 rfl; have hcz100_4 : w99.cell? ⟨g1, 4, none⟩ = some (.string a0_4) := bc_ B1 4 rfl; have hcz100_5 : w99.cell? ⟨g1, 5, none⟩ = some (.int .i64 a0_5) := bc_ B1 5 rfl; have hcz100_6 : w99.cell? ⟨g1, 6, none⟩ = some (.int .i64 a0_6) := bc_ B1 6 rfl; have hcz100_7 : w99.cell? ⟨g1, 7, none⟩ = some (.bool a0_7) := bc_ B1 7 rfl; have hcz100_8 : w99.cell? ⟨g1, 8, none⟩ = some (.bool a0_8) := bc_ B1 8 rfl; have hcz100_9 : w99.cell? ⟨g1, 9, none⟩ = some (.int .i64 a0_9) := bc_ B1 9 rfl; have hcz100_10 : w99.cell? ⟨g1, 10, none⟩ = some (.int .i64 a0_10) := bc_ B1 10 rfl; have hcz100_11 : w99.cell? ⟨g1, 11, none⟩ = some (.bool a0_11) := bc_ B1 11 rfl; have hcz100_12 : w99.cell? ⟨g1, 12, none⟩ = some (.bool a0_12) := bc_ B1 12 rfl; have hcz100_13 : w99.cell? ⟨g1, 13, none⟩ = some (.slice A0_13 l0_13.length c0_13) := bc_ B1 13 rfl; have hfz100_0 := blk_frozen B1.out 0; have hfz100_1 := blk_frozen B1.out 1; have hfz100_2 := blk_frozen B1.out 2; have hfz100_3 := blk_frozen B1.out 3; have hfz100_4 := blk_frozen B1.out 4; have hfz100_5 := blk_frozen B1.out 5; have hfz100_6 := blk_frozen B1.out 6; have hfz100_7 := blk_frozen B1.out 7; have hfz100_8 := blk_frozen B1.out 8; have hfz100_9 := blk_frozen B1.out 9; have hfz100_10 := blk_frozen B1.out 10; have hfz100_11 := blk_frozen B1.out 11; have hfz100_12 := blk_frozen B1.out 12; have hfz100_13 := blk_frozen B1.out 13) | (go_at_call 35; (with_reducible refine (oculusref22_ref.calls a0_9 a0_10 a0_11 a0_12 t107 _ A96.out).mono ?_); rintro e w101 ⟨rfl, hb⟩; replace B1 := bb_ B1 hb; replace B2 := bb_ B2 hb; replace HB := bs_ HB hb; (try clear hb); ))
            go_ret
            exact fi_ (pbx HB)
          ·obtain rfl := Option.some.inj H
           as_aux_lemma =>
            have hnb102 := N12.out; have hnc102 := N21.out; obtain ⟨⟨hcz103_0, hcz103_1, hcz103_2, hcz103_3, hcz103_4, hcz103_5, hcz103_6, hcz103_7, hcz103_8, hcz103_9, hcz103_10, hcz103_11, hcz103_12, hcz103_13⟩, hfz103_0, hfz103_1, hfz103_2, hfz103_3, hfz103_4, hfz103_5, hfz103_6, hfz103_7, hfz103_8, hfz103_9, hfz103_10, hfz103_11, hfz103_12, hfz103_13⟩ := bk14_ B1.out
            go_wp2_with (first | (go_at_call 35; (with_reducible refine (oculusref22_ref.calls a0_5 a0_6 a0_7 a0_8 false _ A94.out).mono ?_); rintro e w104 ⟨rfl, hb⟩; replace B1 := bb_ B1 hb; replace B2 := bb_ B2 hb; replace HB := bs_ HB hb; (try clear hb); ))
            go_ret
            exact fi_ (pbx HB)
         ·rw [if_neg c93] at H; have ⟨c93b0,c93b1⟩ := e0_ c93
          have c93b2 : ¬ (l0_13 = []) := fun h_ => c93 (by rw [h_]; rfl)
          obtain rfl := Option.some.inj H
          as_aux_lemma =>
           have hnb105 := N12.out; have hnc105 := N21.out; obtain ⟨⟨hcz106_0, hcz106_1, hcz106_2, hcz106_3, hcz106_4, hcz106_5, hcz106_6, hcz106_7, hcz106_8, hcz106_9, hcz106_10, hcz106_11, hcz106_12, hcz106_13⟩, hfz106_0, hfz106_1, hfz106_2, hfz106_3, hfz106_4, hfz106_5, hfz106_6, hfz106_7, hfz106_8, hfz106_9, hfz106_10, hfz106_11, hfz106_12, hfz106_13⟩ := bk14_ B1.out
           go_wp2
           go_ret
           exact fi_ (pbx HB)
        ·rw [if_neg c92] at H
         have c92b0 : (a0_2 == 0 && (a0_3 == 0 && (a0_4.toList == ([] : List UInt8)))) = false := by simpa using c92
         (try (have c92p : ¬ (a0_2 = 0 ∧ a0_3 = 0 ∧ a0_4.toList = ([] : List UInt8)) := by simpa using c92b0)); (try (have c92b1 : decide (a0_2 = 0 && (a0_3 == 0 && (a0_4.toList == ([] : List UInt8)))) = false := by simpa using c92)); (try (have c92b2 : (a0_2 == 0 && (a0_3 == 0 && (a0_4.toList == ([] : List UInt8)))) = false := by simpa using c92)); (try (have c92b3 : ¬ (a0_2 = 0 && (a0_3 == 0 && (a0_4.toList == ([] : List UInt8)))) := by simpa using c92))
         clear c92; obtain rfl := Option.some.inj H
         as_aux_lemma =>
          have hnb107 := N12.out; have hnc107 := N21.out; obtain ⟨⟨hcz108_0, hcz108_1, hcz108_2, hcz108_3, hcz108_4, hcz108_5, hcz108_6, hcz108_7, hcz108_8, hcz108_9, hcz108_10, hcz108_11, hcz108_12, hcz108_13⟩, hfz108_0, hfz108_1, hfz108_2, hfz108_3, hfz108_4, hfz108_5, hfz108_6, hfz108_7, hfz108_8, hfz108_9, hfz108_10, hfz108_11, hfz108_12, hfz108_13⟩ := bk14_ B1.out
          go_wp2
          go_ret
          exact fi_ (pbx HB)
       ·rw [if_neg c91] at H; have ⟨c91b0,c91b1⟩ := e0_ c91; obtain rfl := Option.some.inj H
        as_aux_lemma =>
         have hnb109 := N12.out; have hnc109 := N21.out; obtain ⟨⟨hcz110_0, hcz110_1, hcz110_2, hcz110_3, hcz110_4, hcz110_5, hcz110_6, hcz110_7, hcz110_8, hcz110_9, hcz110_10, hcz110_11, hcz110_12, hcz110_13⟩, hfz110_0, hfz110_1, hfz110_2, hfz110_3, hfz110_4, hfz110_5, hfz110_6, hfz110_7, hfz110_8, hfz110_9, hfz110_10, hfz110_11, hfz110_12, hfz110_13⟩ := bk14_ B1.out
         go_wp2
         go_ret
         exact fi_ (pbx HB)
      ·rw [if_neg c90] at H; have ⟨c90b0,c90b1⟩ := e0_ c90
       by_cases c111 : a0_0 = 5
       ·rw [if_pos c111] at H; have ⟨c111b0,c111b1⟩ := e1_ c111; clear c111
        by_cases c112 : a0_1 = 0
        ·rw [if_pos c112] at H; have ⟨c112b0,c112b1⟩ := e1_ c112; clear c112
         replace H := ib_ H; rcases H with ⟨rfl,H⟩|⟨rfl,H⟩
         ·by_cases c114 : (l0_13.length : Int) = 1
          ·rw [if_pos c114] at H; have ⟨c114b0,c114b1⟩ := e1_ c114; clear c114
           by_cases c115 : 0 < (l0_13.length : Int)
           ·rw [if_pos c115] at H; have c115b0 := decide_eq_true c115; have c115b1 : decide (0 < l0_13.length) = true := decide_eq_true (by omega); clear c115; obtain ⟨t109, A116, H⟩ := bo_ H; obtain rfl := Option.some.inj H
            as_aux_lemma =>
             have hnb117 := N12.out; have hnc117 := N21.out; obtain ⟨⟨hcz118_0, hcz118_1, hcz118_2, hcz118_3, hcz118_4, hcz118_5, hcz118_6, hcz118_7, hcz118_8, hcz118_9, hcz118_10, hcz118_11, hcz118_12, hcz118_13⟩, hfz118_0, hfz118_1, hfz118_2, hfz118_3, hfz118_4, hfz118_5, hfz118_6, hfz118_7, hfz118_8, hfz118_9, hfz118_10, hfz118_11, hfz118_12, hfz118_13⟩ := bk14_ B1.out
             have p108 : 0 ≤ (0 : Int) := (by omega)
             have q108 : 0 < (l0_13.length : Int) := of_decide_eq_true as_
             obtain ⟨ad108, A108_13, c108_13, e108, hx108_0, hx108_1, hx108_2, hx108_3, hx108_4, hx108_5, hx108_6, hx108_7, hx108_8, hx108_9, hx108_10, hx108_11, hx108_12, hx108_13, hl108_13, hi108_13⟩ := at_T28 HR0_13.out 0 p108 q108
             cases e108
             have qi108 : (0 < l0_13.length) = True := eq_true (by omega); (try rw [show ((0 : Int)).toNat = 0 from rfl] at hx108_0); (try rw [show 0 * 14 = 0 from rfl] at hx108_0); (try rw [Addr.add_zero'] at hx108_0); (try rw [show ((0 : Int)).toNat = 0 from rfl] at hx108_1); (try rw [show 0 * 14 = 0 from rfl] at hx108_1); (try rw [Addr.add_zero'] at hx108_1); (try rw [show ((0 : Int)).toNat = 0 from rfl] at hx108_2); (try rw [show 0 * 14 = 0 from rfl] at hx108_2); (try rw [Addr.add_zero'] at hx108_2); (try rw [show ((0 : Int)).toNat = 0 from rfl] at hx108_3); (try rw [show 0 * 14 = 0 from rfl] at hx108_3); (try rw [Addr.add_zero'] at hx108_3); (try rw [show ((0 : Int)).toNat = 0 from rfl] at hx108_4); (try rw [show 0 * 14 = 0 from rfl] at hx108_4); (try rw [Addr.add_zero'] at hx108_4); (try rw [show ((0 : Int)).toNat = 0 from rfl] at hx108_5); (try rw [show 0 * 14 = 0 from rfl] at hx108_5); (try rw [Addr.add_zero'] at hx108_5); (try rw [show ((0 : Int)).toNat = 0 from rfl] at hx108_6); (try rw [show 0 * 14 = 0 from rfl] at hx108_6); (try rw [Addr.add_zero'] at hx108_6); (try rw [show ((0 : Int)).toNat = 0 from rfl] at hx108_7); (try rw [show 0 * 14 = 0 from rfl] at hx108_7); (try rw [Addr.add_zero'] at hx108_7); (try rw [show ((0 : Int)).toNat = 0 from rfl] at hx108_8); (try rw [show 0 * 14 = 0 from rfl] at hx108_8); (try rw [Addr.add_zero'] at hx108_8); (try rw [show ((0 : Int)).toNat = 0 from rfl] at hx108_9); (try rw [show 0 * 14 = 0 from rfl] at hx108_9); (try rw [Addr.add_zero'] at hx108_9)
             (try rw [show ((0 : Int)).toNat = 0 from rfl] at hx108_10); (try rw [show 0 * 14 = 0 from rfl] at hx108_10); (try rw [Addr.add_zero'] at hx108_10); (try rw [show ((0 : Int)).toNat = 0 from rfl] at hx108_11); (try rw [show 0 * 14 = 0 from rfl] at hx108_11); (try rw [Addr.add_zero'] at hx108_11); (try rw [show ((0 : Int)).toNat = 0 from rfl] at hx108_12); (try rw [show 0 * 14 = 0 from rfl] at hx108_12); (try rw [Addr.add_zero'] at hx108_12); (try rw [show ((0 : Int)).toNat = 0 from rfl] at hx108_13); (try rw [show 0 * 14 = 0 from rfl] at hx108_13); (try rw [Addr.add_zero'] at hx108_13)
             replace hx108_0 := (HB.out.cell (World.block_lt_of_cell? w _ hx108_0)).trans hx108_0; replace hx108_1 := (HB.out.cell (World.block_lt_of_cell? w _ hx108_1)).trans hx108_1; replace hx108_2 := (HB.out.cell (World.block_lt_of_cell? w _ hx108_2)).trans hx108_2; replace hx108_3 := (HB.out.cell (World.block_lt_of_cell? w _ hx108_3)).trans hx108_3; replace hx108_4 := (HB.out.cell (World.block_lt_of_cell? w _ hx108_4)).trans hx108_4; replace hx108_5 := (HB.out.cell (World.block_lt_of_cell? w _ hx108_5)).trans hx108_5; replace hx108_6 := (HB.out.cell (World.block_lt_of_cell? w _ hx108_6)).trans hx108_6; replace hx108_7 := (HB.out.cell (World.block_lt_of_cell? w _ hx108_7)).trans hx108_7; replace hx108_8 := (HB.out.cell (World.block_lt_of_cell? w _ hx108_8)).trans hx108_8; replace hx108_9 := (HB.out.cell (World.block_lt_of_cell? w _ hx108_9)).trans hx108_9; replace hx108_10 := (HB.out.cell (World.block_lt_of_cell? w _ hx108_10)).trans hx108_10
             replace hx108_11 := (HB.out.cell (World.block_lt_of_cell? w _ hx108_11)).trans hx108_11; replace hx108_12 := (HB.out.cell (World.block_lt_of_cell? w _ hx108_12)).trans hx108_12; replace hx108_13 := (HB.out.cell (World.block_lt_of_cell? w _ hx108_13)).trans hx108_13; have HR108_13 := A_ hi108_13; have HC108_13 := A_ hl108_13; clear hi108_13 hl108_13; replace p108 := eq_true p108; replace q108 := eq_true q108
             go_wp2_with (first | (go_at_call 36; (with_reducible refine (oculusref22_arg.calls kj1 118 ((rd_T28 l0_13 0).f0) ((rd_T28 l0_13 0).f1) ((rd_T28 l0_13 0).f2.f0) ((rd_T28 l0_13 0).f2.f1) ((rd_T28 l0_13 0).f2.f2) ((rd_T28 l0_13 0).f3.f0) ((rd_T28 l0_13 0).f3.f1) ((rd_T28 l0_13 0).f3.f2) ((rd_T28 l0_13 0).f3.f3) ((rd_T28 l0_13 0).f4.f0) ((rd_T28 l0_13 0).f4.f1) ((rd_T28 l0_13 0).f4.f2) ((rd_T28 l0_13 0).f4.f3) _ _ ((rd_T28 l0_13 0).f5) t109 _ ?side1 ?side2 A116.out).mono ?_); (case side1 => exact ca_ (Kd.C_below HR108_13.out HB.out)); (case side2 => exact HC108_13.out); rintro e w119 ⟨rfl, hb⟩; replace B1 := bb_ B1 hb; replace B2 := bb_ B2 hb; replace HB := bs_ HB hb; (try clear hb); ))
             go_ret
             exact fi_ (pbx HB)
           ·rw [if_neg c115] at H
            exact absurd H (by simp)
          ·rw [if_neg c114] at H; have ⟨c114b0,c114b1⟩ := e0_ c114; obtain rfl := Option.some.inj H
           as_aux_lemma =>
            have hnb120 := N12.out; have hnc120 := N21.out; obtain ⟨⟨hcz121_0, hcz121_1, hcz121_2, hcz121_3, hcz121_4, hcz121_5, hcz121_6, hcz121_7, hcz121_8, hcz121_9, hcz121_10, hcz121_11, hcz121_12, hcz121_13⟩, hfz121_0, hfz121_1, hfz121_2, hfz121_3, hfz121_4, hfz121_5, hfz121_6, hfz121_7, hfz121_8, hfz121_9, hfz121_10, hfz121_11, hfz121_12, hfz121_13⟩ := bk14_ B1.out
            go_wp2
            go_ret
            exact fi_ (pbx HB)
         ·obtain rfl := Option.some.inj H
          as_aux_lemma =>
           have hnb122 := N12.out; have hnc122 := N21.out; obtain ⟨⟨hcz123_0, hcz123_1, hcz123_2, hcz123_3, hcz123_4, hcz123_5, hcz123_6, hcz123_7, hcz123_8, hcz123_9, hcz123_10, hcz123_11, hcz123_12, hcz123_13⟩, hfz123_0, hfz123_1, hfz123_2, hfz123_3, hfz123_4, hfz123_5, hfz123_6, hfz123_7, hfz123_8, hfz123_9, hfz123_10, hfz123_11, hfz123_12, hfz123_13⟩ := bk14_ B1.out
           go_wp2
           go_ret
           exact fi_ (pbx HB)
        ·rw [if_neg c112] at H; have ⟨c112b0,c112b1⟩ := e0_ c112; obtain rfl := Option.some.inj H
         as_aux_lemma =>
          have hnb124 := N12.out; have hnc124 := N21.out; obtain ⟨⟨hcz125_0, hcz125_1, hcz125_2, hcz125_3, hcz125_4, hcz125_5, hcz125_6, hcz125_7, hcz125_8, hcz125_9, hcz125_10, hcz125_11, hcz125_12, hcz125_13⟩, hfz125_0, hfz125_1, hfz125_2, hfz125_3, hfz125_4, hfz125_5, hfz125_6, hfz125_7, hfz125_8, hfz125_9, hfz125_10, hfz125_11, hfz125_12, hfz125_13⟩ := bk14_ B1.out
          go_wp2
          go_ret
          exact fi_ (pbx HB)
       ·rw [if_neg c111] at H; have ⟨c111b0,c111b1⟩ := e0_ c111
        by_cases c126 : a0_0 = 6
        ·rw [if_pos c126] at H; have ⟨c126b0,c126b1⟩ := e1_ c126; clear c126
         by_cases c127 : a0_1 ≥ 1
         ·rw [if_pos c127] at H; have c127b0 := decide_eq_true c127; clear c127
          by_cases c128 : a0_1 ≤ 12
          ·rw [if_pos c128] at H; have c128b0 := decide_eq_true c128; clear c128
           replace H := ib_ H; rcases H with ⟨rfl,H⟩|⟨rfl,H⟩
           ·by_cases c130 : (l0_13.length : Int) = 2
            ·rw [if_pos c130] at H; have ⟨c130b0,c130b1⟩ := e1_ c130; clear c130
             by_cases c131 : 0 < (l0_13.length : Int)
             ·rw [if_pos c131] at H; have c131b0 := decide_eq_true c131; have c131b1 : decide (0 < l0_13.length) = true := decide_eq_true (by omega); clear c131; obtain ⟨t111, A132, H⟩ := bo_ H
              replace H := ib_ H; rcases H with ⟨rfl,H⟩|⟨rfl,H⟩
              ·by_cases c134 : 1 < (l0_13.length : Int)
               ·rw [if_pos c134] at H; have c134b0 := decide_eq_true c134; have c134b1 : decide (1 < l0_13.length) = true := decide_eq_true (by omega); clear c134; obtain ⟨t113, A135, H⟩ := bo_ H; obtain rfl := Option.some.inj H
                as_aux_lemma =>
                 have hnb136 := N12.out; have hnc136 := N21.out; obtain ⟨⟨hcz137_0, hcz137_1, hcz137_2, hcz137_3, hcz137_4, hcz137_5, hcz137_6, hcz137_7, hcz137_8, hcz137_9, hcz137_10, hcz137_11, hcz137_12, hcz137_13⟩, hfz137_0, hfz137_1, hfz137_2, hfz137_3, hfz137_4, hfz137_5, hfz137_6, hfz137_7, hfz137_8, hfz137_9, hfz137_10, hfz137_11, hfz137_12, hfz137_13⟩ := bk14_ B1.out
                 have p110 : 0 ≤ (0 : Int) := (by omega)
                 have q110 : 0 < (l0_13.length : Int) := of_decide_eq_true as_
                 obtain ⟨ad110, A110_13, c110_13, e110, hx110_0, hx110_1, hx110_2, hx110_3, hx110_4, hx110_5, hx110_6, hx110_7, hx110_8, hx110_9, hx110_10, hx110_11, hx110_12, hx110_13, hl110_13, hi110_13⟩ := at_T28 HR0_13.out 0 p110 q110
                 cases e110
                 have qi110 : (0 < l0_13.length) = True := eq_true (by omega); (try rw [show ((0 : Int)).toNat = 0 from rfl] at hx110_0); (try rw [show 0 * 14 = 0 from rfl] at hx110_0); (try rw [Addr.add_zero'] at hx110_0); (try rw [show ((0 : Int)).toNat = 0 from rfl] at hx110_1); (try rw [show 0 * 14 = 0 from rfl] at hx110_1); (try rw [Addr.add_zero'] at hx110_1); (try rw [show ((0 : Int)).toNat = 0 from rfl] at hx110_2); (try rw [show 0 * 14 = 0 from rfl] at hx110_2); (try rw [Addr.add_zero'] at hx110_2); (try rw [show ((0 : Int)).toNat = 0 from rfl] at hx110_3); (try rw [show 0 * 14 = 0 from rfl] at hx110_3); (try rw [Addr.add_zero'] at hx110_3); (try rw [show ((0 : Int)).toNat = 0 from rfl] at hx110_4); (try rw [show 0 * 14 = 0 from rfl] at hx110_4); (try rw [Addr.add_zero'] at hx110_4); (try rw [show ((0 : Int)).toNat = 0 from rfl] at hx110_5); (try rw [show 0 * 14 = 0 from rfl] at hx110_5); (try rw [Addr.add_zero'] at hx110_5); (try rw [show ((0 : Int)).toNat = 0 from rfl] at hx110_6); (try rw [show 0 * 14 = 0 from rfl] at hx110_6); (try rw [Addr.add_zero'] at hx110_6); (try rw [show ((0 : Int)).toNat = 0 from rfl] at hx110_7); (try rw [show 0 * 14 = 0 from rfl] at hx110_7); (try rw [Addr.add_zero'] at hx110_7); (try rw [show ((0 : Int)).toNat = 0 from rfl] at hx110_8); (try rw [show 0 * 14 = 0 from rfl] at hx110_8); (try rw [Addr.add_zero'] at hx110_8); (try rw [show ((0 : Int)).toNat = 0 from rfl] at hx110_9); (try rw [show 0 * 14 = 0 from rfl] at hx110_9); (try rw [Addr.add_zero'] at hx110_9)
                 (try rw [show ((0 : Int)).toNat = 0 from rfl] at hx110_10); (try rw [show 0 * 14 = 0 from rfl] at hx110_10); (try rw [Addr.add_zero'] at hx110_10); (try rw [show ((0 : Int)).toNat = 0 from rfl] at hx110_11); (try rw [show 0 * 14 = 0 from rfl] at hx110_11); (try rw [Addr.add_zero'] at hx110_11); (try rw [show ((0 : Int)).toNat = 0 from rfl] at hx110_12); (try rw [show 0 * 14 = 0 from rfl] at hx110_12); (try rw [Addr.add_zero'] at hx110_12); (try rw [show ((0 : Int)).toNat = 0 from rfl] at hx110_13); (try rw [show 0 * 14 = 0 from rfl] at hx110_13); (try rw [Addr.add_zero'] at hx110_13)
                 replace hx110_0 := (HB.out.cell (World.block_lt_of_cell? w _ hx110_0)).trans hx110_0; replace hx110_1 := (HB.out.cell (World.block_lt_of_cell? w _ hx110_1)).trans hx110_1; replace hx110_2 := (HB.out.cell (World.block_lt_of_cell? w _ hx110_2)).trans hx110_2; replace hx110_3 := (HB.out.cell (World.block_lt_of_cell? w _ hx110_3)).trans hx110_3; replace hx110_4 := (HB.out.cell (World.block_lt_of_cell? w _ hx110_4)).trans hx110_4; replace hx110_5 := (HB.out.cell (World.block_lt_of_cell? w _ hx110_5)).trans hx110_5; replace hx110_6 := (HB.out.cell (World.block_lt_of_cell? w _ hx110_6)).trans hx110_6; replace hx110_7 := (HB.out.cell (World.block_lt_of_cell? w _ hx110_7)).trans hx110_7; replace hx110_8 := (HB.out.cell (World.block_lt_of_cell? w _ hx110_8)).trans hx110_8; replace hx110_9 := (HB.out.cell (World.block_lt_of_cell? w _ hx110_9)).trans hx110_9; replace hx110_10 := (HB.out.cell (World.block_lt_of_cell? w _ hx110_10)).trans hx110_10
                 replace hx110_11 := (HB.out.cell (World.block_lt_of_cell? w _ hx110_11)).trans hx110_11; replace hx110_12 := (HB.out.cell (World.block_lt_of_cell? w _ hx110_12)).trans hx110_12; replace hx110_13 := (HB.out.cell (World.block_lt_of_cell? w _ hx110_13)).trans hx110_13; have HR110_13 := A_ hi110_13; have HC110_13 := A_ hl110_13; clear hi110_13 hl110_13; replace p110 := eq_true p110; replace q110 := eq_true q110
                 go_wp2_with (first | (go_at_call 36; (with_reducible refine (oculusref22_arg.calls kj1 118 ((rd_T28 l0_13 0).f0) ((rd_T28 l0_13 0).f1) ((rd_T28 l0_13 0).f2.f0) ((rd_T28 l0_13 0).f2.f1) ((rd_T28 l0_13 0).f2.f2) ((rd_T28 l0_13 0).f3.f0) ((rd_T28 l0_13 0).f3.f1) ((rd_T28 l0_13 0).f3.f2) ((rd_T28 l0_13 0).f3.f3) ((rd_T28 l0_13 0).f4.f0) ((rd_T28 l0_13 0).f4.f1) ((rd_T28 l0_13 0).f4.f2) ((rd_T28 l0_13 0).f4.f3) _ _ ((rd_T28 l0_13 0).f5) true _ ?side1 ?side2 A132.out).mono ?_); (case side1 => exact ca_ (Kd.C_below HR110_13.out HB.out)); (case side2 => exact HC110_13.out); rintro e w138 ⟨rfl, hb⟩; replace B1 := bb_ B1 hb; replace B2 := bb_ B2 hb; replace HB := bs_ HB hb; (try clear hb); have hcz139_0 : w138.cell? ⟨g1, 0, none⟩ = some (.int .i64 a0_0) := bc_ B1 0 rfl; have hcz139_1 : w138.cell? ⟨g1, 1, none⟩ = some (.int .i64 a0_1) := bc_ B1 1 rfl; have hcz139_2 : w138.cell? ⟨g1, 2, none⟩ = some (.int .i64 a0_2) := bc_ B1 2 rfl; have hcz139_3 : w138.cell? ⟨g1, 3, none⟩ = some (.int .i64 a0_3) := bc_ B1 3 rfl; have hcz139_4 : w138.cell? ⟨g1, 4, none⟩ = some (.string a0_4) := bc_ B1 4 rfl; have hcz139_5 : w138.cell? ⟨g1, 5, none⟩ = some (.int .i64 a0_5) := bc_ B1 5 rfl; have hcz139_6 : w138.cell? ⟨g1, 6, none⟩ = some (.int .i64 a0_6) := bc_ B1 6 rfl; have hcz139_7 : w138.cell? ⟨g1, 7, none⟩ = some (.bool a0_7) := bc_ B1 7 rfl; have hcz139_8 : w138.cell? ⟨g1, 8, none⟩ = some (.bool a0_8) := bc_ B1 8 rfl; have hcz139_9 : w138.cell? ⟨g1, 9, none⟩ = some (.int .i64 a0_9) := bc_ B1 9 rfl; have hcz139_10 : w138.cell? ⟨g1, 10, none⟩ = some (.int .i64 a0_10) := bc_ B1 10 rfl; have hcz139_11 : w138.cell? ⟨g1, 11, none⟩ = some (.bool a0_11) := bc_ B1 11 rfl; have hcz139_12 : w138.cell? ⟨g1, 12, none⟩ = some (.bool a0_12) := bc_ B1 12 rfl; have hcz139_13 : w138.cell? ⟨g1, 13, none⟩ = some (.slice (some ad110) l0_13.length c0_13) := bc_ B1 13 rfl; have hfz139_0 := blk_frozen B1.out 0; have hfz139_1 := blk_frozen B1.out 1; have hfz139_2 := blk_frozen B1.out 2; have hfz139_3 := blk_frozen B1.out 3; have hfz139_4 := blk_frozen B1.out 4; have hfz139_5 := blk_frozen B1.out 5; have hfz139_6 := blk_frozen B1.out 6; have hfz139_7 := blk_frozen B1.out 7; have hfz139_8 := blk_frozen B1.out 8; have hfz139_9 := blk_frozen B1.out 9; have hfz139_10 := blk_frozen B1.out 10; have hfz139_11 := blk_frozen B1.out 11; have hfz139_12 := blk_frozen B1.out 12; have hfz139_13 := blk_frozen B1.out 13; have p112 : 0 ≤ (1 : Int) := (by omega); have q112 : 1 < (l0_13.length : Int) := of_decide_eq_true as_; obtain ⟨ad112, A112_13, c112_13, e112, hx112_0, hx112_1, hx112_2, hx112_3, hx112_4, hx112_5, hx112_6, hx112_7, hx112_8, hx112_9, hx112_10, hx112_11, hx112_12, hx112_13, hl112_13, hi112_13⟩ := at_T28 HR0_13.out 1 p112 q112; obtain rfl : ad110 = ad112 := (by injection e112); (try simp only [show (1 : Int).toNat = 1 from rfl, Nat.reduceMul, Nat.reduceEqDiff, Go.Addr.add, ↓reduceIte] at hx112_0); (try simp only [show (1 : Int).toNat = 1 from rfl, Nat.reduceMul, Nat.reduceEqDiff, Go.Addr.add, ↓reduceIte] at hx112_1); (try simp only [show (1 : Int).toNat = 1 from rfl, Nat.reduceMul, Nat.reduceEqDiff, Go.Addr.add, ↓reduceIte] at hx112_2); (try simp only [show (1 : Int).toNat = 1 from rfl, Nat.reduceMul, Nat.reduceEqDiff, Go.Addr.add, ↓reduceIte] at hx112_3); (try simp only [show (1 : Int).toNat = 1 from rfl, Nat.reduceMul, Nat.reduceEqDiff, Go.Addr.add, ↓reduceIte] at hx112_4); (try simp only [show (1 : Int).toNat = 1 from rfl, Nat.reduceMul, Nat.reduceEqDiff, Go.Addr.add, ↓reduceIte] at hx112_5); (try simp only [show (1 : Int).toNat = 1 from rfl, Nat.reduceMul, Nat.reduceEqDiff, Go.Addr.add, ↓reduceIte] at hx112_6); (try simp only [show (1 : Int).toNat = 1 from rfl, Nat.reduceMul, Nat.reduceEqDiff, Go.Addr.add, ↓reduceIte] at hx112_7); (try simp only [show (1 : Int).toNat = 1 from rfl, Nat.reduceMul, Nat.reduceEqDiff, Go.Addr.add, ↓reduceIte] at hx112_8); (try simp only [show (1 : Int).toNat = 1 from rfl, Nat.reduceMul, Nat.reduceEqDiff, Go.Addr.add, ↓reduceIte] at hx112_9); (try simp only [show (1 : Int).toNat = 1 from rfl, Nat.reduceMul, Nat.reduceEqDiff, Go.Addr.add, ↓reduceIte] at hx112_10); (try simp only [show (1 : Int).toNat = 1 from rfl, Nat.reduceMul, Nat.reduceEqDiff, Go.Addr.add, ↓reduceIte] at hx112_11); (try simp only [show (1 : Int).toNat = 1 from rfl, Nat.reduceMul, Nat.reduceEqDiff, Go.Addr.add, ↓reduceIte] at hx112_12); (try simp only [show (1 : Int).toNat = 1 from rfl, Nat.reduceMul, Nat.reduceEqDiff, Go.Addr.add, ↓reduceIte] at hx112_13); have qi112 : (1 < l0_13.length) = True := eq_true (by omega); (try rw [show ((1 : Int)).toNat = 1 from rfl] at hx112_0); (try rw [show 1 * 14 = 14 from rfl] at hx112_0); (try rw [show ((1 : Int)).toNat = 1 from rfl] at hx112_1); (try rw [show 1 * 14 = 14 from rfl] at hx112_1); (try rw [show ((1 : Int)).toNat = 1 from rfl] at hx112_2); (try rw [show 1 * 14 = 14 from rfl] at hx112_2); (try rw [show ((1 : Int)).toNat = 1 from rfl] at hx112_3); (try rw [show 1 * 14 = 14 from rfl] at hx112_3); (try rw [show ((1 : Int)).toNat = 1 from rfl] at hx112_4); (try rw [show 1 * 14 = 14 from rfl] at hx112_4); (try rw [show ((1 : Int)).toNat = 1 from rfl] at hx112_5); (try rw [show 1 * 14 = 14 from rfl] at hx112_5); (try rw [show ((1 : Int)).toNat = 1 from rfl] at hx112_6); (try rw [show 1 * 14 = 14 from rfl] at hx112_6); (try rw [show ((1 : Int)).toNat = 1 from rfl] at hx112_7); (try rw [show 1 * 14 = 14 from rfl] at hx112_7); (try rw [show ((1 : Int)).toNat = 1 from rfl] at hx112_8); (try rw [show 1 * 14 = 14 from rfl] at hx112_8); (try rw [show ((1 : Int)).toNat = 1 from rfl] at hx112_9); (try rw [show 1 * 14 = 14 from rfl] at hx112_9); (try rw [show ((1 : Int)).toNat = 1 from rfl] at hx112_10); (try rw [show 1 * 14 = 14 from rfl] at hx112_10); (try rw [show ((1 : Int)).toNat = 1 from rfl] at hx112_11); (try rw [show 1 * 14 = 14 from rfl] at hx112_11); (try rw [show ((1 : Int)).toNat = 1 from rfl] at hx112_12); (try rw [show 1 * 14 = 14 from rfl] at hx112_12); (try rw [show ((1 : Int)).toNat = 1 from rfl] at hx112_13); (try rw [show 1 * 14 = 14 from rfl] at hx112_13); replace hx112_0 := (HB.out.cell (World.block_lt_of_cell? w _ hx112_0)).trans hx112_0; replace hx112_1 := (HB.out.cell (World.block_lt_of_cell? w _ hx112_1)).trans hx112_1; replace hx112_2 := (HB.out.cell (World.block_lt_of_cell? w _ hx112_2)).trans hx112_2; replace hx112_3 := (HB.out.cell (World.block_lt_of_cell? w _ hx112_3)).trans hx112_3; replace hx112_4 := (HB.out.cell (World.block_lt_of_cell? w _ hx112_4)).trans hx112_4; replace hx112_5 := (HB.out.cell (World.block_lt_of_cell? w _ hx112_5)).trans hx112_5; replace hx112_6 := (HB.out.cell (World.block_lt_of_cell? w _ hx112_6)).trans hx112_6; replace hx112_7 := (HB.out.cell (World.block_lt_of_cell? w _ hx112_7)).trans hx112_7; replace hx112_8 := (HB.out.cell (World.block_lt_of_cell? w _ hx112_8)).trans hx112_8; replace hx112_9 := (HB.out.cell (World.block_lt_of_cell? w _ hx112_9)).trans hx112_9; replace hx112_10 := (HB.out.cell (World.block_lt_of_cell? w _ hx112_10)).trans hx112_10; replace hx112_11 := (HB.out.cell (World.block_lt_of_cell? w _ hx112_11)).trans hx112_11; replace hx112_12 := (HB.out.cell (World.block_lt_of_cell? w _ hx112_12)).trans hx112_12; replace hx112_13 := (HB.out.cell (World.block_lt_of_cell? w _ hx112_13)).trans hx112_13; have HR112_13 := A_ hi112_13; have HC112_13 := A_ hl112_13; clear hi112_13 hl112_13; replace p112 := eq_true p112; replace q112 := eq_true q112) | (go_at_call 36; (with_reducible refine (oculusref22_arg.calls kj1 118 ((rd_T28 l0_13 1).f0) ((rd_T28 l0_13 1).f1) ((rd_T28 l0_13 1).f2.f0) ((rd_T28 l0_13 1).f2.f1) ((rd_T28 l0_13 1).f2.f2) ((rd_T28 l0_13 1).f3.f0) ((rd_T28 l0_13 1).f3.f1) ((rd_T28 l0_13 1).f3.f2) ((rd_T28 l0_13 1).f3.f3) ((rd_T28 l0_13 1).f4.f0) ((rd_T28 l0_13 1).f4.f1) ((rd_T28 l0_13 1).f4.f2) ((rd_T28 l0_13 1).f4.f3) _ _ ((rd_T28 l0_13 1).f5) t113 _ ?side1 ?side2 A135.out).mono ?_); (case side1 => exact ca_ (Kd.C_below HR112_13.out HB.out)); (case side2 => exact HC112_13.out); rintro e w140 ⟨rfl, hb⟩; replace B1 := bb_ B1 hb; replace B2 := bb_ B2 hb; replace HB := bs_ HB hb; (try clear hb); ))
                 go_ret
                 exact fi_ (pbx HB)
               ·rw [if_neg c134] at H
                exact absurd H (by simp)
              ·obtain rfl := Option.some.inj H
               as_aux_lemma =>
                have hnb141 := N12.out; have hnc141 := N21.out; obtain ⟨⟨hcz142_0, hcz142_1, hcz142_2, hcz142_3, hcz142_4, hcz142_5, hcz142_6, hcz142_7, hcz142_8, hcz142_9, hcz142_10, hcz142_11, hcz142_12, hcz142_13⟩, hfz142_0, hfz142_1, hfz142_2, hfz142_3, hfz142_4, hfz142_5, hfz142_6, hfz142_7, hfz142_8, hfz142_9, hfz142_10, hfz142_11, hfz142_12, hfz142_13⟩ := bk14_ B1.out
                have p110 : 0 ≤ (0 : Int) := (by omega)
                have q110 : 0 < (l0_13.length : Int) := of_decide_eq_true as_
                obtain ⟨ad110, A110_13, c110_13, e110, hx110_0, hx110_1, hx110_2, hx110_3, hx110_4, hx110_5, hx110_6, hx110_7, hx110_8, hx110_9, hx110_10, hx110_11, hx110_12, hx110_13, hl110_13, hi110_13⟩ := at_T28 HR0_13.out 0 p110 q110
                cases e110
                have qi110 : (0 < l0_13.length) = True := eq_true (by omega); (try rw [show ((0 : Int)).toNat = 0 from rfl] at hx110_0); (try rw [show 0 * 14 = 0 from rfl] at hx110_0); (try rw [Addr.add_zero'] at hx110_0); (try rw [show ((0 : Int)).toNat = 0 from rfl] at hx110_1); (try rw [show 0 * 14 = 0 from rfl] at hx110_1); (try rw [Addr.add_zero'] at hx110_1); (try rw [show ((0 : Int)).toNat = 0 from rfl] at hx110_2); (try rw [show 0 * 14 = 0 from rfl] at hx110_2); (try rw [Addr.add_zero'] at hx110_2); (try rw [show ((0 : Int)).toNat = 0 from rfl] at hx110_3); (try rw [show 0 * 14 = 0 from rfl] at hx110_3); (try rw [Addr.add_zero'] at hx110_3); (try rw [show ((0 : Int)).toNat = 0 from rfl] at hx110_4); (try rw [show 0 * 14 = 0 from rfl] at hx110_4); (try rw [Addr.add_zero'] at hx110_4); (try rw [show ((0 : Int)).toNat = 0 from rfl] at hx110_5); (try rw [show 0 * 14 = 0 from rfl] at hx110_5); (try rw [Addr.add_zero'] at hx110_5); (try rw [show ((0 : Int)).toNat = 0 from rfl] at hx110_6); (try rw [show 0 * 14 = 0 from rfl] at hx110_6); (try rw [Addr.add_zero'] at hx110_6); (try rw [show ((0 : Int)).toNat = 0 from rfl] at hx110_7); (try rw [show 0 * 14 = 0 from rfl] at hx110_7); (try rw [Addr.add_zero'] at hx110_7); (try rw [show ((0 : Int)).toNat = 0 from rfl] at hx110_8); (try rw [show 0 * 14 = 0 from rfl] at hx110_8); (try rw [Addr.add_zero'] at hx110_8); (try rw [show ((0 : Int)).toNat = 0 from rfl] at hx110_9); (try rw [show 0 * 14 = 0 from rfl] at hx110_9); (try rw [Addr.add_zero'] at hx110_9)
                (try rw [show ((0 : Int)).toNat = 0 from rfl] at hx110_10); (try rw [show 0 * 14 = 0 from rfl] at hx110_10); (try rw [Addr.add_zero'] at hx110_10); (try rw [show ((0 : Int)).toNat = 0 from rfl] at hx110_11); (try rw [show 0 * 14 = 0 from rfl] at hx110_11); (try rw [Addr.add_zero'] at hx110_11); (try rw [show ((0 : Int)).toNat = 0 from rfl] at hx110_12); (try rw [show 0 * 14 = 0 from rfl] at hx110_12); (try rw [Addr.add_zero'] at hx110_12); (try rw [show ((0 : Int)).toNat = 0 from rfl] at hx110_13); (try rw [show 0 * 14 = 0 from rfl] at hx110_13); (try rw [Addr.add_zero'] at hx110_13)
                replace hx110_0 := (HB.out.cell (World.block_lt_of_cell? w _ hx110_0)).trans hx110_0; replace hx110_1 := (HB.out.cell (World.block_lt_of_cell? w _ hx110_1)).trans hx110_1; replace hx110_2 := (HB.out.cell (World.block_lt_of_cell? w _ hx110_2)).trans hx110_2; replace hx110_3 := (HB.out.cell (World.block_lt_of_cell? w _ hx110_3)).trans hx110_3; replace hx110_4 := (HB.out.cell (World.block_lt_of_cell? w _ hx110_4)).trans hx110_4; replace hx110_5 := (HB.out.cell (World.block_lt_of_cell? w _ hx110_5)).trans hx110_5; replace hx110_6 := (HB.out.cell (World.block_lt_of_cell? w _ hx110_6)).trans hx110_6; replace hx110_7 := (HB.out.cell (World.block_lt_of_cell? w _ hx110_7)).trans hx110_7; replace hx110_8 := (HB.out.cell (World.block_lt_of_cell? w _ hx110_8)).trans hx110_8; replace hx110_9 := (HB.out.cell (World.block_lt_of_cell? w _ hx110_9)).trans hx110_9; replace hx110_10 := (HB.out.cell (World.block_lt_of_cell? w _ hx110_10)).trans hx110_10
                replace hx110_11 := (HB.out.cell (World.block_lt_of_cell? w _ hx110_11)).trans hx110_11; replace hx110_12 := (HB.out.cell (World.block_lt_of_cell? w _ hx110_12)).trans hx110_12; replace hx110_13 := (HB.out.cell (World.block_lt_of_cell? w _ hx110_13)).trans hx110_13; have HR110_13 := A_ hi110_13; have HC110_13 := A_ hl110_13; clear hi110_13 hl110_13; replace p110 := eq_true p110; replace q110 := eq_true q110
                go_wp2_with (first | (go_at_call 36; (with_reducible refine (oculusref22_arg.calls kj1 118 ((rd_T28 l0_13 0).f0) ((rd_T28 l0_13 0).f1) ((rd_T28 l0_13 0).f2.f0) ((rd_T28 l0_13 0).f2.f1) ((rd_T28 l0_13 0).f2.f2) ((rd_T28 l0_13 0).f3.f0) ((rd_T28 l0_13 0).f3.f1) ((rd_T28 l0_13 0).f3.f2) ((rd_T28 l0_13 0).f3.f3) ((rd_T28 l0_13 0).f4.f0) ((rd_T28 l0_13 0).f4.f1) ((rd_T28 l0_13 0).f4.f2) ((rd_T28 l0_13 0).f4.f3) _ _ ((rd_T28 l0_13 0).f5) false _ ?side1 ?side2 A132.out).mono ?_); (case side1 => exact ca_ (Kd.C_below HR110_13.out HB.out)); (case side2 => exact HC110_13.out); rintro e w143 ⟨rfl, hb⟩; replace B1 := bb_ B1 hb; replace B2 := bb_ B2 hb; replace HB := bs_ HB hb; (try clear hb); ))
                go_ret
                exact fi_ (pbx HB)
             ·rw [if_neg c131] at H
              exact absurd H (by simp)
            ·rw [if_neg c130] at H; have ⟨c130b0,c130b1⟩ := e0_ c130; obtain rfl := Option.some.inj H
             as_aux_lemma =>
              have hnb144 := N12.out; have hnc144 := N21.out; obtain ⟨⟨hcz145_0, hcz145_1, hcz145_2, hcz145_3, hcz145_4, hcz145_5, hcz145_6, hcz145_7, hcz145_8, hcz145_9, hcz145_10, hcz145_11, hcz145_12, hcz145_13⟩, hfz145_0, hfz145_1, hfz145_2, hfz145_3, hfz145_4, hfz145_5, hfz145_6, hfz145_7, hfz145_8, hfz145_9, hfz145_10, hfz145_11, hfz145_12, hfz145_13⟩ := bk14_ B1.out
              go_wp2
              go_ret
              exact fi_ (pbx HB)
           ·obtain rfl := Option.some.inj H
            as_aux_lemma =>
             have hnb146 := N12.out; have hnc146 := N21.out; obtain ⟨⟨hcz147_0, hcz147_1, hcz147_2, hcz147_3, hcz147_4, hcz147_5, hcz147_6, hcz147_7, hcz147_8, hcz147_9, hcz147_10, hcz147_11, hcz147_12, hcz147_13⟩, hfz147_0, hfz147_1, hfz147_2, hfz147_3, hfz147_4, hfz147_5, hfz147_6, hfz147_7, hfz147_8, hfz147_9, hfz147_10, hfz147_11, hfz147_12, hfz147_13⟩ := bk14_ B1.out
             go_wp2
             go_ret
             exact fi_ (pbx HB)
          ·rw [if_neg c128] at H; have c128b0 := decide_eq_false c128; clear c128; obtain rfl := Option.some.inj H
           as_aux_lemma =>
            have hnb148 := N12.out; have hnc148 := N21.out; obtain ⟨⟨hcz149_0, hcz149_1, hcz149_2, hcz149_3, hcz149_4, hcz149_5, hcz149_6, hcz149_7, hcz149_8, hcz149_9, hcz149_10, hcz149_11, hcz149_12, hcz149_13⟩, hfz149_0, hfz149_1, hfz149_2, hfz149_3, hfz149_4, hfz149_5, hfz149_6, hfz149_7, hfz149_8, hfz149_9, hfz149_10, hfz149_11, hfz149_12, hfz149_13⟩ := bk14_ B1.out
            go_wp2
            go_ret
            exact fi_ (pbx HB)
         ·rw [if_neg c127] at H; have c127b0 := decide_eq_false c127; clear c127; obtain rfl := Option.some.inj H
          as_aux_lemma =>
           have hnb150 := N12.out; have hnc150 := N21.out; obtain ⟨⟨hcz151_0, hcz151_1, hcz151_2, hcz151_3, hcz151_4, hcz151_5, hcz151_6, hcz151_7, hcz151_8, hcz151_9, hcz151_10, hcz151_11, hcz151_12, hcz151_13⟩, hfz151_0, hfz151_1, hfz151_2, hfz151_3, hfz151_4, hfz151_5, hfz151_6, hfz151_7, hfz151_8, hfz151_9, hfz151_10, hfz151_11, hfz151_12, hfz151_13⟩ := bk14_ B1.out
           go_wp2
           go_ret
           exact fi_ (pbx HB)
        ·rw [if_neg c126] at H; have ⟨c126b0,c126b1⟩ := e0_ c126
         by_cases c152 : a0_0 = 7
         ·rw [if_pos c152] at H; have ⟨c152b0,c152b1⟩ := e1_ c152; clear c152; have HC153 := A_ H; clear H; have hnb154 := N12.out; have hnc154 := N21.out; obtain ⟨⟨hcz155_0, hcz155_1, hcz155_2, hcz155_3, hcz155_4, hcz155_5, hcz155_6, hcz155_7, hcz155_8, hcz155_9, hcz155_10, hcz155_11, hcz155_12, hcz155_13⟩, hfz155_0, hfz155_1, hfz155_2, hfz155_3, hfz155_4, hfz155_5, hfz155_6, hfz155_7, hfz155_8, hfz155_9, hfz155_10, hfz155_11, hfz155_12, hfz155_13⟩ := bk14_ B1.out
          go_upto_region 22 with (fail)
          go_cut [222] (fun v222 wc => ∃ (kq : Nat) (x222_152 : Bool), v222 = .bool x222_152 ∧ Aside0 (oculusref22_one.j2 kq x222_152 a0_0 a0_1 a0_2 a0_3 a0_4 a0_5 a0_6 a0_7 a0_8 a0_9 a0_10 a0_11 a0_12 l0_13 = some r) ∧ Aside0 (kq ≤ kj1) ∧ Aside0 (wc.heap[g1]? = some (.cells #[.int .i64 a0_0, .int .i64 a0_1, .int .i64 a0_2, .int .i64 a0_3, .string a0_4, .int .i64 a0_5, .int .i64 a0_6, .bool a0_7, .bool a0_8, .int .i64 a0_9, .int .i64 a0_10, .bool a0_11, .bool a0_12, (.slice A0_13 l0_13.length c0_13)] 28 (0, 0))) ∧ Aside0 (wc.heap[g2]? = some (.cells #[.int .i64 0, .int .i64 0, .bool false, .bool false] 25 (0, 0))) ∧ Aside0 (Below w.heap.size w wc))
          case first =>
           have H := HC153.out; clear HC153
           replace H := ib_ H; rcases H with ⟨rfl,H⟩|⟨rfl,H⟩
           ·obtain ⟨t114, A157, H⟩ := bo_ H
            have H' := A_ H
            clear H; have hnb158 := N12.out; have hnc158 := N21.out; obtain ⟨⟨hcz159_0, hcz159_1, hcz159_2, hcz159_3, hcz159_4, hcz159_5, hcz159_6, hcz159_7, hcz159_8, hcz159_9, hcz159_10, hcz159_11, hcz159_12, hcz159_13⟩, hfz159_0, hfz159_1, hfz159_2, hfz159_3, hfz159_4, hfz159_5, hfz159_6, hfz159_7, hfz159_8, hfz159_9, hfz159_10, hfz159_11, hfz159_12, hfz159_13⟩ := bk14_ B1.out
            go_wp2_with (first | (go_at_call 37; (with_reducible refine (oculusref19_Fits.calls a0_1 (l0_13.length : Int) t114 _ A157.out).mono ?_); rintro e w160 ⟨rfl, hb⟩; replace B1 := bb_ B1 hb; replace B2 := bb_ B2 hb; replace HB := bs_ HB hb; (try clear hb); ))
            go_meet
            case rel => exact ⟨_, (!t114), (by first | rfl | (simp; done) | (simp [*]; done) | (cases t114 <;> simp; done)), H', ⟨by have := HJ1.out; first | omega | exact Nat.le_refl _⟩, ⟨pkx B1⟩, ⟨pkx B2⟩, ⟨pbx HB⟩⟩
           ·have H' := A_ H
            clear H
            go_wp2
            go_meet
            case rel => exact ⟨_, (true), sq_, H', ⟨by have := HJ1.out; first | omega | exact Nat.le_refl _⟩, ⟨pkx B1⟩, ⟨pkx B2⟩, ⟨pbx HB⟩⟩
          case rest =>
           clear HC153; (try clear c111); (try clear c111b0); (try clear c111b1); (try clear c126); (try clear c126b0); (try clear c126b1); (try clear c152); (try clear c152b0); (try clear c152b1)
           (try clear hcz155_0); (try clear hcz155_1); (try clear hcz155_10); (try clear hcz155_11); (try clear hcz155_12); (try clear hcz155_13); (try clear hcz155_2); (try clear hcz155_3); (try clear hcz155_4); (try clear hcz155_5); (try clear hcz155_6); (try clear hcz155_7); (try clear hcz155_8); (try clear hcz155_9)
           (try clear hfz155_0); (try clear hfz155_1); (try clear hfz155_10); (try clear hfz155_11); (try clear hfz155_12); (try clear hfz155_13); (try clear hfz155_2); (try clear hfz155_3); (try clear hfz155_4); (try clear hfz155_5); (try clear hfz155_6); (try clear hfz155_7); (try clear hfz155_8); (try clear hfz155_9)
           obtain ⟨kq, x222_152, rfl, HA, HJ152, B1, B2, HB⟩ := hcut
           cases kq with
           | zero => exact absurd HA.out (by simp [oculusref22_one.j2])
           | succ kj152 =>
            have H := HA.out; clear HA
            simp only [oculusref22_one.j2] at H
            replace H := ib_ H; rcases H with ⟨rfl,H⟩|⟨rfl,H⟩
            ·obtain rfl := Option.some.inj H
             go_wp2
             go_ret
             exact fi_ (pbx HB)
            ·have H' := A_ H
             clear H
             go_wp2
             go_loopg [6] kj152 (fun kq v6 w' => ∃ (x6_3 : Int), v6 = .int .i64 x6_3 ∧ Aside0 (oculusref22_one.l1 kq x6_3 a0_0 a0_1 a0_2 a0_3 a0_4 a0_5 a0_6 a0_7 a0_8 a0_9 a0_10 a0_11 a0_12 l0_13 = some r) ∧ Aside0 (kq ≤ kj152) ∧ Aside0 (w'.heap[g1]? = some (.cells #[.int .i64 a0_0, .int .i64 a0_1, .int .i64 a0_2, .int .i64 a0_3, .string a0_4, .int .i64 a0_5, .int .i64 a0_6, .bool a0_7, .bool a0_8, .int .i64 a0_9, .int .i64 a0_10, .bool a0_11, .bool a0_12, (.slice A0_13 l0_13.length c0_13)] 28 (0, 0))) ∧ Aside0 (w'.heap[g2]? = some (.cells #[.int .i64 0, .int .i64 0, .bool false, .bool false] 25 (0, 0))) ∧ Aside0 (Below w.heap.size w w'))
             case atStart => exact ⟨(0), sq_, H', ⟨Nat.le_refl _⟩, ⟨pkx B1⟩, ⟨pkx B2⟩, ⟨pbx HB⟩⟩
             case round =>
              clear H'; (try clear c111); (try clear c111b0); (try clear c111b1); (try clear c126); (try clear c126b0); (try clear c126b1); (try clear c152); (try clear c152b0); (try clear c152b1); (try clear c161)
              (try clear hcz155_0); (try clear hcz155_1); (try clear hcz155_10); (try clear hcz155_11); (try clear hcz155_12); (try clear hcz155_13); (try clear hcz155_2); (try clear hcz155_3); (try clear hcz155_4); (try clear hcz155_5); (try clear hcz155_6); (try clear hcz155_7); (try clear hcz155_8); (try clear hcz155_9)
              (try clear hfz155_0); (try clear hfz155_1); (try clear hfz155_10); (try clear hfz155_11); (try clear hfz155_12); (try clear hfz155_13); (try clear hfz155_2); (try clear hfz155_3); (try clear hfz155_4); (try clear hfz155_5); (try clear hfz155_6); (try clear hfz155_7); (try clear hfz155_8); (try clear hfz155_9)
              obtain ⟨x6_3, rfl, HA, HK3, B1, B2, HB⟩ := hrel
              cases gk with
              | zero => exact absurd HA.out (by simp [oculusref22_one.l1])
              | succ k3 =>
               have H := HA.out; clear HA
               simp only [oculusref22_one.l1] at H
               by_cases c162 : x6_3 < (l0_13.length : Int)
               ·rw [if_pos c162] at H; have c162b0 := decide_eq_true c162; clear c162; have HC163 := A_ H; clear H; have hnb164 := N12.out; have hnc164 := N21.out; obtain ⟨⟨hcz165_0, hcz165_1, hcz165_2, hcz165_3, hcz165_4, hcz165_5, hcz165_6, hcz165_7, hcz165_8, hcz165_9, hcz165_10, hcz165_11, hcz165_12, hcz165_13⟩, hfz165_0, hfz165_1, hfz165_2, hfz165_3, hfz165_4, hfz165_5, hfz165_6, hfz165_7, hfz165_8, hfz165_9, hfz165_10, hfz165_11, hfz165_12, hfz165_13⟩ := bk14_ B1.out
                go_upto_region 27 with (fail)
                go_cut [240] (fun v240 wc => ∃ (kq : Nat) (x240_162 : Bool), v240 = .bool x240_162 ∧ Aside0 (oculusref22_one.j4 kq x6_3 x240_162 a0_0 a0_1 a0_2 a0_3 a0_4 a0_5 a0_6 a0_7 a0_8 a0_9 a0_10 a0_11 a0_12 l0_13 = some r) ∧ Aside0 (kq ≤ k3) ∧ Aside0 (wc.heap[g1]? = some (.cells #[.int .i64 a0_0, .int .i64 a0_1, .int .i64 a0_2, .int .i64 a0_3, .string a0_4, .int .i64 a0_5, .int .i64 a0_6, .bool a0_7, .bool a0_8, .int .i64 a0_9, .int .i64 a0_10, .bool a0_11, .bool a0_12, (.slice A0_13 l0_13.length c0_13)] 28 (0, 0))) ∧ Aside0 (wc.heap[g2]? = some (.cells #[.int .i64 0, .int .i64 0, .bool false, .bool false] 25 (0, 0))) ∧ Aside0 (Below w.heap.size w wc))
                case first =>
                 have H := HC163.out; clear HC163; obtain ⟨t115, A166, H⟩ := bo_ H
                 by_cases c167 : 0 ≤ x6_3
                 ·rw [if_pos c167] at H; have c167b0 := decide_eq_true c167; clear c167; (first | rw [c167b0] | (simp only [i64_w, i32_w]; rw [c167b0]) | skip)
                  obtain ⟨t117, A168, H⟩ := bo_ H
                  have H' := A_ H
                  clear H
                  try go_wp2
                  (try (rw [drewN_self wr]; generalize hq_ : World.drewN wr _ = wr; have n0_ : Aside0 (wr.heap[g1]? = some (.cells #[.int .i64 a0_0, .int .i64 a0_1, .int .i64 a0_2, .int .i64 a0_3, .string a0_4, .int .i64 a0_5, .int .i64 a0_6, .bool a0_7, .bool a0_8, .int .i64 a0_9, .int .i64 a0_10, .bool a0_11, .bool a0_12, .slice A0_13 l0_13.length c0_13] 28 (0, 0))) := ⟨by rw [← hq_]; exact (pkx B1)⟩; have n1_ : Aside0 (wr.heap[g2]? = some (.cells #[.int .i64 0, .int .i64 0, .bool false, .bool false] 25 (0, 0))) := ⟨by rw [← hq_]; exact (pkx B2)⟩; have n2_ : Aside0 (Below w.heap.size w wr) := ⟨by rw [← hq_]; exact (pbx HB)⟩; clear B1 B2 HB hq_; have B1 := n0_; have B2 := n1_; have HB := n2_; clear n0_ n1_ n2_))
                  replace B1 := A_ (blk_drew B1.out); replace B2 := A_ (blk_drew B2.out); replace HB := A_ (below_drew1 HB.out)
                  have p116 : 0 ≤ (x6_3 : Int) := of_decide_eq_true as_
                  have q116 : x6_3 < (l0_13.length : Int) := of_decide_eq_true as_
                  obtain ⟨ad116, A116_13, c116_13, e116, hx116_0, hx116_1, hx116_2, hx116_3, hx116_4, hx116_5, hx116_6, hx116_7, hx116_8, hx116_9, hx116_10, hx116_11, hx116_12, hx116_13, hl116_13, hi116_13⟩ := at_T28 HR0_13.out x6_3 p116 q116; have hw116_13 := hx116_13; have hw116_12 := hx116_12; have hw116_11 := hx116_11; have hw116_10 := hx116_10; have hw116_9 := hx116_9; have hw116_8 := hx116_8; have hw116_7 := hx116_7; have hw116_6 := hx116_6; have hw116_5 := hx116_5; have hw116_4 := hx116_4; have hw116_3 := hx116_3; have hw116_2 := hx116_2; have hw116_1 := hx116_1; have hw116_0 := hx116_0
                  cases e116
                  replace hx116_0 := (HB.out.cell (World.block_lt_of_cell? w _ hx116_0)).trans hx116_0; replace hx116_1 := (HB.out.cell (World.block_lt_of_cell? w _ hx116_1)).trans hx116_1; replace hx116_2 := (HB.out.cell (World.block_lt_of_cell? w _ hx116_2)).trans hx116_2; replace hx116_3 := (HB.out.cell (World.block_lt_of_cell? w _ hx116_3)).trans hx116_3; replace hx116_4 := (HB.out.cell (World.block_lt_of_cell? w _ hx116_4)).trans hx116_4; replace hx116_5 := (HB.out.cell (World.block_lt_of_cell? w _ hx116_5)).trans hx116_5; replace hx116_6 := (HB.out.cell (World.block_lt_of_cell? w _ hx116_6)).trans hx116_6; replace hx116_7 := (HB.out.cell (World.block_lt_of_cell? w _ hx116_7)).trans hx116_7; replace hx116_8 := (HB.out.cell (World.block_lt_of_cell? w _ hx116_8)).trans hx116_8; replace hx116_9 := (HB.out.cell (World.block_lt_of_cell? w _ hx116_9)).trans hx116_9; replace hx116_10 := (HB.out.cell (World.block_lt_of_cell? w _ hx116_10)).trans hx116_10
                  replace hx116_11 := (HB.out.cell (World.block_lt_of_cell? w _ hx116_11)).trans hx116_11; replace hx116_12 := (HB.out.cell (World.block_lt_of_cell? w _ hx116_12)).trans hx116_12; replace hx116_13 := (HB.out.cell (World.block_lt_of_cell? w _ hx116_13)).trans hx116_13; have HR116_13 := A_ hi116_13; have HC116_13 := A_ hl116_13; clear hi116_13 hl116_13; replace p116 := eq_true p116; replace q116 := eq_true q116
                  refine start_ (n:=11) (S := fun w' => w'.cell? ⟨g1, 0, none⟩ = some (.int .i64 a0_0) ∧ w'.cell? ⟨g1, 1, none⟩ = some (.int .i64 a0_1) ∧ w'.cell? ⟨g1, 2, none⟩ = some (.int .i64 a0_2) ∧ w'.cell? ⟨g1, 3, none⟩ = some (.int .i64 a0_3) ∧ w'.cell? ⟨g1, 4, none⟩ = some (.string a0_4) ∧ w'.cell? ⟨g1, 5, none⟩ = some (.int .i64 a0_5) ∧ w'.cell? ⟨g1, 6, none⟩ = some (.int .i64 a0_6) ∧ w'.cell? ⟨g1, 7, none⟩ = some (.bool a0_7) ∧ w'.cell? ⟨g1, 8, none⟩ = some (.bool a0_8) ∧ w'.cell? ⟨g1, 9, none⟩ = some (.int .i64 a0_9) ∧ w'.cell? ⟨g1, 10, none⟩ = some (.int .i64 a0_10) ∧ w'.cell? ⟨g1, 11, none⟩ = some (.bool a0_11) ∧ w'.cell? ⟨g1, 12, none⟩ = some (.bool a0_12) ∧ w'.cell? ⟨g1, 13, none⟩ = some (.slice (some ad116) l0_13.length c0_13) ∧ w'.cell? (ad116.add ((x6_3).toNat * 14)) = some (.int .i64 ((rd_T28 l0_13 x6_3).f0)) ∧ w'.cell? ⟨(ad116.add ((x6_3).toNat * 14)).block, (ad116.add ((x6_3).toNat * 14)).off + 1, none⟩ = some (.int .i64 ((rd_T28 l0_13 x6_3).f1)) ∧ w'.cell? ⟨(ad116.add ((x6_3).toNat * 14)).block, (ad116.add ((x6_3).toNat * 14)).off + 2, none⟩ = some (.int .i64 ((rd_T28 l0_13 x6_3).f2.f0)) ∧ w'.cell? ⟨(ad116.add ((x6_3).toNat * 14)).block, (ad116.add ((x6_3).toNat * 14)).off + 3, none⟩ = some (.int .i64 ((rd_T28 l0_13 x6_3).f2.f1)) ∧ w'.cell? ⟨(ad116.add ((x6_3).toNat * 14)).block, (ad116.add ((x6_3).toNat * 14)).off + 4, none⟩ = some (.string ((rd_T28 l0_13 x6_3).f2.f2)) ∧ w'.cell? ⟨(ad116.add ((x6_3).toNat * 14)).block, (ad116.add ((x6_3).toNat * 14)).off + 5, none⟩ = some (.int .i64 ((rd_T28 l0_13 x6_3).f3.f0)) ∧ w'.cell? ⟨(ad116.add ((x6_3).toNat * 14)).block, (ad116.add ((x6_3).toNat * 14)).off + 6, none⟩ = some (.int .i64 ((rd_T28 l0_13 x6_3).f3.f1)) ∧ w'.cell? ⟨(ad116.add ((x6_3).toNat * 14)).block, (ad116.add ((x6_3).toNat * 14)).off + 7, none⟩ = some (.bool ((rd_T28 l0_13 x6_3).f3.f2)) ∧ w'.cell? ⟨(ad116.add ((x6_3).toNat * 14)).block, (ad116.add ((x6_3).toNat * 14)).off + 8, none⟩ = some (.bool ((rd_T28 l0_13 x6_3).f3.f3)) ∧ w'.cell? ⟨(ad116.add ((x6_3).toNat * 14)).block, (ad116.add ((x6_3).toNat * 14)).off + 9, none⟩ = some (.int .i64 ((rd_T28 l0_13 x6_3).f4.f0)) ∧ w'.cell? ⟨(ad116.add ((x6_3).toNat * 14)).block, (ad116.add ((x6_3).toNat * 14)).off + 10, none⟩ = some (.int .i64 ((rd_T28 l0_13 x6_3).f4.f1)) ∧ w'.cell? ⟨(ad116.add ((x6_3).toNat * 14)).block, (ad116.add ((x6_3).toNat * 14)).off + 11, none⟩ = some (.bool ((rd_T28 l0_13 x6_3).f4.f2)) ∧ w'.cell? ⟨(ad116.add ((x6_3).toNat * 14)).block, (ad116.add ((x6_3).toNat * 14)).off + 12, none⟩ = some (.bool ((rd_T28 l0_13 x6_3).f4.f3)) ∧ w'.cell? ⟨(ad116.add ((x6_3).toNat * 14)).block, (ad116.add ((x6_3).toNat * 14)).off + 13, none⟩ = some (.slice A116_13 ((rd_T28 l0_13 x6_3).f5).length c116_13)) (ds := []) #[F,F,F,F,F,F,F,F,F,F,F] (by kernel_rfl) rfl rfl ⟨bc_ B1 0 rfl, bc_ B1 1 rfl, bc_ B1 2 rfl, bc_ B1 3 rfl, bc_ B1 4 rfl, bc_ B1 5 rfl, bc_ B1 6 rfl, bc_ B1 7 rfl, bc_ B1 8 rfl, bc_ B1 9 rfl, bc_ B1 10 rfl, bc_ B1 11 rfl, bc_ B1 12 rfl, bc_ B1 13 rfl, ((HB.out.cell (World.block_lt_of_cell? w _ hw116_0)).trans hw116_0), ((HB.out.cell (World.block_lt_of_cell? w _ hw116_1)).trans hw116_1), ((HB.out.cell (World.block_lt_of_cell? w _ hw116_2)).trans hw116_2), ((HB.out.cell (World.block_lt_of_cell? w _ hw116_3)).trans hw116_3), ((HB.out.cell (World.block_lt_of_cell? w _ hw116_4)).trans hw116_4), ((HB.out.cell (World.block_lt_of_cell? w _ hw116_5)).trans hw116_5), ((HB.out.cell (World.block_lt_of_cell? w _ hw116_6)).trans hw116_6), ((HB.out.cell (World.block_lt_of_cell? w _ hw116_7)).trans hw116_7), ((HB.out.cell (World.block_lt_of_cell? w _ hw116_8)).trans hw116_8), ((HB.out.cell (World.block_lt_of_cell? w _ hw116_9)).trans hw116_9), ((HB.out.cell (World.block_lt_of_cell? w _ hw116_10)).trans hw116_10), ((HB.out.cell (World.block_lt_of_cell? w _ hw116_11)).trans hw116_11), ((HB.out.cell (World.block_lt_of_cell? w _ hw116_12)).trans hw116_12), ((HB.out.cell (World.block_lt_of_cell? w _ hw116_13)).trans hw116_13)⟩ (fun hHeld => ?_); refine with_tabW oculusref22_one.tab27 oculusref22_one.bits27 (fun HT_ HW_ => ?_)
                  generalize wr.drew = w169 at B1 B2 HB HR116_13 hx116_0 hx116_1 hx116_10 hx116_11 hx116_12 hx116_13 hx116_2 hx116_3 hx116_4 hx116_5 hx116_6 hx116_7 hx116_8 hx116_9 hHeld ⊢; refine pure_ (i:=0) (N:=some 230) (v:=?_) (a':=?_) ⟨m_ 11 1⟩ rfl rfl (ao_ HT_) (fun _ _ _ h=>h) (Or.inl ⟨rfl, ?_⟩) ?_ ?_; rotate_left
                  ·intro w'; go_simp; with_reducible rfl
                  rotate_left
                  ·simp only [q_, i64_w, i32_w]; rfl
                  refine pure_ (i:=2) (N:=some 232) (v:=?_) (a':=?_) ⟨m_ 11 5⟩ rfl rfl (ao_ HT_) (fun _ _ _ h=>h) (Or.inl ⟨rfl, ?_⟩) ?_ ?_; rotate_left
                  ·intro w'; go_simp; with_reducible rfl
                  rotate_left
                  ·simp only [q_, i64_w, i32_w]; rfl
                  refine pure_ (i:=4) (N:=some 234) (v:=?_) (a':=?_) ⟨m_ 11 21⟩ rfl rfl (ao_ HT_) (fun _ _ _ h=>h) (Or.inl ⟨rfl, ?_⟩) ?_ ?_; rotate_left
                  ·intro w'; go_simp; with_reducible rfl
                  rotate_left
                  ·simp only [q_, i64_w, i32_w]; rfl
                  refine pure_ (i:=6) (N:=some 236) (v:=?_) (a':=?_) ⟨m_ 11 85⟩ rfl rfl (ao_ HT_) (fun _ _ _ h=>h) (Or.inl ⟨rfl, ?_⟩) ?_ ?_; rotate_left
                  ·intro w'; go_simp; with_reducible rfl
                  rotate_left
                  ·simp only [q_, i64_w, i32_w]; rfl
                  refine take_ (i:=1) (N:=some 231) (v:=?_) (a':=?_) ⟨m_ 11 87⟩ rfl rfl (tw_ HT_ HW_) (fun _ _ _ h=>h) (Or.inl ⟨rfl, ?_⟩) hHeld ?_ ?_; rotate_left
                  ·rintro w' ⟨s0, s1, s2, s3, s4, s5, s6, s7, s8, s9, s10, s11, s12, s13, s14, s15, s16, s17, s18, s19, s20, s21, s22, s23, s24, s25, s26, s27⟩; go_simp; with_reducible rfl
                  rotate_left
                  ·simp only [q_, i64_w, i32_w]; rfl
                  refine take_ (i:=5) (N:=some 235) (v:=?_) (a':=?_) ⟨m_ 11 119⟩ rfl rfl (tw_ HT_ HW_) (fun _ _ _ h=>h) (Or.inl ⟨rfl, ?_⟩) hHeld ?_ ?_; rotate_left
                  ·rintro w' ⟨s0, s1, s2, s3, s4, s5, s6, s7, s8, s9, s10, s11, s12, s13, s14, s15, s16, s17, s18, s19, s20, s21, s22, s23, s24, s25, s26, s27⟩; go_simp; with_reducible rfl
                  rotate_left
                  ·simp only [q_, i64_w, i32_w]; rfl
                  refine pure_ (i:=7) (N:=some 237) (v:=?_) (a':=?_) ⟨m_ 11 247⟩ rfl rfl (ao_ HT_) (fun _ _ _ h=>h) (Or.inl ⟨rfl, ?_⟩) ?_ ?_; rotate_left
                  ·intro w'; go_simp; with_reducible rfl
                  rotate_left
                  ·simp only [q_, i64_w, i32_w]; rfl
                  refine take_ (i:=8) (N:=some 238) (v:=?_) (a':=?_) ⟨m_ 11 503⟩ rfl rfl (tw_ HT_ HW_) (fun _ _ _ h=>h) (Or.inl ⟨rfl, ?_⟩) hHeld ?_ ?_; rotate_left
                  ·rintro w' ⟨s0, s1, s2, s3, s4, s5, s6, s7, s8, s9, s10, s11, s12, s13, s14, s15, s16, s17, s18, s19, s20, s21, s22, s23, s24, s25, s26, s27⟩; go_simp; with_reducible rfl
                  rotate_left
                  ·simp only [q_, i64_w, i32_w]; rfl
                  refine one_ (i:=3) (N:=some 233) ⟨m_ 11 511⟩ rfl rfl (oo_ HT_) (by decide) (fun K hK => ?_); refine goes_ Tryd.func38 (by kernel_rfl) rfl #[.int .i64 a0_1, .int .i64 x6_3] (by rfl) rfl rfl ha_ ?_; with_reducible refine (oculusref19_Kind.calls k3 a0_1 x6_3 t115 _ A166.out).mono ?_; rintro e w170 ⟨rfl, hb⟩; refine ⟨_, rfl, ?_⟩
                  replace B1 := bb_ B1 hb; replace B2 := bb_ B2 hb; replace HB := bs_ HB hb; (try clear hb); refine hK.out _ _ ⟨bc_ B1 0 rfl, bc_ B1 1 rfl, bc_ B1 2 rfl, bc_ B1 3 rfl, bc_ B1 4 rfl, bc_ B1 5 rfl, bc_ B1 6 rfl, bc_ B1 7 rfl, bc_ B1 8 rfl, bc_ B1 9 rfl, bc_ B1 10 rfl, bc_ B1 11 rfl, bc_ B1 12 rfl, bc_ B1 13 rfl, ((HB.out.cell (World.block_lt_of_cell? w _ hw116_0)).trans hw116_0), ((HB.out.cell (World.block_lt_of_cell? w _ hw116_1)).trans hw116_1), ((HB.out.cell (World.block_lt_of_cell? w _ hw116_2)).trans hw116_2), ((HB.out.cell (World.block_lt_of_cell? w _ hw116_3)).trans hw116_3), ((HB.out.cell (World.block_lt_of_cell? w _ hw116_4)).trans hw116_4), ((HB.out.cell (World.block_lt_of_cell? w _ hw116_5)).trans hw116_5), ((HB.out.cell (World.block_lt_of_cell? w _ hw116_6)).trans hw116_6), ((HB.out.cell (World.block_lt_of_cell? w _ hw116_7)).trans hw116_7), ((HB.out.cell (World.block_lt_of_cell? w _ hw116_8)).trans hw116_8), ((HB.out.cell (World.block_lt_of_cell? w _ hw116_9)).trans hw116_9), ((HB.out.cell (World.block_lt_of_cell? w _ hw116_10)).trans hw116_10), ((HB.out.cell (World.block_lt_of_cell? w _ hw116_11)).trans hw116_11), ((HB.out.cell (World.block_lt_of_cell? w _ hw116_12)).trans hw116_12), ((HB.out.cell (World.block_lt_of_cell? w _ hw116_13)).trans hw116_13)⟩ (fun hHeld => ?_); clear hK K; refine norm_ (a':=?_) ?_ ?_; rotate_left
                  ·show Act.put _ (some 233) _ = _; simp only [q_, i64_w, i32_w]; rfl
                  refine one_ (i:=9) (N:=some 239) ⟨m_ 11 1023⟩ rfl rfl (oo_ HT_) (by decide) (fun K hK => ?_); refine goes_ Tryd.func36 (by kernel_rfl) rfl #[.int .u8 t115, .agg #[.int .i64 ((rd_T28 l0_13 x6_3).f0), .int .i64 ((rd_T28 l0_13 x6_3).f1), .int .i64 ((rd_T28 l0_13 x6_3).f2.f0), .int .i64 ((rd_T28 l0_13 x6_3).f2.f1), .string ((rd_T28 l0_13 x6_3).f2.f2), .int .i64 ((rd_T28 l0_13 x6_3).f3.f0), .int .i64 ((rd_T28 l0_13 x6_3).f3.f1), .bool ((rd_T28 l0_13 x6_3).f3.f2), .bool ((rd_T28 l0_13 x6_3).f3.f3), .int .i64 ((rd_T28 l0_13 x6_3).f4.f0), .int .i64 ((rd_T28 l0_13 x6_3).f4.f1), .bool ((rd_T28 l0_13 x6_3).f4.f2), .bool ((rd_T28 l0_13 x6_3).f4.f3), .slice A116_13 ((rd_T28 l0_13 x6_3).f5).length c116_13]] (by rfl) rfl rfl ha_ ?_; with_reducible refine (oculusref22_arg.calls k3 t115 ((rd_T28 l0_13 x6_3).f0) ((rd_T28 l0_13 x6_3).f1) ((rd_T28 l0_13 x6_3).f2.f0) ((rd_T28 l0_13 x6_3).f2.f1) ((rd_T28 l0_13 x6_3).f2.f2) ((rd_T28 l0_13 x6_3).f3.f0) ((rd_T28 l0_13 x6_3).f3.f1) ((rd_T28 l0_13 x6_3).f3.f2) ((rd_T28 l0_13 x6_3).f3.f3) ((rd_T28 l0_13 x6_3).f4.f0) ((rd_T28 l0_13 x6_3).f4.f1) ((rd_T28 l0_13 x6_3).f4.f2) ((rd_T28 l0_13 x6_3).f4.f3) _ _ ((rd_T28 l0_13 x6_3).f5) t117 _ ?side1 ?side2 A168.out).mono ?_; (case side1 => exact ca_ (Kd.C_below HR116_13.out HB.out))
                  (case side2 => exact HC116_13.out); rintro e w171 ⟨rfl, hb⟩; refine ⟨_, rfl, ?_⟩
                  replace B1 := bb_ B1 hb; replace B2 := bb_ B2 hb; replace HB := bs_ HB hb; (try clear hb); refine hK.out _ _ ⟨bc_ B1 0 rfl, bc_ B1 1 rfl, bc_ B1 2 rfl, bc_ B1 3 rfl, bc_ B1 4 rfl, bc_ B1 5 rfl, bc_ B1 6 rfl, bc_ B1 7 rfl, bc_ B1 8 rfl, bc_ B1 9 rfl, bc_ B1 10 rfl, bc_ B1 11 rfl, bc_ B1 12 rfl, bc_ B1 13 rfl, ((HB.out.cell (World.block_lt_of_cell? w _ hw116_0)).trans hw116_0), ((HB.out.cell (World.block_lt_of_cell? w _ hw116_1)).trans hw116_1), ((HB.out.cell (World.block_lt_of_cell? w _ hw116_2)).trans hw116_2), ((HB.out.cell (World.block_lt_of_cell? w _ hw116_3)).trans hw116_3), ((HB.out.cell (World.block_lt_of_cell? w _ hw116_4)).trans hw116_4), ((HB.out.cell (World.block_lt_of_cell? w _ hw116_5)).trans hw116_5), ((HB.out.cell (World.block_lt_of_cell? w _ hw116_6)).trans hw116_6), ((HB.out.cell (World.block_lt_of_cell? w _ hw116_7)).trans hw116_7), ((HB.out.cell (World.block_lt_of_cell? w _ hw116_8)).trans hw116_8), ((HB.out.cell (World.block_lt_of_cell? w _ hw116_9)).trans hw116_9), ((HB.out.cell (World.block_lt_of_cell? w _ hw116_10)).trans hw116_10), ((HB.out.cell (World.block_lt_of_cell? w _ hw116_11)).trans hw116_11), ((HB.out.cell (World.block_lt_of_cell? w _ hw116_12)).trans hw116_12), ((HB.out.cell (World.block_lt_of_cell? w _ hw116_13)).trans hw116_13)⟩ (fun hHeld => ?_); clear hK K; refine norm_ (a':=?_) ?_ ?_; rotate_left
                  ·show Act.put _ (some 239) _ = _; simp only [q_, i64_w, i32_w]; rfl
                  refine pure_ (i:=10) (N:=some 240) (v:=?_) (a':=?_) ⟨m_ 11 2047⟩ rfl rfl (ao_ HT_) (fun _ _ _ h=>h) (Or.inl ⟨rfl, ?_⟩) ?_ ?_; rotate_left
                  ·intro w'; go_simp; with_reducible rfl
                  rotate_left
                  ·simp only [q_, i64_w, i32_w]; rfl
                  refine done_ (done_of HT_.out (by kernel_rfl)) ?_
                  try go_wp2
                  go_meet
                  case rel => exact ⟨_, (!t117), (by first | rfl | (simp; done) | (simp [*]; done) | (cases t117 <;> simp; done)), H', ⟨by have := HJ1.out; have := HJ152.out; have := HK3.out; first | omega | exact Nat.le_refl _⟩, ⟨pkx B1⟩, ⟨pkx B2⟩, ⟨pbx HB⟩⟩
                 ·rw [if_neg c167] at H
                  exact absurd H (by simp)
                case rest =>
                 clear HC163; (try clear c161); (try clear c162); (try clear c162b0)
                 (try clear hcz155_0); (try clear hcz155_1); (try clear hcz155_10); (try clear hcz155_11); (try clear hcz155_12); (try clear hcz155_13); (try clear hcz155_2)
                 (try clear hcz155_3); (try clear hcz155_4); (try clear hcz155_5); (try clear hcz155_6); (try clear hcz155_7); (try clear hcz155_8); (try clear hcz155_9); (try clear hcz165_0); (try clear hcz165_1); (try clear hcz165_10); (try clear hcz165_11); (try clear hcz165_12); (try clear hcz165_13); (try clear hcz165_2); (try clear hcz165_3); (try clear hcz165_4); (try clear hcz165_5); (try clear hcz165_6); (try clear hcz165_7); (try clear hcz165_8); (try clear hcz165_9)
                 (try clear hfz155_0); (try clear hfz155_1); (try clear hfz155_10); (try clear hfz155_11); (try clear hfz155_12); (try clear hfz155_13); (try clear hfz155_2); (try clear hfz155_3); (try clear hfz155_4); (try clear hfz155_5); (try clear hfz155_6); (try clear hfz155_7); (try clear hfz155_8); (try clear hfz155_9); (try clear hfz165_0); (try clear hfz165_1); (try clear hfz165_10); (try clear hfz165_11); (try clear hfz165_12); (try clear hfz165_13); (try clear hfz165_2); (try clear hfz165_3); (try clear hfz165_4); (try clear hfz165_5); (try clear hfz165_6); (try clear hfz165_7); (try clear hfz165_8); (try clear hfz165_9)
                 obtain ⟨kq, x240_162, rfl, HA, HJ162, B1, B2, HB⟩ := hcut
                 cases kq with
                 | zero => exact absurd HA.out (by simp [oculusref22_one.j4])
                 | succ kj162 =>
                  have H := HA.out; clear HA
                  simp only [oculusref22_one.j4] at H
                  replace H := ib_ H; rcases H with ⟨rfl,H⟩|⟨rfl,H⟩
                  ·obtain rfl := Option.some.inj H
                   go_wp2
                   go_ret
                   exact fi_ (pbx HB)
                  ·have H' := A_ H
                   clear H
                   go_wp2
                   go_roundg kj162
                   case measure => have := HJ1.out; have := HJ152.out; have := HK3.out; have := HJ162.out; omega
                   case rel => exact ⟨(wrap64 (x6_3 + 1)), sq_, H', ⟨by have := HJ1.out; have := HJ152.out; have := HK3.out; have := HJ162.out; omega⟩, ⟨pkx B1⟩, ⟨pkx B2⟩, ⟨pbx HB⟩⟩
               ·rw [if_neg c162] at H; have c162b0 := decide_eq_false c162; clear c162; obtain rfl := Option.some.inj H
                as_aux_lemma =>
                 have hnb173 := N12.out; have hnc173 := N21.out; obtain ⟨⟨hcz174_0, hcz174_1, hcz174_2, hcz174_3, hcz174_4, hcz174_5, hcz174_6, hcz174_7, hcz174_8, hcz174_9, hcz174_10, hcz174_11, hcz174_12, hcz174_13⟩, hfz174_0, hfz174_1, hfz174_2, hfz174_3, hfz174_4, hfz174_5, hfz174_6, hfz174_7, hfz174_8, hfz174_9, hfz174_10, hfz174_11, hfz174_12, hfz174_13⟩ := bk14_ B1.out
                 go_wp2
                 go_ret
                 exact fi_ (pbx HB)
         ·rw [if_neg c152] at H; have ⟨c152b0,c152b1⟩ := e0_ c152; obtain rfl := Option.some.inj H
          as_aux_lemma =>
           have hnb175 := N12.out; have hnc175 := N21.out; obtain ⟨⟨hcz176_0, hcz176_1, hcz176_2, hcz176_3, hcz176_4, hcz176_5, hcz176_6, hcz176_7, hcz176_8, hcz176_9, hcz176_10, hcz176_11, hcz176_12, hcz176_13⟩, hfz176_0, hfz176_1, hfz176_2, hfz176_3, hfz176_4, hfz176_5, hfz176_6, hfz176_7, hfz176_8, hfz176_9, hfz176_10, hfz176_11, hfz176_12, hfz176_13⟩ := bk14_ B1.out
           go_wp2
           go_ret
           exact fi_ (pbx HB)

end Go.Proofs.YtdddhabemdbooaaDoor.X
namespace Go.Proofs.YtdddhabemdbooaaDoor.X
open Go.RowKit Go.Proofs.YtdddhabemdbooaaDoorW.PrintWords Go.Proofs.YtdddhabemdbooaaDoorW.PrintLast Go.Proofs.YtdddhabemdbooaaDoorW.PrintMore
attribute [local go_sem] max2_int min2_int max_two min_two max_three min_three max_four min_four
set_option linter.unusedVariables false
set_option linter.unusedSimpArgs false
def oculusref22_Right.l0 : Nat → List (S28) → Int → Option (Bool)
 | 0, _, _ => none
 | k + 1, x3, x4 => if x4 < (x3.length : Int) then (if 0 ≤ x4 then ((oculusref22_one.f k ((rd_T28 x3 x4).f0) ((rd_T28 x3 x4).f1) ((rd_T28 x3 x4).f2.f0) ((rd_T28 x3 x4).f2.f1) ((rd_T28 x3 x4).f2.f2) ((rd_T28 x3 x4).f3.f0) ((rd_T28 x3 x4).f3.f1) ((rd_T28 x3 x4).f3.f2) ((rd_T28 x3 x4).f3.f3) ((rd_T28 x3 x4).f4.f0) ((rd_T28 x3 x4).f4.f1) ((rd_T28 x3 x4).f4.f2) ((rd_T28 x3 x4).f4.f3) ((rd_T28 x3 x4).f5)).bind fun t106 => (if t106 = true then (oculusref22_Right.l0 k x3 (wrap64 (x4 + 1))) else (some false))) else (none)) else (some true)
def oculusref22_Right.f (k : Nat) (a0_0 : Int) (a0_1 : Int) (a0_2 : Int) (a0_3 : Int) (a0_4 : ByteArray) (a0_5 : Int) (a0_6 : Int) (a0_7 : Bool) (a0_8 : Bool) (a0_9 : Int) (a0_10 : Int) (a0_11 : Bool) (a0_12 : Bool) (l0_13 : List (S28)) : Option (Bool) := (oculusref22_List.f k a0_0 a0_1 a0_2 a0_3 a0_4 a0_5 a0_6 a0_7 a0_8 a0_9 a0_10 a0_11 a0_12 l0_13).bind fun t102 => (oculusref22_Right.l0 k t102 0)
theorem oculusref22_Right.calls (k : Nat) (a0_0 : Int) (a0_1 : Int) (a0_2 : Int) (a0_3 : Int) (a0_4 : ByteArray) (a0_5 : Int) (a0_6 : Int) (a0_7 : Bool) (a0_8 : Bool) (a0_9 : Int) (a0_10 : Int) (a0_11 : Bool) (a0_12 : Bool) (A0_13 : Option Addr) (c0_13 : Nat) (l0_13 : List (S28)) (r : Bool) (w : World) (hr0_13 : Kd.C k28 w A0_13 l0_13.length l0_13) (hc0_13 : l0_13.length ≤ c0_13) (h : oculusref22_Right.f k a0_0 a0_1 a0_2 a0_3 a0_4 a0_5 a0_6 a0_7 a0_8 a0_9 a0_10 a0_11 a0_12 l0_13 = some r) :
  Calls Tryd.prog 14 #[.agg #[.int .i64 a0_0, .int .i64 a0_1, .int .i64 a0_2, .int .i64 a0_3, .string a0_4, .int .i64 a0_5, .int .i64 a0_6, .bool a0_7, .bool a0_8, .int .i64 a0_9, .int .i64 a0_10, .bool a0_11, .bool a0_12, .slice A0_13 l0_13.length c0_13]] w fun e w' => e = .returned (.bool r) ∧ Below w.heap.size w w' := by
 have hu28 := Tryd.underlying28; have HR0_13 := A_ hr0_13; have HC0_13 := A_ hc0_13; clear hr0_13 hc0_13; have HB := A_ (Below.refl w.heap.size w)
 have H : ((oculusref22_List.f k a0_0 a0_1 a0_2 a0_3 a0_4 a0_5 a0_6 a0_7 a0_8 a0_9 a0_10 a0_11 a0_12 l0_13).bind fun t102 => (oculusref22_Right.l0 k t102 0)) = some r := h
 clear h; obtain ⟨t102, A2, H⟩ := bo_ H
 have H' := A_ H
 clear H
 go_enter Tryd.func14, Tryd.ntmps14
 go_wp2_with (first | ((with_reducible refine gd_ 1 ?_); refine be_ (N:=1) (cs := #[.int .i64 a0_0, .int .i64 a0_1, .int .i64 a0_2, .int .i64 a0_3, .string a0_4, .int .i64 a0_5, .int .i64 a0_6, .bool a0_7, .bool a0_8, .int .i64 a0_9, .int .i64 a0_10, .bool a0_11, .bool a0_12, .slice A0_13 l0_13.length c0_13]) (t:=28) ?_; intro g1 hg w3 hbox hb; have GW101 := hs_ HB hg; have B1 := A_ (hbox); replace HB := bs_ HB hb; clear hb hbox hg; have hcz4_0 : w3.cell? ⟨g1, 0, none⟩ = some (.int .i64 a0_0) := bc_ B1 0 rfl; have hcz4_1 : w3.cell? ⟨g1, 1, none⟩ = some (.int .i64 a0_1) := bc_ B1 1 rfl; have hcz4_2 : w3.cell? ⟨g1, 2, none⟩ = some (.int .i64 a0_2) := bc_ B1 2 rfl; have hcz4_3 : w3.cell? ⟨g1, 3, none⟩ = some (.int .i64 a0_3) := bc_ B1 3 rfl; have hcz4_4 : w3.cell? ⟨g1, 4, none⟩ = some (.string a0_4) := bc_ B1 4 rfl; have hcz4_5 : w3.cell? ⟨g1, 5, none⟩ = some (.int .i64 a0_5) := bc_ B1 5 rfl; have hcz4_6 : w3.cell? ⟨g1, 6, none⟩ = some (.int .i64 a0_6) := bc_ B1 6 rfl; have hcz4_7 : w3.cell? ⟨g1, 7, none⟩ = some (.bool a0_7) := bc_ B1 7 rfl; have hcz4_8 : w3.cell? ⟨g1, 8, none⟩ = some (.bool a0_8) := bc_ B1 8 rfl; have hcz4_9 : w3.cell? ⟨g1, 9, none⟩ = some (.int .i64 a0_9) := bc_ B1 9 rfl; have hcz4_10 : w3.cell? ⟨g1, 10, none⟩ = some (.int .i64 a0_10) := bc_ B1 10 rfl; have hcz4_11 : w3.cell? ⟨g1, 11, none⟩ = some (.bool a0_11) := bc_ B1 11 rfl; have hcz4_12 : w3.cell? ⟨g1, 12, none⟩ = some (.bool a0_12) := bc_ B1 12 rfl; have hcz4_13 : w3.cell? ⟨g1, 13, none⟩ = some (.slice A0_13 l0_13.length c0_13) := bc_ B1 13 rfl) | ((with_reducible refine gate_callee (f:=9) rfl ?_); refine gL_ (some 6) rfl rfl Tryd.func9 rfl #[.agg #[.int .i64 a0_0, .int .i64 a0_1, .int .i64 a0_2, .int .i64 a0_3, .string a0_4, .int .i64 a0_5, .int .i64 a0_6, .bool a0_7, .bool a0_8, .int .i64 a0_9, .int .i64 a0_10, .bool a0_11, .bool a0_12, .slice A0_13 l0_13.length c0_13]] rfl ?_; (with_reducible refine (oculusref22_List.calls k a0_0 a0_1 a0_2 a0_3 a0_4 a0_5 a0_6 a0_7 a0_8 a0_9 a0_10 a0_11 a0_12 (fun k_ => k_ < w.heap.size) _ _ l0_13 t102 _ ?side1 A2.out).mono ?_); (case side1 => exact Kd.V_mk HC0_13.out (Kd.F_below (Kd.C_F k28_heap HR0_13.out) (pbx HB))); rintro e w5 ⟨v103, rfl, ho0, hb⟩; refine ⟨_, rfl, ?_⟩; have HO104 := A_ (Kd.N_lower (Kd.N_mono (ok' := fun k_ => k_ ≠ g1) ho0 (fun k_ hk_ => Or.elim hk_ (fun hs_ => fun e_ => Nat.not_le.2 hs_ (by rw [e_]; exact GW101.out)) (fun hn_ => (Kd.freshB (pkx B1) k_ hn_)))) (below_size (pbx HB))); replace B1 := bb_ B1 hb; replace HB := bs_ HB hb; ))
 go_loopg [4] k (fun kq v4 w' => ∃ (x4_1 : Int), v4 = .int .i64 x4_1 ∧ Aside0 (oculusref22_Right.l0 kq t102 x4_1 = some r) ∧ Aside0 (kq ≤ k) ∧ Aside0 (Kd.N k28 28 w' w.heap.size (fun k_ => k_ ≠ g1) v103 t102) ∧ Aside0 (w'.heap[g1]? = some (.cells #[.int .i64 a0_0, .int .i64 a0_1, .int .i64 a0_2, .int .i64 a0_3, .string a0_4, .int .i64 a0_5, .int .i64 a0_6, .bool a0_7, .bool a0_8, .int .i64 a0_9, .int .i64 a0_10, .bool a0_11, .bool a0_12, (.slice A0_13 l0_13.length c0_13)] 28 (0, 0))) ∧ Aside0 (Below w.heap.size w w'))
 case atStart => exact ⟨(0), sq_, H', ⟨Nat.le_refl _⟩, ⟨by (with_reducible repeat (first | apply Kd.N_alloc | apply Kd.N_drewN | apply Kd.N_drew)); exact HO104.out⟩, ⟨pkx B1⟩, ⟨pbx HB⟩⟩
 case round =>
  clear H'; (try clear hcz4_0); (try clear hcz4_1); (try clear hcz4_10); (try clear hcz4_11); (try clear hcz4_12); (try clear hcz4_13); (try clear hcz4_2); (try clear hcz4_3); (try clear hcz4_4); (try clear hcz4_5); (try clear hcz4_6); (try clear hcz4_7); (try clear hcz4_8); (try clear hcz4_9); obtain ⟨x4_1, rfl, HA, HK1, HO_3, B1, HB⟩ := hrel
  cases gk with
  | zero => exact absurd HA.out (by simp [oculusref22_Right.l0])
  | succ k1 =>
   have H := HA.out; clear HA
   simp only [oculusref22_Right.l0] at H
   by_cases c6 : x4_1 < (t102.length : Int)
   ·rw [if_pos c6] at H; have c6b0 := decide_eq_true c6; clear c6
    by_cases c7 : 0 ≤ x4_1
    ·rw [if_pos c7] at H; have c7b0 := decide_eq_true c7; clear c7; obtain ⟨t106, A8, H⟩ := bo_ H
     replace H := ib_ H; rcases H with ⟨rfl,H⟩|⟨rfl,H⟩
     ·have H' := A_ H
      clear H; obtain ⟨Ao10, co10, eo10⟩ := Kd.N_slice HO_3.out; subst eo10
      have p105 : 0 ≤ (x4_1 : Int) := of_decide_eq_true as_
      have q105 : x4_1 < (t102.length : Int) := of_decide_eq_true as_
      obtain ⟨ad105, A105_13, c105_13, e105, hx105_0, hx105_1, hx105_2, hx105_3, hx105_4, hx105_5, hx105_6, hx105_7, hx105_8, hx105_9, hx105_10, hx105_11, hx105_12, hx105_13, hl105_13, hi105_13⟩ := at_T28 (Kd.N_reads' HO_3.out).2.2 x4_1 p105 q105
      cases e105
      obtain ⟨ce105, hce105, hMe105, hcc105⟩ := Kd.N_get HO_3.out z28 x4_1 p105 (by first | exact q105 | exact of_decide_eq_true as_ | (have e_ := (Kd.N_reads' HO_3.out).1; omega)); obtain ⟨ua105_13, uc105_13, rfl, ul105_13, ge105_13⟩ := k28_openF hMe105; have hv105_13 := hcc105 13 _ rfl; rw [add_field _ _ 13 (by omega)] at hv105_13; replace hv105_13 := Option.some.inj (hv105_13.symm.trans hx105_13)
      injection hv105_13 with hva_ hvn_ hvc_
      rw [hva_] at ge105_13; rw [hvc_] at ul105_13; have HL105_13 := A_ (show Kd.V k28 28 _ w.heap.size _ _ ((rd_T28 t102 x4_1).f5) from Kd.V_mk ul105_13 ge105_13); clear hva_ hvn_ hvc_ ge105_13 ul105_13; clear hcc105 hce105; have HR105_13 := A_ hi105_13; have HC105_13 := A_ hl105_13; clear hi105_13 hl105_13; replace p105 := eq_true p105; replace q105 := eq_true q105
      go_wp2_with (first | ((with_reducible refine gate_callee (f:=25) rfl ?_); refine gL_ (some 17) rfl rfl Tryd.func25 rfl #[.agg #[.int .i64 ((rd_T28 t102 x4_1).f0), .int .i64 ((rd_T28 t102 x4_1).f1), .int .i64 ((rd_T28 t102 x4_1).f2.f0), .int .i64 ((rd_T28 t102 x4_1).f2.f1), .string ((rd_T28 t102 x4_1).f2.f2), .int .i64 ((rd_T28 t102 x4_1).f3.f0), .int .i64 ((rd_T28 t102 x4_1).f3.f1), .bool ((rd_T28 t102 x4_1).f3.f2), .bool ((rd_T28 t102 x4_1).f3.f3), .int .i64 ((rd_T28 t102 x4_1).f4.f0), .int .i64 ((rd_T28 t102 x4_1).f4.f1), .bool ((rd_T28 t102 x4_1).f4.f2), .bool ((rd_T28 t102 x4_1).f4.f3), .slice A105_13 ((rd_T28 t102 x4_1).f5).length c105_13]] rfl ?_; (with_reducible refine (oculusref22_one.calls k1 ((rd_T28 t102 x4_1).f0) ((rd_T28 t102 x4_1).f1) ((rd_T28 t102 x4_1).f2.f0) ((rd_T28 t102 x4_1).f2.f1) ((rd_T28 t102 x4_1).f2.f2) ((rd_T28 t102 x4_1).f3.f0) ((rd_T28 t102 x4_1).f3.f1) ((rd_T28 t102 x4_1).f3.f2) ((rd_T28 t102 x4_1).f3.f3) ((rd_T28 t102 x4_1).f4.f0) ((rd_T28 t102 x4_1).f4.f1) ((rd_T28 t102 x4_1).f4.f2) ((rd_T28 t102 x4_1).f4.f3) _ _ ((rd_T28 t102 x4_1).f5) true _ ?side1 ?side2 A8.out).mono ?_); (case side1 => exact ca_ (by repeat (first | (with_reducible exact HR105_13.out) | (with_reducible refine Kd.C_alloc ?_ _) | (with_reducible refine Kd.C_drewN ?_ _) | (with_reducible refine Kd.C_drew ?_) | exact HR105_13.out))); (case side2 => exact HC105_13.out); rintro e w11 ⟨rfl, hb⟩; refine ⟨_, rfl, ?_⟩; replace HO_3 := A_ (Kd.N_below (by (with_reducible repeat (first | apply Kd.N_alloc | apply Kd.N_drewN | apply Kd.N_drew)); exact HO_3.out) hb); replace HL105_13 := A_ (Kd.V_below (by (with_reducible repeat (first | apply Kd.V_alloc | apply Kd.V_drewN | apply Kd.V_drew)); exact HL105_13.out) hb); replace B1 := bb_ B1 hb; replace HR105_13 := A_ (Kd.C_below (by repeat (first | (with_reducible exact HR105_13.out) | (with_reducible refine Kd.C_alloc ?_ _) | (with_reducible refine Kd.C_drewN ?_ _) | (with_reducible refine Kd.C_drew ?_) | exact HR105_13.out)) hb); replace HB := bs_ HB hb; (try clear hb); ))
      go_roundg k1
      case measure => have := HK1.out; omega
      case rel => exact ⟨(wrap64 (x4_1 + 1)), sq_, H', ⟨by have := HK1.out; omega⟩, ⟨by (with_reducible repeat (first | apply Kd.N_alloc | apply Kd.N_drewN | apply Kd.N_drew)); exact HO_3.out⟩, ⟨pkx B1⟩, ⟨pbx HB⟩⟩
     ·obtain rfl := Option.some.inj H; obtain ⟨Ao12, co12, eo12⟩ := Kd.N_slice HO_3.out; subst eo12
      have p105 : 0 ≤ (x4_1 : Int) := of_decide_eq_true as_
      have q105 : x4_1 < (t102.length : Int) := of_decide_eq_true as_
      obtain ⟨ad105, A105_13, c105_13, e105, hx105_0, hx105_1, hx105_2, hx105_3, hx105_4, hx105_5, hx105_6, hx105_7, hx105_8, hx105_9, hx105_10, hx105_11, hx105_12, hx105_13, hl105_13, hi105_13⟩ := at_T28 (Kd.N_reads' HO_3.out).2.2 x4_1 p105 q105
      cases e105
      obtain ⟨ce105, hce105, hMe105, hcc105⟩ := Kd.N_get HO_3.out z28 x4_1 p105 (by first | exact q105 | exact of_decide_eq_true as_ | (have e_ := (Kd.N_reads' HO_3.out).1; omega)); obtain ⟨ua105_13, uc105_13, rfl, ul105_13, ge105_13⟩ := k28_openF hMe105; have hv105_13 := hcc105 13 _ rfl; rw [add_field _ _ 13 (by omega)] at hv105_13; replace hv105_13 := Option.some.inj (hv105_13.symm.trans hx105_13)
      injection hv105_13 with hva_ hvn_ hvc_
      rw [hva_] at ge105_13; rw [hvc_] at ul105_13; have HL105_13 := A_ (show Kd.V k28 28 _ w.heap.size _ _ ((rd_T28 t102 x4_1).f5) from Kd.V_mk ul105_13 ge105_13); clear hva_ hvn_ hvc_ ge105_13 ul105_13; clear hcc105 hce105; have HR105_13 := A_ hi105_13; have HC105_13 := A_ hl105_13; clear hi105_13 hl105_13; replace p105 := eq_true p105; replace q105 := eq_true q105
      go_wp2_with (first | ((with_reducible refine gate_callee (f:=25) rfl ?_); refine gL_ (some 17) rfl rfl Tryd.func25 rfl #[.agg #[.int .i64 ((rd_T28 t102 x4_1).f0), .int .i64 ((rd_T28 t102 x4_1).f1), .int .i64 ((rd_T28 t102 x4_1).f2.f0), .int .i64 ((rd_T28 t102 x4_1).f2.f1), .string ((rd_T28 t102 x4_1).f2.f2), .int .i64 ((rd_T28 t102 x4_1).f3.f0), .int .i64 ((rd_T28 t102 x4_1).f3.f1), .bool ((rd_T28 t102 x4_1).f3.f2), .bool ((rd_T28 t102 x4_1).f3.f3), .int .i64 ((rd_T28 t102 x4_1).f4.f0), .int .i64 ((rd_T28 t102 x4_1).f4.f1), .bool ((rd_T28 t102 x4_1).f4.f2), .bool ((rd_T28 t102 x4_1).f4.f3), .slice A105_13 ((rd_T28 t102 x4_1).f5).length c105_13]] rfl ?_; (with_reducible refine (oculusref22_one.calls k1 ((rd_T28 t102 x4_1).f0) ((rd_T28 t102 x4_1).f1) ((rd_T28 t102 x4_1).f2.f0) ((rd_T28 t102 x4_1).f2.f1) ((rd_T28 t102 x4_1).f2.f2) ((rd_T28 t102 x4_1).f3.f0) ((rd_T28 t102 x4_1).f3.f1) ((rd_T28 t102 x4_1).f3.f2) ((rd_T28 t102 x4_1).f3.f3) ((rd_T28 t102 x4_1).f4.f0) ((rd_T28 t102 x4_1).f4.f1) ((rd_T28 t102 x4_1).f4.f2) ((rd_T28 t102 x4_1).f4.f3) _ _ ((rd_T28 t102 x4_1).f5) false _ ?side1 ?side2 A8.out).mono ?_); (case side1 => exact ca_ (by repeat (first | (with_reducible exact HR105_13.out) | (with_reducible refine Kd.C_alloc ?_ _) | (with_reducible refine Kd.C_drewN ?_ _) | (with_reducible refine Kd.C_drew ?_) | exact HR105_13.out))); (case side2 => exact HC105_13.out); rintro e w13 ⟨rfl, hb⟩; refine ⟨_, rfl, ?_⟩; replace HO_3 := A_ (Kd.N_below (by (with_reducible repeat (first | apply Kd.N_alloc | apply Kd.N_drewN | apply Kd.N_drew)); exact HO_3.out) hb); replace HL105_13 := A_ (Kd.V_below (by (with_reducible repeat (first | apply Kd.V_alloc | apply Kd.V_drewN | apply Kd.V_drew)); exact HL105_13.out) hb); replace B1 := bb_ B1 hb; replace HR105_13 := A_ (Kd.C_below (by repeat (first | (with_reducible exact HR105_13.out) | (with_reducible refine Kd.C_alloc ?_ _) | (with_reducible refine Kd.C_drewN ?_ _) | (with_reducible refine Kd.C_drew ?_) | exact HR105_13.out)) hb); replace HB := bs_ HB hb; (try clear hb); ))
      go_ret
      exact fi_ (pbx HB)
    ·rw [if_neg c7] at H
     exact absurd H (by simp)
   ·rw [if_neg c6] at H; have c6b0 := decide_eq_false c6; clear c6; obtain rfl := Option.some.inj H; obtain ⟨Ao14, co14, eo14⟩ := Kd.N_slice HO_3.out; subst eo14
    go_wp2
    go_ret
    exact fi_ (pbx HB)

def oculusref22_Formula.f (k : Nat) (a0_0 : Int) (a0_1 : Int) (a0_2 : Int) (a0_3 : Int) (a0_4 : ByteArray) (a0_5 : Int) (a0_6 : Int) (a0_7 : Bool) (a0_8 : Bool) (a0_9 : Int) (a0_10 : Int) (a0_11 : Bool) (a0_12 : Bool) (l0_13 : List (S28)) : Option (Bool) := if a0_0 = 4 then (some false) else ((oculusref22_Deep.f k a0_0 a0_1 a0_2 a0_3 a0_4 a0_5 a0_6 a0_7 a0_8 a0_9 a0_10 a0_11 a0_12 l0_13).bind fun t102 => (if t102 ≤ 12 then ((oculusref22_Right.f k a0_0 a0_1 a0_2 a0_3 a0_4 a0_5 a0_6 a0_7 a0_8 a0_9 a0_10 a0_11 a0_12 l0_13).bind fun t103 => (some t103)) else (some false)))
theorem oculusref22_Formula.calls (k : Nat) (a0_0 : Int) (a0_1 : Int) (a0_2 : Int) (a0_3 : Int) (a0_4 : ByteArray) (a0_5 : Int) (a0_6 : Int) (a0_7 : Bool) (a0_8 : Bool) (a0_9 : Int) (a0_10 : Int) (a0_11 : Bool) (a0_12 : Bool) (A0_13 : Option Addr) (c0_13 : Nat) (l0_13 : List (S28)) (r : Bool) (w : World) (hr0_13 : Kd.C k28 w A0_13 l0_13.length l0_13) (hc0_13 : l0_13.length ≤ c0_13) (h : oculusref22_Formula.f k a0_0 a0_1 a0_2 a0_3 a0_4 a0_5 a0_6 a0_7 a0_8 a0_9 a0_10 a0_11 a0_12 l0_13 = some r) :
  Calls Tryd.prog 16 #[.agg #[.int .i64 a0_0, .int .i64 a0_1, .int .i64 a0_2, .int .i64 a0_3, .string a0_4, .int .i64 a0_5, .int .i64 a0_6, .bool a0_7, .bool a0_8, .int .i64 a0_9, .int .i64 a0_10, .bool a0_11, .bool a0_12, .slice A0_13 l0_13.length c0_13]] w fun e w' => e = .returned (.bool r) ∧ Below w.heap.size w w' := by
 have hu28 := Tryd.underlying28; have HR0_13 := A_ hr0_13; have HC0_13 := A_ hc0_13; clear hr0_13 hc0_13; have HB := A_ (Below.refl w.heap.size w)
 have H : (if a0_0 = 4 then (some false) else ((oculusref22_Deep.f k a0_0 a0_1 a0_2 a0_3 a0_4 a0_5 a0_6 a0_7 a0_8 a0_9 a0_10 a0_11 a0_12 l0_13).bind fun t102 => (if t102 ≤ 12 then ((oculusref22_Right.f k a0_0 a0_1 a0_2 a0_3 a0_4 a0_5 a0_6 a0_7 a0_8 a0_9 a0_10 a0_11 a0_12 l0_13).bind fun t103 => (some t103)) else (some false)))) = some r := h
 clear h
 by_cases c2 : a0_0 = 4
 ·rw [if_pos c2] at H; have ⟨c2b0,c2b1⟩ := e1_ c2; clear c2; obtain rfl := Option.some.inj H
  go_enter Tryd.func16, Tryd.ntmps16
  go_wp2_with (first | ((with_reducible refine gd_ 1 ?_); refine be_ (N:=1) (cs := #[.int .i64 a0_0, .int .i64 a0_1, .int .i64 a0_2, .int .i64 a0_3, .string a0_4, .int .i64 a0_5, .int .i64 a0_6, .bool a0_7, .bool a0_8, .int .i64 a0_9, .int .i64 a0_10, .bool a0_11, .bool a0_12, .slice A0_13 l0_13.length c0_13]) (t:=28) ?_; intro g1 hg w3 hbox hb; have B1 := A_ (hbox); replace HB := bs_ HB hb; clear hb hbox hg; have hcz4_0 : w3.cell? ⟨g1, 0, none⟩ = some (.int .i64 a0_0) := bc_ B1 0 rfl; have hcz4_1 : w3.cell? ⟨g1, 1, none⟩ = some (.int .i64 a0_1) := bc_ B1 1 rfl; have hcz4_2 : w3.cell? ⟨g1, 2, none⟩ = some (.int .i64 a0_2) := bc_ B1 2 rfl; have hcz4_3 : w3.cell? ⟨g1, 3, none⟩ = some (.int .i64 a0_3) := bc_ B1 3 rfl; have hcz4_4 : w3.cell? ⟨g1, 4, none⟩ = some (.string a0_4) := bc_ B1 4 rfl; have hcz4_5 : w3.cell? ⟨g1, 5, none⟩ = some (.int .i64 a0_5) := bc_ B1 5 rfl; have hcz4_6 : w3.cell? ⟨g1, 6, none⟩ = some (.int .i64 a0_6) := bc_ B1 6 rfl; have hcz4_7 : w3.cell? ⟨g1, 7, none⟩ = some (.bool a0_7) := bc_ B1 7 rfl; have hcz4_8 : w3.cell? ⟨g1, 8, none⟩ = some (.bool a0_8) := bc_ B1 8 rfl; have hcz4_9 : w3.cell? ⟨g1, 9, none⟩ = some (.int .i64 a0_9) := bc_ B1 9 rfl; have hcz4_10 : w3.cell? ⟨g1, 10, none⟩ = some (.int .i64 a0_10) := bc_ B1 10 rfl; have hcz4_11 : w3.cell? ⟨g1, 11, none⟩ = some (.bool a0_11) := bc_ B1 11 rfl; have hcz4_12 : w3.cell? ⟨g1, 12, none⟩ = some (.bool a0_12) := bc_ B1 12 rfl; have hcz4_13 : w3.cell? ⟨g1, 13, none⟩ = some (.slice A0_13 l0_13.length c0_13) := bc_ B1 13 rfl))
  go_ret
  exact fi_ (pbx HB)
 ·rw [if_neg c2] at H; have ⟨c2b0,c2b1⟩ := e0_ c2; obtain ⟨t102, A5, H⟩ := bo_ H
  by_cases c6 : t102 ≤ 12
  ·rw [if_pos c6] at H; have c6b0 := decide_eq_true c6; clear c6; obtain ⟨t103, A7, H⟩ := bo_ H; obtain rfl := Option.some.inj H
   go_enter Tryd.func16, Tryd.ntmps16
   go_wp2_with (first | ((with_reducible refine gd_ 1 ?_); refine be_ (N:=1) (cs := #[.int .i64 a0_0, .int .i64 a0_1, .int .i64 a0_2, .int .i64 a0_3, .string a0_4, .int .i64 a0_5, .int .i64 a0_6, .bool a0_7, .bool a0_8, .int .i64 a0_9, .int .i64 a0_10, .bool a0_11, .bool a0_12, .slice A0_13 l0_13.length c0_13]) (t:=28) ?_; intro g1 hg w8 hbox hb; have B1 := A_ (hbox); replace HB := bs_ HB hb; clear hb hbox hg; have hcz9_0 : w8.cell? ⟨g1, 0, none⟩ = some (.int .i64 a0_0) := bc_ B1 0 rfl; have hcz9_1 : w8.cell? ⟨g1, 1, none⟩ = some (.int .i64 a0_1) := bc_ B1 1 rfl; have hcz9_2 : w8.cell? ⟨g1, 2, none⟩ = some (.int .i64 a0_2) := bc_ B1 2 rfl; have hcz9_3 : w8.cell? ⟨g1, 3, none⟩ = some (.int .i64 a0_3) := bc_ B1 3 rfl; have hcz9_4 : w8.cell? ⟨g1, 4, none⟩ = some (.string a0_4) := bc_ B1 4 rfl; have hcz9_5 : w8.cell? ⟨g1, 5, none⟩ = some (.int .i64 a0_5) := bc_ B1 5 rfl; have hcz9_6 : w8.cell? ⟨g1, 6, none⟩ = some (.int .i64 a0_6) := bc_ B1 6 rfl; have hcz9_7 : w8.cell? ⟨g1, 7, none⟩ = some (.bool a0_7) := bc_ B1 7 rfl; have hcz9_8 : w8.cell? ⟨g1, 8, none⟩ = some (.bool a0_8) := bc_ B1 8 rfl; have hcz9_9 : w8.cell? ⟨g1, 9, none⟩ = some (.int .i64 a0_9) := bc_ B1 9 rfl; have hcz9_10 : w8.cell? ⟨g1, 10, none⟩ = some (.int .i64 a0_10) := bc_ B1 10 rfl; have hcz9_11 : w8.cell? ⟨g1, 11, none⟩ = some (.bool a0_11) := bc_ B1 11 rfl; have hcz9_12 : w8.cell? ⟨g1, 12, none⟩ = some (.bool a0_12) := bc_ B1 12 rfl; have hcz9_13 : w8.cell? ⟨g1, 13, none⟩ = some (.slice A0_13 l0_13.length c0_13) := bc_ B1 13 rfl) | (go_at_call 12; (with_reducible refine (oculusref22_Deep.calls k a0_0 a0_1 a0_2 a0_3 a0_4 a0_5 a0_6 a0_7 a0_8 a0_9 a0_10 a0_11 a0_12 _ _ l0_13 t102 _ ?side1 ?side2 A5.out).mono ?_); (case side1 => exact ca_ (Kd.C_below HR0_13.out HB.out)); (case side2 => exact HC0_13.out); rintro e w10 ⟨rfl, hb⟩; replace B1 := bb_ B1 hb; replace HB := bs_ HB hb; have hcz11_0 : w10.cell? ⟨g1, 0, none⟩ = some (.int .i64 a0_0) := bc_ B1 0 rfl; have hcz11_1 : w10.cell? ⟨g1, 1, none⟩ = some (.int .i64 a0_1) := bc_ B1 1 rfl; have hcz11_2 : w10.cell? ⟨g1, 2, none⟩ = some (.int .i64 a0_2) := bc_ B1 2 rfl; have hcz11_3 : w10.cell? ⟨g1, 3, none⟩ = some (.int .i64 a0_3) := bc_ B1 3 rfl; have hcz11_4 : w10.cell? ⟨g1, 4, none⟩ = some (.string a0_4) := bc_ B1 4 rfl; have hcz11_5 : w10.cell? ⟨g1, 5, none⟩ = some (.int .i64 a0_5) := bc_ B1 5 rfl; have hcz11_6 : w10.cell? ⟨g1, 6, none⟩ = some (.int .i64 a0_6) := bc_ B1 6 rfl; have hcz11_7 : w10.cell? ⟨g1, 7, none⟩ = some (.bool a0_7) := bc_ B1 7 rfl; have hcz11_8 : w10.cell? ⟨g1, 8, none⟩ = some (.bool a0_8) := bc_ B1 8 rfl; have hcz11_9 : w10.cell? ⟨g1, 9, none⟩ = some (.int .i64 a0_9) := bc_ B1 9 rfl; have hcz11_10 : w10.cell? ⟨g1, 10, none⟩ = some (.int .i64 a0_10) := bc_ B1 10 rfl; have hcz11_11 : w10.cell? ⟨g1, 11, none⟩ = some (.bool a0_11) := bc_ B1 11 rfl; have hcz11_12 : w10.cell? ⟨g1, 12, none⟩ = some (.bool a0_12) := bc_ B1 12 rfl; have hcz11_13 : w10.cell? ⟨g1, 13, none⟩ = some (.slice A0_13 l0_13.length c0_13) := bc_ B1 13 rfl) | (go_at_call 14; (with_reducible refine (oculusref22_Right.calls k a0_0 a0_1 a0_2 a0_3 a0_4 a0_5 a0_6 a0_7 a0_8 a0_9 a0_10 a0_11 a0_12 _ _ l0_13 t103 _ ?side1 ?side2 A7.out).mono ?_); (case side1 => exact ca_ (Kd.C_below HR0_13.out HB.out)); (case side2 => exact HC0_13.out); rintro e w12 ⟨rfl, hb⟩; replace B1 := bb_ B1 hb; replace HB := bs_ HB hb; ))
   go_ret
   exact fi_ (pbx HB)
  ·rw [if_neg c6] at H; have c6b0 := decide_eq_false c6; clear c6; obtain rfl := Option.some.inj H
   go_enter Tryd.func16, Tryd.ntmps16
   go_wp2_with (first | ((with_reducible refine gd_ 1 ?_); refine be_ (N:=1) (cs := #[.int .i64 a0_0, .int .i64 a0_1, .int .i64 a0_2, .int .i64 a0_3, .string a0_4, .int .i64 a0_5, .int .i64 a0_6, .bool a0_7, .bool a0_8, .int .i64 a0_9, .int .i64 a0_10, .bool a0_11, .bool a0_12, .slice A0_13 l0_13.length c0_13]) (t:=28) ?_; intro g1 hg w13 hbox hb; have B1 := A_ (hbox); replace HB := bs_ HB hb; clear hb hbox hg; have hcz14_0 : w13.cell? ⟨g1, 0, none⟩ = some (.int .i64 a0_0) := bc_ B1 0 rfl; have hcz14_1 : w13.cell? ⟨g1, 1, none⟩ = some (.int .i64 a0_1) := bc_ B1 1 rfl; have hcz14_2 : w13.cell? ⟨g1, 2, none⟩ = some (.int .i64 a0_2) := bc_ B1 2 rfl; have hcz14_3 : w13.cell? ⟨g1, 3, none⟩ = some (.int .i64 a0_3) := bc_ B1 3 rfl; have hcz14_4 : w13.cell? ⟨g1, 4, none⟩ = some (.string a0_4) := bc_ B1 4 rfl; have hcz14_5 : w13.cell? ⟨g1, 5, none⟩ = some (.int .i64 a0_5) := bc_ B1 5 rfl; have hcz14_6 : w13.cell? ⟨g1, 6, none⟩ = some (.int .i64 a0_6) := bc_ B1 6 rfl; have hcz14_7 : w13.cell? ⟨g1, 7, none⟩ = some (.bool a0_7) := bc_ B1 7 rfl; have hcz14_8 : w13.cell? ⟨g1, 8, none⟩ = some (.bool a0_8) := bc_ B1 8 rfl; have hcz14_9 : w13.cell? ⟨g1, 9, none⟩ = some (.int .i64 a0_9) := bc_ B1 9 rfl; have hcz14_10 : w13.cell? ⟨g1, 10, none⟩ = some (.int .i64 a0_10) := bc_ B1 10 rfl; have hcz14_11 : w13.cell? ⟨g1, 11, none⟩ = some (.bool a0_11) := bc_ B1 11 rfl; have hcz14_12 : w13.cell? ⟨g1, 12, none⟩ = some (.bool a0_12) := bc_ B1 12 rfl; have hcz14_13 : w13.cell? ⟨g1, 13, none⟩ = some (.slice A0_13 l0_13.length c0_13) := bc_ B1 13 rfl) | (go_at_call 12; (with_reducible refine (oculusref22_Deep.calls k a0_0 a0_1 a0_2 a0_3 a0_4 a0_5 a0_6 a0_7 a0_8 a0_9 a0_10 a0_11 a0_12 _ _ l0_13 t102 _ ?side1 ?side2 A5.out).mono ?_); (case side1 => exact ca_ (Kd.C_below HR0_13.out HB.out)); (case side2 => exact HC0_13.out); rintro e w15 ⟨rfl, hb⟩; replace B1 := bb_ B1 hb; replace HB := bs_ HB hb; ))
   go_ret
   exact fi_ (pbx HB)

end Go.Proofs.YtdddhabemdbooaaDoor.X
namespace Go.Proofs.YtdddhabemdbooaaDoor.X
open Go.RowKit Go.Proofs.YtdddhabemdbooaaDoorW.PrintWords Go.Proofs.YtdddhabemdbooaaDoorW.PrintLast Go.Proofs.YtdddhabemdbooaaDoorW.PrintMore
attribute [local go_sem] max2_int min2_int max_two min_two max_three min_three max_four min_four
set_option linter.unusedVariables false
set_option linter.unusedSimpArgs false
attribute [local go_sem high] eqA23 eqA25
def oculusref22_Same.l0 : Nat → List (S28) → List (S28) → Int → Option (Bool)
 | 0, _, _, _ => none
 | k + 1, x5, x6, x7 => if x7 < (x5.length : Int) then (if 0 ≤ x7 then (if x7 < (x6.length : Int) then (if ((rd_T28 x5 x7).f0) = ((rd_T28 x6 x7).f0) then (if ((rd_T28 x5 x7).f1) = ((rd_T28 x6 x7).f1) then (if (!(((rd_T28 x5 x7).f2.f0) == ((rd_T28 x6 x7).f2.f0)) || (!(((rd_T28 x5 x7).f2.f1) == ((rd_T28 x6 x7).f2.f1)) || (!((((rd_T28 x5 x7).f2.f2).toList) == (((rd_T28 x6 x7).f2.f2).toList))))) = true then (some false) else (if (!(((rd_T28 x5 x7).f3.f0) == ((rd_T28 x6 x7).f3.f0)) || (!(((rd_T28 x5 x7).f3.f1) == ((rd_T28 x6 x7).f3.f1)) || (!(((rd_T28 x5 x7).f3.f2) == ((rd_T28 x6 x7).f3.f2)) || (!(((rd_T28 x5 x7).f3.f3) == ((rd_T28 x6 x7).f3.f3)))))) = true then (some false) else (if (!(((rd_T28 x5 x7).f4.f0) == ((rd_T28 x6 x7).f4.f0)) || (!(((rd_T28 x5 x7).f4.f1) == ((rd_T28 x6 x7).f4.f1)) || (!(((rd_T28 x5 x7).f4.f2) == ((rd_T28 x6 x7).f4.f2)) || (!(((rd_T28 x5 x7).f4.f3) == ((rd_T28 x6 x7).f4.f3)))))) = true then (some false) else (if (((rd_T28 x5 x7).f5).length : Int) = (((rd_T28 x6 x7).f5).length : Int) then (oculusref22_Same.l0 k x5 x6 (wrap64 (x7 + 1))) else (some false))))) else (some false)) else (some false)) else (none)) else (none)) else (some true)
def oculusref22_Same.f (k : Nat) (a0_0 : Int) (a0_1 : Int) (a0_2 : Int) (a0_3 : Int) (a0_4 : ByteArray) (a0_5 : Int) (a0_6 : Int) (a0_7 : Bool) (a0_8 : Bool) (a0_9 : Int) (a0_10 : Int) (a0_11 : Bool) (a0_12 : Bool) (l0_13 : List (S28)) (a1_0 : Int) (a1_1 : Int) (a1_2 : Int) (a1_3 : Int) (a1_4 : ByteArray) (a1_5 : Int) (a1_6 : Int) (a1_7 : Bool) (a1_8 : Bool) (a1_9 : Int) (a1_10 : Int) (a1_11 : Bool) (a1_12 : Bool) (l1_13 : List (S28)) : Option (Bool) := (oculusref22_List.f k a0_0 a0_1 a0_2 a0_3 a0_4 a0_5 a0_6 a0_7 a0_8 a0_9 a0_10 a0_11 a0_12 l0_13).bind fun t103 => ((oculusref22_List.f k a1_0 a1_1 a1_2 a1_3 a1_4 a1_5 a1_6 a1_7 a1_8 a1_9 a1_10 a1_11 a1_12 l1_13).bind fun t106 => (if (t103.length : Int) = (t106.length : Int) then (oculusref22_Same.l0 k t103 t106 0) else (some false)))
theorem oculusref22_Same.calls (k : Nat) (a0_0 : Int) (a0_1 : Int) (a0_2 : Int) (a0_3 : Int) (a0_4 : ByteArray) (a0_5 : Int) (a0_6 : Int) (a0_7 : Bool) (a0_8 : Bool) (a0_9 : Int) (a0_10 : Int) (a0_11 : Bool) (a0_12 : Bool) (A0_13 : Option Addr) (c0_13 : Nat) (l0_13 : List (S28)) (a1_0 : Int) (a1_1 : Int) (a1_2 : Int) (a1_3 : Int) (a1_4 : ByteArray) (a1_5 : Int) (a1_6 : Int) (a1_7 : Bool) (a1_8 : Bool) (a1_9 : Int) (a1_10 : Int) (a1_11 : Bool) (a1_12 : Bool) (A1_13 : Option Addr) (c1_13 : Nat) (l1_13 : List (S28)) (r : Bool) (w : World) (hr0_13 : Kd.C k28 w A0_13 l0_13.length l0_13) (hc0_13 : l0_13.length ≤ c0_13) (hr1_13 : Kd.C k28 w A1_13 l1_13.length l1_13) (hc1_13 : l1_13.length ≤ c1_13) (h : oculusref22_Same.f k a0_0 a0_1 a0_2 a0_3 a0_4 a0_5 a0_6 a0_7 a0_8 a0_9 a0_10 a0_11 a0_12 l0_13 a1_0 a1_1 a1_2 a1_3 a1_4 a1_5 a1_6 a1_7 a1_8 a1_9 a1_10 a1_11 a1_12 l1_13 = some r) :
  Calls Tryd.prog 17 #[.agg #[.int .i64 a0_0, .int .i64 a0_1, .int .i64 a0_2, .int .i64 a0_3, .string a0_4, .int .i64 a0_5, .int .i64 a0_6, .bool a0_7, .bool a0_8, .int .i64 a0_9, .int .i64 a0_10, .bool a0_11, .bool a0_12, .slice A0_13 l0_13.length c0_13], .agg #[.int .i64 a1_0, .int .i64 a1_1, .int .i64 a1_2, .int .i64 a1_3, .string a1_4, .int .i64 a1_5, .int .i64 a1_6, .bool a1_7, .bool a1_8, .int .i64 a1_9, .int .i64 a1_10, .bool a1_11, .bool a1_12, .slice A1_13 l1_13.length c1_13]] w fun e w' => e = .returned (.bool r) ∧ Below w.heap.size w w' := by
 have hu28 := Tryd.underlying28; have hu23 := Tryd.underlying23; have hu25 := Tryd.underlying25; have HR0_13 := A_ hr0_13; have HC0_13 := A_ hc0_13; clear hr0_13 hc0_13; have HR1_13 := A_ hr1_13; have HC1_13 := A_ hc1_13; clear hr1_13 hc1_13; have HB := A_ (Below.refl w.heap.size w)
 have H : ((oculusref22_List.f k a0_0 a0_1 a0_2 a0_3 a0_4 a0_5 a0_6 a0_7 a0_8 a0_9 a0_10 a0_11 a0_12 l0_13).bind fun t103 => ((oculusref22_List.f k a1_0 a1_1 a1_2 a1_3 a1_4 a1_5 a1_6 a1_7 a1_8 a1_9 a1_10 a1_11 a1_12 l1_13).bind fun t106 => (if (t103.length : Int) = (t106.length : Int) then (oculusref22_Same.l0 k t103 t106 0) else (some false)))) = some r := h
 clear h; obtain ⟨t103, A3, H⟩ := bo_ H; obtain ⟨t106, A4, H⟩ := bo_ H; have HH := A_ H; clear H
 go_enter Tryd.func17, Tryd.ntmps17
 dsimp only [List.append]
 try go_wp2_with (first | ((with_reducible refine gd_ 2 ?_); (try (refine gate_guard (by rfl) ?_; dsimp only)); refine be_ (N:=2) (cs := #[.int .i64 a0_0, .int .i64 a0_1, .int .i64 a0_2, .int .i64 a0_3, .string a0_4, .int .i64 a0_5, .int .i64 a0_6, .bool a0_7, .bool a0_8, .int .i64 a0_9, .int .i64 a0_10, .bool a0_11, .bool a0_12, .slice A0_13 l0_13.length c0_13]) (t:=28) ?_; intro gb101 hg w6 hbox hb; have B1 := A_ (hbox); have GW101 := hs_ HB hg; have GE101 := hs_ HB hg; replace HB := bs_ HB hb; clear hb hbox hg) | ((with_reducible refine gd_ 3 ?_); (try (refine gate_guard (by rfl) ?_; dsimp only)); refine be_ (N:=3) (cs := #[.int .i64 a1_0, .int .i64 a1_1, .int .i64 a1_2, .int .i64 a1_3, .string a1_4, .int .i64 a1_5, .int .i64 a1_6, .bool a1_7, .bool a1_8, .int .i64 a1_9, .int .i64 a1_10, .bool a1_11, .bool a1_12, .slice A1_13 l1_13.length c1_13]) (t:=28) ?_; intro gb102 hg w7 hbox hb; have B2 := A_ (hbox); have GW102 := hs_ HB hg; have GE102 := hs_ HB hg; have N12 := hl_ B1 hg; have N21 := hr_ B1 hg; replace B1 := bb_ B1 hb; replace HB := bs_ HB hb; clear hb hbox hg))
 (try (rw [drewN_self w7]; generalize hq_ : World.drewN w7 _ = w7; have n0_ : Aside0 (w7.heap[gb101]? = some (.cells #[.int .i64 a0_0, .int .i64 a0_1, .int .i64 a0_2, .int .i64 a0_3, .string a0_4, .int .i64 a0_5, .int .i64 a0_6, .bool a0_7, .bool a0_8, .int .i64 a0_9, .int .i64 a0_10, .bool a0_11, .bool a0_12, .slice A0_13 l0_13.length c0_13] 28 (0, 0))) := ⟨by rw [← hq_]; exact (pkx B1)⟩; have n1_ : Aside0 (w7.heap[gb102]? = some (.cells #[.int .i64 a1_0, .int .i64 a1_1, .int .i64 a1_2, .int .i64 a1_3, .string a1_4, .int .i64 a1_5, .int .i64 a1_6, .bool a1_7, .bool a1_8, .int .i64 a1_9, .int .i64 a1_10, .bool a1_11, .bool a1_12, .slice A1_13 l1_13.length c1_13] 28 (0, 0))) := ⟨by rw [← hq_]; exact (pkx B2)⟩; have n2_ : Aside0 (Below w.heap.size w w7) := ⟨by rw [← hq_]; exact (pbx HB)⟩; clear B1 B2 HB hq_; have B1 := n0_; have B2 := n1_; have HB := n2_; clear n0_ n1_ n2_))
 replace B1 := A_ (blk_drew B1.out); replace B2 := A_ (blk_drew B2.out); replace HB := A_ (below_drew1 HB.out)
 refine start_ (n:=6) (S := fun w' => w'.cell? ⟨gb101, 0, none⟩ = some (.int .i64 a0_0) ∧ w'.cell? ⟨gb101, 1, none⟩ = some (.int .i64 a0_1) ∧ w'.cell? ⟨gb101, 2, none⟩ = some (.int .i64 a0_2) ∧ w'.cell? ⟨gb101, 3, none⟩ = some (.int .i64 a0_3) ∧ w'.cell? ⟨gb101, 4, none⟩ = some (.string a0_4) ∧ w'.cell? ⟨gb101, 5, none⟩ = some (.int .i64 a0_5) ∧ w'.cell? ⟨gb101, 6, none⟩ = some (.int .i64 a0_6) ∧ w'.cell? ⟨gb101, 7, none⟩ = some (.bool a0_7) ∧ w'.cell? ⟨gb101, 8, none⟩ = some (.bool a0_8) ∧ w'.cell? ⟨gb101, 9, none⟩ = some (.int .i64 a0_9) ∧ w'.cell? ⟨gb101, 10, none⟩ = some (.int .i64 a0_10) ∧ w'.cell? ⟨gb101, 11, none⟩ = some (.bool a0_11) ∧ w'.cell? ⟨gb101, 12, none⟩ = some (.bool a0_12) ∧ w'.cell? ⟨gb101, 13, none⟩ = some (.slice A0_13 l0_13.length c0_13) ∧ w'.cell? ⟨gb102, 0, none⟩ = some (.int .i64 a1_0) ∧ w'.cell? ⟨gb102, 1, none⟩ = some (.int .i64 a1_1) ∧ w'.cell? ⟨gb102, 2, none⟩ = some (.int .i64 a1_2) ∧ w'.cell? ⟨gb102, 3, none⟩ = some (.int .i64 a1_3) ∧ w'.cell? ⟨gb102, 4, none⟩ = some (.string a1_4) ∧ w'.cell? ⟨gb102, 5, none⟩ = some (.int .i64 a1_5) ∧ w'.cell? ⟨gb102, 6, none⟩ = some (.int .i64 a1_6) ∧ w'.cell? ⟨gb102, 7, none⟩ = some (.bool a1_7) ∧ w'.cell? ⟨gb102, 8, none⟩ = some (.bool a1_8) ∧ w'.cell? ⟨gb102, 9, none⟩ = some (.int .i64 a1_9) ∧ w'.cell? ⟨gb102, 10, none⟩ = some (.int .i64 a1_10) ∧ w'.cell? ⟨gb102, 11, none⟩ = some (.bool a1_11) ∧ w'.cell? ⟨gb102, 12, none⟩ = some (.bool a1_12) ∧ w'.cell? ⟨gb102, 13, none⟩ = some (.slice A1_13 l1_13.length c1_13)) (ds := []) #[F,F,F,F,F,F] (by kernel_rfl) rfl rfl ⟨bc_ B1 0 rfl, bc_ B1 1 rfl, bc_ B1 2 rfl, bc_ B1 3 rfl, bc_ B1 4 rfl, bc_ B1 5 rfl, bc_ B1 6 rfl, bc_ B1 7 rfl, bc_ B1 8 rfl, bc_ B1 9 rfl, bc_ B1 10 rfl, bc_ B1 11 rfl, bc_ B1 12 rfl, bc_ B1 13 rfl, bc_ B2 0 rfl, bc_ B2 1 rfl, bc_ B2 2 rfl, bc_ B2 3 rfl, bc_ B2 4 rfl, bc_ B2 5 rfl, bc_ B2 6 rfl, bc_ B2 7 rfl, bc_ B2 8 rfl, bc_ B2 9 rfl, bc_ B2 10 rfl, bc_ B2 11 rfl, bc_ B2 12 rfl, bc_ B2 13 rfl⟩ (fun hHeld => ?_)
 generalize w7.drew = w8 at B1 B2 HB hHeld ⊢; refine take_ (i:=0) (N:=some 8) (v:=?_) (a':=?_) ⟨m_ 6 1⟩ rfl rfl (by kernel_rfl) (fun _ _ _ h=>h) (Or.inl ⟨rfl, ?_⟩) hHeld ?_ ?_; rotate_left
 ·rintro w' ⟨s0, s1, s2, s3, s4, s5, s6, s7, s8, s9, s10, s11, s12, s13, s14, s15, s16, s17, s18, s19, s20, s21, s22, s23, s24, s25, s26, s27⟩; go_simp; with_reducible rfl
 rotate_left
 ·simp only [q_, i64_w, i32_w]; rfl
 refine take_ (i:=2) (N:=some 10) (v:=?_) (a':=?_) ⟨m_ 6 5⟩ rfl rfl (by kernel_rfl) (fun _ _ _ h=>h) (Or.inl ⟨rfl, ?_⟩) hHeld ?_ ?_; rotate_left
 ·rintro w' ⟨s0, s1, s2, s3, s4, s5, s6, s7, s8, s9, s10, s11, s12, s13, s14, s15, s16, s17, s18, s19, s20, s21, s22, s23, s24, s25, s26, s27⟩; go_simp; with_reducible rfl
 rotate_left
 ·simp only [q_, i64_w, i32_w]; rfl
 refine one_ (i:=1) (N:=some 9) ⟨m_ 6 7⟩ rfl rfl (by kernel_rfl) (by decide) (fun K hK => ?_); refine goes_ Tryd.func9 (by kernel_rfl) rfl #[.agg #[.int .i64 a0_0, .int .i64 a0_1, .int .i64 a0_2, .int .i64 a0_3, .string a0_4, .int .i64 a0_5, .int .i64 a0_6, .bool a0_7, .bool a0_8, .int .i64 a0_9, .int .i64 a0_10, .bool a0_11, .bool a0_12, .slice A0_13 l0_13.length c0_13]] (by rfl) rfl rfl ha_ ?_; with_reducible refine (oculusref22_List.calls k a0_0 a0_1 a0_2 a0_3 a0_4 a0_5 a0_6 a0_7 a0_8 a0_9 a0_10 a0_11 a0_12 (fun k_ => k_ < w.heap.size) _ _ l0_13 t103 _ ?side1 A3.out).mono ?_; (case side1 => exact Kd.V_mk HC0_13.out (Kd.F_below (Kd.C_F k28_heap HR0_13.out) (pbx HB))); rintro e w9 ⟨v104, rfl, ho0, hb⟩; refine ⟨_, rfl, ?_⟩
 have HO105 := A_ (Kd.N_lower (Kd.N_mono (ok' := fun k_ => k_ ≠ gb101 ∧ k_ ≠ gb102) ho0 (fun k_ hk_ => ⟨Or.elim hk_ (fun hs_ => fun e_ => Nat.not_le.2 hs_ (by rw [e_]; exact GW101.out)) (fun hn_ => (Kd.freshB (pkx B1) k_ hn_)), Or.elim hk_ (fun hs_ => fun e_ => Nat.not_le.2 hs_ (by rw [e_]; exact GW102.out)) (fun hn_ => (Kd.freshB (pkx B2) k_ hn_))⟩)) (below_size (pbx HB))); replace B1 := bb_ B1 hb; replace B2 := bb_ B2 hb; replace HB := bs_ HB hb
 (try clear hb); (try clear ho0); refine hK.out _ _ ⟨bc_ B1 0 rfl, bc_ B1 1 rfl, bc_ B1 2 rfl, bc_ B1 3 rfl, bc_ B1 4 rfl, bc_ B1 5 rfl, bc_ B1 6 rfl, bc_ B1 7 rfl, bc_ B1 8 rfl, bc_ B1 9 rfl, bc_ B1 10 rfl, bc_ B1 11 rfl, bc_ B1 12 rfl, bc_ B1 13 rfl, bc_ B2 0 rfl, bc_ B2 1 rfl, bc_ B2 2 rfl, bc_ B2 3 rfl, bc_ B2 4 rfl, bc_ B2 5 rfl, bc_ B2 6 rfl, bc_ B2 7 rfl, bc_ B2 8 rfl, bc_ B2 9 rfl, bc_ B2 10 rfl, bc_ B2 11 rfl, bc_ B2 12 rfl, bc_ B2 13 rfl⟩ (fun hHeld => ?_); clear hK K; refine norm_ (a':=?_) ?_ ?_; rotate_left
 ·show Act.put _ (some 9) _ = _; simp only [q_, i64_w, i32_w]; rfl
 refine one_ (i:=3) (N:=some 11) ⟨m_ 6 15⟩ rfl rfl (by kernel_rfl) (by decide) (fun K hK => ?_); refine goes_ Tryd.func9 (by kernel_rfl) rfl #[.agg #[.int .i64 a1_0, .int .i64 a1_1, .int .i64 a1_2, .int .i64 a1_3, .string a1_4, .int .i64 a1_5, .int .i64 a1_6, .bool a1_7, .bool a1_8, .int .i64 a1_9, .int .i64 a1_10, .bool a1_11, .bool a1_12, .slice A1_13 l1_13.length c1_13]] (by rfl) rfl rfl ha_ ?_; with_reducible refine (oculusref22_List.calls k a1_0 a1_1 a1_2 a1_3 a1_4 a1_5 a1_6 a1_7 a1_8 a1_9 a1_10 a1_11 a1_12 (fun k_ => k_ < w.heap.size) _ _ l1_13 t106 _ ?side1 A4.out).mono ?_; (case side1 => exact Kd.V_mk HC1_13.out (Kd.F_below (Kd.C_F k28_heap HR1_13.out) (pbx HB))); rintro e w10 ⟨v107, rfl, ho0, hb⟩; refine ⟨_, rfl, ?_⟩
 have HO108 := A_ (Kd.N_lower (Kd.N_mono (ok' := fun k_ => some k_ ≠ (v104 : Value).ownBlock ∧ k_ ≠ gb101 ∧ k_ ≠ gb102) ho0 (fun k_ hk_ => ⟨Or.elim hk_ (fun hs_ => fun e_ => Nat.not_le.2 hs_ (Kd.N_base HO105.out k_ e_.symm)) (fun hn_ => (Kd.fresh' (Kd.N_lt (by (with_reducible repeat (first | apply Kd.N_alloc | apply Kd.N_drewN | apply Kd.N_drew)); exact HO105.out)) k_ hn_)), Or.elim hk_ (fun hs_ => fun e_ => Nat.not_le.2 hs_ (by rw [e_]; exact GW101.out)) (fun hn_ => (Kd.freshB (pkx B1) k_ hn_)), Or.elim hk_ (fun hs_ => fun e_ => Nat.not_le.2 hs_ (by rw [e_]; exact GW102.out)) (fun hn_ => (Kd.freshB (pkx B2) k_ hn_))⟩)) (below_size (pbx HB))); replace HO105 := A_ (Kd.N_elder' (by (with_reducible repeat (first | apply Kd.N_alloc | apply Kd.N_drewN | apply Kd.N_drew)); exact HO105.out) (Kd.N_base ho0) hb); replace B1 := bb_ B1 hb; replace B2 := bb_ B2 hb; replace HB := bs_ HB hb; (try clear hb); (try clear ho0); refine hK.out _ _ ⟨bc_ B1 0 rfl, bc_ B1 1 rfl, bc_ B1 2 rfl, bc_ B1 3 rfl, bc_ B1 4 rfl, bc_ B1 5 rfl, bc_ B1 6 rfl, bc_ B1 7 rfl, bc_ B1 8 rfl, bc_ B1 9 rfl, bc_ B1 10 rfl, bc_ B1 11 rfl, bc_ B1 12 rfl, bc_ B1 13 rfl, bc_ B2 0 rfl, bc_ B2 1 rfl, bc_ B2 2 rfl, bc_ B2 3 rfl, bc_ B2 4 rfl, bc_ B2 5 rfl, bc_ B2 6 rfl, bc_ B2 7 rfl, bc_ B2 8 rfl, bc_ B2 9 rfl, bc_ B2 10 rfl, bc_ B2 11 rfl, bc_ B2 12 rfl, bc_ B2 13 rfl⟩ (fun hHeld => ?_); clear hK K; refine norm_ (a':=?_) ?_ ?_; rotate_left
 ·show Act.put _ (some 11) _ = _; simp only [q_, i64_w, i32_w]; rfl
 refine pure_ (i:=4) (N:=some 5) (v:=?_) (a':=?_) ⟨m_ 6 31⟩ rfl rfl (by kernel_rfl) (fun _ _ _ h=>h) (Or.inl ⟨rfl, ?_⟩) ?_ ?_; rotate_left
 ·intro w'; go_simp; with_reducible rfl
 rotate_left
 ·simp only [q_, i64_w, i32_w]; rfl
 refine pure_ (i:=5) (N:=some 6) (v:=?_) (a':=?_) ⟨m_ 6 63⟩ rfl rfl (by kernel_rfl) (fun _ _ _ h=>h) (Or.inl ⟨rfl, ?_⟩) ?_ ?_; rotate_left
 ·intro w'; go_simp; with_reducible rfl
 rotate_left
 ·simp only [q_, i64_w, i32_w]; rfl
 refine done_ (by kernel_rfl) ?_
 obtain ⟨Ao11, co11, eo11⟩ := Kd.N_slice HO105.out; subst eo11; obtain ⟨Ao12, co12, eo12⟩ := Kd.N_slice HO108.out; subst eo12; have HX := A_ (Kd.N_reads' HO105.out).2.2; have HY := A_ (Kd.N_reads' HO108.out).2.2; have H := HH.out; clear HO105 HO108 HH B1 B2
 by_cases c5 : (t103.length : Int) = (t106.length : Int)
 ·rw [if_pos c5] at H; have ⟨c5b0,c5b1⟩ := e1_ c5
  have c5b2 : (t103.length == t106.length) = true := by first | simpa using c5 | (simp at c5 ⊢; omega)
  clear c5
  have H' := A_ H
  clear H
  go_wp2
  go_loopg [7] k (fun kq v7 w' => ∃ (x : Int), v7 = .int .i64 x ∧ Aside0 (oculusref22_Same.l0 kq t103 t106 x = some r) ∧ Aside0 (kq ≤ k) ∧ Aside0 (Kd.C k28 w' Ao11 t103.length t103) ∧ Aside0 (Kd.C k28 w' Ao12 t106.length t106) ∧ Aside0 (Below w.heap.size w w'))
  case atStart => exact ⟨0, rfl, H', ⟨Nat.le_refl _⟩, HX, HY, HB⟩
  case round =>
   clear H' HX HY HB c5b0 c5b1 c5b2; obtain ⟨x, rfl, HA, HK1, HX, HY, HB⟩ := hrel
   cases gk with
   | zero => exact absurd HA.out (by simp [oculusref22_Same.l0])
   | succ k1 =>
    have H := HA.out; clear HA
    simp only [oculusref22_Same.l0] at H
    by_cases c1 : x < (t103.length : Int)
    ·rw [if_pos c1] at H
     by_cases c2 : 0 ≤ x
     ·rw [if_pos c2] at H
      by_cases c3 : x < (t106.length : Int)
      ·rw [if_pos c3] at H; have c1b : decide (x < (t103.length : Int)) = true := decide_eq_true c1; obtain ⟨ad1, A1, d1, e1, p0, p1, p2, p3, p4, p5, p6, p7, p8, p9, p10, p11, p12, p13, _, _⟩ := at_T28 HX.out x c2 c1; obtain ⟨ad2, A2, d2, e2, q0, q1, q2, q3, q4, q5, q6, q7, q8, q9, q10, q11, q12, q13, _, _⟩ := at_T28 HY.out x c2 c3
       cases e1
       cases e2
       by_cases g0 : ((rd_T28 t103 x).f0) = ((rd_T28 t106 x).f0)
       ·rw [if_pos g0] at H; have g0b := beq_iff_eq.mpr g0; have g0c := bne_eq_false_iff_eq.mpr g0; clear g0
        by_cases g1 : ((rd_T28 t103 x).f1) = ((rd_T28 t106 x).f1)
        ·rw [if_pos g1] at H; have g1b := beq_iff_eq.mpr g1; have g1c := bne_eq_false_iff_eq.mpr g1; clear g1
         by_cases g2 : (!(((rd_T28 t103 x).f2.f0) == ((rd_T28 t106 x).f2.f0)) || (!(((rd_T28 t103 x).f2.f1) == ((rd_T28 t106 x).f2.f1)) || (!((((rd_T28 t103 x).f2.f2).toList) == (((rd_T28 t106 x).f2.f2).toList))))) = true
         ·rw [if_pos g2] at H; obtain rfl := Option.some.inj H
          as_aux_lemma =>
           go_wp2
           go_quiet (fail)
           go_wp2
           go_ret
           exact ⟨rfl, pw_below_drewN HB.out nq⟩
         ·rw [if_neg g2] at H
          replace g2 : (!(((rd_T28 t103 x).f2.f0) == ((rd_T28 t106 x).f2.f0)) || (!(((rd_T28 t103 x).f2.f1) == ((rd_T28 t106 x).f2.f1)) || (!((((rd_T28 t103 x).f2.f2).toList) == (((rd_T28 t106 x).f2.f2).toList))))) = false := by simpa using g2
          by_cases g3 : (!(((rd_T28 t103 x).f3.f0) == ((rd_T28 t106 x).f3.f0)) || (!(((rd_T28 t103 x).f3.f1) == ((rd_T28 t106 x).f3.f1)) || (!(((rd_T28 t103 x).f3.f2) == ((rd_T28 t106 x).f3.f2)) || (!(((rd_T28 t103 x).f3.f3) == ((rd_T28 t106 x).f3.f3)))))) = true
          ·rw [if_pos g3] at H; obtain rfl := Option.some.inj H
           as_aux_lemma =>
            go_wp2
            go_quiet (fail)
            go_wp2
            go_ret
            exact ⟨rfl, pw_below_drewN HB.out nq⟩
          ·rw [if_neg g3] at H
           replace g3 : (!(((rd_T28 t103 x).f3.f0) == ((rd_T28 t106 x).f3.f0)) || (!(((rd_T28 t103 x).f3.f1) == ((rd_T28 t106 x).f3.f1)) || (!(((rd_T28 t103 x).f3.f2) == ((rd_T28 t106 x).f3.f2)) || (!(((rd_T28 t103 x).f3.f3) == ((rd_T28 t106 x).f3.f3)))))) = false := by simpa using g3
           by_cases g4 : (!(((rd_T28 t103 x).f4.f0) == ((rd_T28 t106 x).f4.f0)) || (!(((rd_T28 t103 x).f4.f1) == ((rd_T28 t106 x).f4.f1)) || (!(((rd_T28 t103 x).f4.f2) == ((rd_T28 t106 x).f4.f2)) || (!(((rd_T28 t103 x).f4.f3) == ((rd_T28 t106 x).f4.f3)))))) = true
           ·rw [if_pos g4] at H; obtain rfl := Option.some.inj H
            as_aux_lemma =>
             go_wp2
             go_quiet (fail)
             go_wp2
             go_ret
             exact ⟨rfl, pw_below_drewN HB.out nq⟩
           ·rw [if_neg g4] at H
            replace g4 : (!(((rd_T28 t103 x).f4.f0) == ((rd_T28 t106 x).f4.f0)) || (!(((rd_T28 t103 x).f4.f1) == ((rd_T28 t106 x).f4.f1)) || (!(((rd_T28 t103 x).f4.f2) == ((rd_T28 t106 x).f4.f2)) || (!(((rd_T28 t103 x).f4.f3) == ((rd_T28 t106 x).f4.f3)))))) = false := by simpa using g4
            by_cases g5 : (((rd_T28 t103 x).f5).length : Int) = (((rd_T28 t106 x).f5).length : Int)
            ·rw [if_pos g5] at H; have g5b := beq_iff_eq.mpr g5; have g5c := bne_eq_false_iff_eq.mpr g5
             have g5d : (((rd_T28 t103 x).f5).length == ((rd_T28 t106 x).f5).length) = true := by first | simpa using g5 | (simp at g5 ⊢; omega)
             clear g5
             have H' := A_ H
             clear H
             as_aux_lemma =>
              go_wp2
              go_quiet (fail)
              go_wp2
              go_roundg k1
              case measure => have := HK1.out; omega
              case rel => exact ⟨_, rfl, H', ⟨by have := HK1.out; omega⟩, ⟨Kd.C_drewN HX.out nq⟩, ⟨Kd.C_drewN HY.out nq⟩, ⟨pw_below_drewN HB.out nq⟩⟩
            ·rw [if_neg g5] at H; have g5b := beq_eq_false_iff_ne.mpr g5; have g5c := bne_iff_ne.mpr g5
             have g5d : (((rd_T28 t103 x).f5).length == ((rd_T28 t106 x).f5).length) = false := by first | simpa using g5 | (simp at g5 ⊢; omega)
             clear g5; obtain rfl := Option.some.inj H
             as_aux_lemma =>
              go_wp2
              go_quiet (fail)
              go_wp2
              go_ret
              exact ⟨rfl, pw_below_drewN HB.out nq⟩
        ·rw [if_neg g1] at H; have g1b := beq_eq_false_iff_ne.mpr g1; have g1c := bne_iff_ne.mpr g1; clear g1; obtain rfl := Option.some.inj H
         as_aux_lemma =>
          go_wp2
          go_quiet (fail)
          go_wp2
          go_ret
          exact ⟨rfl, pw_below_drewN HB.out nq⟩
       ·rw [if_neg g0] at H; have g0b := beq_eq_false_iff_ne.mpr g0; have g0c := bne_iff_ne.mpr g0; clear g0; obtain rfl := Option.some.inj H
        as_aux_lemma =>
         go_wp2
         go_quiet (fail)
         go_wp2
         go_ret
         exact ⟨rfl, pw_below_drewN HB.out nq⟩
      ·rw [if_neg c3] at H
       cases H
     ·rw [if_neg c2] at H
      cases H
    ·rw [if_neg c1] at H; have c1b : decide (x < (t103.length : Int)) = false := decide_eq_false c1; clear c1; obtain rfl := Option.some.inj H
     go_wp2
     go_ret
     exact ⟨rfl, HB.out⟩
 ·rw [if_neg c5] at H; have ⟨c5b0,c5b1⟩ := e0_ c5
  have c5b2 : (t103.length == t106.length) = false := by first | simpa using c5 | (simp at c5 ⊢; omega)
  clear c5; obtain rfl := Option.some.inj H
  go_wp2
  go_ret
  exact ⟨rfl, HB.out⟩
end Go.Proofs.YtdddhabemdbooaaDoor.X
