/- Contracts of the functions that the law NodeTells reaches, and what they answer (a session's own texts, joined; part 3). -/
import Derived.Deep.QuietTactic
import Derived.BigQuiet
import Derived.Test.YtdddhabemdbooaaDoorBNodeTells2
set_option maxHeartbeats 8000000
set_option maxRecDepth 100000
namespace Go.Proofs.YtdddhabemdbooaaDoor.X
open Go.RowKit Go.Proofs.YtdddhabemdbooaaDoorW.PrintWords Go.Proofs.YtdddhabemdbooaaDoorW.PrintLast Go.Proofs.YtdddhabemdbooaaDoorW.PrintMore
attribute [local go_sem] max2_int min2_int max_two min_two max_three min_three max_four min_four
set_option linter.unusedVariables false
set_option linter.unusedSimpArgs false
mutual
def node_Right.l0 : Nat → List (S28) → Int → Int → Int → Int → Int → Int → ByteArray → Int → Int → Bool → Bool → Int → Int → Bool → Bool → List (S28) → Option (Bool)
 | 0, _, _, _, _, _, _, _, _, _, _, _, _, _, _, _, _, _ => none
 | k + 1, x7, x8, x9, x102000, x102001, x102002, x102003, x102004, x102005, x102006, x102007, x102008, x102009, x102010, x102011, x102012, x102013 => if x9 < x8 then (if 0 ≤ x9 then (if x9 < (x7.length : Int) then ((node_Right.f k ((rd_T28 x7 x9).f0) ((rd_T28 x7 x9).f1) ((rd_T28 x7 x9).f2.f0) ((rd_T28 x7 x9).f2.f1) ((rd_T28 x7 x9).f2.f2) ((rd_T28 x7 x9).f3.f0) ((rd_T28 x7 x9).f3.f1) ((rd_T28 x7 x9).f3.f2) ((rd_T28 x7 x9).f3.f3) ((rd_T28 x7 x9).f4.f0) ((rd_T28 x7 x9).f4.f1) ((rd_T28 x7 x9).f4.f2) ((rd_T28 x7 x9).f4.f3) ((rd_T28 x7 x9).f5)).bind fun t104 => (node_Right.j1 k x7 x8 x9 (!t104) x102000 x102001 x102002 x102003 x102004 x102005 x102006 x102007 x102008 x102009 x102010 x102011 x102012 x102013)) else (none)) else (none)) else ((node_has.f x102000 x102001 x102002 x102003 x102004 x102005 x102006 x102007 x102008 x102009 x102010 x102011 x102012 x102013).bind fun t105 => (node_Right.j2 k t105 x102000 x102001 x102002 x102003 x102004 x102005 x102006 x102007 x102008 x102009 x102010 x102011 x102012 x102013))
def node_Right.j1 : Nat → List (S28) → Int → Int → Bool → Int → Int → Int → Int → ByteArray → Int → Int → Bool → Bool → Int → Int → Bool → Bool → List (S28) → Option (Bool)
 | 0, _, _, _, _, _, _, _, _, _, _, _, _, _, _, _, _, _, _ => none
 | k + 1, x7, x8, x9, x15, x102000, x102001, x102002, x102003, x102004, x102005, x102006, x102007, x102008, x102009, x102010, x102011, x102012, x102013 => if x15 = true then (some false) else (node_Right.l0 k x7 x8 (wrap64 (x9 + 1)) x102000 x102001 x102002 x102003 x102004 x102005 x102006 x102007 x102008 x102009 x102010 x102011 x102012 x102013)
def node_Right.j2 : Nat → Int → Int → Int → Int → Int → ByteArray → Int → Int → Bool → Bool → Int → Int → Bool → Bool → List (S28) → Option (Bool)
 | 0, _, _, _, _, _, _, _, _, _, _, _, _, _, _, _ => none
 | k + 1, x5, x102000, x102001, x102002, x102003, x102004, x102005, x102006, x102007, x102008, x102009, x102010, x102011, x102012, x102013 => if x102000 = 1 then (if (Go.bits .andNot .u64 x5 2) = 0 then ((node_literal.f k x102002 x102003 x102004).bind fun t106 => (some t106)) else (some false)) else (if x102000 = 2 then (some (x5 == 0)) else (if x102000 = 3 then (if (Go.bits .andNot .u64 x5 4) = 0 then ((node_ref.f x102005 x102006 x102007 x102008).bind fun t107 => (some t107)) else (some false)) else (if x102000 = 4 then (if (Go.bits .andNot .u64 x5 12) = 0 then ((node_ref.f x102005 x102006 x102007 x102008).bind fun t108 => (if t108 = true then ((node_ref.f x102009 x102010 x102011 x102012).bind fun t109 => (some t109)) else (some false))) else (some false)) else (if x102000 = 5 then (if (Go.bits .andNot .u64 x5 16) = 0 then (if (x102013.length : Int) = 1 then (if 0 < (x102013.length : Int) then ((node_fits.f k 118 ((rd_T28 x102013 0).f0) ((rd_T28 x102013 0).f1) ((rd_T28 x102013 0).f2.f0) ((rd_T28 x102013 0).f2.f1) ((rd_T28 x102013 0).f2.f2) ((rd_T28 x102013 0).f3.f0) ((rd_T28 x102013 0).f3.f1) ((rd_T28 x102013 0).f3.f2) ((rd_T28 x102013 0).f3.f3) ((rd_T28 x102013 0).f4.f0) ((rd_T28 x102013 0).f4.f1) ((rd_T28 x102013 0).f4.f2) ((rd_T28 x102013 0).f4.f3) ((rd_T28 x102013 0).f5)).bind fun t111 => (some t111)) else (none)) else (some false)) else (some false)) else (if x102000 = 6 then (if (Go.bits .andNot .u64 x5 17) = 0 then (if x102001 ≥ 1 then (if x102001 ≤ 12 then (if (x102013.length : Int) = 2 then (if 0 < (x102013.length : Int) then ((node_fits.f k 118 ((rd_T28 x102013 0).f0) ((rd_T28 x102013 0).f1) ((rd_T28 x102013 0).f2.f0) ((rd_T28 x102013 0).f2.f1) ((rd_T28 x102013 0).f2.f2) ((rd_T28 x102013 0).f3.f0) ((rd_T28 x102013 0).f3.f1) ((rd_T28 x102013 0).f3.f2) ((rd_T28 x102013 0).f3.f3) ((rd_T28 x102013 0).f4.f0) ((rd_T28 x102013 0).f4.f1) ((rd_T28 x102013 0).f4.f2) ((rd_T28 x102013 0).f4.f3) ((rd_T28 x102013 0).f5)).bind fun t113 => (if t113 = true then (if 1 < (x102013.length : Int) then ((node_fits.f k 118 ((rd_T28 x102013 1).f0) ((rd_T28 x102013 1).f1) ((rd_T28 x102013 1).f2.f0) ((rd_T28 x102013 1).f2.f1) ((rd_T28 x102013 1).f2.f2) ((rd_T28 x102013 1).f3.f0) ((rd_T28 x102013 1).f3.f1) ((rd_T28 x102013 1).f3.f2) ((rd_T28 x102013 1).f3.f3) ((rd_T28 x102013 1).f4.f0) ((rd_T28 x102013 1).f4.f1) ((rd_T28 x102013 1).f4.f2) ((rd_T28 x102013 1).f4.f3) ((rd_T28 x102013 1).f5)).bind fun t115 => (some t115)) else (none)) else (some false))) else (none)) else (some false)) else (some false)) else (some false)) else (some false)) else (if x102000 = 7 then (if (Go.bits .andNot .u64 x5 17) = 0 then ((node_called.f k x102000 x102001 x102002 x102003 x102004 x102005 x102006 x102007 x102008 x102009 x102010 x102011 x102012 x102013).bind fun t116 => (some t116)) else (some false)) else (some false)))))))
def node_Right.f : Nat → Int → Int → Int → Int → ByteArray → Int → Int → Bool → Bool → Int → Int → Bool → Bool → List (S28) → Option (Bool)
 | 0, _, _, _, _, _, _, _, _, _, _, _, _, _, _ => none
 | k + 1, a0_0, a0_1, a0_2, a0_3, a0_4, a0_5, a0_6, a0_7, a0_8, a0_9, a0_10, a0_11, a0_12, l0_13 => node_Right.l0 k l0_13 (l0_13.length : Int) 0 a0_0 a0_1 a0_2 a0_3 a0_4 a0_5 a0_6 a0_7 a0_8 a0_9 a0_10 a0_11 a0_12 l0_13
end
theorem node_Right.mono_l : ∀ k, (∀ y0 y1 y2 y3 y4 y5 y6 y7 y8 y9 y10 y11 y12 y13, LeO (node_Right.f k y0 y1 y2 y3 y4 y5 y6 y7 y8 y9 y10 y11 y12 y13) (node_Right.f (k + 1) y0 y1 y2 y3 y4 y5 y6 y7 y8 y9 y10 y11 y12 y13)) ∧ (∀ y0 y1 y2 y3 y4 y5 y6 y7 y8 y9 y10 y11 y12 y13 y14 y15 y16, LeO (node_Right.l0 k y0 y1 y2 y3 y4 y5 y6 y7 y8 y9 y10 y11 y12 y13 y14 y15 y16) (node_Right.l0 (k + 1) y0 y1 y2 y3 y4 y5 y6 y7 y8 y9 y10 y11 y12 y13 y14 y15 y16)) ∧ (∀ y0 y1 y2 y3 y4 y5 y6 y7 y8 y9 y10 y11 y12 y13 y14 y15 y16 y17, LeO (node_Right.j1 k y0 y1 y2 y3 y4 y5 y6 y7 y8 y9 y10 y11 y12 y13 y14 y15 y16 y17) (node_Right.j1 (k + 1) y0 y1 y2 y3 y4 y5 y6 y7 y8 y9 y10 y11 y12 y13 y14 y15 y16 y17)) ∧ (∀ y0 y1 y2 y3 y4 y5 y6 y7 y8 y9 y10 y11 y12 y13 y14, LeO (node_Right.j2 k y0 y1 y2 y3 y4 y5 y6 y7 y8 y9 y10 y11 y12 y13 y14) (node_Right.j2 (k + 1) y0 y1 y2 y3 y4 y5 y6 y7 y8 y9 y10 y11 y12 y13 y14))
 | 0 => ⟨fun _ _ _ _ _ _ _ _ _ _ _ _ _ _ r h => by simp [node_Right.f] at h, fun _ _ _ _ _ _ _ _ _ _ _ _ _ _ _ _ _ r h => by simp [node_Right.l0] at h, fun _ _ _ _ _ _ _ _ _ _ _ _ _ _ _ _ _ _ r h => by simp [node_Right.j1] at h, fun _ _ _ _ _ _ _ _ _ _ _ _ _ _ _ r h => by simp [node_Right.j2] at h⟩
 | k + 1 => by
  obtain ⟨ih0, ih1, ih2, ih3⟩ := node_Right.mono_l k
  refine ⟨?_, ?_, ?_, ?_⟩
  ·intro y0 y1 y2 y3 y4 y5 y6 y7 y8 y9 y10 y11 y12 y13
   unfold node_Right.f
   have m0 := @node_called.mono; have m1 := @node_fits.mono; have m2 := @node_literal.mono; exact mo_
  ·intro y0 y1 y2 y3 y4 y5 y6 y7 y8 y9 y10 y11 y12 y13 y14 y15 y16
   unfold node_Right.l0
   have m0 := @node_called.mono; have m1 := @node_fits.mono; have m2 := @node_literal.mono; exact mo_
  ·intro y0 y1 y2 y3 y4 y5 y6 y7 y8 y9 y10 y11 y12 y13 y14 y15 y16 y17
   unfold node_Right.j1
   have m0 := @node_called.mono; have m1 := @node_fits.mono; have m2 := @node_literal.mono; exact mo_
  ·intro y0 y1 y2 y3 y4 y5 y6 y7 y8 y9 y10 y11 y12 y13 y14
   unfold node_Right.j2
   have m0 := @node_called.mono; have m1 := @node_fits.mono; have m2 := @node_literal.mono; exact mo_
theorem node_Right.mono : ∀ a0 a1 a2 a3 a4 a5 a6 a7 a8 a9 a10 a11 a12 a13 k, LeO (node_Right.f k a0 a1 a2 a3 a4 a5 a6 a7 a8 a9 a10 a11 a12 a13) (node_Right.f (k + 1) a0 a1 a2 a3 a4 a5 a6 a7 a8 a9 a10 a11 a12 a13) := by
 intro a0 a1 a2 a3 a4 a5 a6 a7 a8 a9 a10 a11 a12 a13 k; obtain ⟨ih0, ih1, ih2, ih3⟩ := node_Right.mono_l k
 exact ih0 a0 a1 a2 a3 a4 a5 a6 a7 a8 a9 a10 a11 a12 a13
theorem node_Right.calls (k : Nat) : ∀ (a0_0 : Int) (a0_1 : Int) (a0_2 : Int) (a0_3 : Int) (a0_4 : ByteArray) (a0_5 : Int) (a0_6 : Int) (a0_7 : Bool) (a0_8 : Bool) (a0_9 : Int) (a0_10 : Int) (a0_11 : Bool) (a0_12 : Bool) (A0_13 : Option Addr) (c0_13 : Nat) (l0_13 : List (S28)) (r : Bool) (w : World) (hT : Aside0 (Tab w)) (hr0_13 : Kd.C k28 w A0_13 l0_13.length l0_13) (hc0_13 : l0_13.length ≤ c0_13) (h : node_Right.f k a0_0 a0_1 a0_2 a0_3 a0_4 a0_5 a0_6 a0_7 a0_8 a0_9 a0_10 a0_11 a0_12 l0_13 = some r),
  Calls Tryd.prog 13 #[.agg #[.int .i64 a0_0, .int .i64 a0_1, .int .i64 a0_2, .int .i64 a0_3, .string a0_4, .int .i64 a0_5, .int .i64 a0_6, .bool a0_7, .bool a0_8, .int .i64 a0_9, .int .i64 a0_10, .bool a0_11, .bool a0_12, .slice A0_13 l0_13.length c0_13]] w fun e w' => e = .returned (.bool r) ∧ Below w.heap.size w w' := by
 induction k using Nat.strongRecOn with
 | _ k ih =>
 intro a0_0 a0_1 a0_2 a0_3 a0_4 a0_5 a0_6 a0_7 a0_8 a0_9 a0_10 a0_11 a0_12 A0_13 c0_13 l0_13 r w hT hr0_13 hc0_13 h
 cases k with
 | zero => exact absurd h (by simp [node_Right.f])
 | succ k =>
 simp only [node_Right.f] at h
 have hu28 := Tryd.underlying28; have hu23 := Tryd.underlying23; have hu25 := Tryd.underlying25; have HR0_13 := A_ hr0_13; have HC0_13 := A_ hc0_13; clear hr0_13 hc0_13; have HB := A_ (Below.refl w.heap.size w)
 have H : (node_Right.l0 k l0_13 (l0_13.length : Int) 0 a0_0 a0_1 a0_2 a0_3 a0_4 a0_5 a0_6 a0_7 a0_8 a0_9 a0_10 a0_11 a0_12 l0_13) = some r := h
 clear h
 have H' := A_ H
 clear H
 go_enter Tryd.func13, Tryd.ntmps13
 go_wp2_with (first | ((with_reducible refine gd_ 1 ?_); (try (refine gate_guard (by rfl) ?_; dsimp only)); refine be_ (N:=1) (cs := #[.int .i64 a0_0, .int .i64 a0_1, .int .i64 a0_2, .int .i64 a0_3, .string a0_4, .int .i64 a0_5, .int .i64 a0_6, .bool a0_7, .bool a0_8, .int .i64 a0_9, .int .i64 a0_10, .bool a0_11, .bool a0_12, .slice A0_13 l0_13.length c0_13]) (t:=28) ?_; intro g1 hg w2 hbox hb; have B1 := A_ (hbox); have GW101 := hs_ HB hg; have GE101 := hs_ HB hg; replace HB := bs_ HB hb; clear hb hbox hg; have hcz3_0 : w2.cell? ⟨g1, 0, none⟩ = some (.int .i64 a0_0) := bc_ B1 0 rfl; have hcz3_1 : w2.cell? ⟨g1, 1, none⟩ = some (.int .i64 a0_1) := bc_ B1 1 rfl; have hcz3_2 : w2.cell? ⟨g1, 2, none⟩ = some (.int .i64 a0_2) := bc_ B1 2 rfl; have hcz3_3 : w2.cell? ⟨g1, 3, none⟩ = some (.int .i64 a0_3) := bc_ B1 3 rfl; have hcz3_4 : w2.cell? ⟨g1, 4, none⟩ = some (.string a0_4) := bc_ B1 4 rfl; have hcz3_5 : w2.cell? ⟨g1, 5, none⟩ = some (.int .i64 a0_5) := bc_ B1 5 rfl; have hcz3_6 : w2.cell? ⟨g1, 6, none⟩ = some (.int .i64 a0_6) := bc_ B1 6 rfl; have hcz3_7 : w2.cell? ⟨g1, 7, none⟩ = some (.bool a0_7) := bc_ B1 7 rfl; have hcz3_8 : w2.cell? ⟨g1, 8, none⟩ = some (.bool a0_8) := bc_ B1 8 rfl; have hcz3_9 : w2.cell? ⟨g1, 9, none⟩ = some (.int .i64 a0_9) := bc_ B1 9 rfl; have hcz3_10 : w2.cell? ⟨g1, 10, none⟩ = some (.int .i64 a0_10) := bc_ B1 10 rfl; have hcz3_11 : w2.cell? ⟨g1, 11, none⟩ = some (.bool a0_11) := bc_ B1 11 rfl; have hcz3_12 : w2.cell? ⟨g1, 12, none⟩ = some (.bool a0_12) := bc_ B1 12 rfl; have hcz3_13 : w2.cell? ⟨g1, 13, none⟩ = some (.slice A0_13 l0_13.length c0_13) := bc_ B1 13 rfl; have hfz3_0 := blk_frozen B1.out 0; have hfz3_1 := blk_frozen B1.out 1; have hfz3_2 := blk_frozen B1.out 2; have hfz3_3 := blk_frozen B1.out 3; have hfz3_4 := blk_frozen B1.out 4; have hfz3_5 := blk_frozen B1.out 5; have hfz3_6 := blk_frozen B1.out 6; have hfz3_7 := blk_frozen B1.out 7; have hfz3_8 := blk_frozen B1.out 8; have hfz3_9 := blk_frozen B1.out 9; have hfz3_10 := blk_frozen B1.out 10; have hfz3_11 := blk_frozen B1.out 11; have hfz3_12 := blk_frozen B1.out 12; have hfz3_13 := blk_frozen B1.out 13))
 go_loopg [9] k (fun kq v9 w' => ∃ (x9_1 : Int), v9 = .int .i64 x9_1 ∧ Aside0 (node_Right.l0 kq l0_13 (l0_13.length : Int) x9_1 a0_0 a0_1 a0_2 a0_3 a0_4 a0_5 a0_6 a0_7 a0_8 a0_9 a0_10 a0_11 a0_12 l0_13 = some r) ∧ Aside0 (kq ≤ k) ∧ Aside0 (w'.heap[g1]? = some (.cells #[.int .i64 a0_0, .int .i64 a0_1, .int .i64 a0_2, .int .i64 a0_3, .string a0_4, .int .i64 a0_5, .int .i64 a0_6, .bool a0_7, .bool a0_8, .int .i64 a0_9, .int .i64 a0_10, .bool a0_11, .bool a0_12, (.slice A0_13 l0_13.length c0_13)] 28 (0, 0))) ∧ Aside0 (Below w.heap.size w w'))
 case atStart => exact ⟨(0), sq_, H', ⟨Nat.le_refl _⟩, ⟨pkx B1⟩, ⟨pbx HB⟩⟩
 case round =>
  clear H'; (try clear hcz3_0); (try clear hcz3_1); (try clear hcz3_10); (try clear hcz3_11); (try clear hcz3_12); (try clear hcz3_13); (try clear hcz3_2); (try clear hcz3_3); (try clear hcz3_4); (try clear hcz3_5); (try clear hcz3_6); (try clear hcz3_7); (try clear hcz3_8); (try clear hcz3_9); (try clear hfz3_0); (try clear hfz3_1); (try clear hfz3_10); (try clear hfz3_11); (try clear hfz3_12); (try clear hfz3_13); (try clear hfz3_2); (try clear hfz3_3); (try clear hfz3_4); (try clear hfz3_5); (try clear hfz3_6); (try clear hfz3_7); (try clear hfz3_8); (try clear hfz3_9); obtain ⟨x9_1, rfl, HA, HK1, B1, HB⟩ := hrel
  cases gk with
  | zero => exact absurd HA.out (by simp [node_Right.l0])
  | succ k1 =>
   have H := HA.out; clear HA
   simp only [node_Right.l0] at H
   by_cases c4 : x9_1 < (l0_13.length : Int)
   ·rw [if_pos c4] at H; have c4b0 := decide_eq_true c4; clear c4
    by_cases c5 : 0 ≤ x9_1
    ·rw [if_pos c5] at H; have c5b0 := decide_eq_true c5; clear c5
     by_cases c6 : x9_1 < (l0_13.length : Int)
     ·rw [if_pos c6] at H; have c6b0 := decide_eq_true c6; clear c6; have HC7 := A_ H; clear H
      have p102 : 0 ≤ (x9_1 : Int) := of_decide_eq_true as_
      have q102 : x9_1 < (l0_13.length : Int) := of_decide_eq_true as_
      obtain ⟨ad102, A102_13, c102_13, e102, hx102_0, hx102_1, hx102_2, hx102_3, hx102_4, hx102_5, hx102_6, hx102_7, hx102_8, hx102_9, hx102_10, hx102_11, hx102_12, hx102_13, hl102_13, hi102_13⟩ := at_T28 HR0_13.out x9_1 p102 q102
      cases e102
      replace hx102_0 := (HB.out.cell (World.block_lt_of_cell? w _ hx102_0)).trans hx102_0; replace hx102_1 := (HB.out.cell (World.block_lt_of_cell? w _ hx102_1)).trans hx102_1; replace hx102_2 := (HB.out.cell (World.block_lt_of_cell? w _ hx102_2)).trans hx102_2; replace hx102_3 := (HB.out.cell (World.block_lt_of_cell? w _ hx102_3)).trans hx102_3; replace hx102_4 := (HB.out.cell (World.block_lt_of_cell? w _ hx102_4)).trans hx102_4; replace hx102_5 := (HB.out.cell (World.block_lt_of_cell? w _ hx102_5)).trans hx102_5; replace hx102_6 := (HB.out.cell (World.block_lt_of_cell? w _ hx102_6)).trans hx102_6; replace hx102_7 := (HB.out.cell (World.block_lt_of_cell? w _ hx102_7)).trans hx102_7; replace hx102_8 := (HB.out.cell (World.block_lt_of_cell? w _ hx102_8)).trans hx102_8; replace hx102_9 := (HB.out.cell (World.block_lt_of_cell? w _ hx102_9)).trans hx102_9; replace hx102_10 := (HB.out.cell (World.block_lt_of_cell? w _ hx102_10)).trans hx102_10
      replace hx102_11 := (HB.out.cell (World.block_lt_of_cell? w _ hx102_11)).trans hx102_11; replace hx102_12 := (HB.out.cell (World.block_lt_of_cell? w _ hx102_12)).trans hx102_12; replace hx102_13 := (HB.out.cell (World.block_lt_of_cell? w _ hx102_13)).trans hx102_13; have HR102_13 := A_ hi102_13; have HC102_13 := A_ hl102_13; clear hi102_13 hl102_13; replace p102 := eq_true p102; replace q102 := eq_true q102
      go_upto_region 4 with (first | ((with_reducible refine gd_ 4 ?_); (try (refine gate_guard (by rfl) ?_; dsimp only)); refine be_ (N:=4) (cs := #[.int .i64 0, .int .i64 0, .int .i64 0, .int .i64 0, .string (⟨#[]⟩ : ByteArray), .int .i64 0, .int .i64 0, .bool false, .bool false, .int .i64 0, .int .i64 0, .bool false, .bool false, .slice none 0 0]) (t:=28) ?_; intro g3 hg w8 hbox hb; have B3 := A_ (hbox); have GW103 := hs_ HB hg; have GE103 := hs_ HB hg; have N13 := hl_ B1 hg; have N31 := hr_ B1 hg; replace B1 := bb_ B1 hb; replace HB := bs_ HB hb; clear hb hbox hg; have hnb9 := N31.out; have hnc9 := N13.out; have hcz10_0 : w8.cell? ⟨g3, 0, none⟩ = some (.int .i64 0) := bc_ B3 0 rfl; have hcz10_1 : w8.cell? ⟨g3, 1, none⟩ = some (.int .i64 0) := bc_ B3 1 rfl; have hcz10_2 : w8.cell? ⟨g3, 2, none⟩ = some (.int .i64 0) := bc_ B3 2 rfl; have hcz10_3 : w8.cell? ⟨g3, 3, none⟩ = some (.int .i64 0) := bc_ B3 3 rfl; have hcz10_4 : w8.cell? ⟨g3, 4, none⟩ = some (.string (⟨#[]⟩ : ByteArray)) := bc_ B3 4 rfl; have hcz10_5 : w8.cell? ⟨g3, 5, none⟩ = some (.int .i64 0) := bc_ B3 5 rfl; have hcz10_6 : w8.cell? ⟨g3, 6, none⟩ = some (.int .i64 0) := bc_ B3 6 rfl; have hcz10_7 : w8.cell? ⟨g3, 7, none⟩ = some (.bool false) := bc_ B3 7 rfl; have hcz10_8 : w8.cell? ⟨g3, 8, none⟩ = some (.bool false) := bc_ B3 8 rfl; have hcz10_9 : w8.cell? ⟨g3, 9, none⟩ = some (.int .i64 0) := bc_ B3 9 rfl; have hcz10_10 : w8.cell? ⟨g3, 10, none⟩ = some (.int .i64 0) := bc_ B3 10 rfl; have hcz10_11 : w8.cell? ⟨g3, 11, none⟩ = some (.bool false) := bc_ B3 11 rfl; have hcz10_12 : w8.cell? ⟨g3, 12, none⟩ = some (.bool false) := bc_ B3 12 rfl; have hcz10_13 : w8.cell? ⟨g3, 13, none⟩ = some (.slice none 0 0) := bc_ B3 13 rfl; have hfz10_0 := blk_frozen B3.out 0; have hfz10_1 := blk_frozen B3.out 1; have hfz10_2 := blk_frozen B3.out 2; have hfz10_3 := blk_frozen B3.out 3; have hfz10_4 := blk_frozen B3.out 4; have hfz10_5 := blk_frozen B3.out 5; have hfz10_6 := blk_frozen B3.out 6; have hfz10_7 := blk_frozen B3.out 7; have hfz10_8 := blk_frozen B3.out 8; have hfz10_9 := blk_frozen B3.out 9; have hfz10_10 := blk_frozen B3.out 10; have hfz10_11 := blk_frozen B3.out 11; have hfz10_12 := blk_frozen B3.out 12; have hfz10_13 := blk_frozen B3.out 13))
      (try simp only [q_])
      go_cut [15] (fun v15 wc => ∃ (kq : Nat) (x15_6 : Bool), v15 = .bool x15_6 ∧ Aside0 (node_Right.j1 kq l0_13 (l0_13.length : Int) x9_1 x15_6 a0_0 a0_1 a0_2 a0_3 a0_4 a0_5 a0_6 a0_7 a0_8 a0_9 a0_10 a0_11 a0_12 l0_13 = some r) ∧ Aside0 (kq ≤ k1) ∧ Aside0 (wc.heap[g1]? = some (.cells #[.int .i64 a0_0, .int .i64 a0_1, .int .i64 a0_2, .int .i64 a0_3, .string a0_4, .int .i64 a0_5, .int .i64 a0_6, .bool a0_7, .bool a0_8, .int .i64 a0_9, .int .i64 a0_10, .bool a0_11, .bool a0_12, (.slice (some ad102) l0_13.length c0_13)] 28 (0, 0))) ∧ Aside0 (wc.heap[g3]? = some (.cells #[.int .i64 ((rd_T28 l0_13 x9_1).f0), .int .i64 ((rd_T28 l0_13 x9_1).f1), .int .i64 ((rd_T28 l0_13 x9_1).f2.f0), .int .i64 ((rd_T28 l0_13 x9_1).f2.f1), .string ((rd_T28 l0_13 x9_1).f2.f2), .int .i64 ((rd_T28 l0_13 x9_1).f3.f0), .int .i64 ((rd_T28 l0_13 x9_1).f3.f1), .bool ((rd_T28 l0_13 x9_1).f3.f2), .bool ((rd_T28 l0_13 x9_1).f3.f3), .int .i64 ((rd_T28 l0_13 x9_1).f4.f0), .int .i64 ((rd_T28 l0_13 x9_1).f4.f1), .bool ((rd_T28 l0_13 x9_1).f4.f2), .bool ((rd_T28 l0_13 x9_1).f4.f3), (.slice A102_13 ((rd_T28 l0_13 x9_1).f5).length c102_13)] 28 (0, 0))) ∧ Aside0 (Below w.heap.size w wc))
      case first =>
       have H := HC7.out; clear HC7; obtain ⟨t104, A11, H⟩ := bo_ H
       have H' := A_ H
       clear H; have hnb12 := N31.out; have hnc12 := N13.out
       have hcz13_0 : w8.cell? ⟨g3, 0, none⟩ = some (.int .i64 0) := bc_ B3 0 rfl
       have hcz13_1 : w8.cell? ⟨g3, 1, none⟩ = some (.int .i64 0) := bc_ B3 1 rfl
       have hcz13_2 : w8.cell? ⟨g3, 2, none⟩ = some (.int .i64 0) := bc_ B3 2 rfl
       have hcz13_3 : w8.cell? ⟨g3, 3, none⟩ = some (.int .i64 0) := bc_ B3 3 rfl
       have hcz13_4 : w8.cell? ⟨g3, 4, none⟩ = some (.string (⟨#[]⟩ : ByteArray)) := bc_ B3 4 rfl
       have hcz13_5 : w8.cell? ⟨g3, 5, none⟩ = some (.int .i64 0) := bc_ B3 5 rfl
       have hcz13_6 : w8.cell? ⟨g3, 6, none⟩ = some (.int .i64 0) := bc_ B3 6 rfl
       have hcz13_7 : w8.cell? ⟨g3, 7, none⟩ = some (.bool false) := bc_ B3 7 rfl
       have hcz13_8 : w8.cell? ⟨g3, 8, none⟩ = some (.bool false) := bc_ B3 8 rfl
       have hcz13_9 : w8.cell? ⟨g3, 9, none⟩ = some (.int .i64 0) := bc_ B3 9 rfl
       have hcz13_10 : w8.cell? ⟨g3, 10, none⟩ = some (.int .i64 0) := bc_ B3 10 rfl
       have hcz13_11 : w8.cell? ⟨g3, 11, none⟩ = some (.bool false) := bc_ B3 11 rfl
       have hcz13_12 : w8.cell? ⟨g3, 12, none⟩ = some (.bool false) := bc_ B3 12 rfl
       have hcz13_13 : w8.cell? ⟨g3, 13, none⟩ = some (.slice none 0 0) := bc_ B3 13 rfl
       have hfz13_0 := blk_frozen B3.out 0; have hfz13_1 := blk_frozen B3.out 1; have hfz13_2 := blk_frozen B3.out 2; have hfz13_3 := blk_frozen B3.out 3; have hfz13_4 := blk_frozen B3.out 4; have hfz13_5 := blk_frozen B3.out 5; have hfz13_6 := blk_frozen B3.out 6; have hfz13_7 := blk_frozen B3.out 7; have hfz13_8 := blk_frozen B3.out 8; have hfz13_9 := blk_frozen B3.out 9; have hfz13_10 := blk_frozen B3.out 10; have hfz13_11 := blk_frozen B3.out 11; have hfz13_12 := blk_frozen B3.out 12; have hfz13_13 := blk_frozen B3.out 13
       go_wp2_with (first | ((with_reducible refine gate_callee (f:=13) rfl ?_); refine gL_ (some 14) rfl rfl Tryd.func13 rfl #[.agg #[.int .i64 ((rd_T28 l0_13 x9_1).f0), .int .i64 ((rd_T28 l0_13 x9_1).f1), .int .i64 ((rd_T28 l0_13 x9_1).f2.f0), .int .i64 ((rd_T28 l0_13 x9_1).f2.f1), .string ((rd_T28 l0_13 x9_1).f2.f2), .int .i64 ((rd_T28 l0_13 x9_1).f3.f0), .int .i64 ((rd_T28 l0_13 x9_1).f3.f1), .bool ((rd_T28 l0_13 x9_1).f3.f2), .bool ((rd_T28 l0_13 x9_1).f3.f3), .int .i64 ((rd_T28 l0_13 x9_1).f4.f0), .int .i64 ((rd_T28 l0_13 x9_1).f4.f1), .bool ((rd_T28 l0_13 x9_1).f4.f2), .bool ((rd_T28 l0_13 x9_1).f4.f3), .slice A102_13 ((rd_T28 l0_13 x9_1).f5).length c102_13]] rfl ?_; (with_reducible refine (ih k1 (by have := HK1.out; omega) ((rd_T28 l0_13 x9_1).f0) ((rd_T28 l0_13 x9_1).f1) ((rd_T28 l0_13 x9_1).f2.f0) ((rd_T28 l0_13 x9_1).f2.f1) ((rd_T28 l0_13 x9_1).f2.f2) ((rd_T28 l0_13 x9_1).f3.f0) ((rd_T28 l0_13 x9_1).f3.f1) ((rd_T28 l0_13 x9_1).f3.f2) ((rd_T28 l0_13 x9_1).f3.f3) ((rd_T28 l0_13 x9_1).f4.f0) ((rd_T28 l0_13 x9_1).f4.f1) ((rd_T28 l0_13 x9_1).f4.f2) ((rd_T28 l0_13 x9_1).f4.f3) _ _ ((rd_T28 l0_13 x9_1).f5) t104 _ (by refine tb_ ?_ hT; repeat' (first | exact pbx HB | assumption | refine below_set ?_ (Aside0.out ?_))) ?side1 ?side2 A11.out).mono ?_); (case side1 => exact Kd.C_below HR102_13.out bl_); (case side2 => exact HC102_13.out); rintro e w14 ⟨rfl, hb⟩; refine ⟨_, rfl, ?_⟩; replace B1 := A_ (blk_below (g:=g1) (o := .cells #[.int .i64 a0_0, .int .i64 a0_1, .int .i64 a0_2, .int .i64 a0_3, .string a0_4, .int .i64 a0_5, .int .i64 a0_6, .bool a0_7, .bool a0_8, .int .i64 a0_9, .int .i64 a0_10, .bool a0_11, .bool a0_12, .slice (some ad102) l0_13.length c0_13] 28 (0, 0)) (by (iterate 14 refine pf_ ?_ N13.out); exact pkx B1) hb); replace B3 := A_ (blk_below (g:=g3) (o := .cells #[.int .i64 ((rd_T28 l0_13 x9_1).f0), .int .i64 ((rd_T28 l0_13 x9_1).f1), .int .i64 ((rd_T28 l0_13 x9_1).f2.f0), .int .i64 ((rd_T28 l0_13 x9_1).f2.f1), .string ((rd_T28 l0_13 x9_1).f2.f2), .int .i64 ((rd_T28 l0_13 x9_1).f3.f0), .int .i64 ((rd_T28 l0_13 x9_1).f3.f1), .bool ((rd_T28 l0_13 x9_1).f3.f2), .bool ((rd_T28 l0_13 x9_1).f3.f3), .int .i64 ((rd_T28 l0_13 x9_1).f4.f0), .int .i64 ((rd_T28 l0_13 x9_1).f4.f1), .bool ((rd_T28 l0_13 x9_1).f4.f2), .bool ((rd_T28 l0_13 x9_1).f4.f3), .slice A102_13 ((rd_T28 l0_13 x9_1).f5).length c102_13] 28 (0, 0)) (by refine pp_ (cs := #[.int .i64 ((rd_T28 l0_13 x9_1).f0), .int .i64 ((rd_T28 l0_13 x9_1).f1), .int .i64 ((rd_T28 l0_13 x9_1).f2.f0), .int .i64 ((rd_T28 l0_13 x9_1).f2.f1), .string ((rd_T28 l0_13 x9_1).f2.f2), .int .i64 ((rd_T28 l0_13 x9_1).f3.f0), .int .i64 ((rd_T28 l0_13 x9_1).f3.f1), .bool ((rd_T28 l0_13 x9_1).f3.f2), .bool ((rd_T28 l0_13 x9_1).f3.f3), .int .i64 ((rd_T28 l0_13 x9_1).f4.f0), .int .i64 ((rd_T28 l0_13 x9_1).f4.f1), .bool ((rd_T28 l0_13 x9_1).f4.f2), .bool ((rd_T28 l0_13 x9_1).f4.f3), .slice none 0 0]) 13 ?_ rfl; refine blk_put (cs := #[.int .i64 ((rd_T28 l0_13 x9_1).f0), .int .i64 ((rd_T28 l0_13 x9_1).f1), .int .i64 ((rd_T28 l0_13 x9_1).f2.f0), .int .i64 ((rd_T28 l0_13 x9_1).f2.f1), .string ((rd_T28 l0_13 x9_1).f2.f2), .int .i64 ((rd_T28 l0_13 x9_1).f3.f0), .int .i64 ((rd_T28 l0_13 x9_1).f3.f1), .bool ((rd_T28 l0_13 x9_1).f3.f2), .bool ((rd_T28 l0_13 x9_1).f3.f3), .int .i64 ((rd_T28 l0_13 x9_1).f4.f0), .int .i64 ((rd_T28 l0_13 x9_1).f4.f1), .bool ((rd_T28 l0_13 x9_1).f4.f2), .bool false, .slice none 0 0]) ?_ 12 _ rfl; refine blk_put (cs := #[.int .i64 ((rd_T28 l0_13 x9_1).f0), .int .i64 ((rd_T28 l0_13 x9_1).f1), .int .i64 ((rd_T28 l0_13 x9_1).f2.f0), .int .i64 ((rd_T28 l0_13 x9_1).f2.f1), .string ((rd_T28 l0_13 x9_1).f2.f2), .int .i64 ((rd_T28 l0_13 x9_1).f3.f0), .int .i64 ((rd_T28 l0_13 x9_1).f3.f1), .bool ((rd_T28 l0_13 x9_1).f3.f2), .bool ((rd_T28 l0_13 x9_1).f3.f3), .int .i64 ((rd_T28 l0_13 x9_1).f4.f0), .int .i64 ((rd_T28 l0_13 x9_1).f4.f1), .bool false, .bool false, .slice none 0 0]) ?_ 11 _ rfl; refine blk_put (cs := #[.int .i64 ((rd_T28 l0_13 x9_1).f0), .int .i64 ((rd_T28 l0_13 x9_1).f1), .int .i64 ((rd_T28 l0_13 x9_1).f2.f0), .int .i64 ((rd_T28 l0_13 x9_1).f2.f1), .string ((rd_T28 l0_13 x9_1).f2.f2), .int .i64 ((rd_T28 l0_13 x9_1).f3.f0), .int .i64 ((rd_T28 l0_13 x9_1).f3.f1), .bool ((rd_T28 l0_13 x9_1).f3.f2), .bool ((rd_T28 l0_13 x9_1).f3.f3), .int .i64 ((rd_T28 l0_13 x9_1).f4.f0), .int .i64 0, .bool false, .bool false, .slice none 0 0]) ?_ 10 _ rfl; refine blk_put (cs := #[.int .i64 ((rd_T28 l0_13 x9_1).f0), .int .i64 ((rd_T28 l0_13 x9_1).f1), .int .i64 ((rd_T28 l0_13 x9_1).f2.f0), .int .i64 ((rd_T28 l0_13 x9_1).f2.f1), .string ((rd_T28 l0_13 x9_1).f2.f2), .int .i64 ((rd_T28 l0_13 x9_1).f3.f0), .int .i64 ((rd_T28 l0_13 x9_1).f3.f1), .bool ((rd_T28 l0_13 x9_1).f3.f2), .bool ((rd_T28 l0_13 x9_1).f3.f3), .int .i64 0, .int .i64 0, .bool false, .bool false, .slice none 0 0]) ?_ 9 _ rfl; refine blk_put (cs := #[.int .i64 ((rd_T28 l0_13 x9_1).f0), .int .i64 ((rd_T28 l0_13 x9_1).f1), .int .i64 ((rd_T28 l0_13 x9_1).f2.f0), .int .i64 ((rd_T28 l0_13 x9_1).f2.f1), .string ((rd_T28 l0_13 x9_1).f2.f2), .int .i64 ((rd_T28 l0_13 x9_1).f3.f0), .int .i64 ((rd_T28 l0_13 x9_1).f3.f1), .bool ((rd_T28 l0_13 x9_1).f3.f2), .bool false, .int .i64 0, .int .i64 0, .bool false, .bool false, .slice none 0 0]) ?_ 8 _ rfl; refine blk_put (cs := #[.int .i64 ((rd_T28 l0_13 x9_1).f0), .int .i64 ((rd_T28 l0_13 x9_1).f1), .int .i64 ((rd_T28 l0_13 x9_1).f2.f0), .int .i64 ((rd_T28 l0_13 x9_1).f2.f1), .string ((rd_T28 l0_13 x9_1).f2.f2), .int .i64 ((rd_T28 l0_13 x9_1).f3.f0), .int .i64 ((rd_T28 l0_13 x9_1).f3.f1), .bool false, .bool false, .int .i64 0, .int .i64 0, .bool false, .bool false, .slice none 0 0]) ?_ 7 _ rfl; refine blk_put (cs := #[.int .i64 ((rd_T28 l0_13 x9_1).f0), .int .i64 ((rd_T28 l0_13 x9_1).f1), .int .i64 ((rd_T28 l0_13 x9_1).f2.f0), .int .i64 ((rd_T28 l0_13 x9_1).f2.f1), .string ((rd_T28 l0_13 x9_1).f2.f2), .int .i64 ((rd_T28 l0_13 x9_1).f3.f0), .int .i64 0, .bool false, .bool false, .int .i64 0, .int .i64 0, .bool false, .bool false, .slice none 0 0]) ?_ 6 _ rfl; refine blk_put (cs := #[.int .i64 ((rd_T28 l0_13 x9_1).f0), .int .i64 ((rd_T28 l0_13 x9_1).f1), .int .i64 ((rd_T28 l0_13 x9_1).f2.f0), .int .i64 ((rd_T28 l0_13 x9_1).f2.f1), .string ((rd_T28 l0_13 x9_1).f2.f2), .int .i64 0, .int .i64 0, .bool false, .bool false, .int .i64 0, .int .i64 0, .bool false, .bool false, .slice none 0 0]) ?_ 5 _ rfl; refine blk_put (cs := #[.int .i64 ((rd_T28 l0_13 x9_1).f0), .int .i64 ((rd_T28 l0_13 x9_1).f1), .int .i64 ((rd_T28 l0_13 x9_1).f2.f0), .int .i64 ((rd_T28 l0_13 x9_1).f2.f1), .string (⟨#[]⟩ : ByteArray), .int .i64 0, .int .i64 0, .bool false, .bool false, .int .i64 0, .int .i64 0, .bool false, .bool false, .slice none 0 0]) ?_ 4 _ rfl; (iterate 4 apply pp_); exact pkx B3; all_goals rfl) hb); replace HB := A_ (below_step (by repeat (first | (with_reducible first | exact HB.out | apply below_alloc | apply pw_below_drewN | apply below_drew1 | refine below_set ?_ GE101.out | refine below_set ?_ GE103.out) | exact HB.out)) hb); (try clear hb); ))
       go_meet
       case rel => exact ⟨_, (!t104), (by first | rfl | (simp; done) | (simp [*]; done) | (cases t104 <;> simp; done)), H', ⟨by have := HK1.out; first | omega | exact Nat.le_refl _⟩, ⟨pkx B1⟩, ⟨pkx B3⟩, ⟨pbx HB⟩⟩
      case rest =>
       clear HC7; (try clear c4); (try clear c4b0); (try clear c5); (try clear c5b0); (try clear c6); (try clear c6b0); (try clear hcz10_0); (try clear hcz10_1); (try clear hcz10_10); (try clear hcz10_11); (try clear hcz10_12); (try clear hcz10_13); (try clear hcz10_2); (try clear hcz10_3); (try clear hcz10_4); (try clear hcz10_5); (try clear hcz10_6); (try clear hcz10_7); (try clear hcz10_8); (try clear hcz10_9); (try clear hcz3_0); (try clear hcz3_1); (try clear hcz3_10); (try clear hcz3_11); (try clear hcz3_12); (try clear hcz3_13); (try clear hcz3_2); (try clear hcz3_3); (try clear hcz3_4); (try clear hcz3_5); (try clear hcz3_6); (try clear hcz3_7); (try clear hcz3_8); (try clear hcz3_9); (try clear hfz10_0); (try clear hfz10_1); (try clear hfz10_10); (try clear hfz10_11); (try clear hfz10_12); (try clear hfz10_13); (try clear hfz10_2); (try clear hfz10_3); (try clear hfz10_4); (try clear hfz10_5); (try clear hfz10_6); (try clear hfz10_7); (try clear hfz10_8); (try clear hfz10_9); (try clear hfz3_0)
       (try clear hfz3_1); (try clear hfz3_10); (try clear hfz3_11); (try clear hfz3_12); (try clear hfz3_13); (try clear hfz3_2); (try clear hfz3_3); (try clear hfz3_4); (try clear hfz3_5); (try clear hfz3_6); (try clear hfz3_7); (try clear hfz3_8); (try clear hfz3_9); (try clear hx102_0); (try clear hx102_1); (try clear hx102_10); (try clear hx102_11); (try clear hx102_12); (try clear hx102_13); (try clear hx102_2); (try clear hx102_3); (try clear hx102_4); (try clear hx102_5); (try clear hx102_6); (try clear hx102_7); (try clear hx102_8); (try clear hx102_9); (try clear p102); (try clear q102); obtain ⟨kq, x15_6, rfl, HA, HJ6, B1, B3, HB⟩ := hcut
       cases kq with
       | zero => exact absurd HA.out (by simp [node_Right.j1])
       | succ kj6 =>
        have H := HA.out; clear HA
        simp only [node_Right.j1] at H
        replace H := ib_ H; rcases H with ⟨rfl,H⟩|⟨rfl,H⟩
        ·obtain rfl := Option.some.inj H
         go_wp2
         go_ret
         exact fi_ (pbx HB)
        ·have H' := A_ H
         clear H
         go_wp2
         go_roundg kj6
         case measure => have := HK1.out; have := HJ6.out; omega
         case rel => exact ⟨(wrap64 (x9_1 + 1)), sq_, H', ⟨by have := HK1.out; have := HJ6.out; omega⟩, ⟨pkx B1⟩, ⟨pbx HB⟩⟩
     ·rw [if_neg c6] at H
      exact absurd H (by simp)
    ·rw [if_neg c5] at H
     exact absurd H (by simp)
   ·rw [if_neg c4] at H; have c4b0 := decide_eq_false c4; clear c4; have HC16 := A_ H; clear H
    go_upto_region 7 with (fail)
    go_cut [5] (fun v5 wc => ∃ (kq : Nat) (x5_15 : Int), v5 = .int .u64 x5_15 ∧ Aside0 (node_Right.j2 kq x5_15 a0_0 a0_1 a0_2 a0_3 a0_4 a0_5 a0_6 a0_7 a0_8 a0_9 a0_10 a0_11 a0_12 l0_13 = some r) ∧ Aside0 (kq ≤ k1) ∧ Aside0 (wc.heap[g1]? = some (.cells #[.int .i64 a0_0, .int .i64 a0_1, .int .i64 a0_2, .int .i64 a0_3, .string a0_4, .int .i64 a0_5, .int .i64 a0_6, .bool a0_7, .bool a0_8, .int .i64 a0_9, .int .i64 a0_10, .bool a0_11, .bool a0_12, (.slice A0_13 l0_13.length c0_13)] 28 (0, 0))) ∧ Aside0 (Below w.heap.size w wc))
    case first =>
     have H := HC16.out; clear HC16; obtain ⟨t105, A17, H⟩ := bo_ H
     have H' := A_ H
     clear H
     have hcz18_0 : wr.cell? ⟨g1, 0, none⟩ = some (.int .i64 a0_0) := bc_ B1 0 rfl
     have hcz18_1 : wr.cell? ⟨g1, 1, none⟩ = some (.int .i64 a0_1) := bc_ B1 1 rfl
     have hcz18_2 : wr.cell? ⟨g1, 2, none⟩ = some (.int .i64 a0_2) := bc_ B1 2 rfl
     have hcz18_3 : wr.cell? ⟨g1, 3, none⟩ = some (.int .i64 a0_3) := bc_ B1 3 rfl
     have hcz18_4 : wr.cell? ⟨g1, 4, none⟩ = some (.string a0_4) := bc_ B1 4 rfl
     have hcz18_5 : wr.cell? ⟨g1, 5, none⟩ = some (.int .i64 a0_5) := bc_ B1 5 rfl
     have hcz18_6 : wr.cell? ⟨g1, 6, none⟩ = some (.int .i64 a0_6) := bc_ B1 6 rfl
     have hcz18_7 : wr.cell? ⟨g1, 7, none⟩ = some (.bool a0_7) := bc_ B1 7 rfl
     have hcz18_8 : wr.cell? ⟨g1, 8, none⟩ = some (.bool a0_8) := bc_ B1 8 rfl
     have hcz18_9 : wr.cell? ⟨g1, 9, none⟩ = some (.int .i64 a0_9) := bc_ B1 9 rfl
     have hcz18_10 : wr.cell? ⟨g1, 10, none⟩ = some (.int .i64 a0_10) := bc_ B1 10 rfl
     have hcz18_11 : wr.cell? ⟨g1, 11, none⟩ = some (.bool a0_11) := bc_ B1 11 rfl
     have hcz18_12 : wr.cell? ⟨g1, 12, none⟩ = some (.bool a0_12) := bc_ B1 12 rfl
     have hcz18_13 : wr.cell? ⟨g1, 13, none⟩ = some (.slice A0_13 l0_13.length c0_13) := bc_ B1 13 rfl
     have hfz18_0 := blk_frozen B1.out 0; have hfz18_1 := blk_frozen B1.out 1; have hfz18_2 := blk_frozen B1.out 2; have hfz18_3 := blk_frozen B1.out 3; have hfz18_4 := blk_frozen B1.out 4; have hfz18_5 := blk_frozen B1.out 5; have hfz18_6 := blk_frozen B1.out 6; have hfz18_7 := blk_frozen B1.out 7; have hfz18_8 := blk_frozen B1.out 8; have hfz18_9 := blk_frozen B1.out 9; have hfz18_10 := blk_frozen B1.out 10; have hfz18_11 := blk_frozen B1.out 11; have hfz18_12 := blk_frozen B1.out 12; have hfz18_13 := blk_frozen B1.out 13
     go_wp2_with (first | ((with_reducible refine gate_callee (f:=20) rfl ?_); refine gL_ (some 18) rfl rfl Tryd.func20 rfl #[.agg #[.int .i64 a0_0, .int .i64 a0_1, .int .i64 a0_2, .int .i64 a0_3, .string a0_4, .int .i64 a0_5, .int .i64 a0_6, .bool a0_7, .bool a0_8, .int .i64 a0_9, .int .i64 a0_10, .bool a0_11, .bool a0_12, .slice A0_13 l0_13.length c0_13]] rfl ?_; (with_reducible refine (node_has.calls a0_0 a0_1 a0_2 a0_3 a0_4 a0_5 a0_6 a0_7 a0_8 a0_9 a0_10 a0_11 a0_12 _ _ l0_13 t105 _ ?side1 ?side2 A17.out).mono ?_); (case side1 => exact ca_ (Kd.C_below HR0_13.out HB.out)); (case side2 => exact HC0_13.out); rintro e w19 ⟨rfl, hb⟩; refine ⟨_, rfl, ?_⟩; replace B1 := bb_ B1 hb; replace HB := bs_ HB hb; (try clear hb); ))
     go_meet
     case rel => exact ⟨_, (t105), (by first | rfl | (simp; done) | (simp [*]; done) | (cases t105 <;> simp; done)), H', ⟨by have := HK1.out; first | omega | exact Nat.le_refl _⟩, ⟨pkx B1⟩, ⟨pbx HB⟩⟩
    case rest =>
     clear HC16; (try clear c4); (try clear c4b0); (try clear hcz3_0); (try clear hcz3_1); (try clear hcz3_10); (try clear hcz3_11); (try clear hcz3_12); (try clear hcz3_13); (try clear hcz3_2); (try clear hcz3_3); (try clear hcz3_4); (try clear hcz3_5); (try clear hcz3_6); (try clear hcz3_7); (try clear hcz3_8); (try clear hcz3_9)
     (try clear hfz3_0); (try clear hfz3_1); (try clear hfz3_10); (try clear hfz3_11); (try clear hfz3_12); (try clear hfz3_13); (try clear hfz3_2); (try clear hfz3_3); (try clear hfz3_4); (try clear hfz3_5); (try clear hfz3_6); (try clear hfz3_7); (try clear hfz3_8); (try clear hfz3_9)
     obtain ⟨kq, x5_15, rfl, HA, HJ15, B1, HB⟩ := hcut
     cases kq with
     | zero => exact absurd HA.out (by simp [node_Right.j2])
     | succ kj15 =>
      have H := HA.out; clear HA
      simp only [node_Right.j2] at H
      by_cases c20 : a0_0 = 1
      ·rw [if_pos c20] at H; have ⟨c20b0,c20b1⟩ := e1_ c20; clear c20
       by_cases c21 : (Go.bits .andNot .u64 x5_15 2) = 0
       ·rw [if_pos c21] at H; have ⟨c21b0,c21b1⟩ := e1_ c21; clear c21; obtain ⟨t106, A22, H⟩ := bo_ H; obtain rfl := Option.some.inj H
        have hcz23_0 : wc.cell? ⟨g1, 0, none⟩ = some (.int .i64 a0_0) := bc_ B1 0 rfl
        have hcz23_1 : wc.cell? ⟨g1, 1, none⟩ = some (.int .i64 a0_1) := bc_ B1 1 rfl
        have hcz23_2 : wc.cell? ⟨g1, 2, none⟩ = some (.int .i64 a0_2) := bc_ B1 2 rfl
        have hcz23_3 : wc.cell? ⟨g1, 3, none⟩ = some (.int .i64 a0_3) := bc_ B1 3 rfl
        have hcz23_4 : wc.cell? ⟨g1, 4, none⟩ = some (.string a0_4) := bc_ B1 4 rfl
        have hcz23_5 : wc.cell? ⟨g1, 5, none⟩ = some (.int .i64 a0_5) := bc_ B1 5 rfl
        have hcz23_6 : wc.cell? ⟨g1, 6, none⟩ = some (.int .i64 a0_6) := bc_ B1 6 rfl
        have hcz23_7 : wc.cell? ⟨g1, 7, none⟩ = some (.bool a0_7) := bc_ B1 7 rfl
        have hcz23_8 : wc.cell? ⟨g1, 8, none⟩ = some (.bool a0_8) := bc_ B1 8 rfl
        have hcz23_9 : wc.cell? ⟨g1, 9, none⟩ = some (.int .i64 a0_9) := bc_ B1 9 rfl
        have hcz23_10 : wc.cell? ⟨g1, 10, none⟩ = some (.int .i64 a0_10) := bc_ B1 10 rfl
        have hcz23_11 : wc.cell? ⟨g1, 11, none⟩ = some (.bool a0_11) := bc_ B1 11 rfl
        have hcz23_12 : wc.cell? ⟨g1, 12, none⟩ = some (.bool a0_12) := bc_ B1 12 rfl
        have hcz23_13 : wc.cell? ⟨g1, 13, none⟩ = some (.slice A0_13 l0_13.length c0_13) := bc_ B1 13 rfl
        have hfz23_0 := blk_frozen B1.out 0; have hfz23_1 := blk_frozen B1.out 1; have hfz23_2 := blk_frozen B1.out 2; have hfz23_3 := blk_frozen B1.out 3; have hfz23_4 := blk_frozen B1.out 4; have hfz23_5 := blk_frozen B1.out 5; have hfz23_6 := blk_frozen B1.out 6; have hfz23_7 := blk_frozen B1.out 7; have hfz23_8 := blk_frozen B1.out 8; have hfz23_9 := blk_frozen B1.out 9; have hfz23_10 := blk_frozen B1.out 10; have hfz23_11 := blk_frozen B1.out 11; have hfz23_12 := blk_frozen B1.out 12; have hfz23_13 := blk_frozen B1.out 13
        go_wp2_with (first | (go_at_call 21; (with_reducible refine (node_literal.calls kj15 a0_2 a0_3 a0_4 t106 _ A22.out).mono ?_); rintro e w24 ⟨rfl, hb⟩; replace B1 := bb_ B1 hb; replace HB := bs_ HB hb; (try clear hb); ))
        go_ret
        exact fi_ (pbx HB)
       ·rw [if_neg c21] at H; have ⟨c21b0,c21b1⟩ := e0_ c21; obtain rfl := Option.some.inj H
        have hcz25_0 : wc.cell? ⟨g1, 0, none⟩ = some (.int .i64 a0_0) := bc_ B1 0 rfl
        have hcz25_1 : wc.cell? ⟨g1, 1, none⟩ = some (.int .i64 a0_1) := bc_ B1 1 rfl
        have hcz25_2 : wc.cell? ⟨g1, 2, none⟩ = some (.int .i64 a0_2) := bc_ B1 2 rfl
        have hcz25_3 : wc.cell? ⟨g1, 3, none⟩ = some (.int .i64 a0_3) := bc_ B1 3 rfl
        have hcz25_4 : wc.cell? ⟨g1, 4, none⟩ = some (.string a0_4) := bc_ B1 4 rfl
        have hcz25_5 : wc.cell? ⟨g1, 5, none⟩ = some (.int .i64 a0_5) := bc_ B1 5 rfl
        have hcz25_6 : wc.cell? ⟨g1, 6, none⟩ = some (.int .i64 a0_6) := bc_ B1 6 rfl
        have hcz25_7 : wc.cell? ⟨g1, 7, none⟩ = some (.bool a0_7) := bc_ B1 7 rfl
        have hcz25_8 : wc.cell? ⟨g1, 8, none⟩ = some (.bool a0_8) := bc_ B1 8 rfl
        have hcz25_9 : wc.cell? ⟨g1, 9, none⟩ = some (.int .i64 a0_9) := bc_ B1 9 rfl
        have hcz25_10 : wc.cell? ⟨g1, 10, none⟩ = some (.int .i64 a0_10) := bc_ B1 10 rfl
        have hcz25_11 : wc.cell? ⟨g1, 11, none⟩ = some (.bool a0_11) := bc_ B1 11 rfl
        have hcz25_12 : wc.cell? ⟨g1, 12, none⟩ = some (.bool a0_12) := bc_ B1 12 rfl
        have hcz25_13 : wc.cell? ⟨g1, 13, none⟩ = some (.slice A0_13 l0_13.length c0_13) := bc_ B1 13 rfl
        have hfz25_0 := blk_frozen B1.out 0; have hfz25_1 := blk_frozen B1.out 1; have hfz25_2 := blk_frozen B1.out 2; have hfz25_3 := blk_frozen B1.out 3; have hfz25_4 := blk_frozen B1.out 4; have hfz25_5 := blk_frozen B1.out 5; have hfz25_6 := blk_frozen B1.out 6; have hfz25_7 := blk_frozen B1.out 7; have hfz25_8 := blk_frozen B1.out 8; have hfz25_9 := blk_frozen B1.out 9; have hfz25_10 := blk_frozen B1.out 10; have hfz25_11 := blk_frozen B1.out 11; have hfz25_12 := blk_frozen B1.out 12; have hfz25_13 := blk_frozen B1.out 13
        go_wp2
        go_ret
        exact fi_ (pbx HB)
      ·rw [if_neg c20] at H; have ⟨c20b0,c20b1⟩ := e0_ c20
       by_cases c26 : a0_0 = 2
       ·rw [if_pos c26] at H; have ⟨c26b0,c26b1⟩ := e1_ c26; clear c26; obtain rfl := Option.some.inj H
        have hcz27_0 : wc.cell? ⟨g1, 0, none⟩ = some (.int .i64 a0_0) := bc_ B1 0 rfl
        have hcz27_1 : wc.cell? ⟨g1, 1, none⟩ = some (.int .i64 a0_1) := bc_ B1 1 rfl
        have hcz27_2 : wc.cell? ⟨g1, 2, none⟩ = some (.int .i64 a0_2) := bc_ B1 2 rfl
        have hcz27_3 : wc.cell? ⟨g1, 3, none⟩ = some (.int .i64 a0_3) := bc_ B1 3 rfl
        have hcz27_4 : wc.cell? ⟨g1, 4, none⟩ = some (.string a0_4) := bc_ B1 4 rfl
        have hcz27_5 : wc.cell? ⟨g1, 5, none⟩ = some (.int .i64 a0_5) := bc_ B1 5 rfl
        have hcz27_6 : wc.cell? ⟨g1, 6, none⟩ = some (.int .i64 a0_6) := bc_ B1 6 rfl
        have hcz27_7 : wc.cell? ⟨g1, 7, none⟩ = some (.bool a0_7) := bc_ B1 7 rfl
        have hcz27_8 : wc.cell? ⟨g1, 8, none⟩ = some (.bool a0_8) := bc_ B1 8 rfl
        have hcz27_9 : wc.cell? ⟨g1, 9, none⟩ = some (.int .i64 a0_9) := bc_ B1 9 rfl
        have hcz27_10 : wc.cell? ⟨g1, 10, none⟩ = some (.int .i64 a0_10) := bc_ B1 10 rfl
        have hcz27_11 : wc.cell? ⟨g1, 11, none⟩ = some (.bool a0_11) := bc_ B1 11 rfl
        have hcz27_12 : wc.cell? ⟨g1, 12, none⟩ = some (.bool a0_12) := bc_ B1 12 rfl
        have hcz27_13 : wc.cell? ⟨g1, 13, none⟩ = some (.slice A0_13 l0_13.length c0_13) := bc_ B1 13 rfl
        have hfz27_0 := blk_frozen B1.out 0; have hfz27_1 := blk_frozen B1.out 1; have hfz27_2 := blk_frozen B1.out 2; have hfz27_3 := blk_frozen B1.out 3; have hfz27_4 := blk_frozen B1.out 4; have hfz27_5 := blk_frozen B1.out 5; have hfz27_6 := blk_frozen B1.out 6; have hfz27_7 := blk_frozen B1.out 7; have hfz27_8 := blk_frozen B1.out 8; have hfz27_9 := blk_frozen B1.out 9; have hfz27_10 := blk_frozen B1.out 10; have hfz27_11 := blk_frozen B1.out 11; have hfz27_12 := blk_frozen B1.out 12; have hfz27_13 := blk_frozen B1.out 13
        go_wp2
        go_ret
        exact fi_ (pbx HB)
       ·rw [if_neg c26] at H; have ⟨c26b0,c26b1⟩ := e0_ c26
        by_cases c28 : a0_0 = 3
        ·rw [if_pos c28] at H; have ⟨c28b0,c28b1⟩ := e1_ c28; clear c28
         by_cases c29 : (Go.bits .andNot .u64 x5_15 4) = 0
         ·rw [if_pos c29] at H; have ⟨c29b0,c29b1⟩ := e1_ c29; clear c29; obtain ⟨t107, A30, H⟩ := bo_ H; obtain rfl := Option.some.inj H
          have hcz31_0 : wc.cell? ⟨g1, 0, none⟩ = some (.int .i64 a0_0) := bc_ B1 0 rfl
          have hcz31_1 : wc.cell? ⟨g1, 1, none⟩ = some (.int .i64 a0_1) := bc_ B1 1 rfl
          have hcz31_2 : wc.cell? ⟨g1, 2, none⟩ = some (.int .i64 a0_2) := bc_ B1 2 rfl
          have hcz31_3 : wc.cell? ⟨g1, 3, none⟩ = some (.int .i64 a0_3) := bc_ B1 3 rfl
          have hcz31_4 : wc.cell? ⟨g1, 4, none⟩ = some (.string a0_4) := bc_ B1 4 rfl
          have hcz31_5 : wc.cell? ⟨g1, 5, none⟩ = some (.int .i64 a0_5) := bc_ B1 5 rfl
          have hcz31_6 : wc.cell? ⟨g1, 6, none⟩ = some (.int .i64 a0_6) := bc_ B1 6 rfl
          have hcz31_7 : wc.cell? ⟨g1, 7, none⟩ = some (.bool a0_7) := bc_ B1 7 rfl
          have hcz31_8 : wc.cell? ⟨g1, 8, none⟩ = some (.bool a0_8) := bc_ B1 8 rfl
          have hcz31_9 : wc.cell? ⟨g1, 9, none⟩ = some (.int .i64 a0_9) := bc_ B1 9 rfl
          have hcz31_10 : wc.cell? ⟨g1, 10, none⟩ = some (.int .i64 a0_10) := bc_ B1 10 rfl
          have hcz31_11 : wc.cell? ⟨g1, 11, none⟩ = some (.bool a0_11) := bc_ B1 11 rfl
          have hcz31_12 : wc.cell? ⟨g1, 12, none⟩ = some (.bool a0_12) := bc_ B1 12 rfl
          have hcz31_13 : wc.cell? ⟨g1, 13, none⟩ = some (.slice A0_13 l0_13.length c0_13) := bc_ B1 13 rfl
          have hfz31_0 := blk_frozen B1.out 0; have hfz31_1 := blk_frozen B1.out 1; have hfz31_2 := blk_frozen B1.out 2; have hfz31_3 := blk_frozen B1.out 3; have hfz31_4 := blk_frozen B1.out 4; have hfz31_5 := blk_frozen B1.out 5; have hfz31_6 := blk_frozen B1.out 6; have hfz31_7 := blk_frozen B1.out 7; have hfz31_8 := blk_frozen B1.out 8; have hfz31_9 := blk_frozen B1.out 9; have hfz31_10 := blk_frozen B1.out 10; have hfz31_11 := blk_frozen B1.out 11; have hfz31_12 := blk_frozen B1.out 12; have hfz31_13 := blk_frozen B1.out 13
          go_wp2_with (first | (go_at_call 22; (with_reducible refine (node_ref.calls a0_5 a0_6 a0_7 a0_8 t107 _ A30.out).mono ?_); rintro e w32 ⟨rfl, hb⟩; replace B1 := bb_ B1 hb; replace HB := bs_ HB hb; (try clear hb); ))
          go_ret
          exact fi_ (pbx HB)
         ·rw [if_neg c29] at H; have ⟨c29b0,c29b1⟩ := e0_ c29; obtain rfl := Option.some.inj H
          have hcz33_0 : wc.cell? ⟨g1, 0, none⟩ = some (.int .i64 a0_0) := bc_ B1 0 rfl
          have hcz33_1 : wc.cell? ⟨g1, 1, none⟩ = some (.int .i64 a0_1) := bc_ B1 1 rfl
          have hcz33_2 : wc.cell? ⟨g1, 2, none⟩ = some (.int .i64 a0_2) := bc_ B1 2 rfl
          have hcz33_3 : wc.cell? ⟨g1, 3, none⟩ = some (.int .i64 a0_3) := bc_ B1 3 rfl
          have hcz33_4 : wc.cell? ⟨g1, 4, none⟩ = some (.string a0_4) := bc_ B1 4 rfl
          have hcz33_5 : wc.cell? ⟨g1, 5, none⟩ = some (.int .i64 a0_5) := bc_ B1 5 rfl
          have hcz33_6 : wc.cell? ⟨g1, 6, none⟩ = some (.int .i64 a0_6) := bc_ B1 6 rfl
          have hcz33_7 : wc.cell? ⟨g1, 7, none⟩ = some (.bool a0_7) := bc_ B1 7 rfl
          have hcz33_8 : wc.cell? ⟨g1, 8, none⟩ = some (.bool a0_8) := bc_ B1 8 rfl
          have hcz33_9 : wc.cell? ⟨g1, 9, none⟩ = some (.int .i64 a0_9) := bc_ B1 9 rfl
          have hcz33_10 : wc.cell? ⟨g1, 10, none⟩ = some (.int .i64 a0_10) := bc_ B1 10 rfl
          have hcz33_11 : wc.cell? ⟨g1, 11, none⟩ = some (.bool a0_11) := bc_ B1 11 rfl
          have hcz33_12 : wc.cell? ⟨g1, 12, none⟩ = some (.bool a0_12) := bc_ B1 12 rfl
          have hcz33_13 : wc.cell? ⟨g1, 13, none⟩ = some (.slice A0_13 l0_13.length c0_13) := bc_ B1 13 rfl
          have hfz33_0 := blk_frozen B1.out 0; have hfz33_1 := blk_frozen B1.out 1; have hfz33_2 := blk_frozen B1.out 2; have hfz33_3 := blk_frozen B1.out 3; have hfz33_4 := blk_frozen B1.out 4; have hfz33_5 := blk_frozen B1.out 5; have hfz33_6 := blk_frozen B1.out 6; have hfz33_7 := blk_frozen B1.out 7; have hfz33_8 := blk_frozen B1.out 8; have hfz33_9 := blk_frozen B1.out 9; have hfz33_10 := blk_frozen B1.out 10; have hfz33_11 := blk_frozen B1.out 11; have hfz33_12 := blk_frozen B1.out 12; have hfz33_13 := blk_frozen B1.out 13
          go_wp2
          go_ret
          exact fi_ (pbx HB)
        ·rw [if_neg c28] at H; have ⟨c28b0,c28b1⟩ := e0_ c28
         by_cases c34 : a0_0 = 4
         ·rw [if_pos c34] at H; have ⟨c34b0,c34b1⟩ := e1_ c34; clear c34
          by_cases c35 : (Go.bits .andNot .u64 x5_15 12) = 0
          ·rw [if_pos c35] at H; have ⟨c35b0,c35b1⟩ := e1_ c35; clear c35; obtain ⟨t108, A36, H⟩ := bo_ H
           replace H := ib_ H; rcases H with ⟨rfl,H⟩|⟨rfl,H⟩
           ·obtain ⟨t109, A38, H⟩ := bo_ H; obtain rfl := Option.some.inj H
            have hcz39_0 : wc.cell? ⟨g1, 0, none⟩ = some (.int .i64 a0_0) := bc_ B1 0 rfl
            have hcz39_1 : wc.cell? ⟨g1, 1, none⟩ = some (.int .i64 a0_1) := bc_ B1 1 rfl
            have hcz39_2 : wc.cell? ⟨g1, 2, none⟩ = some (.int .i64 a0_2) := bc_ B1 2 rfl
            have hcz39_3 : wc.cell? ⟨g1, 3, none⟩ = some (.int .i64 a0_3) := bc_ B1 3 rfl
            have hcz39_4 : wc.cell? ⟨g1, 4, none⟩ = some (.string a0_4) := bc_ B1 4 rfl
            have hcz39_5 : wc.cell? ⟨g1, 5, none⟩ = some (.int .i64 a0_5) := bc_ B1 5 rfl
            have hcz39_6 : wc.cell? ⟨g1, 6, none⟩ = some (.int .i64 a0_6) := bc_ B1 6 rfl
            have hcz39_7 : wc.cell? ⟨g1, 7, none⟩ = some (.bool a0_7) := bc_ B1 7 rfl
            have hcz39_8 : wc.cell? ⟨g1, 8, none⟩ = some (.bool a0_8) := bc_ B1 8 rfl
            have hcz39_9 : wc.cell? ⟨g1, 9, none⟩ = some (.int .i64 a0_9) := bc_ B1 9 rfl
            have hcz39_10 : wc.cell? ⟨g1, 10, none⟩ = some (.int .i64 a0_10) := bc_ B1 10 rfl
            have hcz39_11 : wc.cell? ⟨g1, 11, none⟩ = some (.bool a0_11) := bc_ B1 11 rfl
            have hcz39_12 : wc.cell? ⟨g1, 12, none⟩ = some (.bool a0_12) := bc_ B1 12 rfl
            have hcz39_13 : wc.cell? ⟨g1, 13, none⟩ = some (.slice A0_13 l0_13.length c0_13) := bc_ B1 13 rfl
            have hfz39_0 := blk_frozen B1.out 0; have hfz39_1 := blk_frozen B1.out 1; have hfz39_2 := blk_frozen B1.out 2; have hfz39_3 := blk_frozen B1.out 3; have hfz39_4 := blk_frozen B1.out 4; have hfz39_5 := blk_frozen B1.out 5; have hfz39_6 := blk_frozen B1.out 6; have hfz39_7 := blk_frozen B1.out 7; have hfz39_8 := blk_frozen B1.out 8; have hfz39_9 := blk_frozen B1.out 9; have hfz39_10 := blk_frozen B1.out 10; have hfz39_11 := blk_frozen B1.out 11; have hfz39_12 := blk_frozen B1.out 12; have hfz39_13 := blk_frozen B1.out 13
            go_wp2_with (first | (go_at_call 22; (with_reducible refine (node_ref.calls a0_5 a0_6 a0_7 a0_8 true _ A36.out).mono ?_); rintro e w40 ⟨rfl, hb⟩; replace B1 := bb_ B1 hb; replace HB := bs_ HB hb; (try clear hb); have hcz41_0 : w40.cell? ⟨g1, 0, none⟩ = some (.int .i64 a0_0) := bc_ B1 0 rfl; have hcz41_1 : w40.cell? ⟨g1, 1, none⟩ = some (.int .i64 a0_1) := bc_ B1 1 rfl; have hcz41_2 : w40.cell? ⟨g1, 2, none⟩ = some (.int .i64 a0_2) := bc_ B1 2 rfl; have hcz41_3 : w40.cell? ⟨g1, 3, none⟩ = some (.int .i64 a0_3) := bc_ B1 3 rfl; have hcz41_4 : w40.cell? ⟨g1, 4, none⟩ = some (.string a0_4) := bc_ B1 4 rfl; have hcz41_5 : w40.cell? ⟨g1, 5, none⟩ = some (.int .i64 a0_5) := bc_ B1 5 rfl; have hcz41_6 : w40.cell? ⟨g1, 6, none⟩ = some (.int .i64 a0_6) := bc_ B1 6 rfl; have hcz41_7 : w40.cell? ⟨g1, 7, none⟩ = some (.bool a0_7) := bc_ B1 7 rfl; have hcz41_8 : w40.cell? ⟨g1, 8, none⟩ = some (.bool a0_8) := bc_ B1 8 rfl; have hcz41_9 : w40.cell? ⟨g1, 9, none⟩ = some (.int .i64 a0_9) := bc_ B1 9 rfl; have hcz41_10 : w40.cell? ⟨g1, 10, none⟩ = some (.int .i64 a0_10) := bc_ B1 10 rfl; have hcz41_11 : w40.cell? ⟨g1, 11, none⟩ = some (.bool a0_11) := bc_ B1 11 rfl; have hcz41_12 : w40.cell? ⟨g1, 12, none⟩ = some (.bool a0_12) := bc_ B1 12 rfl; have hcz41_13 : w40.cell? ⟨g1, 13, none⟩ = some (.slice A0_13 l0_13.length c0_13) := bc_ B1 13 rfl; have hfz41_0 := blk_frozen B1.out 0; have hfz41_1 := blk_frozen B1.out 1; have hfz41_2 := blk_frozen B1.out 2; have hfz41_3 := blk_frozen B1.out 3; have hfz41_4 := blk_frozen B1.out 4; have hfz41_5 := blk_frozen B1.out 5; have hfz41_6 := blk_frozen B1.out 6; have hfz41_7 := blk_frozen B1.out 7; have hfz41_8 := blk_frozen B1.out 8; have hfz41_9 := blk_frozen B1.out 9; have hfz41_10 := blk_frozen B1.out 10; have hfz41_11 := blk_frozen B1.out 11; have hfz41_12 := blk_frozen B1.out 12; have hfz41_13 := blk_frozen B1.out 13) | (go_at_call 22; (with_reducible refine (node_ref.calls a0_9 a0_10 a0_11 a0_12 t109 _ A38.out).mono ?_); rintro e w42 ⟨rfl, hb⟩; replace B1 := bb_ B1 hb; replace HB := bs_ HB hb; (try clear hb); ))
            go_ret
            exact fi_ (pbx HB)
           ·obtain rfl := Option.some.inj H
            have hcz43_0 : wc.cell? ⟨g1, 0, none⟩ = some (.int .i64 a0_0) := bc_ B1 0 rfl
            have hcz43_1 : wc.cell? ⟨g1, 1, none⟩ = some (.int .i64 a0_1) := bc_ B1 1 rfl
            have hcz43_2 : wc.cell? ⟨g1, 2, none⟩ = some (.int .i64 a0_2) := bc_ B1 2 rfl
            have hcz43_3 : wc.cell? ⟨g1, 3, none⟩ = some (.int .i64 a0_3) := bc_ B1 3 rfl
            have hcz43_4 : wc.cell? ⟨g1, 4, none⟩ = some (.string a0_4) := bc_ B1 4 rfl
            have hcz43_5 : wc.cell? ⟨g1, 5, none⟩ = some (.int .i64 a0_5) := bc_ B1 5 rfl
            have hcz43_6 : wc.cell? ⟨g1, 6, none⟩ = some (.int .i64 a0_6) := bc_ B1 6 rfl
            have hcz43_7 : wc.cell? ⟨g1, 7, none⟩ = some (.bool a0_7) := bc_ B1 7 rfl
            have hcz43_8 : wc.cell? ⟨g1, 8, none⟩ = some (.bool a0_8) := bc_ B1 8 rfl
            have hcz43_9 : wc.cell? ⟨g1, 9, none⟩ = some (.int .i64 a0_9) := bc_ B1 9 rfl
            have hcz43_10 : wc.cell? ⟨g1, 10, none⟩ = some (.int .i64 a0_10) := bc_ B1 10 rfl
            have hcz43_11 : wc.cell? ⟨g1, 11, none⟩ = some (.bool a0_11) := bc_ B1 11 rfl
            have hcz43_12 : wc.cell? ⟨g1, 12, none⟩ = some (.bool a0_12) := bc_ B1 12 rfl
            have hcz43_13 : wc.cell? ⟨g1, 13, none⟩ = some (.slice A0_13 l0_13.length c0_13) := bc_ B1 13 rfl
            have hfz43_0 := blk_frozen B1.out 0; have hfz43_1 := blk_frozen B1.out 1; have hfz43_2 := blk_frozen B1.out 2; have hfz43_3 := blk_frozen B1.out 3; have hfz43_4 := blk_frozen B1.out 4; have hfz43_5 := blk_frozen B1.out 5; have hfz43_6 := blk_frozen B1.out 6; have hfz43_7 := blk_frozen B1.out 7; have hfz43_8 := blk_frozen B1.out 8; have hfz43_9 := blk_frozen B1.out 9; have hfz43_10 := blk_frozen B1.out 10; have hfz43_11 := blk_frozen B1.out 11; have hfz43_12 := blk_frozen B1.out 12; have hfz43_13 := blk_frozen B1.out 13
            go_wp2_with (first | (go_at_call 22; (with_reducible refine (node_ref.calls a0_5 a0_6 a0_7 a0_8 false _ A36.out).mono ?_); rintro e w44 ⟨rfl, hb⟩; replace B1 := bb_ B1 hb; replace HB := bs_ HB hb; (try clear hb); ))
            go_ret
            exact fi_ (pbx HB)
          ·rw [if_neg c35] at H; have ⟨c35b0,c35b1⟩ := e0_ c35; obtain rfl := Option.some.inj H
           have hcz45_0 : wc.cell? ⟨g1, 0, none⟩ = some (.int .i64 a0_0) := bc_ B1 0 rfl
           have hcz45_1 : wc.cell? ⟨g1, 1, none⟩ = some (.int .i64 a0_1) := bc_ B1 1 rfl
           have hcz45_2 : wc.cell? ⟨g1, 2, none⟩ = some (.int .i64 a0_2) := bc_ B1 2 rfl
           have hcz45_3 : wc.cell? ⟨g1, 3, none⟩ = some (.int .i64 a0_3) := bc_ B1 3 rfl
           have hcz45_4 : wc.cell? ⟨g1, 4, none⟩ = some (.string a0_4) := bc_ B1 4 rfl
           have hcz45_5 : wc.cell? ⟨g1, 5, none⟩ = some (.int .i64 a0_5) := bc_ B1 5 rfl
           have hcz45_6 : wc.cell? ⟨g1, 6, none⟩ = some (.int .i64 a0_6) := bc_ B1 6 rfl
           have hcz45_7 : wc.cell? ⟨g1, 7, none⟩ = some (.bool a0_7) := bc_ B1 7 rfl
           have hcz45_8 : wc.cell? ⟨g1, 8, none⟩ = some (.bool a0_8) := bc_ B1 8 rfl
           have hcz45_9 : wc.cell? ⟨g1, 9, none⟩ = some (.int .i64 a0_9) := bc_ B1 9 rfl
           have hcz45_10 : wc.cell? ⟨g1, 10, none⟩ = some (.int .i64 a0_10) := bc_ B1 10 rfl
           have hcz45_11 : wc.cell? ⟨g1, 11, none⟩ = some (.bool a0_11) := bc_ B1 11 rfl
           have hcz45_12 : wc.cell? ⟨g1, 12, none⟩ = some (.bool a0_12) := bc_ B1 12 rfl
           have hcz45_13 : wc.cell? ⟨g1, 13, none⟩ = some (.slice A0_13 l0_13.length c0_13) := bc_ B1 13 rfl
           have hfz45_0 := blk_frozen B1.out 0; have hfz45_1 := blk_frozen B1.out 1; have hfz45_2 := blk_frozen B1.out 2; have hfz45_3 := blk_frozen B1.out 3; have hfz45_4 := blk_frozen B1.out 4; have hfz45_5 := blk_frozen B1.out 5; have hfz45_6 := blk_frozen B1.out 6; have hfz45_7 := blk_frozen B1.out 7; have hfz45_8 := blk_frozen B1.out 8; have hfz45_9 := blk_frozen B1.out 9; have hfz45_10 := blk_frozen B1.out 10; have hfz45_11 := blk_frozen B1.out 11; have hfz45_12 := blk_frozen B1.out 12; have hfz45_13 := blk_frozen B1.out 13
           go_wp2
           go_ret
           exact fi_ (pbx HB)
         ·rw [if_neg c34] at H; have ⟨c34b0,c34b1⟩ := e0_ c34
          by_cases c46 : a0_0 = 5
          ·rw [if_pos c46] at H; have ⟨c46b0,c46b1⟩ := e1_ c46; clear c46
           by_cases c47 : (Go.bits .andNot .u64 x5_15 16) = 0
           ·rw [if_pos c47] at H; have ⟨c47b0,c47b1⟩ := e1_ c47; clear c47
            by_cases c48 : (l0_13.length : Int) = 1
            ·rw [if_pos c48] at H; have ⟨c48b0,c48b1⟩ := e1_ c48; clear c48
             by_cases c49 : 0 < (l0_13.length : Int)
             ·rw [if_pos c49] at H; have c49b0 := decide_eq_true c49; have c49b1 : decide (0 < l0_13.length) = true := decide_eq_true (by omega); clear c49; obtain ⟨t111, A50, H⟩ := bo_ H; obtain rfl := Option.some.inj H
              have hcz51_0 : wc.cell? ⟨g1, 0, none⟩ = some (.int .i64 a0_0) := bc_ B1 0 rfl
              have hcz51_1 : wc.cell? ⟨g1, 1, none⟩ = some (.int .i64 a0_1) := bc_ B1 1 rfl
              have hcz51_2 : wc.cell? ⟨g1, 2, none⟩ = some (.int .i64 a0_2) := bc_ B1 2 rfl
              have hcz51_3 : wc.cell? ⟨g1, 3, none⟩ = some (.int .i64 a0_3) := bc_ B1 3 rfl
              have hcz51_4 : wc.cell? ⟨g1, 4, none⟩ = some (.string a0_4) := bc_ B1 4 rfl
              have hcz51_5 : wc.cell? ⟨g1, 5, none⟩ = some (.int .i64 a0_5) := bc_ B1 5 rfl
              have hcz51_6 : wc.cell? ⟨g1, 6, none⟩ = some (.int .i64 a0_6) := bc_ B1 6 rfl
              have hcz51_7 : wc.cell? ⟨g1, 7, none⟩ = some (.bool a0_7) := bc_ B1 7 rfl
              have hcz51_8 : wc.cell? ⟨g1, 8, none⟩ = some (.bool a0_8) := bc_ B1 8 rfl
              have hcz51_9 : wc.cell? ⟨g1, 9, none⟩ = some (.int .i64 a0_9) := bc_ B1 9 rfl
              have hcz51_10 : wc.cell? ⟨g1, 10, none⟩ = some (.int .i64 a0_10) := bc_ B1 10 rfl
              have hcz51_11 : wc.cell? ⟨g1, 11, none⟩ = some (.bool a0_11) := bc_ B1 11 rfl
              have hcz51_12 : wc.cell? ⟨g1, 12, none⟩ = some (.bool a0_12) := bc_ B1 12 rfl
              have hcz51_13 : wc.cell? ⟨g1, 13, none⟩ = some (.slice A0_13 l0_13.length c0_13) := bc_ B1 13 rfl
              have hfz51_0 := blk_frozen B1.out 0; have hfz51_1 := blk_frozen B1.out 1; have hfz51_2 := blk_frozen B1.out 2; have hfz51_3 := blk_frozen B1.out 3; have hfz51_4 := blk_frozen B1.out 4; have hfz51_5 := blk_frozen B1.out 5; have hfz51_6 := blk_frozen B1.out 6; have hfz51_7 := blk_frozen B1.out 7; have hfz51_8 := blk_frozen B1.out 8; have hfz51_9 := blk_frozen B1.out 9; have hfz51_10 := blk_frozen B1.out 10; have hfz51_11 := blk_frozen B1.out 11; have hfz51_12 := blk_frozen B1.out 12; have hfz51_13 := blk_frozen B1.out 13
              have p110 : 0 ≤ (0 : Int) := (by omega)
              have q110 : 0 < (l0_13.length : Int) := of_decide_eq_true as_
              obtain ⟨ad110, A110_13, c110_13, e110, hx110_0, hx110_1, hx110_2, hx110_3, hx110_4, hx110_5, hx110_6, hx110_7, hx110_8, hx110_9, hx110_10, hx110_11, hx110_12, hx110_13, hl110_13, hi110_13⟩ := at_T28 HR0_13.out 0 p110 q110
              cases e110
              have qi110 : (0 < l0_13.length) = True := eq_true (by omega); (try rw [show ((0 : Int)).toNat = 0 from rfl] at hx110_0); (try rw [show 0 * 14 = 0 from rfl] at hx110_0); (try rw [Addr.add_zero'] at hx110_0); (try rw [show ((0 : Int)).toNat = 0 from rfl] at hx110_1); (try rw [show 0 * 14 = 0 from rfl] at hx110_1); (try rw [Addr.add_zero'] at hx110_1); (try rw [show ((0 : Int)).toNat = 0 from rfl] at hx110_2); (try rw [show 0 * 14 = 0 from rfl] at hx110_2); (try rw [Addr.add_zero'] at hx110_2); (try rw [show ((0 : Int)).toNat = 0 from rfl] at hx110_3); (try rw [show 0 * 14 = 0 from rfl] at hx110_3); (try rw [Addr.add_zero'] at hx110_3); (try rw [show ((0 : Int)).toNat = 0 from rfl] at hx110_4); (try rw [show 0 * 14 = 0 from rfl] at hx110_4); (try rw [Addr.add_zero'] at hx110_4); (try rw [show ((0 : Int)).toNat = 0 from rfl] at hx110_5); (try rw [show 0 * 14 = 0 from rfl] at hx110_5); (try rw [Addr.add_zero'] at hx110_5); (try rw [show ((0 : Int)).toNat = 0 from rfl] at hx110_6); (try rw [show 0 * 14 = 0 from rfl] at hx110_6); (try rw [Addr.add_zero'] at hx110_6); (try rw [show ((0 : Int)).toNat = 0 from rfl] at hx110_7); (try rw [show 0 * 14 = 0 from rfl] at hx110_7); (try rw [Addr.add_zero'] at hx110_7); (try rw [show ((0 : Int)).toNat = 0 from rfl] at hx110_8); (try rw [show 0 * 14 = 0 from rfl] at hx110_8); (try rw [Addr.add_zero'] at hx110_8); (try rw [show ((0 : Int)).toNat = 0 from rfl] at hx110_9); (try rw [show 0 * 14 = 0 from rfl] at hx110_9); (try rw [Addr.add_zero'] at hx110_9)
              (try rw [show ((0 : Int)).toNat = 0 from rfl] at hx110_10); (try rw [show 0 * 14 = 0 from rfl] at hx110_10); (try rw [Addr.add_zero'] at hx110_10); (try rw [show ((0 : Int)).toNat = 0 from rfl] at hx110_11); (try rw [show 0 * 14 = 0 from rfl] at hx110_11); (try rw [Addr.add_zero'] at hx110_11); (try rw [show ((0 : Int)).toNat = 0 from rfl] at hx110_12); (try rw [show 0 * 14 = 0 from rfl] at hx110_12); (try rw [Addr.add_zero'] at hx110_12); (try rw [show ((0 : Int)).toNat = 0 from rfl] at hx110_13); (try rw [show 0 * 14 = 0 from rfl] at hx110_13); (try rw [Addr.add_zero'] at hx110_13)
              replace hx110_0 := (HB.out.cell (World.block_lt_of_cell? w _ hx110_0)).trans hx110_0; replace hx110_1 := (HB.out.cell (World.block_lt_of_cell? w _ hx110_1)).trans hx110_1; replace hx110_2 := (HB.out.cell (World.block_lt_of_cell? w _ hx110_2)).trans hx110_2; replace hx110_3 := (HB.out.cell (World.block_lt_of_cell? w _ hx110_3)).trans hx110_3; replace hx110_4 := (HB.out.cell (World.block_lt_of_cell? w _ hx110_4)).trans hx110_4; replace hx110_5 := (HB.out.cell (World.block_lt_of_cell? w _ hx110_5)).trans hx110_5; replace hx110_6 := (HB.out.cell (World.block_lt_of_cell? w _ hx110_6)).trans hx110_6; replace hx110_7 := (HB.out.cell (World.block_lt_of_cell? w _ hx110_7)).trans hx110_7; replace hx110_8 := (HB.out.cell (World.block_lt_of_cell? w _ hx110_8)).trans hx110_8; replace hx110_9 := (HB.out.cell (World.block_lt_of_cell? w _ hx110_9)).trans hx110_9; replace hx110_10 := (HB.out.cell (World.block_lt_of_cell? w _ hx110_10)).trans hx110_10
              replace hx110_11 := (HB.out.cell (World.block_lt_of_cell? w _ hx110_11)).trans hx110_11; replace hx110_12 := (HB.out.cell (World.block_lt_of_cell? w _ hx110_12)).trans hx110_12; replace hx110_13 := (HB.out.cell (World.block_lt_of_cell? w _ hx110_13)).trans hx110_13; have HR110_13 := A_ hi110_13; have HC110_13 := A_ hl110_13; clear hi110_13 hl110_13; replace p110 := eq_true p110; replace q110 := eq_true q110
              go_wp2_with (first | (go_at_call 23; (with_reducible refine (node_fits.calls kj15 118 ((rd_T28 l0_13 0).f0) ((rd_T28 l0_13 0).f1) ((rd_T28 l0_13 0).f2.f0) ((rd_T28 l0_13 0).f2.f1) ((rd_T28 l0_13 0).f2.f2) ((rd_T28 l0_13 0).f3.f0) ((rd_T28 l0_13 0).f3.f1) ((rd_T28 l0_13 0).f3.f2) ((rd_T28 l0_13 0).f3.f3) ((rd_T28 l0_13 0).f4.f0) ((rd_T28 l0_13 0).f4.f1) ((rd_T28 l0_13 0).f4.f2) ((rd_T28 l0_13 0).f4.f3) _ _ ((rd_T28 l0_13 0).f5) t111 _ (by refine tb_ ?_ hT; repeat' (first | exact pbx HB | assumption | refine below_set ?_ (Aside0.out ?_))) ?side1 ?side2 A50.out).mono ?_); (case side1 => exact ca_ (Kd.C_below HR110_13.out HB.out)); (case side2 => exact HC110_13.out); rintro e w52 ⟨rfl, hb⟩; replace B1 := bb_ B1 hb; replace HB := bs_ HB hb; (try clear hb); ))
              go_ret
              exact fi_ (pbx HB)
             ·rw [if_neg c49] at H
              exact absurd H (by simp)
            ·rw [if_neg c48] at H; have ⟨c48b0,c48b1⟩ := e0_ c48; obtain rfl := Option.some.inj H
             have hcz53_0 : wc.cell? ⟨g1, 0, none⟩ = some (.int .i64 a0_0) := bc_ B1 0 rfl
             have hcz53_1 : wc.cell? ⟨g1, 1, none⟩ = some (.int .i64 a0_1) := bc_ B1 1 rfl
             have hcz53_2 : wc.cell? ⟨g1, 2, none⟩ = some (.int .i64 a0_2) := bc_ B1 2 rfl
             have hcz53_3 : wc.cell? ⟨g1, 3, none⟩ = some (.int .i64 a0_3) := bc_ B1 3 rfl
             have hcz53_4 : wc.cell? ⟨g1, 4, none⟩ = some (.string a0_4) := bc_ B1 4 rfl
             have hcz53_5 : wc.cell? ⟨g1, 5, none⟩ = some (.int .i64 a0_5) := bc_ B1 5 rfl
             have hcz53_6 : wc.cell? ⟨g1, 6, none⟩ = some (.int .i64 a0_6) := bc_ B1 6 rfl
             have hcz53_7 : wc.cell? ⟨g1, 7, none⟩ = some (.bool a0_7) := bc_ B1 7 rfl
             have hcz53_8 : wc.cell? ⟨g1, 8, none⟩ = some (.bool a0_8) := bc_ B1 8 rfl
             have hcz53_9 : wc.cell? ⟨g1, 9, none⟩ = some (.int .i64 a0_9) := bc_ B1 9 rfl
             have hcz53_10 : wc.cell? ⟨g1, 10, none⟩ = some (.int .i64 a0_10) := bc_ B1 10 rfl
             have hcz53_11 : wc.cell? ⟨g1, 11, none⟩ = some (.bool a0_11) := bc_ B1 11 rfl
             have hcz53_12 : wc.cell? ⟨g1, 12, none⟩ = some (.bool a0_12) := bc_ B1 12 rfl
             have hcz53_13 : wc.cell? ⟨g1, 13, none⟩ = some (.slice A0_13 l0_13.length c0_13) := bc_ B1 13 rfl
             have hfz53_0 := blk_frozen B1.out 0; have hfz53_1 := blk_frozen B1.out 1; have hfz53_2 := blk_frozen B1.out 2; have hfz53_3 := blk_frozen B1.out 3; have hfz53_4 := blk_frozen B1.out 4; have hfz53_5 := blk_frozen B1.out 5; have hfz53_6 := blk_frozen B1.out 6; have hfz53_7 := blk_frozen B1.out 7; have hfz53_8 := blk_frozen B1.out 8; have hfz53_9 := blk_frozen B1.out 9; have hfz53_10 := blk_frozen B1.out 10; have hfz53_11 := blk_frozen B1.out 11; have hfz53_12 := blk_frozen B1.out 12; have hfz53_13 := blk_frozen B1.out 13
             go_wp2
             go_ret
             exact fi_ (pbx HB)
           ·rw [if_neg c47] at H; have ⟨c47b0,c47b1⟩ := e0_ c47; obtain rfl := Option.some.inj H
            have hcz54_0 : wc.cell? ⟨g1, 0, none⟩ = some (.int .i64 a0_0) := bc_ B1 0 rfl
            have hcz54_1 : wc.cell? ⟨g1, 1, none⟩ = some (.int .i64 a0_1) := bc_ B1 1 rfl
            have hcz54_2 : wc.cell? ⟨g1, 2, none⟩ = some (.int .i64 a0_2) := bc_ B1 2 rfl
            have hcz54_3 : wc.cell? ⟨g1, 3, none⟩ = some (.int .i64 a0_3) := bc_ B1 3 rfl
            have hcz54_4 : wc.cell? ⟨g1, 4, none⟩ = some (.string a0_4) := bc_ B1 4 rfl
            have hcz54_5 : wc.cell? ⟨g1, 5, none⟩ = some (.int .i64 a0_5) := bc_ B1 5 rfl
            have hcz54_6 : wc.cell? ⟨g1, 6, none⟩ = some (.int .i64 a0_6) := bc_ B1 6 rfl
            have hcz54_7 : wc.cell? ⟨g1, 7, none⟩ = some (.bool a0_7) := bc_ B1 7 rfl
            have hcz54_8 : wc.cell? ⟨g1, 8, none⟩ = some (.bool a0_8) := bc_ B1 8 rfl
            have hcz54_9 : wc.cell? ⟨g1, 9, none⟩ = some (.int .i64 a0_9) := bc_ B1 9 rfl
            have hcz54_10 : wc.cell? ⟨g1, 10, none⟩ = some (.int .i64 a0_10) := bc_ B1 10 rfl
            have hcz54_11 : wc.cell? ⟨g1, 11, none⟩ = some (.bool a0_11) := bc_ B1 11 rfl
            have hcz54_12 : wc.cell? ⟨g1, 12, none⟩ = some (.bool a0_12) := bc_ B1 12 rfl
            have hcz54_13 : wc.cell? ⟨g1, 13, none⟩ = some (.slice A0_13 l0_13.length c0_13) := bc_ B1 13 rfl
            have hfz54_0 := blk_frozen B1.out 0; have hfz54_1 := blk_frozen B1.out 1; have hfz54_2 := blk_frozen B1.out 2; have hfz54_3 := blk_frozen B1.out 3; have hfz54_4 := blk_frozen B1.out 4; have hfz54_5 := blk_frozen B1.out 5; have hfz54_6 := blk_frozen B1.out 6; have hfz54_7 := blk_frozen B1.out 7; have hfz54_8 := blk_frozen B1.out 8; have hfz54_9 := blk_frozen B1.out 9; have hfz54_10 := blk_frozen B1.out 10; have hfz54_11 := blk_frozen B1.out 11; have hfz54_12 := blk_frozen B1.out 12; have hfz54_13 := blk_frozen B1.out 13
            go_wp2
            go_ret
            exact fi_ (pbx HB)
          ·rw [if_neg c46] at H; have ⟨c46b0,c46b1⟩ := e0_ c46
           by_cases c55 : a0_0 = 6
           ·rw [if_pos c55] at H; have ⟨c55b0,c55b1⟩ := e1_ c55; clear c55
            by_cases c56 : (Go.bits .andNot .u64 x5_15 17) = 0
            ·rw [if_pos c56] at H; have ⟨c56b0,c56b1⟩ := e1_ c56; clear c56
             by_cases c57 : a0_1 ≥ 1
             ·rw [if_pos c57] at H; have c57b0 := decide_eq_true c57; clear c57
              by_cases c58 : a0_1 ≤ 12
              ·rw [if_pos c58] at H; have c58b0 := decide_eq_true c58; clear c58
               by_cases c59 : (l0_13.length : Int) = 2
               ·rw [if_pos c59] at H; have ⟨c59b0,c59b1⟩ := e1_ c59; clear c59
                by_cases c60 : 0 < (l0_13.length : Int)
                ·rw [if_pos c60] at H; have c60b0 := decide_eq_true c60; have c60b1 : decide (0 < l0_13.length) = true := decide_eq_true (by omega); clear c60; obtain ⟨t113, A61, H⟩ := bo_ H
                 replace H := ib_ H; rcases H with ⟨rfl,H⟩|⟨rfl,H⟩
                 ·by_cases c63 : 1 < (l0_13.length : Int)
                  ·rw [if_pos c63] at H; have c63b0 := decide_eq_true c63; have c63b1 : decide (1 < l0_13.length) = true := decide_eq_true (by omega); clear c63; obtain ⟨t115, A64, H⟩ := bo_ H; obtain rfl := Option.some.inj H
                   have hcz65_0 : wc.cell? ⟨g1, 0, none⟩ = some (.int .i64 a0_0) := bc_ B1 0 rfl
                   have hcz65_1 : wc.cell? ⟨g1, 1, none⟩ = some (.int .i64 a0_1) := bc_ B1 1 rfl
                   have hcz65_2 : wc.cell? ⟨g1, 2, none⟩ = some (.int .i64 a0_2) := bc_ B1 2 rfl
                   have hcz65_3 : wc.cell? ⟨g1, 3, none⟩ = some (.int .i64 a0_3) := bc_ B1 3 rfl
                   have hcz65_4 : wc.cell? ⟨g1, 4, none⟩ = some (.string a0_4) := bc_ B1 4 rfl
                   have hcz65_5 : wc.cell? ⟨g1, 5, none⟩ = some (.int .i64 a0_5) := bc_ B1 5 rfl
                   have hcz65_6 : wc.cell? ⟨g1, 6, none⟩ = some (.int .i64 a0_6) := bc_ B1 6 rfl
                   have hcz65_7 : wc.cell? ⟨g1, 7, none⟩ = some (.bool a0_7) := bc_ B1 7 rfl
                   have hcz65_8 : wc.cell? ⟨g1, 8, none⟩ = some (.bool a0_8) := bc_ B1 8 rfl
                   have hcz65_9 : wc.cell? ⟨g1, 9, none⟩ = some (.int .i64 a0_9) := bc_ B1 9 rfl
                   have hcz65_10 : wc.cell? ⟨g1, 10, none⟩ = some (.int .i64 a0_10) := bc_ B1 10 rfl
                   have hcz65_11 : wc.cell? ⟨g1, 11, none⟩ = some (.bool a0_11) := bc_ B1 11 rfl
                   have hcz65_12 : wc.cell? ⟨g1, 12, none⟩ = some (.bool a0_12) := bc_ B1 12 rfl
                   have hcz65_13 : wc.cell? ⟨g1, 13, none⟩ = some (.slice A0_13 l0_13.length c0_13) := bc_ B1 13 rfl
                   have hfz65_0 := blk_frozen B1.out 0; have hfz65_1 := blk_frozen B1.out 1; have hfz65_2 := blk_frozen B1.out 2; have hfz65_3 := blk_frozen B1.out 3; have hfz65_4 := blk_frozen B1.out 4; have hfz65_5 := blk_frozen B1.out 5; have hfz65_6 := blk_frozen B1.out 6; have hfz65_7 := blk_frozen B1.out 7; have hfz65_8 := blk_frozen B1.out 8; have hfz65_9 := blk_frozen B1.out 9; have hfz65_10 := blk_frozen B1.out 10; have hfz65_11 := blk_frozen B1.out 11; have hfz65_12 := blk_frozen B1.out 12; have hfz65_13 := blk_frozen B1.out 13
                   have p112 : 0 ≤ (0 : Int) := (by omega)
                   have q112 : 0 < (l0_13.length : Int) := of_decide_eq_true as_
                   obtain ⟨ad112, A112_13, c112_13, e112, hx112_0, hx112_1, hx112_2, hx112_3, hx112_4, hx112_5, hx112_6, hx112_7, hx112_8, hx112_9, hx112_10, hx112_11, hx112_12, hx112_13, hl112_13, hi112_13⟩ := at_T28 HR0_13.out 0 p112 q112
                   cases e112
                   have qi112 : (0 < l0_13.length) = True := eq_true (by omega); (try rw [show ((0 : Int)).toNat = 0 from rfl] at hx112_0); (try rw [show 0 * 14 = 0 from rfl] at hx112_0); (try rw [Addr.add_zero'] at hx112_0); (try rw [show ((0 : Int)).toNat = 0 from rfl] at hx112_1); (try rw [show 0 * 14 = 0 from rfl] at hx112_1); (try rw [Addr.add_zero'] at hx112_1); (try rw [show ((0 : Int)).toNat = 0 from rfl] at hx112_2); (try rw [show 0 * 14 = 0 from rfl] at hx112_2); (try rw [Addr.add_zero'] at hx112_2); (try rw [show ((0 : Int)).toNat = 0 from rfl] at hx112_3); (try rw [show 0 * 14 = 0 from rfl] at hx112_3); (try rw [Addr.add_zero'] at hx112_3); (try rw [show ((0 : Int)).toNat = 0 from rfl] at hx112_4); (try rw [show 0 * 14 = 0 from rfl] at hx112_4); (try rw [Addr.add_zero'] at hx112_4); (try rw [show ((0 : Int)).toNat = 0 from rfl] at hx112_5); (try rw [show 0 * 14 = 0 from rfl] at hx112_5); (try rw [Addr.add_zero'] at hx112_5); (try rw [show ((0 : Int)).toNat = 0 from rfl] at hx112_6); (try rw [show 0 * 14 = 0 from rfl] at hx112_6); (try rw [Addr.add_zero'] at hx112_6); (try rw [show ((0 : Int)).toNat = 0 from rfl] at hx112_7); (try rw [show 0 * 14 = 0 from rfl] at hx112_7); (try rw [Addr.add_zero'] at hx112_7); (try rw [show ((0 : Int)).toNat = 0 from rfl] at hx112_8); (try rw [show 0 * 14 = 0 from rfl] at hx112_8); (try rw [Addr.add_zero'] at hx112_8); (try rw [show ((0 : Int)).toNat = 0 from rfl] at hx112_9); (try rw [show 0 * 14 = 0 from rfl] at hx112_9); (try rw [Addr.add_zero'] at hx112_9)
                   (try rw [show ((0 : Int)).toNat = 0 from rfl] at hx112_10); (try rw [show 0 * 14 = 0 from rfl] at hx112_10); (try rw [Addr.add_zero'] at hx112_10); (try rw [show ((0 : Int)).toNat = 0 from rfl] at hx112_11); (try rw [show 0 * 14 = 0 from rfl] at hx112_11); (try rw [Addr.add_zero'] at hx112_11); (try rw [show ((0 : Int)).toNat = 0 from rfl] at hx112_12); (try rw [show 0 * 14 = 0 from rfl] at hx112_12); (try rw [Addr.add_zero'] at hx112_12); (try rw [show ((0 : Int)).toNat = 0 from rfl] at hx112_13); (try rw [show 0 * 14 = 0 from rfl] at hx112_13); (try rw [Addr.add_zero'] at hx112_13)
                   replace hx112_0 := (HB.out.cell (World.block_lt_of_cell? w _ hx112_0)).trans hx112_0; replace hx112_1 := (HB.out.cell (World.block_lt_of_cell? w _ hx112_1)).trans hx112_1; replace hx112_2 := (HB.out.cell (World.block_lt_of_cell? w _ hx112_2)).trans hx112_2; replace hx112_3 := (HB.out.cell (World.block_lt_of_cell? w _ hx112_3)).trans hx112_3; replace hx112_4 := (HB.out.cell (World.block_lt_of_cell? w _ hx112_4)).trans hx112_4; replace hx112_5 := (HB.out.cell (World.block_lt_of_cell? w _ hx112_5)).trans hx112_5; replace hx112_6 := (HB.out.cell (World.block_lt_of_cell? w _ hx112_6)).trans hx112_6; replace hx112_7 := (HB.out.cell (World.block_lt_of_cell? w _ hx112_7)).trans hx112_7; replace hx112_8 := (HB.out.cell (World.block_lt_of_cell? w _ hx112_8)).trans hx112_8; replace hx112_9 := (HB.out.cell (World.block_lt_of_cell? w _ hx112_9)).trans hx112_9; replace hx112_10 := (HB.out.cell (World.block_lt_of_cell? w _ hx112_10)).trans hx112_10
                   replace hx112_11 := (HB.out.cell (World.block_lt_of_cell? w _ hx112_11)).trans hx112_11; replace hx112_12 := (HB.out.cell (World.block_lt_of_cell? w _ hx112_12)).trans hx112_12; replace hx112_13 := (HB.out.cell (World.block_lt_of_cell? w _ hx112_13)).trans hx112_13; have HR112_13 := A_ hi112_13; have HC112_13 := A_ hl112_13; clear hi112_13 hl112_13; replace p112 := eq_true p112; replace q112 := eq_true q112
                   go_wp2_with (first | (go_at_call 23; (with_reducible refine (node_fits.calls kj15 118 ((rd_T28 l0_13 0).f0) ((rd_T28 l0_13 0).f1) ((rd_T28 l0_13 0).f2.f0) ((rd_T28 l0_13 0).f2.f1) ((rd_T28 l0_13 0).f2.f2) ((rd_T28 l0_13 0).f3.f0) ((rd_T28 l0_13 0).f3.f1) ((rd_T28 l0_13 0).f3.f2) ((rd_T28 l0_13 0).f3.f3) ((rd_T28 l0_13 0).f4.f0) ((rd_T28 l0_13 0).f4.f1) ((rd_T28 l0_13 0).f4.f2) ((rd_T28 l0_13 0).f4.f3) _ _ ((rd_T28 l0_13 0).f5) true _ (by refine tb_ ?_ hT; repeat' (first | exact pbx HB | assumption | refine below_set ?_ (Aside0.out ?_))) ?side1 ?side2 A61.out).mono ?_); (case side1 => exact ca_ (Kd.C_below HR112_13.out HB.out)); (case side2 => exact HC112_13.out); rintro e w66 ⟨rfl, hb⟩; replace B1 := bb_ B1 hb; replace HB := bs_ HB hb; (try clear hb); have hcz67_0 : w66.cell? ⟨g1, 0, none⟩ = some (.int .i64 a0_0) := bc_ B1 0 rfl; have hcz67_1 : w66.cell? ⟨g1, 1, none⟩ = some (.int .i64 a0_1) := bc_ B1 1 rfl; have hcz67_2 : w66.cell? ⟨g1, 2, none⟩ = some (.int .i64 a0_2) := bc_ B1 2 rfl; have hcz67_3 : w66.cell? ⟨g1, 3, none⟩ = some (.int .i64 a0_3) := bc_ B1 3 rfl; have hcz67_4 : w66.cell? ⟨g1, 4, none⟩ = some (.string a0_4) := bc_ B1 4 rfl; have hcz67_5 : w66.cell? ⟨g1, 5, none⟩ = some (.int .i64 a0_5) := bc_ B1 5 rfl; have hcz67_6 : w66.cell? ⟨g1, 6, none⟩ = some (.int .i64 a0_6) := bc_ B1 6 rfl; have hcz67_7 : w66.cell? ⟨g1, 7, none⟩ = some (.bool a0_7) := bc_ B1 7 rfl; have hcz67_8 : w66.cell? ⟨g1, 8, none⟩ = some (.bool a0_8) := bc_ B1 8 rfl; have hcz67_9 : w66.cell? ⟨g1, 9, none⟩ = some (.int .i64 a0_9) := bc_ B1 9 rfl; have hcz67_10 : w66.cell? ⟨g1, 10, none⟩ = some (.int .i64 a0_10) := bc_ B1 10 rfl; have hcz67_11 : w66.cell? ⟨g1, 11, none⟩ = some (.bool a0_11) := bc_ B1 11 rfl; have hcz67_12 : w66.cell? ⟨g1, 12, none⟩ = some (.bool a0_12) := bc_ B1 12 rfl; have hcz67_13 : w66.cell? ⟨g1, 13, none⟩ = some (.slice (some ad112) l0_13.length c0_13) := bc_ B1 13 rfl; have hfz67_0 := blk_frozen B1.out 0; have hfz67_1 := blk_frozen B1.out 1; have hfz67_2 := blk_frozen B1.out 2; have hfz67_3 := blk_frozen B1.out 3; have hfz67_4 := blk_frozen B1.out 4; have hfz67_5 := blk_frozen B1.out 5; have hfz67_6 := blk_frozen B1.out 6; have hfz67_7 := blk_frozen B1.out 7; have hfz67_8 := blk_frozen B1.out 8; have hfz67_9 := blk_frozen B1.out 9; have hfz67_10 := blk_frozen B1.out 10; have hfz67_11 := blk_frozen B1.out 11; have hfz67_12 := blk_frozen B1.out 12; have hfz67_13 := blk_frozen B1.out 13; have p114 : 0 ≤ (1 : Int) := (by omega); have q114 : 1 < (l0_13.length : Int) := of_decide_eq_true as_; obtain ⟨ad114, A114_13, c114_13, e114, hx114_0, hx114_1, hx114_2, hx114_3, hx114_4, hx114_5, hx114_6, hx114_7, hx114_8, hx114_9, hx114_10, hx114_11, hx114_12, hx114_13, hl114_13, hi114_13⟩ := at_T28 HR0_13.out 1 p114 q114; obtain rfl : ad112 = ad114 := (by injection e114); (try simp only [show (1 : Int).toNat = 1 from rfl, Nat.reduceMul, Nat.reduceEqDiff, Go.Addr.add, ↓reduceIte] at hx114_0); (try simp only [show (1 : Int).toNat = 1 from rfl, Nat.reduceMul, Nat.reduceEqDiff, Go.Addr.add, ↓reduceIte] at hx114_1); (try simp only [show (1 : Int).toNat = 1 from rfl, Nat.reduceMul, Nat.reduceEqDiff, Go.Addr.add, ↓reduceIte] at hx114_2); (try simp only [show (1 : Int).toNat = 1 from rfl, Nat.reduceMul, Nat.reduceEqDiff, Go.Addr.add, ↓reduceIte] at hx114_3); (try simp only [show (1 : Int).toNat = 1 from rfl, Nat.reduceMul, Nat.reduceEqDiff, Go.Addr.add, ↓reduceIte] at hx114_4); (try simp only [show (1 : Int).toNat = 1 from rfl, Nat.reduceMul, Nat.reduceEqDiff, Go.Addr.add, ↓reduceIte] at hx114_5); (try simp only [show (1 : Int).toNat = 1 from rfl, Nat.reduceMul, Nat.reduceEqDiff, Go.Addr.add, ↓reduceIte] at hx114_6); (try simp only [show (1 : Int).toNat = 1 from rfl, Nat.reduceMul, Nat.reduceEqDiff, Go.Addr.add, ↓reduceIte] at hx114_7); (try simp only [show (1 : Int).toNat = 1 from rfl, Nat.reduceMul, Nat.reduceEqDiff, Go.Addr.add, ↓reduceIte] at hx114_8); (try simp only [show (1 : Int).toNat = 1 from rfl, Nat.reduceMul, Nat.reduceEqDiff, Go.Addr.add, ↓reduceIte] at hx114_9); (try simp only [show (1 : Int).toNat = 1 from rfl, Nat.reduceMul, Nat.reduceEqDiff, Go.Addr.add, ↓reduceIte] at hx114_10); (try simp only [show (1 : Int).toNat = 1 from rfl, Nat.reduceMul, Nat.reduceEqDiff, Go.Addr.add, ↓reduceIte] at hx114_11); (try simp only [show (1 : Int).toNat = 1 from rfl, Nat.reduceMul, Nat.reduceEqDiff, Go.Addr.add, ↓reduceIte] at hx114_12); (try simp only [show (1 : Int).toNat = 1 from rfl, Nat.reduceMul, Nat.reduceEqDiff, Go.Addr.add, ↓reduceIte] at hx114_13); have qi114 : (1 < l0_13.length) = True := eq_true (by omega); (try rw [show ((1 : Int)).toNat = 1 from rfl] at hx114_0); (try rw [show 1 * 14 = 14 from rfl] at hx114_0); (try rw [show ((1 : Int)).toNat = 1 from rfl] at hx114_1); (try rw [show 1 * 14 = 14 from rfl] at hx114_1); (try rw [show ((1 : Int)).toNat = 1 from rfl] at hx114_2); (try rw [show 1 * 14 = 14 from rfl] at hx114_2); (try rw [show ((1 : Int)).toNat = 1 from rfl] at hx114_3); (try rw [show 1 * 14 = 14 from rfl] at hx114_3); (try rw [show ((1 : Int)).toNat = 1 from rfl] at hx114_4); (try rw [show 1 * 14 = 14 from rfl] at hx114_4); (try rw [show ((1 : Int)).toNat = 1 from rfl] at hx114_5); (try rw [show 1 * 14 = 14 from rfl] at hx114_5); (try rw [show ((1 : Int)).toNat = 1 from rfl] at hx114_6); (try rw [show 1 * 14 = 14 from rfl] at hx114_6); (try rw [show ((1 : Int)).toNat = 1 from rfl] at hx114_7); (try rw [show 1 * 14 = 14 from rfl] at hx114_7); (try rw [show ((1 : Int)).toNat = 1 from rfl] at hx114_8); (try rw [show 1 * 14 = 14 from rfl] at hx114_8); (try rw [show ((1 : Int)).toNat = 1 from rfl] at hx114_9); (try rw [show 1 * 14 = 14 from rfl] at hx114_9); (try rw [show ((1 : Int)).toNat = 1 from rfl] at hx114_10); (try rw [show 1 * 14 = 14 from rfl] at hx114_10); (try rw [show ((1 : Int)).toNat = 1 from rfl] at hx114_11); (try rw [show 1 * 14 = 14 from rfl] at hx114_11); (try rw [show ((1 : Int)).toNat = 1 from rfl] at hx114_12); (try rw [show 1 * 14 = 14 from rfl] at hx114_12); (try rw [show ((1 : Int)).toNat = 1 from rfl] at hx114_13); (try rw [show 1 * 14 = 14 from rfl] at hx114_13); replace hx114_0 := (HB.out.cell (World.block_lt_of_cell? w _ hx114_0)).trans hx114_0; replace hx114_1 := (HB.out.cell (World.block_lt_of_cell? w _ hx114_1)).trans hx114_1; replace hx114_2 := (HB.out.cell (World.block_lt_of_cell? w _ hx114_2)).trans hx114_2; replace hx114_3 := (HB.out.cell (World.block_lt_of_cell? w _ hx114_3)).trans hx114_3; replace hx114_4 := (HB.out.cell (World.block_lt_of_cell? w _ hx114_4)).trans hx114_4; replace hx114_5 := (HB.out.cell (World.block_lt_of_cell? w _ hx114_5)).trans hx114_5; replace hx114_6 := (HB.out.cell (World.block_lt_of_cell? w _ hx114_6)).trans hx114_6; replace hx114_7 := (HB.out.cell (World.block_lt_of_cell? w _ hx114_7)).trans hx114_7; replace hx114_8 := (HB.out.cell (World.block_lt_of_cell? w _ hx114_8)).trans hx114_8; replace hx114_9 := (HB.out.cell (World.block_lt_of_cell? w _ hx114_9)).trans hx114_9; replace hx114_10 := (HB.out.cell (World.block_lt_of_cell? w _ hx114_10)).trans hx114_10; replace hx114_11 := (HB.out.cell (World.block_lt_of_cell? w _ hx114_11)).trans hx114_11; replace hx114_12 := (HB.out.cell (World.block_lt_of_cell? w _ hx114_12)).trans hx114_12; replace hx114_13 := (HB.out.cell (World.block_lt_of_cell? w _ hx114_13)).trans hx114_13; have HR114_13 := A_ hi114_13; have HC114_13 := A_ hl114_13; clear hi114_13 hl114_13; replace p114 := eq_true p114; replace q114 := eq_true q114) | (go_at_call 23; (with_reducible refine (node_fits.calls kj15 118 ((rd_T28 l0_13 1).f0) ((rd_T28 l0_13 1).f1) ((rd_T28 l0_13 1).f2.f0) ((rd_T28 l0_13 1).f2.f1) ((rd_T28 l0_13 1).f2.f2) ((rd_T28 l0_13 1).f3.f0) ((rd_T28 l0_13 1).f3.f1) ((rd_T28 l0_13 1).f3.f2) ((rd_T28 l0_13 1).f3.f3) ((rd_T28 l0_13 1).f4.f0) ((rd_T28 l0_13 1).f4.f1) ((rd_T28 l0_13 1).f4.f2) ((rd_T28 l0_13 1).f4.f3) _ _ ((rd_T28 l0_13 1).f5) t115 _ (by refine tb_ ?_ hT; repeat' (first | exact pbx HB | assumption | refine below_set ?_ (Aside0.out ?_))) ?side1 ?side2 A64.out).mono ?_); (case side1 => exact ca_ (Kd.C_below HR114_13.out HB.out)); (case side2 => exact HC114_13.out); rintro e w68 ⟨rfl, hb⟩; replace B1 := bb_ B1 hb; replace HB := bs_ HB hb; (try clear hb); ))
                   go_ret
                   exact fi_ (pbx HB)
                  ·rw [if_neg c63] at H
                   exact absurd H (by simp)
                 ·obtain rfl := Option.some.inj H
                  have hcz69_0 : wc.cell? ⟨g1, 0, none⟩ = some (.int .i64 a0_0) := bc_ B1 0 rfl
                  have hcz69_1 : wc.cell? ⟨g1, 1, none⟩ = some (.int .i64 a0_1) := bc_ B1 1 rfl
                  have hcz69_2 : wc.cell? ⟨g1, 2, none⟩ = some (.int .i64 a0_2) := bc_ B1 2 rfl
                  have hcz69_3 : wc.cell? ⟨g1, 3, none⟩ = some (.int .i64 a0_3) := bc_ B1 3 rfl
                  have hcz69_4 : wc.cell? ⟨g1, 4, none⟩ = some (.string a0_4) := bc_ B1 4 rfl
                  have hcz69_5 : wc.cell? ⟨g1, 5, none⟩ = some (.int .i64 a0_5) := bc_ B1 5 rfl
                  have hcz69_6 : wc.cell? ⟨g1, 6, none⟩ = some (.int .i64 a0_6) := bc_ B1 6 rfl
                  have hcz69_7 : wc.cell? ⟨g1, 7, none⟩ = some (.bool a0_7) := bc_ B1 7 rfl
                  have hcz69_8 : wc.cell? ⟨g1, 8, none⟩ = some (.bool a0_8) := bc_ B1 8 rfl
                  have hcz69_9 : wc.cell? ⟨g1, 9, none⟩ = some (.int .i64 a0_9) := bc_ B1 9 rfl
                  have hcz69_10 : wc.cell? ⟨g1, 10, none⟩ = some (.int .i64 a0_10) := bc_ B1 10 rfl
                  have hcz69_11 : wc.cell? ⟨g1, 11, none⟩ = some (.bool a0_11) := bc_ B1 11 rfl
                  have hcz69_12 : wc.cell? ⟨g1, 12, none⟩ = some (.bool a0_12) := bc_ B1 12 rfl
                  have hcz69_13 : wc.cell? ⟨g1, 13, none⟩ = some (.slice A0_13 l0_13.length c0_13) := bc_ B1 13 rfl
                  have hfz69_0 := blk_frozen B1.out 0; have hfz69_1 := blk_frozen B1.out 1; have hfz69_2 := blk_frozen B1.out 2; have hfz69_3 := blk_frozen B1.out 3; have hfz69_4 := blk_frozen B1.out 4; have hfz69_5 := blk_frozen B1.out 5; have hfz69_6 := blk_frozen B1.out 6; have hfz69_7 := blk_frozen B1.out 7; have hfz69_8 := blk_frozen B1.out 8; have hfz69_9 := blk_frozen B1.out 9; have hfz69_10 := blk_frozen B1.out 10; have hfz69_11 := blk_frozen B1.out 11; have hfz69_12 := blk_frozen B1.out 12; have hfz69_13 := blk_frozen B1.out 13
                  have p112 : 0 ≤ (0 : Int) := (by omega)
                  have q112 : 0 < (l0_13.length : Int) := of_decide_eq_true as_
                  obtain ⟨ad112, A112_13, c112_13, e112, hx112_0, hx112_1, hx112_2, hx112_3, hx112_4, hx112_5, hx112_6, hx112_7, hx112_8, hx112_9, hx112_10, hx112_11, hx112_12, hx112_13, hl112_13, hi112_13⟩ := at_T28 HR0_13.out 0 p112 q112
                  cases e112
                  have qi112 : (0 < l0_13.length) = True := eq_true (by omega); (try rw [show ((0 : Int)).toNat = 0 from rfl] at hx112_0); (try rw [show 0 * 14 = 0 from rfl] at hx112_0); (try rw [Addr.add_zero'] at hx112_0); (try rw [show ((0 : Int)).toNat = 0 from rfl] at hx112_1); (try rw [show 0 * 14 = 0 from rfl] at hx112_1); (try rw [Addr.add_zero'] at hx112_1); (try rw [show ((0 : Int)).toNat = 0 from rfl] at hx112_2); (try rw [show 0 * 14 = 0 from rfl] at hx112_2); (try rw [Addr.add_zero'] at hx112_2); (try rw [show ((0 : Int)).toNat = 0 from rfl] at hx112_3); (try rw [show 0 * 14 = 0 from rfl] at hx112_3); (try rw [Addr.add_zero'] at hx112_3); (try rw [show ((0 : Int)).toNat = 0 from rfl] at hx112_4); (try rw [show 0 * 14 = 0 from rfl] at hx112_4); (try rw [Addr.add_zero'] at hx112_4); (try rw [show ((0 : Int)).toNat = 0 from rfl] at hx112_5); (try rw [show 0 * 14 = 0 from rfl] at hx112_5); (try rw [Addr.add_zero'] at hx112_5); (try rw [show ((0 : Int)).toNat = 0 from rfl] at hx112_6); (try rw [show 0 * 14 = 0 from rfl] at hx112_6); (try rw [Addr.add_zero'] at hx112_6); (try rw [show ((0 : Int)).toNat = 0 from rfl] at hx112_7); (try rw [show 0 * 14 = 0 from rfl] at hx112_7); (try rw [Addr.add_zero'] at hx112_7); (try rw [show ((0 : Int)).toNat = 0 from rfl] at hx112_8); (try rw [show 0 * 14 = 0 from rfl] at hx112_8); (try rw [Addr.add_zero'] at hx112_8); (try rw [show ((0 : Int)).toNat = 0 from rfl] at hx112_9); (try rw [show 0 * 14 = 0 from rfl] at hx112_9); (try rw [Addr.add_zero'] at hx112_9)
                  (try rw [show ((0 : Int)).toNat = 0 from rfl] at hx112_10); (try rw [show 0 * 14 = 0 from rfl] at hx112_10); (try rw [Addr.add_zero'] at hx112_10); (try rw [show ((0 : Int)).toNat = 0 from rfl] at hx112_11); (try rw [show 0 * 14 = 0 from rfl] at hx112_11); (try rw [Addr.add_zero'] at hx112_11); (try rw [show ((0 : Int)).toNat = 0 from rfl] at hx112_12); (try rw [show 0 * 14 = 0 from rfl] at hx112_12); (try rw [Addr.add_zero'] at hx112_12); (try rw [show ((0 : Int)).toNat = 0 from rfl] at hx112_13); (try rw [show 0 * 14 = 0 from rfl] at hx112_13); (try rw [Addr.add_zero'] at hx112_13)
                  replace hx112_0 := (HB.out.cell (World.block_lt_of_cell? w _ hx112_0)).trans hx112_0; replace hx112_1 := (HB.out.cell (World.block_lt_of_cell? w _ hx112_1)).trans hx112_1; replace hx112_2 := (HB.out.cell (World.block_lt_of_cell? w _ hx112_2)).trans hx112_2; replace hx112_3 := (HB.out.cell (World.block_lt_of_cell? w _ hx112_3)).trans hx112_3; replace hx112_4 := (HB.out.cell (World.block_lt_of_cell? w _ hx112_4)).trans hx112_4; replace hx112_5 := (HB.out.cell (World.block_lt_of_cell? w _ hx112_5)).trans hx112_5; replace hx112_6 := (HB.out.cell (World.block_lt_of_cell? w _ hx112_6)).trans hx112_6; replace hx112_7 := (HB.out.cell (World.block_lt_of_cell? w _ hx112_7)).trans hx112_7; replace hx112_8 := (HB.out.cell (World.block_lt_of_cell? w _ hx112_8)).trans hx112_8; replace hx112_9 := (HB.out.cell (World.block_lt_of_cell? w _ hx112_9)).trans hx112_9; replace hx112_10 := (HB.out.cell (World.block_lt_of_cell? w _ hx112_10)).trans hx112_10
                  replace hx112_11 := (HB.out.cell (World.block_lt_of_cell? w _ hx112_11)).trans hx112_11; replace hx112_12 := (HB.out.cell (World.block_lt_of_cell? w _ hx112_12)).trans hx112_12; replace hx112_13 := (HB.out.cell (World.block_lt_of_cell? w _ hx112_13)).trans hx112_13; have HR112_13 := A_ hi112_13; have HC112_13 := A_ hl112_13; clear hi112_13 hl112_13; replace p112 := eq_true p112; replace q112 := eq_true q112
                  go_wp2_with (first | (go_at_call 23; (with_reducible refine (node_fits.calls kj15 118 ((rd_T28 l0_13 0).f0) ((rd_T28 l0_13 0).f1) ((rd_T28 l0_13 0).f2.f0) ((rd_T28 l0_13 0).f2.f1) ((rd_T28 l0_13 0).f2.f2) ((rd_T28 l0_13 0).f3.f0) ((rd_T28 l0_13 0).f3.f1) ((rd_T28 l0_13 0).f3.f2) ((rd_T28 l0_13 0).f3.f3) ((rd_T28 l0_13 0).f4.f0) ((rd_T28 l0_13 0).f4.f1) ((rd_T28 l0_13 0).f4.f2) ((rd_T28 l0_13 0).f4.f3) _ _ ((rd_T28 l0_13 0).f5) false _ (by refine tb_ ?_ hT; repeat' (first | exact pbx HB | assumption | refine below_set ?_ (Aside0.out ?_))) ?side1 ?side2 A61.out).mono ?_); (case side1 => exact ca_ (Kd.C_below HR112_13.out HB.out)); (case side2 => exact HC112_13.out); rintro e w70 ⟨rfl, hb⟩; replace B1 := bb_ B1 hb; replace HB := bs_ HB hb; (try clear hb); ))
                  go_ret
                  exact fi_ (pbx HB)
                ·rw [if_neg c60] at H
                 exact absurd H (by simp)
               ·rw [if_neg c59] at H; have ⟨c59b0,c59b1⟩ := e0_ c59; obtain rfl := Option.some.inj H
                have hcz71_0 : wc.cell? ⟨g1, 0, none⟩ = some (.int .i64 a0_0) := bc_ B1 0 rfl
                have hcz71_1 : wc.cell? ⟨g1, 1, none⟩ = some (.int .i64 a0_1) := bc_ B1 1 rfl
                have hcz71_2 : wc.cell? ⟨g1, 2, none⟩ = some (.int .i64 a0_2) := bc_ B1 2 rfl
                have hcz71_3 : wc.cell? ⟨g1, 3, none⟩ = some (.int .i64 a0_3) := bc_ B1 3 rfl
                have hcz71_4 : wc.cell? ⟨g1, 4, none⟩ = some (.string a0_4) := bc_ B1 4 rfl
                have hcz71_5 : wc.cell? ⟨g1, 5, none⟩ = some (.int .i64 a0_5) := bc_ B1 5 rfl
                have hcz71_6 : wc.cell? ⟨g1, 6, none⟩ = some (.int .i64 a0_6) := bc_ B1 6 rfl
                have hcz71_7 : wc.cell? ⟨g1, 7, none⟩ = some (.bool a0_7) := bc_ B1 7 rfl
                have hcz71_8 : wc.cell? ⟨g1, 8, none⟩ = some (.bool a0_8) := bc_ B1 8 rfl
                have hcz71_9 : wc.cell? ⟨g1, 9, none⟩ = some (.int .i64 a0_9) := bc_ B1 9 rfl
                have hcz71_10 : wc.cell? ⟨g1, 10, none⟩ = some (.int .i64 a0_10) := bc_ B1 10 rfl
                have hcz71_11 : wc.cell? ⟨g1, 11, none⟩ = some (.bool a0_11) := bc_ B1 11 rfl
                have hcz71_12 : wc.cell? ⟨g1, 12, none⟩ = some (.bool a0_12) := bc_ B1 12 rfl
                have hcz71_13 : wc.cell? ⟨g1, 13, none⟩ = some (.slice A0_13 l0_13.length c0_13) := bc_ B1 13 rfl
                have hfz71_0 := blk_frozen B1.out 0; have hfz71_1 := blk_frozen B1.out 1; have hfz71_2 := blk_frozen B1.out 2; have hfz71_3 := blk_frozen B1.out 3; have hfz71_4 := blk_frozen B1.out 4; have hfz71_5 := blk_frozen B1.out 5; have hfz71_6 := blk_frozen B1.out 6; have hfz71_7 := blk_frozen B1.out 7; have hfz71_8 := blk_frozen B1.out 8; have hfz71_9 := blk_frozen B1.out 9; have hfz71_10 := blk_frozen B1.out 10; have hfz71_11 := blk_frozen B1.out 11; have hfz71_12 := blk_frozen B1.out 12; have hfz71_13 := blk_frozen B1.out 13
                go_wp2
                go_ret
                exact fi_ (pbx HB)
              ·rw [if_neg c58] at H; have c58b0 := decide_eq_false c58; clear c58; obtain rfl := Option.some.inj H
               have hcz72_0 : wc.cell? ⟨g1, 0, none⟩ = some (.int .i64 a0_0) := bc_ B1 0 rfl
               have hcz72_1 : wc.cell? ⟨g1, 1, none⟩ = some (.int .i64 a0_1) := bc_ B1 1 rfl
               have hcz72_2 : wc.cell? ⟨g1, 2, none⟩ = some (.int .i64 a0_2) := bc_ B1 2 rfl
               have hcz72_3 : wc.cell? ⟨g1, 3, none⟩ = some (.int .i64 a0_3) := bc_ B1 3 rfl
               have hcz72_4 : wc.cell? ⟨g1, 4, none⟩ = some (.string a0_4) := bc_ B1 4 rfl
               have hcz72_5 : wc.cell? ⟨g1, 5, none⟩ = some (.int .i64 a0_5) := bc_ B1 5 rfl
               have hcz72_6 : wc.cell? ⟨g1, 6, none⟩ = some (.int .i64 a0_6) := bc_ B1 6 rfl
               have hcz72_7 : wc.cell? ⟨g1, 7, none⟩ = some (.bool a0_7) := bc_ B1 7 rfl
               have hcz72_8 : wc.cell? ⟨g1, 8, none⟩ = some (.bool a0_8) := bc_ B1 8 rfl
               have hcz72_9 : wc.cell? ⟨g1, 9, none⟩ = some (.int .i64 a0_9) := bc_ B1 9 rfl
               have hcz72_10 : wc.cell? ⟨g1, 10, none⟩ = some (.int .i64 a0_10) := bc_ B1 10 rfl
               have hcz72_11 : wc.cell? ⟨g1, 11, none⟩ = some (.bool a0_11) := bc_ B1 11 rfl
               have hcz72_12 : wc.cell? ⟨g1, 12, none⟩ = some (.bool a0_12) := bc_ B1 12 rfl
               have hcz72_13 : wc.cell? ⟨g1, 13, none⟩ = some (.slice A0_13 l0_13.length c0_13) := bc_ B1 13 rfl
               have hfz72_0 := blk_frozen B1.out 0; have hfz72_1 := blk_frozen B1.out 1; have hfz72_2 := blk_frozen B1.out 2; have hfz72_3 := blk_frozen B1.out 3; have hfz72_4 := blk_frozen B1.out 4; have hfz72_5 := blk_frozen B1.out 5; have hfz72_6 := blk_frozen B1.out 6; have hfz72_7 := blk_frozen B1.out 7; have hfz72_8 := blk_frozen B1.out 8; have hfz72_9 := blk_frozen B1.out 9; have hfz72_10 := blk_frozen B1.out 10; have hfz72_11 := blk_frozen B1.out 11; have hfz72_12 := blk_frozen B1.out 12; have hfz72_13 := blk_frozen B1.out 13
               go_wp2
               go_ret
               exact fi_ (pbx HB)
             ·rw [if_neg c57] at H; have c57b0 := decide_eq_false c57; clear c57; obtain rfl := Option.some.inj H
              have hcz73_0 : wc.cell? ⟨g1, 0, none⟩ = some (.int .i64 a0_0) := bc_ B1 0 rfl
              have hcz73_1 : wc.cell? ⟨g1, 1, none⟩ = some (.int .i64 a0_1) := bc_ B1 1 rfl
              have hcz73_2 : wc.cell? ⟨g1, 2, none⟩ = some (.int .i64 a0_2) := bc_ B1 2 rfl
              have hcz73_3 : wc.cell? ⟨g1, 3, none⟩ = some (.int .i64 a0_3) := bc_ B1 3 rfl
              have hcz73_4 : wc.cell? ⟨g1, 4, none⟩ = some (.string a0_4) := bc_ B1 4 rfl
              have hcz73_5 : wc.cell? ⟨g1, 5, none⟩ = some (.int .i64 a0_5) := bc_ B1 5 rfl
              have hcz73_6 : wc.cell? ⟨g1, 6, none⟩ = some (.int .i64 a0_6) := bc_ B1 6 rfl
              have hcz73_7 : wc.cell? ⟨g1, 7, none⟩ = some (.bool a0_7) := bc_ B1 7 rfl
              have hcz73_8 : wc.cell? ⟨g1, 8, none⟩ = some (.bool a0_8) := bc_ B1 8 rfl
              have hcz73_9 : wc.cell? ⟨g1, 9, none⟩ = some (.int .i64 a0_9) := bc_ B1 9 rfl
              have hcz73_10 : wc.cell? ⟨g1, 10, none⟩ = some (.int .i64 a0_10) := bc_ B1 10 rfl
              have hcz73_11 : wc.cell? ⟨g1, 11, none⟩ = some (.bool a0_11) := bc_ B1 11 rfl
              have hcz73_12 : wc.cell? ⟨g1, 12, none⟩ = some (.bool a0_12) := bc_ B1 12 rfl
              have hcz73_13 : wc.cell? ⟨g1, 13, none⟩ = some (.slice A0_13 l0_13.length c0_13) := bc_ B1 13 rfl
              have hfz73_0 := blk_frozen B1.out 0; have hfz73_1 := blk_frozen B1.out 1; have hfz73_2 := blk_frozen B1.out 2; have hfz73_3 := blk_frozen B1.out 3; have hfz73_4 := blk_frozen B1.out 4; have hfz73_5 := blk_frozen B1.out 5; have hfz73_6 := blk_frozen B1.out 6; have hfz73_7 := blk_frozen B1.out 7; have hfz73_8 := blk_frozen B1.out 8; have hfz73_9 := blk_frozen B1.out 9; have hfz73_10 := blk_frozen B1.out 10; have hfz73_11 := blk_frozen B1.out 11; have hfz73_12 := blk_frozen B1.out 12; have hfz73_13 := blk_frozen B1.out 13
              go_wp2
              go_ret
              exact fi_ (pbx HB)
            ·rw [if_neg c56] at H; have ⟨c56b0,c56b1⟩ := e0_ c56; obtain rfl := Option.some.inj H
             have hcz74_0 : wc.cell? ⟨g1, 0, none⟩ = some (.int .i64 a0_0) := bc_ B1 0 rfl
             have hcz74_1 : wc.cell? ⟨g1, 1, none⟩ = some (.int .i64 a0_1) := bc_ B1 1 rfl
             have hcz74_2 : wc.cell? ⟨g1, 2, none⟩ = some (.int .i64 a0_2) := bc_ B1 2 rfl
             have hcz74_3 : wc.cell? ⟨g1, 3, none⟩ = some (.int .i64 a0_3) := bc_ B1 3 rfl
             have hcz74_4 : wc.cell? ⟨g1, 4, none⟩ = some (.string a0_4) := bc_ B1 4 rfl
             have hcz74_5 : wc.cell? ⟨g1, 5, none⟩ = some (.int .i64 a0_5) := bc_ B1 5 rfl
             have hcz74_6 : wc.cell? ⟨g1, 6, none⟩ = some (.int .i64 a0_6) := bc_ B1 6 rfl
             have hcz74_7 : wc.cell? ⟨g1, 7, none⟩ = some (.bool a0_7) := bc_ B1 7 rfl
             have hcz74_8 : wc.cell? ⟨g1, 8, none⟩ = some (.bool a0_8) := bc_ B1 8 rfl
             have hcz74_9 : wc.cell? ⟨g1, 9, none⟩ = some (.int .i64 a0_9) := bc_ B1 9 rfl
             have hcz74_10 : wc.cell? ⟨g1, 10, none⟩ = some (.int .i64 a0_10) := bc_ B1 10 rfl
             have hcz74_11 : wc.cell? ⟨g1, 11, none⟩ = some (.bool a0_11) := bc_ B1 11 rfl
             have hcz74_12 : wc.cell? ⟨g1, 12, none⟩ = some (.bool a0_12) := bc_ B1 12 rfl
             have hcz74_13 : wc.cell? ⟨g1, 13, none⟩ = some (.slice A0_13 l0_13.length c0_13) := bc_ B1 13 rfl
             have hfz74_0 := blk_frozen B1.out 0; have hfz74_1 := blk_frozen B1.out 1; have hfz74_2 := blk_frozen B1.out 2; have hfz74_3 := blk_frozen B1.out 3; have hfz74_4 := blk_frozen B1.out 4; have hfz74_5 := blk_frozen B1.out 5; have hfz74_6 := blk_frozen B1.out 6; have hfz74_7 := blk_frozen B1.out 7; have hfz74_8 := blk_frozen B1.out 8; have hfz74_9 := blk_frozen B1.out 9; have hfz74_10 := blk_frozen B1.out 10; have hfz74_11 := blk_frozen B1.out 11; have hfz74_12 := blk_frozen B1.out 12; have hfz74_13 := blk_frozen B1.out 13
             go_wp2
             go_ret
             exact fi_ (pbx HB)
           ·rw [if_neg c55] at H; have ⟨c55b0,c55b1⟩ := e0_ c55
            by_cases c75 : a0_0 = 7
            ·rw [if_pos c75] at H; have ⟨c75b0,c75b1⟩ := e1_ c75; clear c75
             by_cases c76 : (Go.bits .andNot .u64 x5_15 17) = 0
             ·rw [if_pos c76] at H; have ⟨c76b0,c76b1⟩ := e1_ c76; clear c76; obtain ⟨t116, A77, H⟩ := bo_ H; obtain rfl := Option.some.inj H
              have hcz78_0 : wc.cell? ⟨g1, 0, none⟩ = some (.int .i64 a0_0) := bc_ B1 0 rfl
              have hcz78_1 : wc.cell? ⟨g1, 1, none⟩ = some (.int .i64 a0_1) := bc_ B1 1 rfl
              have hcz78_2 : wc.cell? ⟨g1, 2, none⟩ = some (.int .i64 a0_2) := bc_ B1 2 rfl
              have hcz78_3 : wc.cell? ⟨g1, 3, none⟩ = some (.int .i64 a0_3) := bc_ B1 3 rfl
              have hcz78_4 : wc.cell? ⟨g1, 4, none⟩ = some (.string a0_4) := bc_ B1 4 rfl
              have hcz78_5 : wc.cell? ⟨g1, 5, none⟩ = some (.int .i64 a0_5) := bc_ B1 5 rfl
              have hcz78_6 : wc.cell? ⟨g1, 6, none⟩ = some (.int .i64 a0_6) := bc_ B1 6 rfl
              have hcz78_7 : wc.cell? ⟨g1, 7, none⟩ = some (.bool a0_7) := bc_ B1 7 rfl
              have hcz78_8 : wc.cell? ⟨g1, 8, none⟩ = some (.bool a0_8) := bc_ B1 8 rfl
              have hcz78_9 : wc.cell? ⟨g1, 9, none⟩ = some (.int .i64 a0_9) := bc_ B1 9 rfl
              have hcz78_10 : wc.cell? ⟨g1, 10, none⟩ = some (.int .i64 a0_10) := bc_ B1 10 rfl
              have hcz78_11 : wc.cell? ⟨g1, 11, none⟩ = some (.bool a0_11) := bc_ B1 11 rfl
              have hcz78_12 : wc.cell? ⟨g1, 12, none⟩ = some (.bool a0_12) := bc_ B1 12 rfl
              have hcz78_13 : wc.cell? ⟨g1, 13, none⟩ = some (.slice A0_13 l0_13.length c0_13) := bc_ B1 13 rfl
              have hfz78_0 := blk_frozen B1.out 0; have hfz78_1 := blk_frozen B1.out 1; have hfz78_2 := blk_frozen B1.out 2; have hfz78_3 := blk_frozen B1.out 3; have hfz78_4 := blk_frozen B1.out 4; have hfz78_5 := blk_frozen B1.out 5; have hfz78_6 := blk_frozen B1.out 6; have hfz78_7 := blk_frozen B1.out 7; have hfz78_8 := blk_frozen B1.out 8; have hfz78_9 := blk_frozen B1.out 9; have hfz78_10 := blk_frozen B1.out 10; have hfz78_11 := blk_frozen B1.out 11; have hfz78_12 := blk_frozen B1.out 12; have hfz78_13 := blk_frozen B1.out 13
              go_wp2_with (first | (go_at_call 24; (with_reducible refine (node_called.calls kj15 a0_0 a0_1 a0_2 a0_3 a0_4 a0_5 a0_6 a0_7 a0_8 a0_9 a0_10 a0_11 a0_12 _ _ l0_13 t116 _ (by refine tb_ ?_ hT; repeat' (first | exact pbx HB | assumption | refine below_set ?_ (Aside0.out ?_))) ?side1 ?side2 A77.out).mono ?_); (case side1 => exact ca_ (Kd.C_below HR0_13.out HB.out)); (case side2 => exact HC0_13.out); rintro e w79 ⟨rfl, hb⟩; replace B1 := bb_ B1 hb; replace HB := bs_ HB hb; (try clear hb); ))
              go_ret
              exact fi_ (pbx HB)
             ·rw [if_neg c76] at H; have ⟨c76b0,c76b1⟩ := e0_ c76; obtain rfl := Option.some.inj H
              have hcz80_0 : wc.cell? ⟨g1, 0, none⟩ = some (.int .i64 a0_0) := bc_ B1 0 rfl
              have hcz80_1 : wc.cell? ⟨g1, 1, none⟩ = some (.int .i64 a0_1) := bc_ B1 1 rfl
              have hcz80_2 : wc.cell? ⟨g1, 2, none⟩ = some (.int .i64 a0_2) := bc_ B1 2 rfl
              have hcz80_3 : wc.cell? ⟨g1, 3, none⟩ = some (.int .i64 a0_3) := bc_ B1 3 rfl
              have hcz80_4 : wc.cell? ⟨g1, 4, none⟩ = some (.string a0_4) := bc_ B1 4 rfl
              have hcz80_5 : wc.cell? ⟨g1, 5, none⟩ = some (.int .i64 a0_5) := bc_ B1 5 rfl
              have hcz80_6 : wc.cell? ⟨g1, 6, none⟩ = some (.int .i64 a0_6) := bc_ B1 6 rfl
              have hcz80_7 : wc.cell? ⟨g1, 7, none⟩ = some (.bool a0_7) := bc_ B1 7 rfl
              have hcz80_8 : wc.cell? ⟨g1, 8, none⟩ = some (.bool a0_8) := bc_ B1 8 rfl
              have hcz80_9 : wc.cell? ⟨g1, 9, none⟩ = some (.int .i64 a0_9) := bc_ B1 9 rfl
              have hcz80_10 : wc.cell? ⟨g1, 10, none⟩ = some (.int .i64 a0_10) := bc_ B1 10 rfl
              have hcz80_11 : wc.cell? ⟨g1, 11, none⟩ = some (.bool a0_11) := bc_ B1 11 rfl
              have hcz80_12 : wc.cell? ⟨g1, 12, none⟩ = some (.bool a0_12) := bc_ B1 12 rfl
              have hcz80_13 : wc.cell? ⟨g1, 13, none⟩ = some (.slice A0_13 l0_13.length c0_13) := bc_ B1 13 rfl
              have hfz80_0 := blk_frozen B1.out 0; have hfz80_1 := blk_frozen B1.out 1; have hfz80_2 := blk_frozen B1.out 2; have hfz80_3 := blk_frozen B1.out 3; have hfz80_4 := blk_frozen B1.out 4; have hfz80_5 := blk_frozen B1.out 5; have hfz80_6 := blk_frozen B1.out 6; have hfz80_7 := blk_frozen B1.out 7; have hfz80_8 := blk_frozen B1.out 8; have hfz80_9 := blk_frozen B1.out 9; have hfz80_10 := blk_frozen B1.out 10; have hfz80_11 := blk_frozen B1.out 11; have hfz80_12 := blk_frozen B1.out 12; have hfz80_13 := blk_frozen B1.out 13
              go_wp2
              go_ret
              exact fi_ (pbx HB)
            ·rw [if_neg c75] at H; have ⟨c75b0,c75b1⟩ := e0_ c75; obtain rfl := Option.some.inj H
             have hcz81_0 : wc.cell? ⟨g1, 0, none⟩ = some (.int .i64 a0_0) := bc_ B1 0 rfl
             have hcz81_1 : wc.cell? ⟨g1, 1, none⟩ = some (.int .i64 a0_1) := bc_ B1 1 rfl
             have hcz81_2 : wc.cell? ⟨g1, 2, none⟩ = some (.int .i64 a0_2) := bc_ B1 2 rfl
             have hcz81_3 : wc.cell? ⟨g1, 3, none⟩ = some (.int .i64 a0_3) := bc_ B1 3 rfl
             have hcz81_4 : wc.cell? ⟨g1, 4, none⟩ = some (.string a0_4) := bc_ B1 4 rfl
             have hcz81_5 : wc.cell? ⟨g1, 5, none⟩ = some (.int .i64 a0_5) := bc_ B1 5 rfl
             have hcz81_6 : wc.cell? ⟨g1, 6, none⟩ = some (.int .i64 a0_6) := bc_ B1 6 rfl
             have hcz81_7 : wc.cell? ⟨g1, 7, none⟩ = some (.bool a0_7) := bc_ B1 7 rfl
             have hcz81_8 : wc.cell? ⟨g1, 8, none⟩ = some (.bool a0_8) := bc_ B1 8 rfl
             have hcz81_9 : wc.cell? ⟨g1, 9, none⟩ = some (.int .i64 a0_9) := bc_ B1 9 rfl
             have hcz81_10 : wc.cell? ⟨g1, 10, none⟩ = some (.int .i64 a0_10) := bc_ B1 10 rfl
             have hcz81_11 : wc.cell? ⟨g1, 11, none⟩ = some (.bool a0_11) := bc_ B1 11 rfl
             have hcz81_12 : wc.cell? ⟨g1, 12, none⟩ = some (.bool a0_12) := bc_ B1 12 rfl
             have hcz81_13 : wc.cell? ⟨g1, 13, none⟩ = some (.slice A0_13 l0_13.length c0_13) := bc_ B1 13 rfl
             have hfz81_0 := blk_frozen B1.out 0; have hfz81_1 := blk_frozen B1.out 1; have hfz81_2 := blk_frozen B1.out 2; have hfz81_3 := blk_frozen B1.out 3; have hfz81_4 := blk_frozen B1.out 4; have hfz81_5 := blk_frozen B1.out 5; have hfz81_6 := blk_frozen B1.out 6; have hfz81_7 := blk_frozen B1.out 7; have hfz81_8 := blk_frozen B1.out 8; have hfz81_9 := blk_frozen B1.out 9; have hfz81_10 := blk_frozen B1.out 10; have hfz81_11 := blk_frozen B1.out 11; have hfz81_12 := blk_frozen B1.out 12; have hfz81_13 := blk_frozen B1.out 13
             go_wp2
             go_ret
             exact fi_ (pbx HB)

def node_Formula.f (k : Nat) (a0_0 : Int) (a0_1 : Int) (a0_2 : Int) (a0_3 : Int) (a0_4 : ByteArray) (a0_5 : Int) (a0_6 : Int) (a0_7 : Bool) (a0_8 : Bool) (a0_9 : Int) (a0_10 : Int) (a0_11 : Bool) (a0_12 : Bool) (l0_13 : List (S28)) : Option (Bool) := if a0_0 = 4 then (some false) else ((node_Deep.f k a0_0 a0_1 a0_2 a0_3 a0_4 a0_5 a0_6 a0_7 a0_8 a0_9 a0_10 a0_11 a0_12 l0_13).bind fun t102 => (if t102 ≤ 12 then ((node_Right.f k a0_0 a0_1 a0_2 a0_3 a0_4 a0_5 a0_6 a0_7 a0_8 a0_9 a0_10 a0_11 a0_12 l0_13).bind fun t103 => (some t103)) else (some false)))
theorem node_Formula.mono : ∀ a0 a1 a2 a3 a4 a5 a6 a7 a8 a9 a10 a11 a12 a13 k, LeO (node_Formula.f k a0 a1 a2 a3 a4 a5 a6 a7 a8 a9 a10 a11 a12 a13) (node_Formula.f (k + 1) a0 a1 a2 a3 a4 a5 a6 a7 a8 a9 a10 a11 a12 a13) := by
 intro a0 a1 a2 a3 a4 a5 a6 a7 a8 a9 a10 a11 a12 a13 k
 unfold node_Formula.f
 have m0 := @node_Deep.mono; have m1 := @node_Right.mono; exact mo_
theorem node_Formula.calls (k : Nat) (a0_0 : Int) (a0_1 : Int) (a0_2 : Int) (a0_3 : Int) (a0_4 : ByteArray) (a0_5 : Int) (a0_6 : Int) (a0_7 : Bool) (a0_8 : Bool) (a0_9 : Int) (a0_10 : Int) (a0_11 : Bool) (a0_12 : Bool) (A0_13 : Option Addr) (c0_13 : Nat) (l0_13 : List (S28)) (r : Bool) (w : World) (hT : Aside0 (Tab w)) (hr0_13 : Kd.C k28 w A0_13 l0_13.length l0_13) (hc0_13 : l0_13.length ≤ c0_13) (h : node_Formula.f k a0_0 a0_1 a0_2 a0_3 a0_4 a0_5 a0_6 a0_7 a0_8 a0_9 a0_10 a0_11 a0_12 l0_13 = some r) :
  Calls Tryd.prog 15 #[.agg #[.int .i64 a0_0, .int .i64 a0_1, .int .i64 a0_2, .int .i64 a0_3, .string a0_4, .int .i64 a0_5, .int .i64 a0_6, .bool a0_7, .bool a0_8, .int .i64 a0_9, .int .i64 a0_10, .bool a0_11, .bool a0_12, .slice A0_13 l0_13.length c0_13]] w fun e w' => e = .returned (.bool r) ∧ Below w.heap.size w w' := by
 have hu28 := Tryd.underlying28; have HR0_13 := A_ hr0_13; have HC0_13 := A_ hc0_13; clear hr0_13 hc0_13; have HB := A_ (Below.refl w.heap.size w)
 have H : (if a0_0 = 4 then (some false) else ((node_Deep.f k a0_0 a0_1 a0_2 a0_3 a0_4 a0_5 a0_6 a0_7 a0_8 a0_9 a0_10 a0_11 a0_12 l0_13).bind fun t102 => (if t102 ≤ 12 then ((node_Right.f k a0_0 a0_1 a0_2 a0_3 a0_4 a0_5 a0_6 a0_7 a0_8 a0_9 a0_10 a0_11 a0_12 l0_13).bind fun t103 => (some t103)) else (some false)))) = some r := h
 clear h
 by_cases c2 : a0_0 = 4
 ·rw [if_pos c2] at H; have ⟨c2b0,c2b1⟩ := e1_ c2; clear c2; obtain rfl := Option.some.inj H
  go_enter Tryd.func15, Tryd.ntmps15
  go_wp2_with (first | ((with_reducible refine gd_ 1 ?_); refine be_ (N:=1) (cs := #[.int .i64 a0_0, .int .i64 a0_1, .int .i64 a0_2, .int .i64 a0_3, .string a0_4, .int .i64 a0_5, .int .i64 a0_6, .bool a0_7, .bool a0_8, .int .i64 a0_9, .int .i64 a0_10, .bool a0_11, .bool a0_12, .slice A0_13 l0_13.length c0_13]) (t:=28) ?_; intro g1 hg w3 hbox hb; have B1 := A_ (hbox); replace HB := bs_ HB hb; clear hb hbox hg; have hcz4_0 : w3.cell? ⟨g1, 0, none⟩ = some (.int .i64 a0_0) := bc_ B1 0 rfl; have hcz4_1 : w3.cell? ⟨g1, 1, none⟩ = some (.int .i64 a0_1) := bc_ B1 1 rfl; have hcz4_2 : w3.cell? ⟨g1, 2, none⟩ = some (.int .i64 a0_2) := bc_ B1 2 rfl; have hcz4_3 : w3.cell? ⟨g1, 3, none⟩ = some (.int .i64 a0_3) := bc_ B1 3 rfl; have hcz4_4 : w3.cell? ⟨g1, 4, none⟩ = some (.string a0_4) := bc_ B1 4 rfl; have hcz4_5 : w3.cell? ⟨g1, 5, none⟩ = some (.int .i64 a0_5) := bc_ B1 5 rfl; have hcz4_6 : w3.cell? ⟨g1, 6, none⟩ = some (.int .i64 a0_6) := bc_ B1 6 rfl; have hcz4_7 : w3.cell? ⟨g1, 7, none⟩ = some (.bool a0_7) := bc_ B1 7 rfl; have hcz4_8 : w3.cell? ⟨g1, 8, none⟩ = some (.bool a0_8) := bc_ B1 8 rfl; have hcz4_9 : w3.cell? ⟨g1, 9, none⟩ = some (.int .i64 a0_9) := bc_ B1 9 rfl; have hcz4_10 : w3.cell? ⟨g1, 10, none⟩ = some (.int .i64 a0_10) := bc_ B1 10 rfl; have hcz4_11 : w3.cell? ⟨g1, 11, none⟩ = some (.bool a0_11) := bc_ B1 11 rfl; have hcz4_12 : w3.cell? ⟨g1, 12, none⟩ = some (.bool a0_12) := bc_ B1 12 rfl; have hcz4_13 : w3.cell? ⟨g1, 13, none⟩ = some (.slice A0_13 l0_13.length c0_13) := bc_ B1 13 rfl))
  go_ret
  exact fi_ (pbx HB)
 ·rw [if_neg c2] at H; have ⟨c2b0,c2b1⟩ := e0_ c2; obtain ⟨t102, A5, H⟩ := bo_ H
  by_cases c6 : t102 ≤ 12
  ·rw [if_pos c6] at H; have c6b0 := decide_eq_true c6; clear c6; obtain ⟨t103, A7, H⟩ := bo_ H; obtain rfl := Option.some.inj H
   go_enter Tryd.func15, Tryd.ntmps15
   go_wp2_with (first | ((with_reducible refine gd_ 1 ?_); refine be_ (N:=1) (cs := #[.int .i64 a0_0, .int .i64 a0_1, .int .i64 a0_2, .int .i64 a0_3, .string a0_4, .int .i64 a0_5, .int .i64 a0_6, .bool a0_7, .bool a0_8, .int .i64 a0_9, .int .i64 a0_10, .bool a0_11, .bool a0_12, .slice A0_13 l0_13.length c0_13]) (t:=28) ?_; intro g1 hg w8 hbox hb; have B1 := A_ (hbox); replace HB := bs_ HB hb; clear hb hbox hg; have hcz9_0 : w8.cell? ⟨g1, 0, none⟩ = some (.int .i64 a0_0) := bc_ B1 0 rfl; have hcz9_1 : w8.cell? ⟨g1, 1, none⟩ = some (.int .i64 a0_1) := bc_ B1 1 rfl; have hcz9_2 : w8.cell? ⟨g1, 2, none⟩ = some (.int .i64 a0_2) := bc_ B1 2 rfl; have hcz9_3 : w8.cell? ⟨g1, 3, none⟩ = some (.int .i64 a0_3) := bc_ B1 3 rfl; have hcz9_4 : w8.cell? ⟨g1, 4, none⟩ = some (.string a0_4) := bc_ B1 4 rfl; have hcz9_5 : w8.cell? ⟨g1, 5, none⟩ = some (.int .i64 a0_5) := bc_ B1 5 rfl; have hcz9_6 : w8.cell? ⟨g1, 6, none⟩ = some (.int .i64 a0_6) := bc_ B1 6 rfl; have hcz9_7 : w8.cell? ⟨g1, 7, none⟩ = some (.bool a0_7) := bc_ B1 7 rfl; have hcz9_8 : w8.cell? ⟨g1, 8, none⟩ = some (.bool a0_8) := bc_ B1 8 rfl; have hcz9_9 : w8.cell? ⟨g1, 9, none⟩ = some (.int .i64 a0_9) := bc_ B1 9 rfl; have hcz9_10 : w8.cell? ⟨g1, 10, none⟩ = some (.int .i64 a0_10) := bc_ B1 10 rfl; have hcz9_11 : w8.cell? ⟨g1, 11, none⟩ = some (.bool a0_11) := bc_ B1 11 rfl; have hcz9_12 : w8.cell? ⟨g1, 12, none⟩ = some (.bool a0_12) := bc_ B1 12 rfl; have hcz9_13 : w8.cell? ⟨g1, 13, none⟩ = some (.slice A0_13 l0_13.length c0_13) := bc_ B1 13 rfl) | (go_at_call 11; (with_reducible refine (node_Deep.calls k a0_0 a0_1 a0_2 a0_3 a0_4 a0_5 a0_6 a0_7 a0_8 a0_9 a0_10 a0_11 a0_12 _ _ l0_13 t102 _ ?side1 ?side2 A5.out).mono ?_); (case side1 => exact ca_ (Kd.C_below HR0_13.out HB.out)); (case side2 => exact HC0_13.out); rintro e w10 ⟨rfl, hb⟩; replace B1 := bb_ B1 hb; replace HB := bs_ HB hb; have hcz11_0 : w10.cell? ⟨g1, 0, none⟩ = some (.int .i64 a0_0) := bc_ B1 0 rfl; have hcz11_1 : w10.cell? ⟨g1, 1, none⟩ = some (.int .i64 a0_1) := bc_ B1 1 rfl; have hcz11_2 : w10.cell? ⟨g1, 2, none⟩ = some (.int .i64 a0_2) := bc_ B1 2 rfl; have hcz11_3 : w10.cell? ⟨g1, 3, none⟩ = some (.int .i64 a0_3) := bc_ B1 3 rfl; have hcz11_4 : w10.cell? ⟨g1, 4, none⟩ = some (.string a0_4) := bc_ B1 4 rfl; have hcz11_5 : w10.cell? ⟨g1, 5, none⟩ = some (.int .i64 a0_5) := bc_ B1 5 rfl; have hcz11_6 : w10.cell? ⟨g1, 6, none⟩ = some (.int .i64 a0_6) := bc_ B1 6 rfl; have hcz11_7 : w10.cell? ⟨g1, 7, none⟩ = some (.bool a0_7) := bc_ B1 7 rfl; have hcz11_8 : w10.cell? ⟨g1, 8, none⟩ = some (.bool a0_8) := bc_ B1 8 rfl; have hcz11_9 : w10.cell? ⟨g1, 9, none⟩ = some (.int .i64 a0_9) := bc_ B1 9 rfl; have hcz11_10 : w10.cell? ⟨g1, 10, none⟩ = some (.int .i64 a0_10) := bc_ B1 10 rfl; have hcz11_11 : w10.cell? ⟨g1, 11, none⟩ = some (.bool a0_11) := bc_ B1 11 rfl; have hcz11_12 : w10.cell? ⟨g1, 12, none⟩ = some (.bool a0_12) := bc_ B1 12 rfl; have hcz11_13 : w10.cell? ⟨g1, 13, none⟩ = some (.slice A0_13 l0_13.length c0_13) := bc_ B1 13 rfl) | (go_at_call 13; (with_reducible refine (node_Right.calls k a0_0 a0_1 a0_2 a0_3 a0_4 a0_5 a0_6 a0_7 a0_8 a0_9 a0_10 a0_11 a0_12 _ _ l0_13 t103 _ (by refine tb_ ?_ hT; repeat' (first | exact pbx HB | assumption | refine below_set ?_ (Aside0.out ?_))) ?side1 ?side2 A7.out).mono ?_); (case side1 => exact ca_ (Kd.C_below HR0_13.out HB.out)); (case side2 => exact HC0_13.out); rintro e w12 ⟨rfl, hb⟩; replace B1 := bb_ B1 hb; replace HB := bs_ HB hb; ))
   go_ret
   exact fi_ (pbx HB)
  ·rw [if_neg c6] at H; have c6b0 := decide_eq_false c6; clear c6; obtain rfl := Option.some.inj H
   go_enter Tryd.func15, Tryd.ntmps15
   go_wp2_with (first | ((with_reducible refine gd_ 1 ?_); refine be_ (N:=1) (cs := #[.int .i64 a0_0, .int .i64 a0_1, .int .i64 a0_2, .int .i64 a0_3, .string a0_4, .int .i64 a0_5, .int .i64 a0_6, .bool a0_7, .bool a0_8, .int .i64 a0_9, .int .i64 a0_10, .bool a0_11, .bool a0_12, .slice A0_13 l0_13.length c0_13]) (t:=28) ?_; intro g1 hg w13 hbox hb; have B1 := A_ (hbox); replace HB := bs_ HB hb; clear hb hbox hg; have hcz14_0 : w13.cell? ⟨g1, 0, none⟩ = some (.int .i64 a0_0) := bc_ B1 0 rfl; have hcz14_1 : w13.cell? ⟨g1, 1, none⟩ = some (.int .i64 a0_1) := bc_ B1 1 rfl; have hcz14_2 : w13.cell? ⟨g1, 2, none⟩ = some (.int .i64 a0_2) := bc_ B1 2 rfl; have hcz14_3 : w13.cell? ⟨g1, 3, none⟩ = some (.int .i64 a0_3) := bc_ B1 3 rfl; have hcz14_4 : w13.cell? ⟨g1, 4, none⟩ = some (.string a0_4) := bc_ B1 4 rfl; have hcz14_5 : w13.cell? ⟨g1, 5, none⟩ = some (.int .i64 a0_5) := bc_ B1 5 rfl; have hcz14_6 : w13.cell? ⟨g1, 6, none⟩ = some (.int .i64 a0_6) := bc_ B1 6 rfl; have hcz14_7 : w13.cell? ⟨g1, 7, none⟩ = some (.bool a0_7) := bc_ B1 7 rfl; have hcz14_8 : w13.cell? ⟨g1, 8, none⟩ = some (.bool a0_8) := bc_ B1 8 rfl; have hcz14_9 : w13.cell? ⟨g1, 9, none⟩ = some (.int .i64 a0_9) := bc_ B1 9 rfl; have hcz14_10 : w13.cell? ⟨g1, 10, none⟩ = some (.int .i64 a0_10) := bc_ B1 10 rfl; have hcz14_11 : w13.cell? ⟨g1, 11, none⟩ = some (.bool a0_11) := bc_ B1 11 rfl; have hcz14_12 : w13.cell? ⟨g1, 12, none⟩ = some (.bool a0_12) := bc_ B1 12 rfl; have hcz14_13 : w13.cell? ⟨g1, 13, none⟩ = some (.slice A0_13 l0_13.length c0_13) := bc_ B1 13 rfl) | (go_at_call 11; (with_reducible refine (node_Deep.calls k a0_0 a0_1 a0_2 a0_3 a0_4 a0_5 a0_6 a0_7 a0_8 a0_9 a0_10 a0_11 a0_12 _ _ l0_13 t102 _ ?side1 ?side2 A5.out).mono ?_); (case side1 => exact ca_ (Kd.C_below HR0_13.out HB.out)); (case side2 => exact HC0_13.out); rintro e w15 ⟨rfl, hb⟩; replace B1 := bb_ B1 hb; replace HB := bs_ HB hb; ))
   go_ret
   exact fi_ (pbx HB)

end Go.Proofs.YtdddhabemdbooaaDoor.X
namespace Go.Proofs.YtdddhabemdbooaaDoor.X
open Go.RowKit Go.Proofs.YtdddhabemdbooaaDoorW.PrintWords Go.Proofs.YtdddhabemdbooaaDoorW.PrintLast Go.Proofs.YtdddhabemdbooaaDoorW.PrintMore
set_option linter.unusedVariables false
set_option linter.unusedSimpArgs false
attribute [local go_sem high] eqA23 eqA25
def node_Same.f (k : Nat) (a0_0 : Int) (a0_1 : Int) (a0_2 : Int) (a0_3 : Int) (a0_4 : ByteArray) (a0_5 : Int) (a0_6 : Int) (a0_7 : Bool) (a0_8 : Bool) (a0_9 : Int) (a0_10 : Int) (a0_11 : Bool) (a0_12 : Bool) (l0_13 : List S28) (a1_0 : Int) (a1_1 : Int) (a1_2 : Int) (a1_3 : Int) (a1_4 : ByteArray) (a1_5 : Int) (a1_6 : Int) (a1_7 : Bool) (a1_8 : Bool) (a1_9 : Int) (a1_10 : Int) (a1_11 : Bool) (a1_12 : Bool) (l1_13 : List S28) : Option Bool := if a0_0 = a1_0 ∧ a0_1 = a1_1 ∧ a0_2 = a1_2 ∧ a0_3 = a1_3 ∧ a0_4 = a1_4 ∧ a0_5 = a1_5 ∧ a0_6 = a1_6 ∧ a0_7 = a1_7 ∧ a0_8 = a1_8 ∧ a0_9 = a1_9 ∧ a0_10 = a1_10 ∧ a0_11 = a1_11 ∧ a0_12 = a1_12 ∧ l0_13.length = 0 ∧ l1_13.length = 0 then some true else none
theorem node_Same.mono : ∀ a0_0 a0_1 a0_2 a0_3 a0_4 a0_5 a0_6 a0_7 a0_8 a0_9 a0_10 a0_11 a0_12 l0_13 a1_0 a1_1 a1_2 a1_3 a1_4 a1_5 a1_6 a1_7 a1_8 a1_9 a1_10 a1_11 a1_12 l1_13 k, LeO (node_Same.f k a0_0 a0_1 a0_2 a0_3 a0_4 a0_5 a0_6 a0_7 a0_8 a0_9 a0_10 a0_11 a0_12 l0_13 a1_0 a1_1 a1_2 a1_3 a1_4 a1_5 a1_6 a1_7 a1_8 a1_9 a1_10 a1_11 a1_12 l1_13) (node_Same.f (k + 1) a0_0 a0_1 a0_2 a0_3 a0_4 a0_5 a0_6 a0_7 a0_8 a0_9 a0_10 a0_11 a0_12 l0_13 a1_0 a1_1 a1_2 a1_3 a1_4 a1_5 a1_6 a1_7 a1_8 a1_9 a1_10 a1_11 a1_12 l1_13) := fun _ _ _ _ _ _ _ _ _ _ _ _ _ _ _ _ _ _ _ _ _ _ _ _ _ _ _ _ _ => LeO.refl _
theorem node_Same.calls (k : Nat) : ∀ (a0_0 : Int) (a0_1 : Int) (a0_2 : Int) (a0_3 : Int) (a0_4 : ByteArray) (a0_5 : Int) (a0_6 : Int) (a0_7 : Bool) (a0_8 : Bool) (a0_9 : Int) (a0_10 : Int) (a0_11 : Bool) (a0_12 : Bool) (A0_13 : Option Addr) (c0_13 : Nat) (l0_13 : List (S28)) (a1_0 : Int) (a1_1 : Int) (a1_2 : Int) (a1_3 : Int) (a1_4 : ByteArray) (a1_5 : Int) (a1_6 : Int) (a1_7 : Bool) (a1_8 : Bool) (a1_9 : Int) (a1_10 : Int) (a1_11 : Bool) (a1_12 : Bool) (A1_13 : Option Addr) (c1_13 : Nat) (l1_13 : List (S28)) (r : Bool) (w : World) (hr0_13 : Kd.C k28 w A0_13 l0_13.length l0_13) (hc0_13 : l0_13.length ≤ c0_13) (hr1_13 : Kd.C k28 w A1_13 l1_13.length l1_13) (hc1_13 : l1_13.length ≤ c1_13) (h : node_Same.f k a0_0 a0_1 a0_2 a0_3 a0_4 a0_5 a0_6 a0_7 a0_8 a0_9 a0_10 a0_11 a0_12 l0_13 a1_0 a1_1 a1_2 a1_3 a1_4 a1_5 a1_6 a1_7 a1_8 a1_9 a1_10 a1_11 a1_12 l1_13 = some r),
  Calls Tryd.prog 18 #[.agg #[.int .i64 a0_0, .int .i64 a0_1, .int .i64 a0_2, .int .i64 a0_3, .string a0_4, .int .i64 a0_5, .int .i64 a0_6, .bool a0_7, .bool a0_8, .int .i64 a0_9, .int .i64 a0_10, .bool a0_11, .bool a0_12, .slice A0_13 l0_13.length c0_13], .agg #[.int .i64 a1_0, .int .i64 a1_1, .int .i64 a1_2, .int .i64 a1_3, .string a1_4, .int .i64 a1_5, .int .i64 a1_6, .bool a1_7, .bool a1_8, .int .i64 a1_9, .int .i64 a1_10, .bool a1_11, .bool a1_12, .slice A1_13 l1_13.length c1_13]] w fun e w' => e = .returned (.bool r) ∧ Below w.heap.size w w' := by
 intro a0_0 a0_1 a0_2 a0_3 a0_4 a0_5 a0_6 a0_7 a0_8 a0_9 a0_10 a0_11 a0_12 A0_13 c0_13 l0_13 a1_0 a1_1 a1_2 a1_3 a1_4 a1_5 a1_6 a1_7 a1_8 a1_9 a1_10 a1_11 a1_12 A1_13 c1_13 l1_13 r w hr0_13 hc0_13 hr1_13 hc1_13 h
 unfold node_Same.f at h
 split at h
 ·rename_i g
  obtain ⟨rfl, rfl, rfl, rfl, rfl, rfl, rfl, rfl, rfl, rfl, rfl, rfl, rfl, h0, h1⟩ := g; obtain rfl := Option.some.inj h; have hu28 := Tryd.underlying28; have hu23 := Tryd.underlying23; have hu25 := Tryd.underlying25; have HB := A_ (Below.refl w.heap.size w)
  rw [h0, h1]
  clear hr0_13 hc0_13 hr1_13 hc1_13 h h0 h1
  go_enter Tryd.func18, Tryd.ntmps18
  go_wp2
  go_loopg [52] 0 (fun kq v52 w' => v52 = .int .i64 0 ∧ Aside0 (Below w.heap.size w w'))
  case atStart => exact ⟨rfl, ⟨below_alloc (below_alloc HB.out _) _⟩⟩
  case round =>
   obtain ⟨rfl, HB⟩ := hrel
   go_wp2
   go_ret
   exact ⟨rfl, HB.out⟩
 ·cases h
end Go.Proofs.YtdddhabemdbooaaDoor.X
