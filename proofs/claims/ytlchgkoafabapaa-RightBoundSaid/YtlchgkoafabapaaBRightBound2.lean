/- Contracts of the functions that the law RightBound reaches, and what they answer (a session's own texts, joined; part 2). -/
import Derived.Test.YtlchgkoafabapaaBRightBound1
namespace Go.Proofs.Ytlchgkoafabapaa.X
open Go.RowKit Go.Proofs.YtlchgkoafabapaaW.PrintWords Go.Proofs.YtlchgkoafabapaaW.PrintLast Go.Proofs.YtlchgkoafabapaaW.PrintMore
attribute [local go_sem] max2_int min2_int max_two min_two max_three min_three max_four min_four   -- for this text's walks alone
set_option linter.unusedVariables false
set_option linter.unusedSimpArgs false

/-! ### oculuslaw06_RightBound: function 10 -/
mutual
def oculuslaw06_RightBound.j0 : Nat → List (S49) → ByteArray → Bool → Int → Int → Option (Bool)
 | 0, _, _, _, _, _ => none
 | k + 1, x0, x1, x48, x106000, x106001 => if x48 = true then ((oculuslaw06_alive.f k).bind fun t115 => (some t115)) else ((right_Holders.f k x0 x106000 x106001).bind fun t116 => (oculuslaw06_RightBound.l0 k x0 x1 false t116 (t116.length : Int) 0 x106000 x106001))
def oculuslaw06_RightBound.l0 : Nat → List (S49) → ByteArray → Bool → List ByteArray → Int → Int → Int → Int → Option (Bool)
 | 0, _, _, _, _, _, _, _, _ => none
 | k + 1, x0, x1, x10, x52, x53, x54, x106000, x106001 => if x54 < x53 then (if 0 ≤ x54 then (if x54 < (x52.length : Int) then (if x10 = true then (oculuslaw06_RightBound.l0 k x0 x1 true x52 x53 (wrap64 (x54 + 1)) x106000 x106001) else (oculuslaw06_RightBound.l0 k x0 x1 ((rdOf ByteArray.empty x52 x54).toList == x1.toList) x52 x53 (wrap64 (x54 + 1)) x106000 x106001)) else (none)) else (none)) else (if x10 = true then ((right_Leaks.f k x0 x106000 x106001).bind fun t120 => (if t120 = true then ((oculuslaw06_alive.f k).bind fun t121 => (some t121)) else (none))) else (none))
end
def oculuslaw06_RightBound.f (k : Nat) (l0 : List (S49)) (a1 : ByteArray) (a2_0 : Int) (a2_1 : Int) (a2_2 : Int) (a2_3 : Int) (a2_4 : Int) (a2_5 : Int) : Option (Bool) := if (l0.length : Int) > 60 then ((oculuslaw06_alive.f k).bind fun t102 => (some t102)) else ((right_Lowers.f k l0 a1 a2_0 a2_1 a2_2 a2_3).bind fun t106 => (if t106 = true then ((label_Meet.f a2_0 a2_1 a2_4 a2_5).bind fun bt108 => ((label_Join.f a2_2 a2_3 a2_4 a2_5).bind fun bt110 => ((right_Lowers.f k l0 a1 bt108.1 bt108.2 bt110.1 bt110.2).bind fun t112 => (if t112 = true then ((label_Below.f a2_2 a2_3 a2_4 a2_5).bind fun t113 => (if t113 = true then ((label_Below.f a2_0 a2_1 a2_4 a2_5).bind fun t114 => (oculuslaw06_RightBound.j0 k l0 a1 t114 a2_4 a2_5)) else (oculuslaw06_RightBound.j0 k l0 a1 true a2_4 a2_5))) else (none))))) else ((oculuslaw06_alive.f k).bind fun t107 => (some t107))))
theorem oculuslaw06_RightBound.mono_l : ∀ k, (∀ y0 y1 y2 y3 y4, LeO (oculuslaw06_RightBound.j0 k y0 y1 y2 y3 y4) (oculuslaw06_RightBound.j0 (k + 1) y0 y1 y2 y3 y4)) ∧ (∀ y0 y1 y2 y3 y4 y5 y6 y7, LeO (oculuslaw06_RightBound.l0 k y0 y1 y2 y3 y4 y5 y6 y7) (oculuslaw06_RightBound.l0 (k + 1) y0 y1 y2 y3 y4 y5 y6 y7))
 | 0 => ⟨fun _ _ _ _ _ r h => by simp [oculuslaw06_RightBound.j0] at h, fun _ _ _ _ _ _ _ _ r h => by simp [oculuslaw06_RightBound.l0] at h⟩
 | k + 1 => by
  obtain ⟨ih0, ih1⟩ := oculuslaw06_RightBound.mono_l k
  refine ⟨?_, ?_⟩
  ·
   intro y0 y1 y2 y3 y4
   unfold oculuslaw06_RightBound.j0
   repeat' first
   | (with_reducible exact ih0 _ _ _ _ _)
   | (with_reducible exact ih1 _ _ _ _ _ _ _ _)
   | (with_reducible exact oculuslaw06_alive.mono _)
   | (with_reducible exact right_Holders.mono _ _ _ _)
   | (with_reducible exact right_Leaks.mono _ _ _ _)
   | (with_reducible exact right_Lowers.mono _ _ _ _ _ _ _)
   | (with_reducible exact LeO.refl _)
   | (with_reducible exact LeO.none _)
   | (with_reducible refine LeO.ite ?_ ?_)
   | (with_reducible refine LeO.bind ?_ (fun _ => ?_))
   | exact ih0 _ _ _ _ _
   | exact ih1 _ _ _ _ _ _ _ _
   | exact oculuslaw06_alive.mono _
   | exact right_Holders.mono _ _ _ _
   | exact right_Leaks.mono _ _ _ _
   | exact right_Lowers.mono _ _ _ _ _ _ _
   | exact LeO.none _
   | refine LeO.ite ?_ ?_
   | refine LeO.bind ?_ (fun _ => ?_)
  ·
   intro y0 y1 y2 y3 y4 y5 y6 y7
   unfold oculuslaw06_RightBound.l0
   repeat' first
   | (with_reducible exact ih0 _ _ _ _ _)
   | (with_reducible exact ih1 _ _ _ _ _ _ _ _)
   | (with_reducible exact oculuslaw06_alive.mono _)
   | (with_reducible exact right_Holders.mono _ _ _ _)
   | (with_reducible exact right_Leaks.mono _ _ _ _)
   | (with_reducible exact right_Lowers.mono _ _ _ _ _ _ _)
   | (with_reducible exact LeO.refl _)
   | (with_reducible exact LeO.none _)
   | (with_reducible refine LeO.ite ?_ ?_)
   | (with_reducible refine LeO.bind ?_ (fun _ => ?_))
   | exact ih0 _ _ _ _ _
   | exact ih1 _ _ _ _ _ _ _ _
   | exact oculuslaw06_alive.mono _
   | exact right_Holders.mono _ _ _ _
   | exact right_Leaks.mono _ _ _ _
   | exact right_Lowers.mono _ _ _ _ _ _ _
   | exact LeO.none _
   | refine LeO.ite ?_ ?_
   | refine LeO.bind ?_ (fun _ => ?_)
theorem oculuslaw06_RightBound.mono : ∀ a0 a1 a2 a3 a4 a5 a6 a7 k, LeO (oculuslaw06_RightBound.f k a0 a1 a2 a3 a4 a5 a6 a7) (oculuslaw06_RightBound.f (k + 1) a0 a1 a2 a3 a4 a5 a6 a7) := by
 intro a0 a1 a2 a3 a4 a5 a6 a7 k
 obtain ⟨ih0, ih1⟩ := oculuslaw06_RightBound.mono_l k
 unfold oculuslaw06_RightBound.f
 repeat' first
   | (with_reducible exact ih0 _ _ _ _ _)
   | (with_reducible exact ih1 _ _ _ _ _ _ _ _)
   | (with_reducible exact oculuslaw06_alive.mono _)
   | (with_reducible exact right_Holders.mono _ _ _ _)
   | (with_reducible exact right_Leaks.mono _ _ _ _)
   | (with_reducible exact right_Lowers.mono _ _ _ _ _ _ _)
   | (with_reducible exact LeO.refl _)
   | (with_reducible exact LeO.none _)
   | (with_reducible refine LeO.ite ?_ ?_)
   | (with_reducible refine LeO.bind ?_ (fun _ => ?_))
   | exact ih0 _ _ _ _ _
   | exact ih1 _ _ _ _ _ _ _ _
   | exact oculuslaw06_alive.mono _
   | exact right_Holders.mono _ _ _ _
   | exact right_Leaks.mono _ _ _ _
   | exact right_Lowers.mono _ _ _ _ _ _ _
   | exact LeO.none _
   | refine LeO.ite ?_ ?_
   | refine LeO.bind ?_ (fun _ => ?_)
def oculuslaw06_RightBound.T3 : Bool × List (List Nat × List Nat) := (true, [([], []), ([0], [0]), ([], []), ([2], [2]), ([], []), ([4], [4]), ([], []), ([], []), ([], []), ([6, 1, 0, 1, 6, 7, 8], [1, 6]), ([7, 3, 9, 0, 1, 2, 3, 6, 7, 8, 9], [3, 7]), ([8, 5, 10, 0, 1, 2, 3, 4, 5, 6, 7, 8, 9, 10], [5, 8])])
def oculuslaw06_RightBound.B3 : List Nat := [0, 1, 0, 4, 0, 16, 0, 0, 0, 451, 975, 2047]
theorem oculuslaw06_RightBound.tab3 : rtab .any (opsOf Try.f10 3) = oculuslaw06_RightBound.T3 := by kernel_rfl
theorem oculuslaw06_RightBound.bits3 : waitsOk oculuslaw06_RightBound.T3.2 oculuslaw06_RightBound.B3 = true := by kernel_rfl
def oculuslaw06_RightBound.T6 : Bool × List (List Nat × List Nat) := (true, [([], []), ([], []), ([], []), ([], []), ([2, 3], [2, 3]), ([], []), ([], []), ([5, 6, 4], [5, 6]), ([0, 1, 4, 7, 7], [0, 1, 4, 7]), ([8], [8])])
def oculuslaw06_RightBound.B6 : List Nat := [0, 0, 0, 0, 12, 0, 0, 124, 255, 511]
theorem oculuslaw06_RightBound.tab6 : rtab .any (opsOf Try.f10 6) = oculuslaw06_RightBound.T6 := by kernel_rfl
theorem oculuslaw06_RightBound.bits6 : waitsOk oculuslaw06_RightBound.T6.2 oculuslaw06_RightBound.B6 = true := by kernel_rfl
set_option maxHeartbeats 8000000 in
set_option maxRecDepth 100000 in
theorem oculuslaw06_RightBound.calls (k : Nat) (A0 : Option Addr) (c0 : Nat) (l0 : List (S49)) (a1 : ByteArray) (a2_0 : Int) (a2_1 : Int) (a2_2 : Int) (a2_3 : Int) (a2_4 : Int) (a2_5 : Int) (r : Bool) (w : World) (hr0 : Kd.C k49 w A0 l0.length l0) (hc0 : l0.length ≤ c0) (h : oculuslaw06_RightBound.f k l0 a1 a2_0 a2_1 a2_2 a2_3 a2_4 a2_5 = some r) :
  Calls Try.prog 10 #[.slice A0 l0.length c0, .string a1, .agg #[.int .i64 a2_0, .int .u64 a2_1, .int .i64 a2_2, .int .u64 a2_3, .int .i64 a2_4, .int .u64 a2_5]] w fun e w' => e = .returned (.bool r) ∧ Below w.heap.size w w' := by
 have hu78 := Try.underlying78
 have hu26 := Try.underlying26
 have HR0 := Aside0.mk hr0
 have HC0 := Aside0.mk hc0
 clear hr0 hc0
 have HB := Aside0.mk (Below.refl w.heap.size w)
 have H : (if (l0.length : Int) > 60 then ((oculuslaw06_alive.f k).bind fun t102 => (some t102)) else ((right_Lowers.f k l0 a1 a2_0 a2_1 a2_2 a2_3).bind fun t106 => (if t106 = true then ((label_Meet.f a2_0 a2_1 a2_4 a2_5).bind fun bt108 => ((label_Join.f a2_2 a2_3 a2_4 a2_5).bind fun bt110 => ((right_Lowers.f k l0 a1 bt108.1 bt108.2 bt110.1 bt110.2).bind fun t112 => (if t112 = true then ((label_Below.f a2_2 a2_3 a2_4 a2_5).bind fun t113 => (if t113 = true then ((label_Below.f a2_0 a2_1 a2_4 a2_5).bind fun t114 => (oculuslaw06_RightBound.j0 k l0 a1 t114 a2_4 a2_5)) else (oculuslaw06_RightBound.j0 k l0 a1 true a2_4 a2_5))) else (none))))) else ((oculuslaw06_alive.f k).bind fun t107 => (some t107))))) = some r := h
 clear h
 by_cases c4 : (l0.length : Int) > 60
 ·
  rw [if_pos c4] at H
  have c4b0 : decide (60 < (l0.length : Int)) = true := decide_eq_true c4
  have c4b1 : decide (60 < l0.length) = true := decide_eq_true (by omega)
  clear c4
  replace H := Option.bind_eq_some_iff.mp H
  obtain ⟨t102, A50, H⟩ := H
  replace H : (some t102) = some r := H
  have A5 := Aside0.mk A50
  clear A50
  obtain rfl := Option.some.inj H
  go_enter Try.func10, Try.ntmps10
  go_wp2_with (first | ((with_reducible refine gate_dst (N := 5) rfl ?_); refine box_event ?hg (N := 5) ?hd (cs := #[.int .i64 a2_0, .int .u64 a2_1, .int .i64 a2_2, .int .u64 a2_3, .int .i64 a2_4, .int .u64 a2_5]) (t := 78) ?hr ?_; (case hd => rfl); (case hg => rfl); (case hr => first | (go_simp; done) | (go_simp; rfl)); intro gb101 hg w6 hbox hb; have n0_ := Aside0.mk (below_step (pbx HB) hb); have n1_ := Aside0.mk (hbox); have n2_ := Aside0.mk ((by rw [hg]; exact (below_size (pbx HB)) : w.heap.size ≤ gb101)); have n3_ := Aside0.mk ((by rw [hg]; exact (below_size (pbx HB)) : w.heap.size ≤ gb101)); clear HB; have HB := n0_; have BK101 := n1_; have GW101 := n2_; have GE101 := n3_; clear n0_ n1_ n2_ n3_; clear hb hbox hg) | ((with_reducible refine gate_callee (f := 37) rfl ?_); refine goesL_ (some 16) rfl rfl Try.func37 (by kernel_rfl) rfl #[] rfl (by (try simp only [List.map_toArray, List.map_cons, List.map_nil]); first | done | rfl | (simp only [List.length_drop, List.length_take]; rfl)) ?_; (with_reducible refine (oculuslaw06_alive.calls k  t102 _ A5.out).mono ?_); rintro e w7 ⟨rfl, hb⟩; refine ⟨_, rfl, ?_⟩; have n0_ := Aside0.mk (blk_below (pkx BK101) hb); have n1_ := Aside0.mk (below_step (pbx HB) hb); clear BK101; clear HB; have BK101 := n0_; have HB := n1_; clear n0_ n1_; (try clear hb); (try clear hb2); (try clear hk); (try clear hi)))
  go_ret
  exact ⟨by first | rfl | (simp [errW_none, errW_some] <;> rfl) | (simp [*, errW_none, errW_some] <;> rfl), pbx HB⟩
 ·
  rw [if_neg c4] at H
  have c4b0 : decide (60 < (l0.length : Int)) = false := decide_eq_false c4
  have c4b1 : decide (60 < l0.length) = false := decide_eq_false (by omega)
  clear c4
  replace H := Option.bind_eq_some_iff.mp H
  obtain ⟨t106, A80, H⟩ := H
  replace H : (if t106 = true then ((label_Meet.f a2_0 a2_1 a2_4 a2_5).bind fun bt108 => ((label_Join.f a2_2 a2_3 a2_4 a2_5).bind fun bt110 => ((right_Lowers.f k l0 a1 bt108.1 bt108.2 bt110.1 bt110.2).bind fun t112 => (if t112 = true then ((label_Below.f a2_2 a2_3 a2_4 a2_5).bind fun t113 => (if t113 = true then ((label_Below.f a2_0 a2_1 a2_4 a2_5).bind fun t114 => (oculuslaw06_RightBound.j0 k l0 a1 t114 a2_4 a2_5)) else (oculuslaw06_RightBound.j0 k l0 a1 true a2_4 a2_5))) else (none))))) else ((oculuslaw06_alive.f k).bind fun t107 => (some t107))) = some r := H
  have A8 := Aside0.mk A80
  clear A80
  by_cases c9 : t106 = true
  ·
   subst c9
   have H1 : ((label_Meet.f a2_0 a2_1 a2_4 a2_5).bind fun bt108 => ((label_Join.f a2_2 a2_3 a2_4 a2_5).bind fun bt110 => ((right_Lowers.f k l0 a1 bt108.1 bt108.2 bt110.1 bt110.2).bind fun t112 => (if t112 = true then ((label_Below.f a2_2 a2_3 a2_4 a2_5).bind fun t113 => (if t113 = true then ((label_Below.f a2_0 a2_1 a2_4 a2_5).bind fun t114 => (oculuslaw06_RightBound.j0 k l0 a1 t114 a2_4 a2_5)) else (oculuslaw06_RightBound.j0 k l0 a1 true a2_4 a2_5))) else (none))))) = some r := by rw [if_pos rfl] at H; exact H
   clear H
   have H := H1
   clear H1
   replace H := Option.bind_eq_some_iff.mp H
   obtain ⟨⟨t108, t109⟩, A100, H⟩ := H
   replace H : ((label_Join.f a2_2 a2_3 a2_4 a2_5).bind fun bt110 => ((right_Lowers.f k l0 a1 t108 t109 bt110.1 bt110.2).bind fun t112 => (if t112 = true then ((label_Below.f a2_2 a2_3 a2_4 a2_5).bind fun t113 => (if t113 = true then ((label_Below.f a2_0 a2_1 a2_4 a2_5).bind fun t114 => (oculuslaw06_RightBound.j0 k l0 a1 t114 a2_4 a2_5)) else (oculuslaw06_RightBound.j0 k l0 a1 true a2_4 a2_5))) else (none)))) = some r := H
   have A10 := Aside0.mk A100
   clear A100
   replace H := Option.bind_eq_some_iff.mp H
   obtain ⟨⟨t110, t111⟩, A110, H⟩ := H
   replace H : ((right_Lowers.f k l0 a1 t108 t109 t110 t111).bind fun t112 => (if t112 = true then ((label_Below.f a2_2 a2_3 a2_4 a2_5).bind fun t113 => (if t113 = true then ((label_Below.f a2_0 a2_1 a2_4 a2_5).bind fun t114 => (oculuslaw06_RightBound.j0 k l0 a1 t114 a2_4 a2_5)) else (oculuslaw06_RightBound.j0 k l0 a1 true a2_4 a2_5))) else (none))) = some r := H
   have A11 := Aside0.mk A110
   clear A110
   replace H := Option.bind_eq_some_iff.mp H
   obtain ⟨t112, A120, H⟩ := H
   replace H : (if t112 = true then ((label_Below.f a2_2 a2_3 a2_4 a2_5).bind fun t113 => (if t113 = true then ((label_Below.f a2_0 a2_1 a2_4 a2_5).bind fun t114 => (oculuslaw06_RightBound.j0 k l0 a1 t114 a2_4 a2_5)) else (oculuslaw06_RightBound.j0 k l0 a1 true a2_4 a2_5))) else (none)) = some r := H
   have A12 := Aside0.mk A120
   clear A120
   by_cases c13 : t112 = true
   ·
    subst c13
    have H1 : ((label_Below.f a2_2 a2_3 a2_4 a2_5).bind fun t113 => (if t113 = true then ((label_Below.f a2_0 a2_1 a2_4 a2_5).bind fun t114 => (oculuslaw06_RightBound.j0 k l0 a1 t114 a2_4 a2_5)) else (oculuslaw06_RightBound.j0 k l0 a1 true a2_4 a2_5))) = some r := by rw [if_pos rfl] at H; exact H
    clear H
    have H := H1
    clear H1
    have HC14 := Aside0.mk H
    clear H
    go_enter Try.func10, Try.ntmps10
    try go_wp2_with (first | ((with_reducible refine gate_dst (N := 5) rfl ?_); refine box_event ?hg (N := 5) ?hd (cs := #[.int .i64 a2_0, .int .u64 a2_1, .int .i64 a2_2, .int .u64 a2_3, .int .i64 a2_4, .int .u64 a2_5]) (t := 78) ?hr ?_; (case hd => rfl); (case hg => rfl); (case hr => first | (go_simp; done) | (go_simp; rfl)); intro gb101 hg w15 hbox hb; have n0_ := Aside0.mk (below_step (pbx HB) hb); have n1_ := Aside0.mk (hbox); have n2_ := Aside0.mk ((by rw [hg]; exact (below_size (pbx HB)) : w.heap.size ≤ gb101)); have n3_ := Aside0.mk ((by rw [hg]; exact (below_size (pbx HB)) : w.heap.size ≤ gb101)); clear HB; have HB := n0_; have BK101 := n1_; have GW101 := n2_; have GE101 := n3_; clear n0_ n1_ n2_ n3_; clear hb hbox hg))
    (try (rw [drewN_self w15]; generalize hq_ : World.drewN w15 _ = w15; have n0_ : Aside0 (w15.heap[gb101]? = some (.cells #[.int .i64 a2_0, .int .u64 a2_1, .int .i64 a2_2, .int .u64 a2_3, .int .i64 a2_4, .int .u64 a2_5] 78 (0, 0))) := ⟨by rw [← hq_]; exact (pkx BK101)⟩; have n1_ : Aside0 (Below w.heap.size w w15) := ⟨by rw [← hq_]; exact (pbx HB)⟩; clear BK101 HB hq_; have BK101 := n0_; have HB := n1_; clear n0_ n1_))
    have n0_ := Aside0.mk (blk_drew BK101.out)
    have n1_ := Aside0.mk (below_drew1 HB.out)
    clear BK101
    clear HB
    have BK101 := n0_
    have HB := n1_
    clear n0_ n1_
    refine start_ (n := 12) (S := fun w' => w'.cell? ⟨gb101, 0, none⟩ = some (.int .i64 a2_0) ∧ w'.cell? ⟨gb101, 1, none⟩ = some (.int .u64 a2_1) ∧ w'.cell? ⟨gb101, 2, none⟩ = some (.int .i64 a2_2) ∧ w'.cell? ⟨gb101, 3, none⟩ = some (.int .u64 a2_3) ∧ w'.cell? ⟨gb101, 4, none⟩ = some (.int .i64 a2_4) ∧ w'.cell? ⟨gb101, 5, none⟩ = some (.int .u64 a2_5)) (ds := []) #[false, false, false, false, false, false, false, false, false, false, false, false] (by kernel_rfl) rfl rfl ⟨(blk_cell BK101.out 0).trans rfl, (blk_cell BK101.out 1).trans rfl, (blk_cell BK101.out 2).trans rfl, (blk_cell BK101.out 3).trans rfl, (blk_cell BK101.out 4).trans rfl, (blk_cell BK101.out 5).trans rfl⟩ (fun hHeld => ?_); refine with_tabW oculuslaw06_RightBound.tab3 oculuslaw06_RightBound.bits3 (fun HT_ HW_ => ?_)
    generalize w15.drew = w16 at BK101 HB hHeld ⊢
    refine pure_ (i := 0) (N := some 17) (v := ?_) (a' := ?_) #[true, false, false, false, false, false, false, false, false, false, false, false] rfl rfl (any_of HT_.out (by kernel_rfl)) (fun _ _ _ h => h) (Or.inl ⟨by rfl, ?_⟩) ?_ ?_
    rotate_left
    ·
     intro w'
     go_simp
     with_reducible rfl
    rotate_left
    ·
     simp only [Act.put, q_, i64_w, i32_w]
     rfl
    refine pure_ (i := 2) (N := some 19) (v := ?_) (a' := ?_) #[true, false, true, false, false, false, false, false, false, false, false, false] rfl rfl (any_of HT_.out (by kernel_rfl)) (fun _ _ _ h => h) (Or.inl ⟨by rfl, ?_⟩) ?_ ?_
    rotate_left
    ·
     intro w'
     go_simp
     with_reducible rfl
    rotate_left
    ·
     simp only [Act.put, q_, i64_w, i32_w]
     rfl
    refine pure_ (i := 4) (N := some 21) (v := ?_) (a' := ?_) #[true, false, true, false, true, false, false, false, false, false, false, false] rfl rfl (any_of HT_.out (by kernel_rfl)) (fun _ _ _ h => h) (Or.inl ⟨by rfl, ?_⟩) ?_ ?_
    rotate_left
    ·
     intro w'
     go_simp
     with_reducible rfl
    rotate_left
    ·
     simp only [Act.put, q_, i64_w, i32_w]
     rfl
    refine take_ (i := 1) (N := some 18) (v := ?_) (a' := ?_) #[true, true, true, false, true, false, false, false, false, false, false, false] rfl rfl (take_ofW HT_.out HW_.out (by kernel_rfl)) (fun _ _ _ h => h) (Or.inl ⟨by rfl, ?_⟩) hHeld ?_ ?_
    rotate_left
    ·
     rintro w' ⟨s0, s1, s2, s3, s4, s5⟩
     go_simp
     with_reducible rfl
    rotate_left
    ·
     simp only [Act.put, q_, i64_w, i32_w]
     rfl
    refine take_ (i := 3) (N := some 20) (v := ?_) (a' := ?_) #[true, true, true, true, true, false, false, false, false, false, false, false] rfl rfl (take_ofW HT_.out HW_.out (by kernel_rfl)) (fun _ _ _ h => h) (Or.inl ⟨by rfl, ?_⟩) hHeld ?_ ?_
    rotate_left
    ·
     rintro w' ⟨s0, s1, s2, s3, s4, s5⟩
     go_simp
     with_reducible rfl
    rotate_left
    ·
     simp only [Act.put, q_, i64_w, i32_w]
     rfl
    refine take_ (i := 5) (N := some 22) (v := ?_) (a' := ?_) #[true, true, true, true, true, true, false, false, false, false, false, false] rfl rfl (take_ofW HT_.out HW_.out (by kernel_rfl)) (fun _ _ _ h => h) (Or.inl ⟨by rfl, ?_⟩) hHeld ?_ ?_
    rotate_left
    ·
     rintro w' ⟨s0, s1, s2, s3, s4, s5⟩
     go_simp
     with_reducible rfl
    rotate_left
    ·
     simp only [Act.put, q_, i64_w, i32_w]
     rfl
    refine join_ (σ := Nat × Nat × Nat) 3 #[true, true, true, true, true, true, true, true, true, false, false, false] (fun s_ => [(7, .pointer (some ⟨s_.1, 0, none⟩)), (8, .pointer (some ⟨s_.2.1, 0, none⟩)), (9, .pointer (some ⟨s_.2.2, 0, none⟩))]) (fun s_ w' => (w'.cell? ⟨gb101, 0, none⟩ = some (.int .i64 a2_0) ∧ w'.cell? ⟨gb101, 1, none⟩ = some (.int .u64 a2_1) ∧ w'.cell? ⟨gb101, 2, none⟩ = some (.int .i64 a2_2) ∧ w'.cell? ⟨gb101, 3, none⟩ = some (.int .u64 a2_3) ∧ w'.cell? ⟨gb101, 4, none⟩ = some (.int .i64 a2_4) ∧ w'.cell? ⟨gb101, 5, none⟩ = some (.int .u64 a2_5)) ∧ (w'.heap[gb101]? = some (.cells #[.int .i64 a2_0, .int .u64 a2_1, .int .i64 a2_2, .int .u64 a2_3, .int .i64 a2_4, .int .u64 a2_5] 78 (0, 0))) ∧ (w'.heap[s_.1]? = some (.cells #[.int .i64 0, .int .u64 0] 26 (0, 0))) ∧ (w'.heap[s_.2.1]? = some (.cells #[.int .i64 0, .int .u64 0] 26 (0, 0))) ∧ (w'.heap[s_.2.2]? = some (.cells #[.int .i64 0, .int .u64 0] 26 (0, 0))) ∧ (w.heap.size ≤ s_.1) ∧ (w.heap.size ≤ s_.1) ∧ (gb101 ≠ s_.1) ∧ (s_.1 ≠ gb101) ∧ (s_.2.1 ≠ s_.1) ∧ (s_.1 ≠ s_.2.1) ∧ (s_.2.2 ≠ s_.1) ∧ (s_.1 ≠ s_.2.2) ∧ (w.heap.size ≤ s_.2.1) ∧ (w.heap.size ≤ s_.2.1) ∧ (gb101 ≠ s_.2.1) ∧ (s_.2.1 ≠ gb101) ∧ (s_.2.2 ≠ s_.2.1) ∧ (s_.2.1 ≠ s_.2.2) ∧ (w.heap.size ≤ s_.2.2) ∧ (w.heap.size ≤ s_.2.2) ∧ (gb101 ≠ s_.2.2) ∧ (s_.2.2 ≠ gb101) ∧ (Below w.heap.size w w')) ?_ ?_
    rotate_left
    ·
     intro hJ6_7_8
     refine join_ (σ := Nat × Nat) 4 #[true, true, true, true, true, true, true, true, false, false, false, false] (fun s_ => [(7, .pointer (some ⟨s_.1, 0, none⟩)), (8, .pointer (some ⟨s_.2, 0, none⟩))]) (fun s_ w' => (w'.cell? ⟨gb101, 0, none⟩ = some (.int .i64 a2_0) ∧ w'.cell? ⟨gb101, 1, none⟩ = some (.int .u64 a2_1) ∧ w'.cell? ⟨gb101, 2, none⟩ = some (.int .i64 a2_2) ∧ w'.cell? ⟨gb101, 3, none⟩ = some (.int .u64 a2_3) ∧ w'.cell? ⟨gb101, 4, none⟩ = some (.int .i64 a2_4) ∧ w'.cell? ⟨gb101, 5, none⟩ = some (.int .u64 a2_5)) ∧ (w'.heap[gb101]? = some (.cells #[.int .i64 a2_0, .int .u64 a2_1, .int .i64 a2_2, .int .u64 a2_3, .int .i64 a2_4, .int .u64 a2_5] 78 (0, 0))) ∧ (w'.heap[s_.1]? = some (.cells #[.int .i64 0, .int .u64 0] 26 (0, 0))) ∧ (w'.heap[s_.2]? = some (.cells #[.int .i64 0, .int .u64 0] 26 (0, 0))) ∧ (w.heap.size ≤ s_.1) ∧ (w.heap.size ≤ s_.1) ∧ (gb101 ≠ s_.1) ∧ (s_.1 ≠ gb101) ∧ (s_.2 ≠ s_.1) ∧ (s_.1 ≠ s_.2) ∧ (w.heap.size ≤ s_.2) ∧ (w.heap.size ≤ s_.2) ∧ (gb101 ≠ s_.2) ∧ (s_.2 ≠ gb101) ∧ (Below w.heap.size w w')) ?_ ?_
     rotate_left
     ·
      intro hJ6_7
      refine join_ (σ := Nat × Nat) 4 #[true, true, true, true, true, true, true, false, true, false, false, false] (fun s_ => [(7, .pointer (some ⟨s_.1, 0, none⟩)), (9, .pointer (some ⟨s_.2, 0, none⟩))]) (fun s_ w' => (w'.cell? ⟨gb101, 0, none⟩ = some (.int .i64 a2_0) ∧ w'.cell? ⟨gb101, 1, none⟩ = some (.int .u64 a2_1) ∧ w'.cell? ⟨gb101, 2, none⟩ = some (.int .i64 a2_2) ∧ w'.cell? ⟨gb101, 3, none⟩ = some (.int .u64 a2_3) ∧ w'.cell? ⟨gb101, 4, none⟩ = some (.int .i64 a2_4) ∧ w'.cell? ⟨gb101, 5, none⟩ = some (.int .u64 a2_5)) ∧ (w'.heap[gb101]? = some (.cells #[.int .i64 a2_0, .int .u64 a2_1, .int .i64 a2_2, .int .u64 a2_3, .int .i64 a2_4, .int .u64 a2_5] 78 (0, 0))) ∧ (w'.heap[s_.1]? = some (.cells #[.int .i64 0, .int .u64 0] 26 (0, 0))) ∧ (w'.heap[s_.2]? = some (.cells #[.int .i64 0, .int .u64 0] 26 (0, 0))) ∧ (w.heap.size ≤ s_.1) ∧ (w.heap.size ≤ s_.1) ∧ (gb101 ≠ s_.1) ∧ (s_.1 ≠ gb101) ∧ (s_.2 ≠ s_.1) ∧ (s_.1 ≠ s_.2) ∧ (w.heap.size ≤ s_.2) ∧ (w.heap.size ≤ s_.2) ∧ (gb101 ≠ s_.2) ∧ (s_.2 ≠ gb101) ∧ (Below w.heap.size w w')) ?_ ?_
      rotate_left
      ·
       intro hJ6_8
       refine join_ (σ := Nat × Nat) 4 #[true, true, true, true, true, true, false, true, true, false, false, false] (fun s_ => [(8, .pointer (some ⟨s_.1, 0, none⟩)), (9, .pointer (some ⟨s_.2, 0, none⟩))]) (fun s_ w' => (w'.cell? ⟨gb101, 0, none⟩ = some (.int .i64 a2_0) ∧ w'.cell? ⟨gb101, 1, none⟩ = some (.int .u64 a2_1) ∧ w'.cell? ⟨gb101, 2, none⟩ = some (.int .i64 a2_2) ∧ w'.cell? ⟨gb101, 3, none⟩ = some (.int .u64 a2_3) ∧ w'.cell? ⟨gb101, 4, none⟩ = some (.int .i64 a2_4) ∧ w'.cell? ⟨gb101, 5, none⟩ = some (.int .u64 a2_5)) ∧ (w'.heap[gb101]? = some (.cells #[.int .i64 a2_0, .int .u64 a2_1, .int .i64 a2_2, .int .u64 a2_3, .int .i64 a2_4, .int .u64 a2_5] 78 (0, 0))) ∧ (w'.heap[s_.1]? = some (.cells #[.int .i64 0, .int .u64 0] 26 (0, 0))) ∧ (w'.heap[s_.2]? = some (.cells #[.int .i64 0, .int .u64 0] 26 (0, 0))) ∧ (w.heap.size ≤ s_.1) ∧ (w.heap.size ≤ s_.1) ∧ (gb101 ≠ s_.1) ∧ (s_.1 ≠ gb101) ∧ (s_.2 ≠ s_.1) ∧ (s_.1 ≠ s_.2) ∧ (w.heap.size ≤ s_.2) ∧ (w.heap.size ≤ s_.2) ∧ (gb101 ≠ s_.2) ∧ (s_.2 ≠ gb101) ∧ (Below w.heap.size w w')) ?_ ?_
       rotate_left
       ·
        intro hJ7_8
        refine join_ (σ := Nat) 5 #[true, true, true, true, true, true, true, false, false, false, false, false] (fun s_ => [(7, .pointer (some ⟨s_, 0, none⟩))]) (fun s_ w' => (w'.cell? ⟨gb101, 0, none⟩ = some (.int .i64 a2_0) ∧ w'.cell? ⟨gb101, 1, none⟩ = some (.int .u64 a2_1) ∧ w'.cell? ⟨gb101, 2, none⟩ = some (.int .i64 a2_2) ∧ w'.cell? ⟨gb101, 3, none⟩ = some (.int .u64 a2_3) ∧ w'.cell? ⟨gb101, 4, none⟩ = some (.int .i64 a2_4) ∧ w'.cell? ⟨gb101, 5, none⟩ = some (.int .u64 a2_5)) ∧ (w'.heap[gb101]? = some (.cells #[.int .i64 a2_0, .int .u64 a2_1, .int .i64 a2_2, .int .u64 a2_3, .int .i64 a2_4, .int .u64 a2_5] 78 (0, 0))) ∧ (w'.heap[s_]? = some (.cells #[.int .i64 0, .int .u64 0] 26 (0, 0))) ∧ (w.heap.size ≤ s_) ∧ (w.heap.size ≤ s_) ∧ (gb101 ≠ s_) ∧ (s_ ≠ gb101) ∧ (Below w.heap.size w w')) ?_ ?_
        rotate_left
        ·
         intro hJ6
         refine join_ (σ := Nat) 5 #[true, true, true, true, true, true, false, true, false, false, false, false] (fun s_ => [(8, .pointer (some ⟨s_, 0, none⟩))]) (fun s_ w' => (w'.cell? ⟨gb101, 0, none⟩ = some (.int .i64 a2_0) ∧ w'.cell? ⟨gb101, 1, none⟩ = some (.int .u64 a2_1) ∧ w'.cell? ⟨gb101, 2, none⟩ = some (.int .i64 a2_2) ∧ w'.cell? ⟨gb101, 3, none⟩ = some (.int .u64 a2_3) ∧ w'.cell? ⟨gb101, 4, none⟩ = some (.int .i64 a2_4) ∧ w'.cell? ⟨gb101, 5, none⟩ = some (.int .u64 a2_5)) ∧ (w'.heap[gb101]? = some (.cells #[.int .i64 a2_0, .int .u64 a2_1, .int .i64 a2_2, .int .u64 a2_3, .int .i64 a2_4, .int .u64 a2_5] 78 (0, 0))) ∧ (w'.heap[s_]? = some (.cells #[.int .i64 0, .int .u64 0] 26 (0, 0))) ∧ (w.heap.size ≤ s_) ∧ (w.heap.size ≤ s_) ∧ (gb101 ≠ s_) ∧ (s_ ≠ gb101) ∧ (Below w.heap.size w w')) ?_ ?_
         rotate_left
         ·
          intro hJ7
          refine join_ (σ := Nat) 5 #[true, true, true, true, true, true, false, false, true, false, false, false] (fun s_ => [(9, .pointer (some ⟨s_, 0, none⟩))]) (fun s_ w' => (w'.cell? ⟨gb101, 0, none⟩ = some (.int .i64 a2_0) ∧ w'.cell? ⟨gb101, 1, none⟩ = some (.int .u64 a2_1) ∧ w'.cell? ⟨gb101, 2, none⟩ = some (.int .i64 a2_2) ∧ w'.cell? ⟨gb101, 3, none⟩ = some (.int .u64 a2_3) ∧ w'.cell? ⟨gb101, 4, none⟩ = some (.int .i64 a2_4) ∧ w'.cell? ⟨gb101, 5, none⟩ = some (.int .u64 a2_5)) ∧ (w'.heap[gb101]? = some (.cells #[.int .i64 a2_0, .int .u64 a2_1, .int .i64 a2_2, .int .u64 a2_3, .int .i64 a2_4, .int .u64 a2_5] 78 (0, 0))) ∧ (w'.heap[s_]? = some (.cells #[.int .i64 0, .int .u64 0] 26 (0, 0))) ∧ (w.heap.size ≤ s_) ∧ (w.heap.size ≤ s_) ∧ (gb101 ≠ s_) ∧ (s_ ≠ gb101) ∧ (Below w.heap.size w w')) ?_ ?_
          rotate_left
          ·
           intro hJ8
           refine three_ (i := 6) (j := 7) (k := 8) (Ni := some 7) (Nj := some 8) (Nk := some 9) #[true, true, true, true, true, true, true, false, false, false, false, false] #[true, true, true, true, true, true, false, true, false, false, false, false] #[true, true, true, true, true, true, false, false, true, false, false, false] rfl rfl rfl rfl rfl rfl (three_of HT_.out (by kernel_rfl)) (by decide) (by decide) (by decide) (fun K hK => ?_) (fun K hK => ?_) (fun K hK => ?_)
           ·
            skip
            refine box_step ?hg (N := 7) ?hd (cs := #[.int .i64 0, .int .u64 0]) (t := 26) ?hr ?_; (case hd => rfl); (case hg => rfl); (case hr => first | (go_simp; done) | (go_simp; rfl))
            intro gb103 hg w17 hbox hb
            have n0_ := Aside0.mk (blk_below (pkx BK101) hb)
            have n1_ := Aside0.mk (below_step (pbx HB) hb)
            have n2_ := Aside0.mk (hbox)
            have n3_ := Aside0.mk ((by rw [hg]; exact (below_size (pbx HB)) : w.heap.size ≤ gb103))
            have n4_ := Aside0.mk ((by rw [hg]; exact (below_size (pbx HB)) : w.heap.size ≤ gb103))
            have n5_ := Aside0.mk ((by rw [hg]; exact Nat.ne_of_lt (blk_lt (pkx BK101)) : gb101 ≠ gb103))
            have n6_ := Aside0.mk ((by rw [hg]; exact Nat.ne_of_gt (blk_lt (pkx BK101)) : gb103 ≠ gb101))
            clear BK101
            clear HB
            have BK101 := n0_
            have HB := n1_
            have BK103 := n2_
            have GW103 := n3_
            have GE103 := n4_
            have NB101_103 := n5_
            have NB103_101 := n6_
            clear n0_ n1_ n2_ n3_ n4_ n5_ n6_
            clear hb hbox hg
            refine hK.out _ _ ⟨(blk_cell BK101.out 0).trans rfl, (blk_cell BK101.out 1).trans rfl, (blk_cell BK101.out 2).trans rfl, (blk_cell BK101.out 3).trans rfl, (blk_cell BK101.out 4).trans rfl, (blk_cell BK101.out 5).trans rfl⟩ (fun hHeld => ?_)
            clear hK K
            refine norm_ (a' := ?_) ?_ ?_
            rotate_left
            ·
             show Act.put _ (some 7) _ = _
             simp only [Act.put, q_, i64_w, i32_w]
             rfl
            exact norm_ (by first | (simp only [putAll, Act.put, q_]; done) | (simp only [putAll, Act.put, q_]; rfl)) (hJ6 (gb103) _ ⟨hHeld, (pkx BK101), (pkx BK103), GW103.out, GE103.out, NB101_103.out, NB103_101.out, (pbx HB)⟩)
           ·
            skip
            refine box_step ?hg (N := 8) ?hd (cs := #[.int .i64 0, .int .u64 0]) (t := 26) ?hr ?_; (case hd => rfl); (case hg => rfl); (case hr => first | (go_simp; done) | (go_simp; rfl))
            intro gb104 hg w17 hbox hb
            have n0_ := Aside0.mk (blk_below (pkx BK101) hb)
            have n1_ := Aside0.mk (below_step (pbx HB) hb)
            have n2_ := Aside0.mk (hbox)
            have n3_ := Aside0.mk ((by rw [hg]; exact (below_size (pbx HB)) : w.heap.size ≤ gb104))
            have n4_ := Aside0.mk ((by rw [hg]; exact (below_size (pbx HB)) : w.heap.size ≤ gb104))
            have n5_ := Aside0.mk ((by rw [hg]; exact Nat.ne_of_lt (blk_lt (pkx BK101)) : gb101 ≠ gb104))
            have n6_ := Aside0.mk ((by rw [hg]; exact Nat.ne_of_gt (blk_lt (pkx BK101)) : gb104 ≠ gb101))
            clear BK101
            clear HB
            have BK101 := n0_
            have HB := n1_
            have BK104 := n2_
            have GW104 := n3_
            have GE104 := n4_
            have NB101_104 := n5_
            have NB104_101 := n6_
            clear n0_ n1_ n2_ n3_ n4_ n5_ n6_
            clear hb hbox hg
            refine hK.out _ _ ⟨(blk_cell BK101.out 0).trans rfl, (blk_cell BK101.out 1).trans rfl, (blk_cell BK101.out 2).trans rfl, (blk_cell BK101.out 3).trans rfl, (blk_cell BK101.out 4).trans rfl, (blk_cell BK101.out 5).trans rfl⟩ (fun hHeld => ?_)
            clear hK K
            refine norm_ (a' := ?_) ?_ ?_
            rotate_left
            ·
             show Act.put _ (some 8) _ = _
             simp only [Act.put, q_, i64_w, i32_w]
             rfl
            exact norm_ (by first | (simp only [putAll, Act.put, q_]; done) | (simp only [putAll, Act.put, q_]; rfl)) (hJ7 (gb104) _ ⟨hHeld, (pkx BK101), (pkx BK104), GW104.out, GE104.out, NB101_104.out, NB104_101.out, (pbx HB)⟩)
           ·
            skip
            refine box_step ?hg (N := 9) ?hd (cs := #[.int .i64 0, .int .u64 0]) (t := 26) ?hr ?_; (case hd => rfl); (case hg => rfl); (case hr => first | (go_simp; done) | (go_simp; rfl))
            intro gb105 hg w17 hbox hb
            have n0_ := Aside0.mk (blk_below (pkx BK101) hb)
            have n1_ := Aside0.mk (below_step (pbx HB) hb)
            have n2_ := Aside0.mk (hbox)
            have n3_ := Aside0.mk ((by rw [hg]; exact (below_size (pbx HB)) : w.heap.size ≤ gb105))
            have n4_ := Aside0.mk ((by rw [hg]; exact (below_size (pbx HB)) : w.heap.size ≤ gb105))
            have n5_ := Aside0.mk ((by rw [hg]; exact Nat.ne_of_lt (blk_lt (pkx BK101)) : gb101 ≠ gb105))
            have n6_ := Aside0.mk ((by rw [hg]; exact Nat.ne_of_gt (blk_lt (pkx BK101)) : gb105 ≠ gb101))
            clear BK101
            clear HB
            have BK101 := n0_
            have HB := n1_
            have BK105 := n2_
            have GW105 := n3_
            have GE105 := n4_
            have NB101_105 := n5_
            have NB105_101 := n6_
            clear n0_ n1_ n2_ n3_ n4_ n5_ n6_
            clear hb hbox hg
            refine hK.out _ _ ⟨(blk_cell BK101.out 0).trans rfl, (blk_cell BK101.out 1).trans rfl, (blk_cell BK101.out 2).trans rfl, (blk_cell BK101.out 3).trans rfl, (blk_cell BK101.out 4).trans rfl, (blk_cell BK101.out 5).trans rfl⟩ (fun hHeld => ?_)
            clear hK K
            refine norm_ (a' := ?_) ?_ ?_
            rotate_left
            ·
             show Act.put _ (some 9) _ = _
             simp only [Act.put, q_, i64_w, i32_w]
             rfl
            exact norm_ (by first | (simp only [putAll, Act.put, q_]; done) | (simp only [putAll, Act.put, q_]; rfl)) (hJ8 (gb105) _ ⟨hHeld, (pkx BK101), (pkx BK105), GW105.out, GE105.out, NB101_105.out, NB105_101.out, (pbx HB)⟩)
          ·
           skip
           rintro gb105 w18 ⟨hS_, h0_, h1_, h2_, h3_, h4_, h5_, h6_⟩
           have n0_ : Aside0 (w18.heap[gb101]? = some (.cells #[.int .i64 a2_0, .int .u64 a2_1, .int .i64 a2_2, .int .u64 a2_3, .int .i64 a2_4, .int .u64 a2_5] 78 (0, 0))) := ⟨h0_⟩
           have n1_ : Aside0 (w18.heap[gb105]? = some (.cells #[.int .i64 0, .int .u64 0] 26 (0, 0))) := ⟨h1_⟩
           have n2_ : Aside0 (w.heap.size ≤ gb105) := ⟨h2_⟩
           have n3_ : Aside0 (w.heap.size ≤ gb105) := ⟨h3_⟩
           have n4_ : Aside0 (gb101 ≠ gb105) := ⟨h4_⟩
           have n5_ : Aside0 (gb105 ≠ gb101) := ⟨h5_⟩
           have n6_ : Aside0 (Below w.heap.size w w18) := ⟨h6_⟩
           clear BK101
           clear HB
           clear h0_ h1_ h2_ h3_ h4_ h5_ h6_
           have BK101 := n0_
           have BK105 := n1_
           have GW105 := n2_
           have GE105 := n3_
           have NB101_105 := n4_
           have NB105_101 := n5_
           have HB := n6_
           clear n0_ n1_ n2_ n3_ n4_ n5_ n6_
           have hHeld : w18.cell? ⟨gb101, 0, none⟩ = some (.int .i64 a2_0) ∧ w18.cell? ⟨gb101, 1, none⟩ = some (.int .u64 a2_1) ∧ w18.cell? ⟨gb101, 2, none⟩ = some (.int .i64 a2_2) ∧ w18.cell? ⟨gb101, 3, none⟩ = some (.int .u64 a2_3) ∧ w18.cell? ⟨gb101, 4, none⟩ = some (.int .i64 a2_4) ∧ w18.cell? ⟨gb101, 5, none⟩ = some (.int .u64 a2_5) := hS_
           refine norm_ (a' := ?_) ?_ ?_
           rotate_left
           ·
            simp only [putAll, Act.put, q_]
            rfl
           refine two_ (i := 6) (j := 7) (Ni := some 7) (Nj := some 8) #[true, true, true, true, true, true, true, false, true, false, false, false] #[true, true, true, true, true, true, false, true, true, false, false, false] rfl rfl rfl rfl (two_of HT_.out (by kernel_rfl)) (by decide) (by decide) (fun K hK => ?_) (fun K hK => ?_)
           ·
            skip
            refine box_step ?hg (N := 7) ?hd (cs := #[.int .i64 0, .int .u64 0]) (t := 26) ?hr ?_; (case hd => rfl); (case hg => rfl); (case hr => first | (go_simp; done) | (go_simp; rfl))
            intro gb103 hg w19 hbox hb
            have n0_ := Aside0.mk (blk_below (pkx BK101) hb)
            have n1_ := Aside0.mk (blk_below (pkx BK105) hb)
            have n2_ := Aside0.mk (below_step (pbx HB) hb)
            have n3_ := Aside0.mk (hbox)
            have n4_ := Aside0.mk ((by rw [hg]; exact (below_size (pbx HB)) : w.heap.size ≤ gb103))
            have n5_ := Aside0.mk ((by rw [hg]; exact (below_size (pbx HB)) : w.heap.size ≤ gb103))
            have n6_ := Aside0.mk ((by rw [hg]; exact Nat.ne_of_lt (blk_lt (pkx BK101)) : gb101 ≠ gb103))
            have n7_ := Aside0.mk ((by rw [hg]; exact Nat.ne_of_gt (blk_lt (pkx BK101)) : gb103 ≠ gb101))
            have n8_ := Aside0.mk ((by rw [hg]; exact Nat.ne_of_lt (blk_lt (pkx BK105)) : gb105 ≠ gb103))
            have n9_ := Aside0.mk ((by rw [hg]; exact Nat.ne_of_gt (blk_lt (pkx BK105)) : gb103 ≠ gb105))
            clear BK101
            clear BK105
            clear HB
            have BK101 := n0_
            have BK105 := n1_
            have HB := n2_
            have BK103 := n3_
            have GW103 := n4_
            have GE103 := n5_
            have NB101_103 := n6_
            have NB103_101 := n7_
            have NB105_103 := n8_
            have NB103_105 := n9_
            clear n0_ n1_ n2_ n3_ n4_ n5_ n6_ n7_ n8_ n9_
            clear hb hbox hg
            refine hK.out _ _ ⟨(blk_cell BK101.out 0).trans rfl, (blk_cell BK101.out 1).trans rfl, (blk_cell BK101.out 2).trans rfl, (blk_cell BK101.out 3).trans rfl, (blk_cell BK101.out 4).trans rfl, (blk_cell BK101.out 5).trans rfl⟩ (fun hHeld => ?_)
            clear hK K
            refine norm_ (a' := ?_) ?_ ?_
            rotate_left
            ·
             show Act.put _ (some 7) _ = _
             simp only [Act.put, q_, i64_w, i32_w]
             rfl
            exact norm_ (by first | (simp only [putAll, Act.put, q_]; done) | (simp only [putAll, Act.put, q_]; rfl)) (hJ6_8 (gb103, gb105) _ ⟨hHeld, (pkx BK101), (pkx BK103), (pkx BK105), GW103.out, GE103.out, NB101_103.out, NB103_101.out, NB105_103.out, NB103_105.out, GW105.out, GE105.out, NB101_105.out, NB105_101.out, (pbx HB)⟩)
           ·
            skip
            refine box_step ?hg (N := 8) ?hd (cs := #[.int .i64 0, .int .u64 0]) (t := 26) ?hr ?_; (case hd => rfl); (case hg => rfl); (case hr => first | (go_simp; done) | (go_simp; rfl))
            intro gb104 hg w19 hbox hb
            have n0_ := Aside0.mk (blk_below (pkx BK101) hb)
            have n1_ := Aside0.mk (blk_below (pkx BK105) hb)
            have n2_ := Aside0.mk (below_step (pbx HB) hb)
            have n3_ := Aside0.mk (hbox)
            have n4_ := Aside0.mk ((by rw [hg]; exact (below_size (pbx HB)) : w.heap.size ≤ gb104))
            have n5_ := Aside0.mk ((by rw [hg]; exact (below_size (pbx HB)) : w.heap.size ≤ gb104))
            have n6_ := Aside0.mk ((by rw [hg]; exact Nat.ne_of_lt (blk_lt (pkx BK101)) : gb101 ≠ gb104))
            have n7_ := Aside0.mk ((by rw [hg]; exact Nat.ne_of_gt (blk_lt (pkx BK101)) : gb104 ≠ gb101))
            have n8_ := Aside0.mk ((by rw [hg]; exact Nat.ne_of_lt (blk_lt (pkx BK105)) : gb105 ≠ gb104))
            have n9_ := Aside0.mk ((by rw [hg]; exact Nat.ne_of_gt (blk_lt (pkx BK105)) : gb104 ≠ gb105))
            clear BK101
            clear BK105
            clear HB
            have BK101 := n0_
            have BK105 := n1_
            have HB := n2_
            have BK104 := n3_
            have GW104 := n4_
            have GE104 := n5_
            have NB101_104 := n6_
            have NB104_101 := n7_
            have NB105_104 := n8_
            have NB104_105 := n9_
            clear n0_ n1_ n2_ n3_ n4_ n5_ n6_ n7_ n8_ n9_
            clear hb hbox hg
            refine hK.out _ _ ⟨(blk_cell BK101.out 0).trans rfl, (blk_cell BK101.out 1).trans rfl, (blk_cell BK101.out 2).trans rfl, (blk_cell BK101.out 3).trans rfl, (blk_cell BK101.out 4).trans rfl, (blk_cell BK101.out 5).trans rfl⟩ (fun hHeld => ?_)
            clear hK K
            refine norm_ (a' := ?_) ?_ ?_
            rotate_left
            ·
             show Act.put _ (some 8) _ = _
             simp only [Act.put, q_, i64_w, i32_w]
             rfl
            exact norm_ (by first | (simp only [putAll, Act.put, q_]; done) | (simp only [putAll, Act.put, q_]; rfl)) (hJ7_8 (gb104, gb105) _ ⟨hHeld, (pkx BK101), (pkx BK104), (pkx BK105), GW104.out, GE104.out, NB101_104.out, NB104_101.out, NB105_104.out, NB104_105.out, GW105.out, GE105.out, NB101_105.out, NB105_101.out, (pbx HB)⟩)
         ·
          skip
          rintro gb104 w18 ⟨hS_, h0_, h1_, h2_, h3_, h4_, h5_, h6_⟩
          have n0_ : Aside0 (w18.heap[gb101]? = some (.cells #[.int .i64 a2_0, .int .u64 a2_1, .int .i64 a2_2, .int .u64 a2_3, .int .i64 a2_4, .int .u64 a2_5] 78 (0, 0))) := ⟨h0_⟩
          have n1_ : Aside0 (w18.heap[gb104]? = some (.cells #[.int .i64 0, .int .u64 0] 26 (0, 0))) := ⟨h1_⟩
          have n2_ : Aside0 (w.heap.size ≤ gb104) := ⟨h2_⟩
          have n3_ : Aside0 (w.heap.size ≤ gb104) := ⟨h3_⟩
          have n4_ : Aside0 (gb101 ≠ gb104) := ⟨h4_⟩
          have n5_ : Aside0 (gb104 ≠ gb101) := ⟨h5_⟩
          have n6_ : Aside0 (Below w.heap.size w w18) := ⟨h6_⟩
          clear BK101
          clear HB
          clear h0_ h1_ h2_ h3_ h4_ h5_ h6_
          have BK101 := n0_
          have BK104 := n1_
          have GW104 := n2_
          have GE104 := n3_
          have NB101_104 := n4_
          have NB104_101 := n5_
          have HB := n6_
          clear n0_ n1_ n2_ n3_ n4_ n5_ n6_
          have hHeld : w18.cell? ⟨gb101, 0, none⟩ = some (.int .i64 a2_0) ∧ w18.cell? ⟨gb101, 1, none⟩ = some (.int .u64 a2_1) ∧ w18.cell? ⟨gb101, 2, none⟩ = some (.int .i64 a2_2) ∧ w18.cell? ⟨gb101, 3, none⟩ = some (.int .u64 a2_3) ∧ w18.cell? ⟨gb101, 4, none⟩ = some (.int .i64 a2_4) ∧ w18.cell? ⟨gb101, 5, none⟩ = some (.int .u64 a2_5) := hS_
          refine norm_ (a' := ?_) ?_ ?_
          rotate_left
          ·
           simp only [putAll, Act.put, q_]
           rfl
          refine two_ (i := 6) (j := 8) (Ni := some 7) (Nj := some 9) #[true, true, true, true, true, true, true, true, false, false, false, false] #[true, true, true, true, true, true, false, true, true, false, false, false] rfl rfl rfl rfl (two_of HT_.out (by kernel_rfl)) (by decide) (by decide) (fun K hK => ?_) (fun K hK => ?_)
          ·
           skip
           refine box_step ?hg (N := 7) ?hd (cs := #[.int .i64 0, .int .u64 0]) (t := 26) ?hr ?_; (case hd => rfl); (case hg => rfl); (case hr => first | (go_simp; done) | (go_simp; rfl))
           intro gb103 hg w19 hbox hb
           have n0_ := Aside0.mk (blk_below (pkx BK101) hb)
           have n1_ := Aside0.mk (blk_below (pkx BK104) hb)
           have n2_ := Aside0.mk (below_step (pbx HB) hb)
           have n3_ := Aside0.mk (hbox)
           have n4_ := Aside0.mk ((by rw [hg]; exact (below_size (pbx HB)) : w.heap.size ≤ gb103))
           have n5_ := Aside0.mk ((by rw [hg]; exact (below_size (pbx HB)) : w.heap.size ≤ gb103))
           have n6_ := Aside0.mk ((by rw [hg]; exact Nat.ne_of_lt (blk_lt (pkx BK101)) : gb101 ≠ gb103))
           have n7_ := Aside0.mk ((by rw [hg]; exact Nat.ne_of_gt (blk_lt (pkx BK101)) : gb103 ≠ gb101))
           have n8_ := Aside0.mk ((by rw [hg]; exact Nat.ne_of_lt (blk_lt (pkx BK104)) : gb104 ≠ gb103))
           have n9_ := Aside0.mk ((by rw [hg]; exact Nat.ne_of_gt (blk_lt (pkx BK104)) : gb103 ≠ gb104))
           clear BK101
           clear BK104
           clear HB
           have BK101 := n0_
           have BK104 := n1_
           have HB := n2_
           have BK103 := n3_
           have GW103 := n4_
           have GE103 := n5_
           have NB101_103 := n6_
           have NB103_101 := n7_
           have NB104_103 := n8_
           have NB103_104 := n9_
           clear n0_ n1_ n2_ n3_ n4_ n5_ n6_ n7_ n8_ n9_
           clear hb hbox hg
           refine hK.out _ _ ⟨(blk_cell BK101.out 0).trans rfl, (blk_cell BK101.out 1).trans rfl, (blk_cell BK101.out 2).trans rfl, (blk_cell BK101.out 3).trans rfl, (blk_cell BK101.out 4).trans rfl, (blk_cell BK101.out 5).trans rfl⟩ (fun hHeld => ?_)
           clear hK K
           refine norm_ (a' := ?_) ?_ ?_
           rotate_left
           ·
            show Act.put _ (some 7) _ = _
            simp only [Act.put, q_, i64_w, i32_w]
            rfl
           exact norm_ (by first | (simp only [putAll, Act.put, q_]; done) | (simp only [putAll, Act.put, q_]; rfl)) (hJ6_7 (gb103, gb104) _ ⟨hHeld, (pkx BK101), (pkx BK103), (pkx BK104), GW103.out, GE103.out, NB101_103.out, NB103_101.out, NB104_103.out, NB103_104.out, GW104.out, GE104.out, NB101_104.out, NB104_101.out, (pbx HB)⟩)
          ·
           skip
           refine box_step ?hg (N := 9) ?hd (cs := #[.int .i64 0, .int .u64 0]) (t := 26) ?hr ?_; (case hd => rfl); (case hg => rfl); (case hr => first | (go_simp; done) | (go_simp; rfl))
           intro gb105 hg w19 hbox hb
           have n0_ := Aside0.mk (blk_below (pkx BK101) hb)
           have n1_ := Aside0.mk (blk_below (pkx BK104) hb)
           have n2_ := Aside0.mk (below_step (pbx HB) hb)
           have n3_ := Aside0.mk (hbox)
           have n4_ := Aside0.mk ((by rw [hg]; exact (below_size (pbx HB)) : w.heap.size ≤ gb105))
           have n5_ := Aside0.mk ((by rw [hg]; exact (below_size (pbx HB)) : w.heap.size ≤ gb105))
           have n6_ := Aside0.mk ((by rw [hg]; exact Nat.ne_of_lt (blk_lt (pkx BK101)) : gb101 ≠ gb105))
           have n7_ := Aside0.mk ((by rw [hg]; exact Nat.ne_of_gt (blk_lt (pkx BK101)) : gb105 ≠ gb101))
           have n8_ := Aside0.mk ((by rw [hg]; exact Nat.ne_of_lt (blk_lt (pkx BK104)) : gb104 ≠ gb105))
           have n9_ := Aside0.mk ((by rw [hg]; exact Nat.ne_of_gt (blk_lt (pkx BK104)) : gb105 ≠ gb104))
           clear BK101
           clear BK104
           clear HB
           have BK101 := n0_
           have BK104 := n1_
           have HB := n2_
           have BK105 := n3_
           have GW105 := n4_
           have GE105 := n5_
           have NB101_105 := n6_
           have NB105_101 := n7_
           have NB104_105 := n8_
           have NB105_104 := n9_
           clear n0_ n1_ n2_ n3_ n4_ n5_ n6_ n7_ n8_ n9_
           clear hb hbox hg
           refine hK.out _ _ ⟨(blk_cell BK101.out 0).trans rfl, (blk_cell BK101.out 1).trans rfl, (blk_cell BK101.out 2).trans rfl, (blk_cell BK101.out 3).trans rfl, (blk_cell BK101.out 4).trans rfl, (blk_cell BK101.out 5).trans rfl⟩ (fun hHeld => ?_)
           clear hK K
           refine norm_ (a' := ?_) ?_ ?_
           rotate_left
           ·
            show Act.put _ (some 9) _ = _
            simp only [Act.put, q_, i64_w, i32_w]
            rfl
           exact norm_ (by first | (simp only [putAll, Act.put, q_]; done) | (simp only [putAll, Act.put, q_]; rfl)) (hJ7_8 (gb104, gb105) _ ⟨hHeld, (pkx BK101), (pkx BK104), (pkx BK105), GW104.out, GE104.out, NB101_104.out, NB104_101.out, NB105_104.out, NB104_105.out, GW105.out, GE105.out, NB101_105.out, NB105_101.out, (pbx HB)⟩)
        ·
         skip
         rintro gb103 w18 ⟨hS_, h0_, h1_, h2_, h3_, h4_, h5_, h6_⟩
         have n0_ : Aside0 (w18.heap[gb101]? = some (.cells #[.int .i64 a2_0, .int .u64 a2_1, .int .i64 a2_2, .int .u64 a2_3, .int .i64 a2_4, .int .u64 a2_5] 78 (0, 0))) := ⟨h0_⟩
         have n1_ : Aside0 (w18.heap[gb103]? = some (.cells #[.int .i64 0, .int .u64 0] 26 (0, 0))) := ⟨h1_⟩
         have n2_ : Aside0 (w.heap.size ≤ gb103) := ⟨h2_⟩
         have n3_ : Aside0 (w.heap.size ≤ gb103) := ⟨h3_⟩
         have n4_ : Aside0 (gb101 ≠ gb103) := ⟨h4_⟩
         have n5_ : Aside0 (gb103 ≠ gb101) := ⟨h5_⟩
         have n6_ : Aside0 (Below w.heap.size w w18) := ⟨h6_⟩
         clear BK101
         clear HB
         clear h0_ h1_ h2_ h3_ h4_ h5_ h6_
         have BK101 := n0_
         have BK103 := n1_
         have GW103 := n2_
         have GE103 := n3_
         have NB101_103 := n4_
         have NB103_101 := n5_
         have HB := n6_
         clear n0_ n1_ n2_ n3_ n4_ n5_ n6_
         have hHeld : w18.cell? ⟨gb101, 0, none⟩ = some (.int .i64 a2_0) ∧ w18.cell? ⟨gb101, 1, none⟩ = some (.int .u64 a2_1) ∧ w18.cell? ⟨gb101, 2, none⟩ = some (.int .i64 a2_2) ∧ w18.cell? ⟨gb101, 3, none⟩ = some (.int .u64 a2_3) ∧ w18.cell? ⟨gb101, 4, none⟩ = some (.int .i64 a2_4) ∧ w18.cell? ⟨gb101, 5, none⟩ = some (.int .u64 a2_5) := hS_
         refine norm_ (a' := ?_) ?_ ?_
         rotate_left
         ·
          simp only [putAll, Act.put, q_]
          rfl
         refine two_ (i := 7) (j := 8) (Ni := some 8) (Nj := some 9) #[true, true, true, true, true, true, true, true, false, false, false, false] #[true, true, true, true, true, true, true, false, true, false, false, false] rfl rfl rfl rfl (two_of HT_.out (by kernel_rfl)) (by decide) (by decide) (fun K hK => ?_) (fun K hK => ?_)
         ·
          skip
          refine box_step ?hg (N := 8) ?hd (cs := #[.int .i64 0, .int .u64 0]) (t := 26) ?hr ?_; (case hd => rfl); (case hg => rfl); (case hr => first | (go_simp; done) | (go_simp; rfl))
          intro gb104 hg w19 hbox hb
          have n0_ := Aside0.mk (blk_below (pkx BK101) hb)
          have n1_ := Aside0.mk (blk_below (pkx BK103) hb)
          have n2_ := Aside0.mk (below_step (pbx HB) hb)
          have n3_ := Aside0.mk (hbox)
          have n4_ := Aside0.mk ((by rw [hg]; exact (below_size (pbx HB)) : w.heap.size ≤ gb104))
          have n5_ := Aside0.mk ((by rw [hg]; exact (below_size (pbx HB)) : w.heap.size ≤ gb104))
          have n6_ := Aside0.mk ((by rw [hg]; exact Nat.ne_of_lt (blk_lt (pkx BK101)) : gb101 ≠ gb104))
          have n7_ := Aside0.mk ((by rw [hg]; exact Nat.ne_of_gt (blk_lt (pkx BK101)) : gb104 ≠ gb101))
          have n8_ := Aside0.mk ((by rw [hg]; exact Nat.ne_of_lt (blk_lt (pkx BK103)) : gb103 ≠ gb104))
          have n9_ := Aside0.mk ((by rw [hg]; exact Nat.ne_of_gt (blk_lt (pkx BK103)) : gb104 ≠ gb103))
          clear BK101
          clear BK103
          clear HB
          have BK101 := n0_
          have BK103 := n1_
          have HB := n2_
          have BK104 := n3_
          have GW104 := n4_
          have GE104 := n5_
          have NB101_104 := n6_
          have NB104_101 := n7_
          have NB103_104 := n8_
          have NB104_103 := n9_
          clear n0_ n1_ n2_ n3_ n4_ n5_ n6_ n7_ n8_ n9_
          clear hb hbox hg
          refine hK.out _ _ ⟨(blk_cell BK101.out 0).trans rfl, (blk_cell BK101.out 1).trans rfl, (blk_cell BK101.out 2).trans rfl, (blk_cell BK101.out 3).trans rfl, (blk_cell BK101.out 4).trans rfl, (blk_cell BK101.out 5).trans rfl⟩ (fun hHeld => ?_)
          clear hK K
          refine norm_ (a' := ?_) ?_ ?_
          rotate_left
          ·
           show Act.put _ (some 8) _ = _
           simp only [Act.put, q_, i64_w, i32_w]
           rfl
          exact norm_ (by first | (simp only [putAll, Act.put, q_]; done) | (simp only [putAll, Act.put, q_]; rfl)) (hJ6_7 (gb103, gb104) _ ⟨hHeld, (pkx BK101), (pkx BK103), (pkx BK104), GW103.out, GE103.out, NB101_103.out, NB103_101.out, NB104_103.out, NB103_104.out, GW104.out, GE104.out, NB101_104.out, NB104_101.out, (pbx HB)⟩)
         ·
          skip
          refine box_step ?hg (N := 9) ?hd (cs := #[.int .i64 0, .int .u64 0]) (t := 26) ?hr ?_; (case hd => rfl); (case hg => rfl); (case hr => first | (go_simp; done) | (go_simp; rfl))
          intro gb105 hg w19 hbox hb
          have n0_ := Aside0.mk (blk_below (pkx BK101) hb)
          have n1_ := Aside0.mk (blk_below (pkx BK103) hb)
          have n2_ := Aside0.mk (below_step (pbx HB) hb)
          have n3_ := Aside0.mk (hbox)
          have n4_ := Aside0.mk ((by rw [hg]; exact (below_size (pbx HB)) : w.heap.size ≤ gb105))
          have n5_ := Aside0.mk ((by rw [hg]; exact (below_size (pbx HB)) : w.heap.size ≤ gb105))
          have n6_ := Aside0.mk ((by rw [hg]; exact Nat.ne_of_lt (blk_lt (pkx BK101)) : gb101 ≠ gb105))
          have n7_ := Aside0.mk ((by rw [hg]; exact Nat.ne_of_gt (blk_lt (pkx BK101)) : gb105 ≠ gb101))
          have n8_ := Aside0.mk ((by rw [hg]; exact Nat.ne_of_lt (blk_lt (pkx BK103)) : gb103 ≠ gb105))
          have n9_ := Aside0.mk ((by rw [hg]; exact Nat.ne_of_gt (blk_lt (pkx BK103)) : gb105 ≠ gb103))
          clear BK101
          clear BK103
          clear HB
          have BK101 := n0_
          have BK103 := n1_
          have HB := n2_
          have BK105 := n3_
          have GW105 := n4_
          have GE105 := n5_
          have NB101_105 := n6_
          have NB105_101 := n7_
          have NB103_105 := n8_
          have NB105_103 := n9_
          clear n0_ n1_ n2_ n3_ n4_ n5_ n6_ n7_ n8_ n9_
          clear hb hbox hg
          refine hK.out _ _ ⟨(blk_cell BK101.out 0).trans rfl, (blk_cell BK101.out 1).trans rfl, (blk_cell BK101.out 2).trans rfl, (blk_cell BK101.out 3).trans rfl, (blk_cell BK101.out 4).trans rfl, (blk_cell BK101.out 5).trans rfl⟩ (fun hHeld => ?_)
          clear hK K
          refine norm_ (a' := ?_) ?_ ?_
          rotate_left
          ·
           show Act.put _ (some 9) _ = _
           simp only [Act.put, q_, i64_w, i32_w]
           rfl
          exact norm_ (by first | (simp only [putAll, Act.put, q_]; done) | (simp only [putAll, Act.put, q_]; rfl)) (hJ6_8 (gb103, gb105) _ ⟨hHeld, (pkx BK101), (pkx BK103), (pkx BK105), GW103.out, GE103.out, NB101_103.out, NB103_101.out, NB105_103.out, NB103_105.out, GW105.out, GE105.out, NB101_105.out, NB105_101.out, (pbx HB)⟩)
       ·
        skip
        rintro ⟨gb104, gb105⟩ w19 ⟨hS_, h0_, h1_, h2_, h3_, h4_, h5_, h6_, h7_, h8_, h9_, h10_, h11_, h12_, h13_⟩
        have n0_ : Aside0 (w19.heap[gb101]? = some (.cells #[.int .i64 a2_0, .int .u64 a2_1, .int .i64 a2_2, .int .u64 a2_3, .int .i64 a2_4, .int .u64 a2_5] 78 (0, 0))) := ⟨h0_⟩
        have n1_ : Aside0 (w19.heap[gb104]? = some (.cells #[.int .i64 0, .int .u64 0] 26 (0, 0))) := ⟨h1_⟩
        have n2_ : Aside0 (w19.heap[gb105]? = some (.cells #[.int .i64 0, .int .u64 0] 26 (0, 0))) := ⟨h2_⟩
        have n3_ : Aside0 (w.heap.size ≤ gb104) := ⟨h3_⟩
        have n4_ : Aside0 (w.heap.size ≤ gb104) := ⟨h4_⟩
        have n5_ : Aside0 (gb101 ≠ gb104) := ⟨h5_⟩
        have n6_ : Aside0 (gb104 ≠ gb101) := ⟨h6_⟩
        have n7_ : Aside0 (gb105 ≠ gb104) := ⟨h7_⟩
        have n8_ : Aside0 (gb104 ≠ gb105) := ⟨h8_⟩
        have n9_ : Aside0 (w.heap.size ≤ gb105) := ⟨h9_⟩
        have n10_ : Aside0 (w.heap.size ≤ gb105) := ⟨h10_⟩
        have n11_ : Aside0 (gb101 ≠ gb105) := ⟨h11_⟩
        have n12_ : Aside0 (gb105 ≠ gb101) := ⟨h12_⟩
        have n13_ : Aside0 (Below w.heap.size w w19) := ⟨h13_⟩
        clear BK101
        clear HB
        clear h0_ h1_ h2_ h3_ h4_ h5_ h6_ h7_ h8_ h9_ h10_ h11_ h12_ h13_
        have BK101 := n0_
        have BK104 := n1_
        have BK105 := n2_
        have GW104 := n3_
        have GE104 := n4_
        have NB101_104 := n5_
        have NB104_101 := n6_
        have NB105_104 := n7_
        have NB104_105 := n8_
        have GW105 := n9_
        have GE105 := n10_
        have NB101_105 := n11_
        have NB105_101 := n12_
        have HB := n13_
        clear n0_ n1_ n2_ n3_ n4_ n5_ n6_ n7_ n8_ n9_ n10_ n11_ n12_ n13_
        have hHeld : w19.cell? ⟨gb101, 0, none⟩ = some (.int .i64 a2_0) ∧ w19.cell? ⟨gb101, 1, none⟩ = some (.int .u64 a2_1) ∧ w19.cell? ⟨gb101, 2, none⟩ = some (.int .i64 a2_2) ∧ w19.cell? ⟨gb101, 3, none⟩ = some (.int .u64 a2_3) ∧ w19.cell? ⟨gb101, 4, none⟩ = some (.int .i64 a2_4) ∧ w19.cell? ⟨gb101, 5, none⟩ = some (.int .u64 a2_5) := hS_
        refine norm_ (a' := ?_) ?_ ?_
        rotate_left
        ·
         simp only [putAll, Act.put, q_]
         rfl
        refine one_ (i := 6) (N := some 7) #[true, true, true, true, true, true, true, true, true, false, false, false] rfl rfl (one_of HT_.out (by kernel_rfl)) (by decide) (fun K hK => ?_)
        refine box_step ?hg (N := 7) ?hd (cs := #[.int .i64 0, .int .u64 0]) (t := 26) ?hr ?_; (case hd => rfl); (case hg => rfl); (case hr => first | (go_simp; done) | (go_simp; rfl))
        intro gb103 hg w20 hbox hb
        have n0_ := Aside0.mk (blk_below (pkx BK101) hb)
        have n1_ := Aside0.mk (blk_below (pkx BK104) hb)
        have n2_ := Aside0.mk (blk_below (pkx BK105) hb)
        have n3_ := Aside0.mk (below_step (pbx HB) hb)
        have n4_ := Aside0.mk (hbox)
        have n5_ := Aside0.mk ((by rw [hg]; exact (below_size (pbx HB)) : w.heap.size ≤ gb103))
        have n6_ := Aside0.mk ((by rw [hg]; exact (below_size (pbx HB)) : w.heap.size ≤ gb103))
        have n7_ := Aside0.mk ((by rw [hg]; exact Nat.ne_of_lt (blk_lt (pkx BK101)) : gb101 ≠ gb103))
        have n8_ := Aside0.mk ((by rw [hg]; exact Nat.ne_of_gt (blk_lt (pkx BK101)) : gb103 ≠ gb101))
        have n9_ := Aside0.mk ((by rw [hg]; exact Nat.ne_of_lt (blk_lt (pkx BK104)) : gb104 ≠ gb103))
        have n10_ := Aside0.mk ((by rw [hg]; exact Nat.ne_of_gt (blk_lt (pkx BK104)) : gb103 ≠ gb104))
        have n11_ := Aside0.mk ((by rw [hg]; exact Nat.ne_of_lt (blk_lt (pkx BK105)) : gb105 ≠ gb103))
        have n12_ := Aside0.mk ((by rw [hg]; exact Nat.ne_of_gt (blk_lt (pkx BK105)) : gb103 ≠ gb105))
        clear BK101
        clear BK104
        clear BK105
        clear HB
        have BK101 := n0_
        have BK104 := n1_
        have BK105 := n2_
        have HB := n3_
        have BK103 := n4_
        have GW103 := n5_
        have GE103 := n6_
        have NB101_103 := n7_
        have NB103_101 := n8_
        have NB104_103 := n9_
        have NB103_104 := n10_
        have NB105_103 := n11_
        have NB103_105 := n12_
        clear n0_ n1_ n2_ n3_ n4_ n5_ n6_ n7_ n8_ n9_ n10_ n11_ n12_
        clear hb hbox hg
        refine hK.out _ _ ⟨(blk_cell BK101.out 0).trans rfl, (blk_cell BK101.out 1).trans rfl, (blk_cell BK101.out 2).trans rfl, (blk_cell BK101.out 3).trans rfl, (blk_cell BK101.out 4).trans rfl, (blk_cell BK101.out 5).trans rfl⟩ (fun hHeld => ?_)
        clear hK K
        refine norm_ (a' := ?_) ?_ ?_
        rotate_left
        ·
         show Act.put _ (some 7) _ = _
         simp only [Act.put, q_, i64_w, i32_w]
         rfl
        exact norm_ (by first | (simp only [putAll, Act.put, q_]; done) | (simp only [putAll, Act.put, q_]; rfl)) (hJ6_7_8 (gb103, gb104, gb105) _ ⟨hHeld, (pkx BK101), (pkx BK103), (pkx BK104), (pkx BK105), GW103.out, GE103.out, NB101_103.out, NB103_101.out, NB104_103.out, NB103_104.out, NB105_103.out, NB103_105.out, GW104.out, GE104.out, NB101_104.out, NB104_101.out, NB105_104.out, NB104_105.out, GW105.out, GE105.out, NB101_105.out, NB105_101.out, (pbx HB)⟩)
      ·
       skip
       rintro ⟨gb103, gb105⟩ w19 ⟨hS_, h0_, h1_, h2_, h3_, h4_, h5_, h6_, h7_, h8_, h9_, h10_, h11_, h12_, h13_⟩
       have n0_ : Aside0 (w19.heap[gb101]? = some (.cells #[.int .i64 a2_0, .int .u64 a2_1, .int .i64 a2_2, .int .u64 a2_3, .int .i64 a2_4, .int .u64 a2_5] 78 (0, 0))) := ⟨h0_⟩
       have n1_ : Aside0 (w19.heap[gb103]? = some (.cells #[.int .i64 0, .int .u64 0] 26 (0, 0))) := ⟨h1_⟩
       have n2_ : Aside0 (w19.heap[gb105]? = some (.cells #[.int .i64 0, .int .u64 0] 26 (0, 0))) := ⟨h2_⟩
       have n3_ : Aside0 (w.heap.size ≤ gb103) := ⟨h3_⟩
       have n4_ : Aside0 (w.heap.size ≤ gb103) := ⟨h4_⟩
       have n5_ : Aside0 (gb101 ≠ gb103) := ⟨h5_⟩
       have n6_ : Aside0 (gb103 ≠ gb101) := ⟨h6_⟩
       have n7_ : Aside0 (gb105 ≠ gb103) := ⟨h7_⟩
       have n8_ : Aside0 (gb103 ≠ gb105) := ⟨h8_⟩
       have n9_ : Aside0 (w.heap.size ≤ gb105) := ⟨h9_⟩
       have n10_ : Aside0 (w.heap.size ≤ gb105) := ⟨h10_⟩
       have n11_ : Aside0 (gb101 ≠ gb105) := ⟨h11_⟩
       have n12_ : Aside0 (gb105 ≠ gb101) := ⟨h12_⟩
       have n13_ : Aside0 (Below w.heap.size w w19) := ⟨h13_⟩
       clear BK101
       clear HB
       clear h0_ h1_ h2_ h3_ h4_ h5_ h6_ h7_ h8_ h9_ h10_ h11_ h12_ h13_
       have BK101 := n0_
       have BK103 := n1_
       have BK105 := n2_
       have GW103 := n3_
       have GE103 := n4_
       have NB101_103 := n5_
       have NB103_101 := n6_
       have NB105_103 := n7_
       have NB103_105 := n8_
       have GW105 := n9_
       have GE105 := n10_
       have NB101_105 := n11_
       have NB105_101 := n12_
       have HB := n13_
       clear n0_ n1_ n2_ n3_ n4_ n5_ n6_ n7_ n8_ n9_ n10_ n11_ n12_ n13_
       have hHeld : w19.cell? ⟨gb101, 0, none⟩ = some (.int .i64 a2_0) ∧ w19.cell? ⟨gb101, 1, none⟩ = some (.int .u64 a2_1) ∧ w19.cell? ⟨gb101, 2, none⟩ = some (.int .i64 a2_2) ∧ w19.cell? ⟨gb101, 3, none⟩ = some (.int .u64 a2_3) ∧ w19.cell? ⟨gb101, 4, none⟩ = some (.int .i64 a2_4) ∧ w19.cell? ⟨gb101, 5, none⟩ = some (.int .u64 a2_5) := hS_
       refine norm_ (a' := ?_) ?_ ?_
       rotate_left
       ·
        simp only [putAll, Act.put, q_]
        rfl
       refine one_ (i := 7) (N := some 8) #[true, true, true, true, true, true, true, true, true, false, false, false] rfl rfl (one_of HT_.out (by kernel_rfl)) (by decide) (fun K hK => ?_)
       refine box_step ?hg (N := 8) ?hd (cs := #[.int .i64 0, .int .u64 0]) (t := 26) ?hr ?_; (case hd => rfl); (case hg => rfl); (case hr => first | (go_simp; done) | (go_simp; rfl))
       intro gb104 hg w20 hbox hb
       have n0_ := Aside0.mk (blk_below (pkx BK101) hb)
       have n1_ := Aside0.mk (blk_below (pkx BK103) hb)
       have n2_ := Aside0.mk (blk_below (pkx BK105) hb)
       have n3_ := Aside0.mk (below_step (pbx HB) hb)
       have n4_ := Aside0.mk (hbox)
       have n5_ := Aside0.mk ((by rw [hg]; exact (below_size (pbx HB)) : w.heap.size ≤ gb104))
       have n6_ := Aside0.mk ((by rw [hg]; exact (below_size (pbx HB)) : w.heap.size ≤ gb104))
       have n7_ := Aside0.mk ((by rw [hg]; exact Nat.ne_of_lt (blk_lt (pkx BK101)) : gb101 ≠ gb104))
       have n8_ := Aside0.mk ((by rw [hg]; exact Nat.ne_of_gt (blk_lt (pkx BK101)) : gb104 ≠ gb101))
       have n9_ := Aside0.mk ((by rw [hg]; exact Nat.ne_of_lt (blk_lt (pkx BK103)) : gb103 ≠ gb104))
       have n10_ := Aside0.mk ((by rw [hg]; exact Nat.ne_of_gt (blk_lt (pkx BK103)) : gb104 ≠ gb103))
       have n11_ := Aside0.mk ((by rw [hg]; exact Nat.ne_of_lt (blk_lt (pkx BK105)) : gb105 ≠ gb104))
       have n12_ := Aside0.mk ((by rw [hg]; exact Nat.ne_of_gt (blk_lt (pkx BK105)) : gb104 ≠ gb105))
       clear BK101
       clear BK103
       clear BK105
       clear HB
       have BK101 := n0_
       have BK103 := n1_
       have BK105 := n2_
       have HB := n3_
       have BK104 := n4_
       have GW104 := n5_
       have GE104 := n6_
       have NB101_104 := n7_
       have NB104_101 := n8_
       have NB103_104 := n9_
       have NB104_103 := n10_
       have NB105_104 := n11_
       have NB104_105 := n12_
       clear n0_ n1_ n2_ n3_ n4_ n5_ n6_ n7_ n8_ n9_ n10_ n11_ n12_
       clear hb hbox hg
       refine hK.out _ _ ⟨(blk_cell BK101.out 0).trans rfl, (blk_cell BK101.out 1).trans rfl, (blk_cell BK101.out 2).trans rfl, (blk_cell BK101.out 3).trans rfl, (blk_cell BK101.out 4).trans rfl, (blk_cell BK101.out 5).trans rfl⟩ (fun hHeld => ?_)
       clear hK K
       refine norm_ (a' := ?_) ?_ ?_
       rotate_left
       ·
        show Act.put _ (some 8) _ = _
        simp only [Act.put, q_, i64_w, i32_w]
        rfl
       exact norm_ (by first | (simp only [putAll, Act.put, q_]; done) | (simp only [putAll, Act.put, q_]; rfl)) (hJ6_7_8 (gb103, gb104, gb105) _ ⟨hHeld, (pkx BK101), (pkx BK103), (pkx BK104), (pkx BK105), GW103.out, GE103.out, NB101_103.out, NB103_101.out, NB104_103.out, NB103_104.out, NB105_103.out, NB103_105.out, GW104.out, GE104.out, NB101_104.out, NB104_101.out, NB105_104.out, NB104_105.out, GW105.out, GE105.out, NB101_105.out, NB105_101.out, (pbx HB)⟩)
     ·
      skip
      rintro ⟨gb103, gb104⟩ w19 ⟨hS_, h0_, h1_, h2_, h3_, h4_, h5_, h6_, h7_, h8_, h9_, h10_, h11_, h12_, h13_⟩
      have n0_ : Aside0 (w19.heap[gb101]? = some (.cells #[.int .i64 a2_0, .int .u64 a2_1, .int .i64 a2_2, .int .u64 a2_3, .int .i64 a2_4, .int .u64 a2_5] 78 (0, 0))) := ⟨h0_⟩
      have n1_ : Aside0 (w19.heap[gb103]? = some (.cells #[.int .i64 0, .int .u64 0] 26 (0, 0))) := ⟨h1_⟩
      have n2_ : Aside0 (w19.heap[gb104]? = some (.cells #[.int .i64 0, .int .u64 0] 26 (0, 0))) := ⟨h2_⟩
      have n3_ : Aside0 (w.heap.size ≤ gb103) := ⟨h3_⟩
      have n4_ : Aside0 (w.heap.size ≤ gb103) := ⟨h4_⟩
      have n5_ : Aside0 (gb101 ≠ gb103) := ⟨h5_⟩
      have n6_ : Aside0 (gb103 ≠ gb101) := ⟨h6_⟩
      have n7_ : Aside0 (gb104 ≠ gb103) := ⟨h7_⟩
      have n8_ : Aside0 (gb103 ≠ gb104) := ⟨h8_⟩
      have n9_ : Aside0 (w.heap.size ≤ gb104) := ⟨h9_⟩
      have n10_ : Aside0 (w.heap.size ≤ gb104) := ⟨h10_⟩
      have n11_ : Aside0 (gb101 ≠ gb104) := ⟨h11_⟩
      have n12_ : Aside0 (gb104 ≠ gb101) := ⟨h12_⟩
      have n13_ : Aside0 (Below w.heap.size w w19) := ⟨h13_⟩
      clear BK101
      clear HB
      clear h0_ h1_ h2_ h3_ h4_ h5_ h6_ h7_ h8_ h9_ h10_ h11_ h12_ h13_
      have BK101 := n0_
      have BK103 := n1_
      have BK104 := n2_
      have GW103 := n3_
      have GE103 := n4_
      have NB101_103 := n5_
      have NB103_101 := n6_
      have NB104_103 := n7_
      have NB103_104 := n8_
      have GW104 := n9_
      have GE104 := n10_
      have NB101_104 := n11_
      have NB104_101 := n12_
      have HB := n13_
      clear n0_ n1_ n2_ n3_ n4_ n5_ n6_ n7_ n8_ n9_ n10_ n11_ n12_ n13_
      have hHeld : w19.cell? ⟨gb101, 0, none⟩ = some (.int .i64 a2_0) ∧ w19.cell? ⟨gb101, 1, none⟩ = some (.int .u64 a2_1) ∧ w19.cell? ⟨gb101, 2, none⟩ = some (.int .i64 a2_2) ∧ w19.cell? ⟨gb101, 3, none⟩ = some (.int .u64 a2_3) ∧ w19.cell? ⟨gb101, 4, none⟩ = some (.int .i64 a2_4) ∧ w19.cell? ⟨gb101, 5, none⟩ = some (.int .u64 a2_5) := hS_
      refine norm_ (a' := ?_) ?_ ?_
      rotate_left
      ·
       simp only [putAll, Act.put, q_]
       rfl
      refine one_ (i := 8) (N := some 9) #[true, true, true, true, true, true, true, true, true, false, false, false] rfl rfl (one_of HT_.out (by kernel_rfl)) (by decide) (fun K hK => ?_)
      refine box_step ?hg (N := 9) ?hd (cs := #[.int .i64 0, .int .u64 0]) (t := 26) ?hr ?_; (case hd => rfl); (case hg => rfl); (case hr => first | (go_simp; done) | (go_simp; rfl))
      intro gb105 hg w20 hbox hb
      have n0_ := Aside0.mk (blk_below (pkx BK101) hb)
      have n1_ := Aside0.mk (blk_below (pkx BK103) hb)
      have n2_ := Aside0.mk (blk_below (pkx BK104) hb)
      have n3_ := Aside0.mk (below_step (pbx HB) hb)
      have n4_ := Aside0.mk (hbox)
      have n5_ := Aside0.mk ((by rw [hg]; exact (below_size (pbx HB)) : w.heap.size ≤ gb105))
      have n6_ := Aside0.mk ((by rw [hg]; exact (below_size (pbx HB)) : w.heap.size ≤ gb105))
      have n7_ := Aside0.mk ((by rw [hg]; exact Nat.ne_of_lt (blk_lt (pkx BK101)) : gb101 ≠ gb105))
      have n8_ := Aside0.mk ((by rw [hg]; exact Nat.ne_of_gt (blk_lt (pkx BK101)) : gb105 ≠ gb101))
      have n9_ := Aside0.mk ((by rw [hg]; exact Nat.ne_of_lt (blk_lt (pkx BK103)) : gb103 ≠ gb105))
      have n10_ := Aside0.mk ((by rw [hg]; exact Nat.ne_of_gt (blk_lt (pkx BK103)) : gb105 ≠ gb103))
      have n11_ := Aside0.mk ((by rw [hg]; exact Nat.ne_of_lt (blk_lt (pkx BK104)) : gb104 ≠ gb105))
      have n12_ := Aside0.mk ((by rw [hg]; exact Nat.ne_of_gt (blk_lt (pkx BK104)) : gb105 ≠ gb104))
      clear BK101
      clear BK103
      clear BK104
      clear HB
      have BK101 := n0_
      have BK103 := n1_
      have BK104 := n2_
      have HB := n3_
      have BK105 := n4_
      have GW105 := n5_
      have GE105 := n6_
      have NB101_105 := n7_
      have NB105_101 := n8_
      have NB103_105 := n9_
      have NB105_103 := n10_
      have NB104_105 := n11_
      have NB105_104 := n12_
      clear n0_ n1_ n2_ n3_ n4_ n5_ n6_ n7_ n8_ n9_ n10_ n11_ n12_
      clear hb hbox hg
      refine hK.out _ _ ⟨(blk_cell BK101.out 0).trans rfl, (blk_cell BK101.out 1).trans rfl, (blk_cell BK101.out 2).trans rfl, (blk_cell BK101.out 3).trans rfl, (blk_cell BK101.out 4).trans rfl, (blk_cell BK101.out 5).trans rfl⟩ (fun hHeld => ?_)
      clear hK K
      refine norm_ (a' := ?_) ?_ ?_
      rotate_left
      ·
       show Act.put _ (some 9) _ = _
       simp only [Act.put, q_, i64_w, i32_w]
       rfl
      exact norm_ (by first | (simp only [putAll, Act.put, q_]; done) | (simp only [putAll, Act.put, q_]; rfl)) (hJ6_7_8 (gb103, gb104, gb105) _ ⟨hHeld, (pkx BK101), (pkx BK103), (pkx BK104), (pkx BK105), GW103.out, GE103.out, NB101_103.out, NB103_101.out, NB104_103.out, NB103_104.out, NB105_103.out, NB103_105.out, GW104.out, GE104.out, NB101_104.out, NB104_101.out, NB105_104.out, NB104_105.out, GW105.out, GE105.out, NB101_105.out, NB105_101.out, (pbx HB)⟩)
    rintro ⟨gb103, gb104, gb105⟩ w20 ⟨hS_, h0_, h1_, h2_, h3_, h4_, h5_, h6_, h7_, h8_, h9_, h10_, h11_, h12_, h13_, h14_, h15_, h16_, h17_, h18_, h19_, h20_, h21_, h22_⟩
    have n0_ : Aside0 (w20.heap[gb101]? = some (.cells #[.int .i64 a2_0, .int .u64 a2_1, .int .i64 a2_2, .int .u64 a2_3, .int .i64 a2_4, .int .u64 a2_5] 78 (0, 0))) := ⟨h0_⟩
    have n1_ : Aside0 (w20.heap[gb103]? = some (.cells #[.int .i64 0, .int .u64 0] 26 (0, 0))) := ⟨h1_⟩
    have n2_ : Aside0 (w20.heap[gb104]? = some (.cells #[.int .i64 0, .int .u64 0] 26 (0, 0))) := ⟨h2_⟩
    have n3_ : Aside0 (w20.heap[gb105]? = some (.cells #[.int .i64 0, .int .u64 0] 26 (0, 0))) := ⟨h3_⟩
    have n4_ : Aside0 (w.heap.size ≤ gb103) := ⟨h4_⟩
    have n5_ : Aside0 (w.heap.size ≤ gb103) := ⟨h5_⟩
    have n6_ : Aside0 (gb101 ≠ gb103) := ⟨h6_⟩
    have n7_ : Aside0 (gb103 ≠ gb101) := ⟨h7_⟩
    have n8_ : Aside0 (gb104 ≠ gb103) := ⟨h8_⟩
    have n9_ : Aside0 (gb103 ≠ gb104) := ⟨h9_⟩
    have n10_ : Aside0 (gb105 ≠ gb103) := ⟨h10_⟩
    have n11_ : Aside0 (gb103 ≠ gb105) := ⟨h11_⟩
    have n12_ : Aside0 (w.heap.size ≤ gb104) := ⟨h12_⟩
    have n13_ : Aside0 (w.heap.size ≤ gb104) := ⟨h13_⟩
    have n14_ : Aside0 (gb101 ≠ gb104) := ⟨h14_⟩
    have n15_ : Aside0 (gb104 ≠ gb101) := ⟨h15_⟩
    have n16_ : Aside0 (gb105 ≠ gb104) := ⟨h16_⟩
    have n17_ : Aside0 (gb104 ≠ gb105) := ⟨h17_⟩
    have n18_ : Aside0 (w.heap.size ≤ gb105) := ⟨h18_⟩
    have n19_ : Aside0 (w.heap.size ≤ gb105) := ⟨h19_⟩
    have n20_ : Aside0 (gb101 ≠ gb105) := ⟨h20_⟩
    have n21_ : Aside0 (gb105 ≠ gb101) := ⟨h21_⟩
    have n22_ : Aside0 (Below w.heap.size w w20) := ⟨h22_⟩
    clear BK101
    clear HB
    clear h0_ h1_ h2_ h3_ h4_ h5_ h6_ h7_ h8_ h9_ h10_ h11_ h12_ h13_ h14_ h15_ h16_ h17_ h18_ h19_ h20_ h21_ h22_
    have BK101 := n0_
    have BK103 := n1_
    have BK104 := n2_
    have BK105 := n3_
    have GW103 := n4_
    have GE103 := n5_
    have NB101_103 := n6_
    have NB103_101 := n7_
    have NB104_103 := n8_
    have NB103_104 := n9_
    have NB105_103 := n10_
    have NB103_105 := n11_
    have GW104 := n12_
    have GE104 := n13_
    have NB101_104 := n14_
    have NB104_101 := n15_
    have NB105_104 := n16_
    have NB104_105 := n17_
    have GW105 := n18_
    have GE105 := n19_
    have NB101_105 := n20_
    have NB105_101 := n21_
    have HB := n22_
    clear n0_ n1_ n2_ n3_ n4_ n5_ n6_ n7_ n8_ n9_ n10_ n11_ n12_ n13_ n14_ n15_ n16_ n17_ n18_ n19_ n20_ n21_ n22_
    have hHeld : w20.cell? ⟨gb101, 0, none⟩ = some (.int .i64 a2_0) ∧ w20.cell? ⟨gb101, 1, none⟩ = some (.int .u64 a2_1) ∧ w20.cell? ⟨gb101, 2, none⟩ = some (.int .i64 a2_2) ∧ w20.cell? ⟨gb101, 3, none⟩ = some (.int .u64 a2_3) ∧ w20.cell? ⟨gb101, 4, none⟩ = some (.int .i64 a2_4) ∧ w20.cell? ⟨gb101, 5, none⟩ = some (.int .u64 a2_5) := hS_
    refine norm_ (a' := ?_) ?_ ?_
    rotate_left
    ·
     simp only [putAll, Act.put, q_]
     rfl
    refine one_ (i := 9) (N := none) #[true, true, true, true, true, true, true, true, true, true, false, false] rfl rfl (one_of HT_.out (by kernel_rfl)) (by decide) (fun K hK => ?_)
    have hs21 : w20.cell? ⟨gb103, 0, none⟩ = some (.int .i64 0) := (blk_cell BK103.out 0).trans rfl
    have hfs21 := blk_frozen BK103.out 0
    have hns21_0 := NB101_103.out
    have hns21_2 := NB104_103.out
    have hns21_3 := NB105_103.out
    have hms21_0 := NB103_101.out
    have hms21_2 := NB103_104.out
    have hms21_3 := NB103_105.out
    have hs22 : w20.cell? ⟨gb103, 1, none⟩ = some (.int .u64 0) := (blk_cell BK103.out 1).trans rfl
    have hfs22 := blk_frozen BK103.out 1
    have hns22_0 := NB101_103.out
    have hns22_2 := NB104_103.out
    have hns22_3 := NB105_103.out
    have hms22_0 := NB103_101.out
    have hms22_2 := NB103_104.out
    have hms22_3 := NB103_105.out
    refine skip_ (w1 := ?_) (by rfl) rfl ?_ ?_
    rotate_left
    ·
     go_simp
     rfl
    refine hK.out _ _ ⟨((cell_far (p := ⟨gb103, _, none⟩) NB101_103.out _).trans (((cell_far (p := ⟨gb103, _, none⟩) NB101_103.out _).trans (hHeld.1)))), ((cell_far (p := ⟨gb103, _, none⟩) NB101_103.out _).trans (((cell_far (p := ⟨gb103, _, none⟩) NB101_103.out _).trans (hHeld.2.1)))), ((cell_far (p := ⟨gb103, _, none⟩) NB101_103.out _).trans (((cell_far (p := ⟨gb103, _, none⟩) NB101_103.out _).trans (hHeld.2.2.1)))), ((cell_far (p := ⟨gb103, _, none⟩) NB101_103.out _).trans (((cell_far (p := ⟨gb103, _, none⟩) NB101_103.out _).trans (hHeld.2.2.2.1)))), ((cell_far (p := ⟨gb103, _, none⟩) NB101_103.out _).trans (((cell_far (p := ⟨gb103, _, none⟩) NB101_103.out _).trans (hHeld.2.2.2.2.1)))), ((cell_far (p := ⟨gb103, _, none⟩) NB101_103.out _).trans (((cell_far (p := ⟨gb103, _, none⟩) NB101_103.out _).trans (hHeld.2.2.2.2.2))))⟩ (fun hHeld => ?_)
    clear hK K
    refine one_ (i := 10) (N := none) #[true, true, true, true, true, true, true, true, true, true, true, false] rfl rfl (one_of HT_.out (by kernel_rfl)) (by decide) (fun K hK => ?_)
    have hs23 : w20.cell? ⟨gb104, 0, none⟩ = some (.int .i64 0) := (blk_cell BK104.out 0).trans rfl
    have hfs23 := blk_frozen BK104.out 0
    have hns23_0 := NB101_104.out
    have hns23_1 := NB103_104.out
    have hns23_3 := NB105_104.out
    have hms23_0 := NB104_101.out
    have hms23_1 := NB104_103.out
    have hms23_3 := NB104_105.out
    have hs24 : w20.cell? ⟨gb104, 1, none⟩ = some (.int .u64 0) := (blk_cell BK104.out 1).trans rfl
    have hfs24 := blk_frozen BK104.out 1
    have hns24_0 := NB101_104.out
    have hns24_1 := NB103_104.out
    have hns24_3 := NB105_104.out
    have hms24_0 := NB104_101.out
    have hms24_1 := NB104_103.out
    have hms24_3 := NB104_105.out
    refine skip_ (w1 := ?_) (by rfl) rfl ?_ ?_
    rotate_left
    ·
     go_simp
     rfl
    refine hK.out _ _ ⟨((cell_far (p := ⟨gb104, _, none⟩) NB101_104.out _).trans (((cell_far (p := ⟨gb104, _, none⟩) NB101_104.out _).trans (hHeld.1)))), ((cell_far (p := ⟨gb104, _, none⟩) NB101_104.out _).trans (((cell_far (p := ⟨gb104, _, none⟩) NB101_104.out _).trans (hHeld.2.1)))), ((cell_far (p := ⟨gb104, _, none⟩) NB101_104.out _).trans (((cell_far (p := ⟨gb104, _, none⟩) NB101_104.out _).trans (hHeld.2.2.1)))), ((cell_far (p := ⟨gb104, _, none⟩) NB101_104.out _).trans (((cell_far (p := ⟨gb104, _, none⟩) NB101_104.out _).trans (hHeld.2.2.2.1)))), ((cell_far (p := ⟨gb104, _, none⟩) NB101_104.out _).trans (((cell_far (p := ⟨gb104, _, none⟩) NB101_104.out _).trans (hHeld.2.2.2.2.1)))), ((cell_far (p := ⟨gb104, _, none⟩) NB101_104.out _).trans (((cell_far (p := ⟨gb104, _, none⟩) NB101_104.out _).trans (hHeld.2.2.2.2.2))))⟩ (fun hHeld => ?_)
    clear hK K
    refine one_ (i := 11) (N := none) #[true, true, true, true, true, true, true, true, true, true, true, true] rfl rfl (one_of HT_.out (by kernel_rfl)) (by decide) (fun K hK => ?_)
    have hs25 : w20.cell? ⟨gb105, 0, none⟩ = some (.int .i64 0) := (blk_cell BK105.out 0).trans rfl
    have hfs25 := blk_frozen BK105.out 0
    have hns25_0 := NB101_105.out
    have hns25_1 := NB103_105.out
    have hns25_2 := NB104_105.out
    have hms25_0 := NB105_101.out
    have hms25_1 := NB105_103.out
    have hms25_2 := NB105_104.out
    have hs26 : w20.cell? ⟨gb105, 1, none⟩ = some (.int .u64 0) := (blk_cell BK105.out 1).trans rfl
    have hfs26 := blk_frozen BK105.out 1
    have hns26_0 := NB101_105.out
    have hns26_1 := NB103_105.out
    have hns26_2 := NB104_105.out
    have hms26_0 := NB105_101.out
    have hms26_1 := NB105_103.out
    have hms26_2 := NB105_104.out
    refine skip_ (w1 := ?_) (by rfl) rfl ?_ ?_
    rotate_left
    ·
     go_simp
     rfl
    refine hK.out _ _ ⟨((cell_far (p := ⟨gb105, _, none⟩) NB101_105.out _).trans (((cell_far (p := ⟨gb105, _, none⟩) NB101_105.out _).trans (hHeld.1)))), ((cell_far (p := ⟨gb105, _, none⟩) NB101_105.out _).trans (((cell_far (p := ⟨gb105, _, none⟩) NB101_105.out _).trans (hHeld.2.1)))), ((cell_far (p := ⟨gb105, _, none⟩) NB101_105.out _).trans (((cell_far (p := ⟨gb105, _, none⟩) NB101_105.out _).trans (hHeld.2.2.1)))), ((cell_far (p := ⟨gb105, _, none⟩) NB101_105.out _).trans (((cell_far (p := ⟨gb105, _, none⟩) NB101_105.out _).trans (hHeld.2.2.2.1)))), ((cell_far (p := ⟨gb105, _, none⟩) NB101_105.out _).trans (((cell_far (p := ⟨gb105, _, none⟩) NB101_105.out _).trans (hHeld.2.2.2.2.1)))), ((cell_far (p := ⟨gb105, _, none⟩) NB101_105.out _).trans (((cell_far (p := ⟨gb105, _, none⟩) NB101_105.out _).trans (hHeld.2.2.2.2.2))))⟩ (fun hHeld => ?_)
    clear hK K
    refine done_ (done_of HT_.out (by kernel_rfl)) ?_
    have hnb27 := NB103_101.out
    have hnc27 := NB101_103.out
    have hnb28 := NB103_104.out
    have hnc28 := NB104_103.out
    have hnb29 := NB103_105.out
    have hnc29 := NB105_103.out
    have hcz30_0 : w20.cell? ⟨gb103, 0, none⟩ = some (.int .i64 0) := (blk_cell BK103.out 0).trans rfl
    have hcz30_1 : w20.cell? ⟨gb103, 1, none⟩ = some (.int .u64 0) := (blk_cell BK103.out 1).trans rfl
    have hfz30_0 := blk_frozen BK103.out 0
    have hfz30_1 := blk_frozen BK103.out 1
    have hnb31 := NB104_101.out
    have hnc31 := NB101_104.out
    have hnb32 := NB104_105.out
    have hnc32 := NB105_104.out
    have hcz33_0 : w20.cell? ⟨gb104, 0, none⟩ = some (.int .i64 0) := (blk_cell BK104.out 0).trans rfl
    have hcz33_1 : w20.cell? ⟨gb104, 1, none⟩ = some (.int .u64 0) := (blk_cell BK104.out 1).trans rfl
    have hfz33_0 := blk_frozen BK104.out 0
    have hfz33_1 := blk_frozen BK104.out 1
    try go_wp2_with (first | ((with_reducible refine gate_callee (f := 38) rfl ?_); refine goesL_ (some 27) rfl rfl Try.func38 (by kernel_rfl) rfl #[.slice A0 l0.length c0, .string a1, .agg #[.int .i64 a2_0, .int .u64 a2_1], .agg #[.int .i64 a2_2, .int .u64 a2_3]] rfl (by (try simp only [List.map_toArray, List.map_cons, List.map_nil]); first | done | rfl | (simp only [List.length_drop, List.length_take]; rfl)) ?_; (with_reducible refine (right_Lowers.calls k _ _ l0 a1 a2_0 a2_1 a2_2 a2_3 true _ ?side1 ?side2 A8.out).mono ?_); (case side1 => exact Kd.C_below HR0.out (by repeat (first | (with_reducible first | exact HB.out | apply below_alloc | apply pw_below_drewN | apply below_drew1 | refine below_set ?_ GE101.out | refine below_set ?_ GE103.out | refine below_set ?_ GE104.out | refine below_set ?_ GE105.out) | exact HB.out))); (case side2 => exact HC0.out); rintro e w34 ⟨rfl, hb⟩; refine ⟨_, rfl, ?_⟩; have n0_ := Aside0.mk (blk_below (g := gb101) (o := .cells #[.int .i64 a2_0, .int .u64 a2_1, .int .i64 a2_2, .int .u64 a2_3, .int .i64 a2_4, .int .u64 a2_5] 78 (0, 0)) (by (with_reducible repeat (first | refine blk_drewN ?_ _ | refine blk_drew ?_ | refine blk_alloc ?_ _)); refine blk_far ?_ NB101_105.out _; (with_reducible repeat (first | refine blk_drewN ?_ _ | refine blk_drew ?_ | refine blk_alloc ?_ _)); refine blk_far ?_ NB101_105.out _; (with_reducible repeat (first | refine blk_drewN ?_ _ | refine blk_drew ?_ | refine blk_alloc ?_ _)); refine blk_far ?_ NB101_104.out _; (with_reducible repeat (first | refine blk_drewN ?_ _ | refine blk_drew ?_ | refine blk_alloc ?_ _)); refine blk_far ?_ NB101_104.out _; (with_reducible repeat (first | refine blk_drewN ?_ _ | refine blk_drew ?_ | refine blk_alloc ?_ _)); refine blk_far ?_ NB101_103.out _; (with_reducible repeat (first | refine blk_drewN ?_ _ | refine blk_drew ?_ | refine blk_alloc ?_ _)); refine blk_far ?_ NB101_103.out _; (with_reducible repeat (first | refine blk_drewN ?_ _ | refine blk_drew ?_ | refine blk_alloc ?_ _)); exact BK101.out) hb); have n1_ := Aside0.mk (blk_below (g := gb103) (o := .cells #[.int .i64 a2_0, .int .u64 a2_1] 26 (0, 0)) (by (with_reducible repeat (first | refine blk_drewN ?_ _ | refine blk_drew ?_ | refine blk_alloc ?_ _)); refine blk_far ?_ NB103_105.out _; (with_reducible repeat (first | refine blk_drewN ?_ _ | refine blk_drew ?_ | refine blk_alloc ?_ _)); refine blk_far ?_ NB103_105.out _; (with_reducible repeat (first | refine blk_drewN ?_ _ | refine blk_drew ?_ | refine blk_alloc ?_ _)); refine blk_far ?_ NB103_104.out _; (with_reducible repeat (first | refine blk_drewN ?_ _ | refine blk_drew ?_ | refine blk_alloc ?_ _)); refine blk_far ?_ NB103_104.out _; (with_reducible repeat (first | refine blk_drewN ?_ _ | refine blk_drew ?_ | refine blk_alloc ?_ _)); refine blk_put (cs := #[.int .i64 a2_0, .int .u64 0]) ?_ 1 _ rfl; (with_reducible repeat (first | refine blk_drewN ?_ _ | refine blk_drew ?_ | refine blk_alloc ?_ _)); refine blk_put (cs := #[.int .i64 0, .int .u64 0]) ?_ 0 _ rfl; (with_reducible repeat (first | refine blk_drewN ?_ _ | refine blk_drew ?_ | refine blk_alloc ?_ _)); exact BK103.out) hb); have n2_ := Aside0.mk (blk_below (g := gb104) (o := .cells #[.int .i64 a2_2, .int .u64 a2_3] 26 (0, 0)) (by (with_reducible repeat (first | refine blk_drewN ?_ _ | refine blk_drew ?_ | refine blk_alloc ?_ _)); refine blk_far ?_ NB104_105.out _; (with_reducible repeat (first | refine blk_drewN ?_ _ | refine blk_drew ?_ | refine blk_alloc ?_ _)); refine blk_far ?_ NB104_105.out _; (with_reducible repeat (first | refine blk_drewN ?_ _ | refine blk_drew ?_ | refine blk_alloc ?_ _)); refine blk_put (cs := #[.int .i64 a2_2, .int .u64 0]) ?_ 1 _ rfl; (with_reducible repeat (first | refine blk_drewN ?_ _ | refine blk_drew ?_ | refine blk_alloc ?_ _)); refine blk_put (cs := #[.int .i64 0, .int .u64 0]) ?_ 0 _ rfl; (with_reducible repeat (first | refine blk_drewN ?_ _ | refine blk_drew ?_ | refine blk_alloc ?_ _)); refine blk_far ?_ NB104_103.out _; (with_reducible repeat (first | refine blk_drewN ?_ _ | refine blk_drew ?_ | refine blk_alloc ?_ _)); refine blk_far ?_ NB104_103.out _; (with_reducible repeat (first | refine blk_drewN ?_ _ | refine blk_drew ?_ | refine blk_alloc ?_ _)); exact BK104.out) hb); have n3_ := Aside0.mk (blk_below (g := gb105) (o := .cells #[.int .i64 a2_4, .int .u64 a2_5] 26 (0, 0)) (by (with_reducible repeat (first | refine blk_drewN ?_ _ | refine blk_drew ?_ | refine blk_alloc ?_ _)); refine blk_put (cs := #[.int .i64 a2_4, .int .u64 0]) ?_ 1 _ rfl; (with_reducible repeat (first | refine blk_drewN ?_ _ | refine blk_drew ?_ | refine blk_alloc ?_ _)); refine blk_put (cs := #[.int .i64 0, .int .u64 0]) ?_ 0 _ rfl; (with_reducible repeat (first | refine blk_drewN ?_ _ | refine blk_drew ?_ | refine blk_alloc ?_ _)); refine blk_far ?_ NB105_104.out _; (with_reducible repeat (first | refine blk_drewN ?_ _ | refine blk_drew ?_ | refine blk_alloc ?_ _)); refine blk_far ?_ NB105_104.out _; (with_reducible repeat (first | refine blk_drewN ?_ _ | refine blk_drew ?_ | refine blk_alloc ?_ _)); refine blk_far ?_ NB105_103.out _; (with_reducible repeat (first | refine blk_drewN ?_ _ | refine blk_drew ?_ | refine blk_alloc ?_ _)); refine blk_far ?_ NB105_103.out _; (with_reducible repeat (first | refine blk_drewN ?_ _ | refine blk_drew ?_ | refine blk_alloc ?_ _)); exact BK105.out) hb); have n4_ := Aside0.mk (below_step (by repeat (first | (with_reducible first | exact HB.out | apply below_alloc | apply pw_below_drewN | apply below_drew1 | refine below_set ?_ GE101.out | refine below_set ?_ GE103.out | refine below_set ?_ GE104.out | refine below_set ?_ GE105.out) | exact HB.out)) hb); clear BK101; clear BK103; clear BK104; clear BK105; clear HB; have BK101 := n0_; have BK103 := n1_; have BK104 := n2_; have BK105 := n3_; have HB := n4_; clear n0_ n1_ n2_ n3_ n4_; (try clear hb); (try clear hb2); (try clear hk); (try clear hi)))
    (try (rw [drewN_self w34]; generalize hq_ : World.drewN w34 _ = w34; have n0_ : Aside0 (w34.heap[gb101]? = some (.cells #[.int .i64 a2_0, .int .u64 a2_1, .int .i64 a2_2, .int .u64 a2_3, .int .i64 a2_4, .int .u64 a2_5] 78 (0, 0))) := ⟨by rw [← hq_]; exact (pkx BK101)⟩; have n1_ : Aside0 (w34.heap[gb103]? = some (.cells #[.int .i64 a2_0, .int .u64 a2_1] 26 (0, 0))) := ⟨by rw [← hq_]; exact (pkx BK103)⟩; have n2_ : Aside0 (w34.heap[gb104]? = some (.cells #[.int .i64 a2_2, .int .u64 a2_3] 26 (0, 0))) := ⟨by rw [← hq_]; exact (pkx BK104)⟩; have n3_ : Aside0 (w34.heap[gb105]? = some (.cells #[.int .i64 a2_4, .int .u64 a2_5] 26 (0, 0))) := ⟨by rw [← hq_]; exact (pkx BK105)⟩; have n4_ : Aside0 (Below w.heap.size w w34) := ⟨by rw [← hq_]; exact (pbx HB)⟩; clear BK101 BK103 BK104 BK105 HB hq_; have BK101 := n0_; have BK103 := n1_; have BK104 := n2_; have BK105 := n3_; have HB := n4_; clear n0_ n1_ n2_ n3_ n4_))
    have n0_ := Aside0.mk (blk_drew BK101.out)
    have n1_ := Aside0.mk (blk_drew BK103.out)
    have n2_ := Aside0.mk (blk_drew BK104.out)
    have n3_ := Aside0.mk (blk_drew BK105.out)
    have n4_ := Aside0.mk (below_drew1 HB.out)
    clear BK101
    clear BK103
    clear BK104
    clear BK105
    clear HB
    have BK101 := n0_
    have BK103 := n1_
    have BK104 := n2_
    have BK105 := n3_
    have HB := n4_
    clear n0_ n1_ n2_ n3_ n4_
    refine start_ (n := 10) (S := fun w' => w'.cell? ⟨gb103, 0, none⟩ = some (.int .i64 a2_0) ∧ w'.cell? ⟨gb103, 1, none⟩ = some (.int .u64 a2_1) ∧ w'.cell? ⟨gb105, 0, none⟩ = some (.int .i64 a2_4) ∧ w'.cell? ⟨gb105, 1, none⟩ = some (.int .u64 a2_5) ∧ w'.cell? ⟨gb104, 0, none⟩ = some (.int .i64 a2_2) ∧ w'.cell? ⟨gb104, 1, none⟩ = some (.int .u64 a2_3)) (ds := []) #[false, false, false, false, false, false, false, false, false, false] (by kernel_rfl) rfl rfl ⟨(blk_cell BK103.out 0).trans rfl, (blk_cell BK103.out 1).trans rfl, (blk_cell BK105.out 0).trans rfl, (blk_cell BK105.out 1).trans rfl, (blk_cell BK104.out 0).trans rfl, (blk_cell BK104.out 1).trans rfl⟩ (fun hHeld => ?_); refine with_tabW oculuslaw06_RightBound.tab6 oculuslaw06_RightBound.bits6 (fun HT_ HW_ => ?_)
    generalize w34.drew = w35 at BK101 BK103 BK104 BK105 HB hHeld ⊢
    refine pure_ (i := 0) (N := some 30) (v := ?_) (a' := ?_) #[true, false, false, false, false, false, false, false, false, false] rfl rfl (any_of HT_.out (by kernel_rfl)) (fun _ _ _ h => h) (Or.inl ⟨by rfl, ?_⟩) ?_ ?_
    rotate_left
    ·
     intro w'
     go_simp
     with_reducible rfl
    rotate_left
    ·
     simp only [Act.put, q_, i64_w, i32_w]
     rfl
    refine pure_ (i := 1) (N := some 31) (v := ?_) (a' := ?_) #[true, true, false, false, false, false, false, false, false, false] rfl rfl (any_of HT_.out (by kernel_rfl)) (fun _ _ _ h => h) (Or.inl ⟨by rfl, ?_⟩) ?_ ?_
    rotate_left
    ·
     intro w'
     go_simp
     with_reducible rfl
    rotate_left
    ·
     simp only [Act.put, q_, i64_w, i32_w]
     rfl
    refine take_ (i := 2) (N := some 32) (v := ?_) (a' := ?_) #[true, true, true, false, false, false, false, false, false, false] rfl rfl (take_ofW HT_.out HW_.out (by kernel_rfl)) (fun _ _ _ h => h) (Or.inl ⟨by rfl, ?_⟩) hHeld ?_ ?_
    rotate_left
    ·
     rintro w' ⟨s0, s1, s2, s3, s4, s5⟩
     go_simp
     with_reducible rfl
    rotate_left
    ·
     simp only [Act.put, q_, i64_w, i32_w]
     rfl
    refine take_ (i := 3) (N := some 33) (v := ?_) (a' := ?_) #[true, true, true, true, false, false, false, false, false, false] rfl rfl (take_ofW HT_.out HW_.out (by kernel_rfl)) (fun _ _ _ h => h) (Or.inl ⟨by rfl, ?_⟩) hHeld ?_ ?_
    rotate_left
    ·
     rintro w' ⟨s0, s1, s2, s3, s4, s5⟩
     go_simp
     with_reducible rfl
    rotate_left
    ·
     simp only [Act.put, q_, i64_w, i32_w]
     rfl
    refine take_ (i := 5) (N := some 35) (v := ?_) (a' := ?_) #[true, true, true, true, false, true, false, false, false, false] rfl rfl (take_ofW HT_.out HW_.out (by kernel_rfl)) (fun _ _ _ h => h) (Or.inl ⟨by rfl, ?_⟩) hHeld ?_ ?_
    rotate_left
    ·
     rintro w' ⟨s0, s1, s2, s3, s4, s5⟩
     go_simp
     with_reducible rfl
    rotate_left
    ·
     simp only [Act.put, q_, i64_w, i32_w]
     rfl
    refine take_ (i := 6) (N := some 36) (v := ?_) (a' := ?_) #[true, true, true, true, false, true, true, false, false, false] rfl rfl (take_ofW HT_.out HW_.out (by kernel_rfl)) (fun _ _ _ h => h) (Or.inl ⟨by rfl, ?_⟩) hHeld ?_ ?_
    rotate_left
    ·
     rintro w' ⟨s0, s1, s2, s3, s4, s5⟩
     go_simp
     with_reducible rfl
    rotate_left
    ·
     simp only [Act.put, q_, i64_w, i32_w]
     rfl
    refine one_ (i := 4) (N := some 34) #[true, true, true, true, true, true, true, false, false, false] rfl rfl (one_of HT_.out (by kernel_rfl)) (by decide) (fun K hK => ?_)
    refine goes_ Try.func43 (by kernel_rfl) rfl #[.agg #[.int .i64 a2_0, .int .u64 a2_1], .agg #[.int .i64 a2_4, .int .u64 a2_5]] (by rfl) rfl rfl (by (try simp only [List.map_toArray, List.map_cons, List.map_nil]); first | done | rfl | (simp only [List.length_drop, List.length_take]; rfl)) ?_
    with_reducible refine (label_Meet.calls a2_0 a2_1 a2_4 a2_5 t108 t109 _ A10.out).mono ?_
    rintro e w36 ⟨rfl, hb⟩
    refine ⟨_, rfl, ?_⟩
    have n0_ := Aside0.mk (blk_below (pkx BK101) hb)
    have n1_ := Aside0.mk (blk_below (pkx BK103) hb)
    have n2_ := Aside0.mk (blk_below (pkx BK104) hb)
    have n3_ := Aside0.mk (blk_below (pkx BK105) hb)
    have n4_ := Aside0.mk (below_step (pbx HB) hb)
    clear BK101
    clear BK103
    clear BK104
    clear BK105
    clear HB
    have BK101 := n0_
    have BK103 := n1_
    have BK104 := n2_
    have BK105 := n3_
    have HB := n4_
    clear n0_ n1_ n2_ n3_ n4_
    (try clear hb)
    (try clear hb2)
    (try clear hk)
    (try clear hi)
    refine hK.out _ _ ⟨(blk_cell BK103.out 0).trans rfl, (blk_cell BK103.out 1).trans rfl, (blk_cell BK105.out 0).trans rfl, (blk_cell BK105.out 1).trans rfl, (blk_cell BK104.out 0).trans rfl, (blk_cell BK104.out 1).trans rfl⟩ (fun hHeld => ?_)
    clear hK K
    refine norm_ (a' := ?_) ?_ ?_
    rotate_left
    ·
     show Act.put _ (some 34) _ = _
     simp only [Act.put, q_, i64_w, i32_w]
     rfl
    refine one_ (i := 7) (N := some 37) #[true, true, true, true, true, true, true, true, false, false] rfl rfl (one_of HT_.out (by kernel_rfl)) (by decide) (fun K hK => ?_)
    refine goes_ Try.func44 (by kernel_rfl) rfl #[.agg #[.int .i64 a2_2, .int .u64 a2_3], .agg #[.int .i64 a2_4, .int .u64 a2_5]] (by rfl) rfl rfl (by (try simp only [List.map_toArray, List.map_cons, List.map_nil]); first | done | rfl | (simp only [List.length_drop, List.length_take]; rfl)) ?_
    with_reducible refine (label_Join.calls a2_2 a2_3 a2_4 a2_5 t110 t111 _ A11.out).mono ?_
    rintro e w37 ⟨rfl, hb⟩
    refine ⟨_, rfl, ?_⟩
    have n0_ := Aside0.mk (blk_below (pkx BK101) hb)
    have n1_ := Aside0.mk (blk_below (pkx BK103) hb)
    have n2_ := Aside0.mk (blk_below (pkx BK104) hb)
    have n3_ := Aside0.mk (blk_below (pkx BK105) hb)
    have n4_ := Aside0.mk (below_step (pbx HB) hb)
    clear BK101
    clear BK103
    clear BK104
    clear BK105
    clear HB
    have BK101 := n0_
    have BK103 := n1_
    have BK104 := n2_
    have BK105 := n3_
    have HB := n4_
    clear n0_ n1_ n2_ n3_ n4_
    (try clear hb)
    (try clear hb2)
    (try clear hk)
    (try clear hi)
    refine hK.out _ _ ⟨(blk_cell BK103.out 0).trans rfl, (blk_cell BK103.out 1).trans rfl, (blk_cell BK105.out 0).trans rfl, (blk_cell BK105.out 1).trans rfl, (blk_cell BK104.out 0).trans rfl, (blk_cell BK104.out 1).trans rfl⟩ (fun hHeld => ?_)
    clear hK K
    refine norm_ (a' := ?_) ?_ ?_
    rotate_left
    ·
     show Act.put _ (some 37) _ = _
     simp only [Act.put, q_, i64_w, i32_w]
     rfl
    refine one_ (i := 8) (N := some 38) #[true, true, true, true, true, true, true, true, true, false] rfl rfl (one_of HT_.out (by kernel_rfl)) (by decide) (fun K hK => ?_)
    refine goes_ Try.func38 (by kernel_rfl) rfl #[.slice A0 l0.length c0, .string a1, .agg #[.int .i64 t108, .int .u64 t109], .agg #[.int .i64 t110, .int .u64 t111]] (by rfl) rfl rfl (by (try simp only [List.map_toArray, List.map_cons, List.map_nil]); first | done | rfl | (simp only [List.length_drop, List.length_take]; rfl)) ?_
    with_reducible refine (right_Lowers.calls k _ _ l0 a1 t108 t109 t110 t111 true _ ?side1 ?side2 A12.out).mono ?_
    (case side1 => repeat (first | exact (Kd.C_below HR0.out HB.out) | (with_reducible refine Kd.C_alloc ?_ _) | (with_reducible refine Kd.C_drewN ?_ _) | (with_reducible refine Kd.C_drew ?_)))
    (case side2 => exact HC0.out)
    rintro e w38 ⟨rfl, hb⟩
    refine ⟨_, rfl, ?_⟩
    have n0_ := Aside0.mk (blk_below (pkx BK101) hb)
    have n1_ := Aside0.mk (blk_below (pkx BK103) hb)
    have n2_ := Aside0.mk (blk_below (pkx BK104) hb)
    have n3_ := Aside0.mk (blk_below (pkx BK105) hb)
    have n4_ := Aside0.mk (below_step (pbx HB) hb)
    clear BK101
    clear BK103
    clear BK104
    clear BK105
    clear HB
    have BK101 := n0_
    have BK103 := n1_
    have BK104 := n2_
    have BK105 := n3_
    have HB := n4_
    clear n0_ n1_ n2_ n3_ n4_
    (try clear hb)
    (try clear hb2)
    (try clear hk)
    (try clear hi)
    refine hK.out _ _ ⟨(blk_cell BK103.out 0).trans rfl, (blk_cell BK103.out 1).trans rfl, (blk_cell BK105.out 0).trans rfl, (blk_cell BK105.out 1).trans rfl, (blk_cell BK104.out 0).trans rfl, (blk_cell BK104.out 1).trans rfl⟩ (fun hHeld => ?_)
    clear hK K
    refine norm_ (a' := ?_) ?_ ?_
    rotate_left
    ·
     show Act.put _ (some 38) _ = _
     simp only [Act.put, q_, i64_w, i32_w]
     rfl
    refine pure_ (i := 9) (N := some 39) (v := ?_) (a' := ?_) #[true, true, true, true, true, true, true, true, true, true] rfl rfl (any_of HT_.out (by kernel_rfl)) (fun _ _ _ h => h) (Or.inl ⟨by rfl, ?_⟩) ?_ ?_
    rotate_left
    ·
     intro w'
     go_simp
     with_reducible rfl
    rotate_left
    ·
     simp only [Act.put, q_, i64_w, i32_w]
     rfl
    refine done_ (done_of HT_.out (by kernel_rfl)) ?_
    go_upto_region 8 with (fail)
    go_cut [48] (fun v48 wc => ∃ (kq : Nat) (x48_13 : Bool), v48 = .bool x48_13 ∧ Aside0 (oculuslaw06_RightBound.j0 kq l0 a1 x48_13 a2_4 a2_5 = some r) ∧ Aside0 (kq ≤ k) ∧ Aside0 (wc.heap[gb101]? = some (.cells #[.int .i64 a2_0, .int .u64 a2_1, .int .i64 a2_2, .int .u64 a2_3, .int .i64 a2_4, .int .u64 a2_5] 78 (0, 0))) ∧ Aside0 (wc.heap[gb103]? = some (.cells #[.int .i64 a2_0, .int .u64 a2_1] 26 (0, 0))) ∧ Aside0 (wc.heap[gb104]? = some (.cells #[.int .i64 a2_2, .int .u64 a2_3] 26 (0, 0))) ∧ Aside0 (wc.heap[gb105]? = some (.cells #[.int .i64 a2_4, .int .u64 a2_5] 26 (0, 0))) ∧ Aside0 (Below w.heap.size w wc))
    case first =>
     have H := HC14.out
     clear HC14
     replace H := Option.bind_eq_some_iff.mp H
     obtain ⟨t113, A390, H⟩ := H
     replace H : (if t113 = true then ((label_Below.f a2_0 a2_1 a2_4 a2_5).bind fun t114 => (oculuslaw06_RightBound.j0 k l0 a1 t114 a2_4 a2_5)) else (oculuslaw06_RightBound.j0 k l0 a1 true a2_4 a2_5)) = some r := H
     have A39 := Aside0.mk A390
     clear A390
     by_cases c40 : t113 = true
     ·
      subst c40
      have H1 : ((label_Below.f a2_0 a2_1 a2_4 a2_5).bind fun t114 => (oculuslaw06_RightBound.j0 k l0 a1 t114 a2_4 a2_5)) = some r := by rw [if_pos rfl] at H; exact H
      clear H
      have H := H1
      clear H1
      replace H := Option.bind_eq_some_iff.mp H
      obtain ⟨t114, A410, H⟩ := H
      replace H : (oculuslaw06_RightBound.j0 k l0 a1 t114 a2_4 a2_5) = some r := H
      have A41 := Aside0.mk A410
      clear A410
      have H' := Aside0.mk H
      clear H
      have hnb42 := NB104_101.out
      have hnc42 := NB101_104.out
      have hnb43 := NB104_103.out
      have hnc43 := NB103_104.out
      have hnb44 := NB104_105.out
      have hnc44 := NB105_104.out
      have hcz45_0 : w38.cell? ⟨gb104, 0, none⟩ = some (.int .i64 a2_2) := (blk_cell BK104.out 0).trans rfl
      have hcz45_1 : w38.cell? ⟨gb104, 1, none⟩ = some (.int .u64 a2_3) := (blk_cell BK104.out 1).trans rfl
      have hfz45_0 := blk_frozen BK104.out 0
      have hfz45_1 := blk_frozen BK104.out 1
      have hnb46 := NB105_101.out
      have hnc46 := NB101_105.out
      have hnb47 := NB105_103.out
      have hnc47 := NB103_105.out
      have hcz48_0 : w38.cell? ⟨gb105, 0, none⟩ = some (.int .i64 a2_4) := (blk_cell BK105.out 0).trans rfl
      have hcz48_1 : w38.cell? ⟨gb105, 1, none⟩ = some (.int .u64 a2_5) := (blk_cell BK105.out 1).trans rfl
      have hfz48_0 := blk_frozen BK105.out 0
      have hfz48_1 := blk_frozen BK105.out 1
      go_wp2_with (first | ((with_reducible refine gate_callee (f := 45) rfl ?_); refine goesL_ (some 42) rfl rfl Try.func45 (by kernel_rfl) rfl #[.agg #[.int .i64 a2_2, .int .u64 a2_3], .agg #[.int .i64 a2_4, .int .u64 a2_5]] rfl (by (try simp only [List.map_toArray, List.map_cons, List.map_nil]); first | done | rfl | (simp only [List.length_drop, List.length_take]; rfl)) ?_; (with_reducible refine (label_Below.calls a2_2 a2_3 a2_4 a2_5 true _ A39.out).mono ?_); rintro e w49 ⟨rfl, hb⟩; refine ⟨_, rfl, ?_⟩; have n0_ := Aside0.mk (blk_below (pkx BK101) hb); have n1_ := Aside0.mk (blk_below (pkx BK103) hb); have n2_ := Aside0.mk (blk_below (pkx BK104) hb); have n3_ := Aside0.mk (blk_below (pkx BK105) hb); have n4_ := Aside0.mk (below_step (pbx HB) hb); clear BK101; clear BK103; clear BK104; clear BK105; clear HB; have BK101 := n0_; have BK103 := n1_; have BK104 := n2_; have BK105 := n3_; have HB := n4_; clear n0_ n1_ n2_ n3_ n4_; (try clear hb); (try clear hb2); (try clear hk); (try clear hi); have hnb50 := NB103_101.out; have hnc50 := NB101_103.out; have hcz51_0 : w49.cell? ⟨gb103, 0, none⟩ = some (.int .i64 a2_0) := (blk_cell BK103.out 0).trans rfl; have hcz51_1 : w49.cell? ⟨gb103, 1, none⟩ = some (.int .u64 a2_1) := (blk_cell BK103.out 1).trans rfl; have hfz51_0 := blk_frozen BK103.out 0; have hfz51_1 := blk_frozen BK103.out 1; have hcz52_0 : w49.cell? ⟨gb105, 0, none⟩ = some (.int .i64 a2_4) := (blk_cell BK105.out 0).trans rfl; have hcz52_1 : w49.cell? ⟨gb105, 1, none⟩ = some (.int .u64 a2_5) := (blk_cell BK105.out 1).trans rfl; have hfz52_0 := blk_frozen BK105.out 0; have hfz52_1 := blk_frozen BK105.out 1) | (go_at_call 45; (with_reducible refine (label_Below.calls a2_0 a2_1 a2_4 a2_5 t114 _ A41.out).mono ?_); rintro e w53 ⟨rfl, hb⟩; have n0_ := Aside0.mk (blk_below (pkx BK101) hb); have n1_ := Aside0.mk (blk_below (pkx BK103) hb); have n2_ := Aside0.mk (blk_below (pkx BK104) hb); have n3_ := Aside0.mk (blk_below (pkx BK105) hb); have n4_ := Aside0.mk (below_step (pbx HB) hb); clear BK101; clear BK103; clear BK104; clear BK105; clear HB; have BK101 := n0_; have BK103 := n1_; have BK104 := n2_; have BK105 := n3_; have HB := n4_; clear n0_ n1_ n2_ n3_ n4_; (try clear hb); (try clear hb2); (try clear hk); (try clear hi)))
      go_meet
      case rel => exact ⟨_, (t114), (by first | rfl | (simp; done) | (simp [*]; done) | (cases t114 <;> simp; done)), H', ⟨by first | omega | exact Nat.le_refl _⟩, ⟨pkx BK101⟩, ⟨pkx BK103⟩, ⟨pkx BK104⟩, ⟨pkx BK105⟩, ⟨pbx HB⟩⟩
     ·
      replace c40 := Bool.eq_false_iff.mpr c40
      subst c40
      have H1 : (oculuslaw06_RightBound.j0 k l0 a1 true a2_4 a2_5) = some r := by rw [if_neg (show ¬ (false = true) by decide)] at H; exact H
      clear H
      have H := H1
      clear H1
      have H' := Aside0.mk H
      clear H
      have hnb54 := NB104_101.out
      have hnc54 := NB101_104.out
      have hnb55 := NB104_103.out
      have hnc55 := NB103_104.out
      have hnb56 := NB104_105.out
      have hnc56 := NB105_104.out
      have hcz57_0 : w38.cell? ⟨gb104, 0, none⟩ = some (.int .i64 a2_2) := (blk_cell BK104.out 0).trans rfl
      have hcz57_1 : w38.cell? ⟨gb104, 1, none⟩ = some (.int .u64 a2_3) := (blk_cell BK104.out 1).trans rfl
      have hfz57_0 := blk_frozen BK104.out 0
      have hfz57_1 := blk_frozen BK104.out 1
      have hnb58 := NB105_101.out
      have hnc58 := NB101_105.out
      have hnb59 := NB105_103.out
      have hnc59 := NB103_105.out
      have hcz60_0 : w38.cell? ⟨gb105, 0, none⟩ = some (.int .i64 a2_4) := (blk_cell BK105.out 0).trans rfl
      have hcz60_1 : w38.cell? ⟨gb105, 1, none⟩ = some (.int .u64 a2_5) := (blk_cell BK105.out 1).trans rfl
      have hfz60_0 := blk_frozen BK105.out 0
      have hfz60_1 := blk_frozen BK105.out 1
      go_wp2_with (first | ((with_reducible refine gate_callee (f := 45) rfl ?_); refine goesL_ (some 42) rfl rfl Try.func45 (by kernel_rfl) rfl #[.agg #[.int .i64 a2_2, .int .u64 a2_3], .agg #[.int .i64 a2_4, .int .u64 a2_5]] rfl (by (try simp only [List.map_toArray, List.map_cons, List.map_nil]); first | done | rfl | (simp only [List.length_drop, List.length_take]; rfl)) ?_; (with_reducible refine (label_Below.calls a2_2 a2_3 a2_4 a2_5 false _ A39.out).mono ?_); rintro e w61 ⟨rfl, hb⟩; refine ⟨_, rfl, ?_⟩; have n0_ := Aside0.mk (blk_below (pkx BK101) hb); have n1_ := Aside0.mk (blk_below (pkx BK103) hb); have n2_ := Aside0.mk (blk_below (pkx BK104) hb); have n3_ := Aside0.mk (blk_below (pkx BK105) hb); have n4_ := Aside0.mk (below_step (pbx HB) hb); clear BK101; clear BK103; clear BK104; clear BK105; clear HB; have BK101 := n0_; have BK103 := n1_; have BK104 := n2_; have BK105 := n3_; have HB := n4_; clear n0_ n1_ n2_ n3_ n4_; (try clear hb); (try clear hb2); (try clear hk); (try clear hi)))
      go_meet
      case rel => exact ⟨_, (true), (by first | rfl | (simp; done) | (simp [*]; done)), H', ⟨by first | omega | exact Nat.le_refl _⟩, ⟨pkx BK101⟩, ⟨pkx BK103⟩, ⟨pkx BK104⟩, ⟨pkx BK105⟩, ⟨pbx HB⟩⟩
    case rest =>
     clear HC14
     try clear c2
     try clear p2
     try clear c3
     try clear c4
     try clear c5
     try clear c27
     try clear c28
     try clear c29
     try clear c31
     try clear c32
     try clear c38
     try clear c40
     try clear c42
     try clear c43
     try clear c44
     try clear c45
     try clear c46
     try clear c47
     try clear c50
     try clear c54
     try clear c55
     try clear c56
     try clear c58
     try clear c59
     try clear hcz30_0
     try clear hcz30_1
     try clear hcz33_0
     try clear hcz33_1
     try clear hcz45_0
     try clear hcz45_1
     try clear hcz48_0
     try clear hcz48_1
     try clear hcz51_0
     try clear hcz51_1
     try clear hcz52_0
     try clear hcz52_1
     try clear hcz57_0
     try clear hcz57_1
     try clear hcz60_0
     try clear hcz60_1
     try clear hfz30_0
     try clear hfz30_1
     try clear hfz33_0
     try clear hfz33_1
     try clear hfz45_0
     try clear hfz45_1
     try clear hfz48_0
     try clear hfz48_1
     try clear hfz51_0
     try clear hfz51_1
     try clear hfz52_0
     try clear hfz52_1
     try clear hfz57_0
     try clear hfz57_1
     try clear hfz60_0
     try clear hfz60_1
     obtain ⟨kq, x48_13, rfl, HA, HJ13, BK101, BK103, BK104, BK105, HB⟩ := hcut
     cases kq with
     | zero => exact absurd HA.out (by simp [oculuslaw06_RightBound.j0])
     | succ kj13 =>
      have H := HA.out
      clear HA
      simp only [oculuslaw06_RightBound.j0] at H
      by_cases c62 : x48_13 = true
      ·
       subst c62
       have H1 : ((oculuslaw06_alive.f kj13).bind fun t115 => (some t115)) = some r := by rw [if_pos rfl] at H; exact H
       clear H
       have H := H1
       clear H1
       replace H := Option.bind_eq_some_iff.mp H
       obtain ⟨t115, A630, H⟩ := H
       replace H : (some t115) = some r := H
       have A63 := Aside0.mk A630
       clear A630
       obtain rfl := Option.some.inj H
       go_wp2_with (first | ((with_reducible refine gate_callee (f := 37) rfl ?_); refine goesL_ (some 49) rfl rfl Try.func37 (by kernel_rfl) rfl #[] rfl (by (try simp only [List.map_toArray, List.map_cons, List.map_nil]); first | done | rfl | (simp only [List.length_drop, List.length_take]; rfl)) ?_; (with_reducible refine (oculuslaw06_alive.calls kj13  t115 _ A63.out).mono ?_); rintro e w64 ⟨rfl, hb⟩; refine ⟨_, rfl, ?_⟩; have n0_ := Aside0.mk (blk_below (pkx BK101) hb); have n1_ := Aside0.mk (blk_below (pkx BK103) hb); have n2_ := Aside0.mk (blk_below (pkx BK104) hb); have n3_ := Aside0.mk (blk_below (pkx BK105) hb); have n4_ := Aside0.mk (below_step (pbx HB) hb); clear BK101; clear BK103; clear BK104; clear BK105; clear HB; have BK101 := n0_; have BK103 := n1_; have BK104 := n2_; have BK105 := n3_; have HB := n4_; clear n0_ n1_ n2_ n3_ n4_; (try clear hb); (try clear hb2); (try clear hk); (try clear hi)))
       go_ret
       exact ⟨by first | rfl | (simp [errW_none, errW_some] <;> rfl) | (simp [*, errW_none, errW_some] <;> rfl), pbx HB⟩
      ·
       replace c62 := Bool.eq_false_iff.mpr c62
       subst c62
       have H1 : ((right_Holders.f kj13 l0 a2_4 a2_5).bind fun t116 => (oculuslaw06_RightBound.l0 kj13 l0 a1 false t116 (t116.length : Int) 0 a2_4 a2_5)) = some r := by rw [if_neg (show ¬ (false = true) by decide)] at H; exact H
       clear H
       have H := H1
       clear H1
       replace H := Option.bind_eq_some_iff.mp H
       obtain ⟨t116, A650, H⟩ := H
       replace H : (oculuslaw06_RightBound.l0 kj13 l0 a1 false t116 (t116.length : Int) 0 a2_4 a2_5) = some r := H
       have A65 := Aside0.mk A650
       clear A650
       have H' := Aside0.mk H
       clear H
       have hnb66 := NB105_101.out
       have hnc66 := NB101_105.out
       have hnb67 := NB105_103.out
       have hnc67 := NB103_105.out
       have hnb68 := NB105_104.out
       have hnc68 := NB104_105.out
       have hcz69_0 : wc.cell? ⟨gb105, 0, none⟩ = some (.int .i64 a2_4) := (blk_cell BK105.out 0).trans rfl
       have hcz69_1 : wc.cell? ⟨gb105, 1, none⟩ = some (.int .u64 a2_5) := (blk_cell BK105.out 1).trans rfl
       have hfz69_0 := blk_frozen BK105.out 0
       have hfz69_1 := blk_frozen BK105.out 1
       go_wp2_with (first | ((with_reducible refine gate_callee (f := 41) rfl ?_); refine goesL_ (some 52) rfl rfl Try.func41 (by kernel_rfl) rfl #[.slice A0 l0.length c0, .agg #[.int .i64 a2_4, .int .u64 a2_5]] rfl (by (try simp only [List.map_toArray, List.map_cons, List.map_nil]); first | done | rfl | (simp only [List.length_drop, List.length_take]; rfl)) ?_; (with_reducible refine (right_Holders.calls kj13 _ _ l0 a2_4 a2_5 t116 _ ?side1 ?side2 A65.out).mono ?_); (case side1 => repeat (first | exact (Kd.C_below HR0.out HB.out) | (with_reducible refine Kd.C_alloc ?_ _) | (with_reducible refine Kd.C_drewN ?_ _) | (with_reducible refine Kd.C_drew ?_))); (case side2 => exact HC0.out); rintro e w70 ⟨v117, rfl, ho0, hb⟩; refine ⟨_, rfl, ?_⟩; have n0_ := Aside0.mk (Kd.R_lower ho0 (below_size (pbx HB))); have n1_ := Aside0.mk (blk_below (pkx BK101) hb); have n2_ := Aside0.mk (blk_below (pkx BK103) hb); have n3_ := Aside0.mk (blk_below (pkx BK104) hb); have n4_ := Aside0.mk (blk_below (pkx BK105) hb); have n5_ := Aside0.mk (below_step (pbx HB) hb); clear BK101; clear BK103; clear BK104; clear BK105; clear HB; have HO118 := n0_; have BK101 := n1_; have BK103 := n2_; have BK104 := n3_; have BK105 := n4_; have HB := n5_; clear n0_ n1_ n2_ n3_ n4_ n5_; (try clear hb); (try clear hb2); (try clear hk); (try clear hi); (try clear ho0); obtain ⟨Ao71, co71, eo71⟩ := Kd.R_slice HO118.out; subst eo71))
       go_loopg [10, 54] kj13 (fun kq v10 v54 w' => ∃ (x10_2 : Bool) (x54_2 : Int), v10 = .bool x10_2 ∧ v54 = .int .i64 x54_2 ∧ Aside0 (oculuslaw06_RightBound.l0 kq l0 a1 x10_2 t116 (t116.length : Int) x54_2 a2_4 a2_5 = some r) ∧ Aside0 (kq ≤ kj13) ∧ Aside0 (Kd.R Kd.string 9 w' w.heap.size (fun _ => True) (.slice Ao71 t116.length co71) t116) ∧ Aside0 (w'.heap[gb101]? = some (.cells #[.int .i64 a2_0, .int .u64 a2_1, .int .i64 a2_2, .int .u64 a2_3, .int .i64 a2_4, .int .u64 a2_5] 78 (0, 0))) ∧ Aside0 (w'.heap[gb103]? = some (.cells #[.int .i64 a2_0, .int .u64 a2_1] 26 (0, 0))) ∧ Aside0 (w'.heap[gb104]? = some (.cells #[.int .i64 a2_2, .int .u64 a2_3] 26 (0, 0))) ∧ Aside0 (w'.heap[gb105]? = some (.cells #[.int .i64 a2_4, .int .u64 a2_5] 26 (0, 0))) ∧ Aside0 (Below w.heap.size w w'))
       case atStart => exact ⟨(false), (0), (by first | rfl | (simp; done) | (simp [*]; done)), (by first | rfl | (simp; done) | (simp [*]; done)), H', ⟨Nat.le_refl _⟩, ⟨by (with_reducible repeat (first | apply Kd.R_alloc | apply Kd.R_drewN | apply Kd.R_drew)); exact HO118.out⟩, ⟨pkx BK101⟩, ⟨pkx BK103⟩, ⟨pkx BK104⟩, ⟨pkx BK105⟩, ⟨pbx HB⟩⟩
       case round =>
        clear H'
        try clear c2
        try clear p2
        try clear c3
        try clear c4
        try clear c5
        try clear c6
        try clear c27
        try clear c28
        try clear c29
        try clear c31
        try clear c32
        try clear c37
        try clear c38
        try clear c40
        try clear c41
        try clear c42
        try clear c43
        try clear c44
        try clear c45
        try clear c46
        try clear c47
        try clear c50
        try clear c54
        try clear c55
        try clear c56
        try clear c58
        try clear c59
        try clear c62
        try clear c66
        try clear c67
        try clear c68
        try clear hcz30_0
        try clear hcz30_1
        try clear hcz33_0
        try clear hcz33_1
        try clear hcz45_0
        try clear hcz45_1
        try clear hcz48_0
        try clear hcz48_1
        try clear hcz51_0
        try clear hcz51_1
        try clear hcz52_0
        try clear hcz52_1
        try clear hcz57_0
        try clear hcz57_1
        try clear hcz60_0
        try clear hcz60_1
        try clear hcz69_0
        try clear hcz69_1
        try clear hfz30_0
        try clear hfz30_1
        try clear hfz33_0
        try clear hfz33_1
        try clear hfz45_0
        try clear hfz45_1
        try clear hfz48_0
        try clear hfz48_1
        try clear hfz51_0
        try clear hfz51_1
        try clear hfz52_0
        try clear hfz52_1
        try clear hfz57_0
        try clear hfz57_1
        try clear hfz60_0
        try clear hfz60_1
        try clear hfz69_0
        try clear hfz69_1
        try clear p2
        obtain ⟨x10_2, x54_2, rfl, rfl, HA, HK2, HO_52, BK101, BK103, BK104, BK105, HB⟩ := hrel
        cases gk with
        | zero => exact absurd HA.out (by simp [oculuslaw06_RightBound.l0])
        | succ k2 =>
         have H := HA.out
         clear HA
         simp only [oculuslaw06_RightBound.l0] at H
         by_cases c72 : x54_2 < (t116.length : Int)
         ·
          rw [if_pos c72] at H
          have c72b0 : decide (x54_2 < (t116.length : Int)) = true := decide_eq_true c72
          clear c72
          by_cases c73 : 0 ≤ x54_2
          ·
           rw [if_pos c73] at H
           have c73b0 : decide (0 ≤ x54_2) = true := decide_eq_true c73
           clear c73
           by_cases c74 : x54_2 < (t116.length : Int)
           ·
            rw [if_pos c74] at H
            have c74b0 : decide (x54_2 < (t116.length : Int)) = true := decide_eq_true c74
            clear c74
            by_cases c75 : x10_2 = true
            ·
             subst c75
             have H1 : (oculuslaw06_RightBound.l0 k2 l0 a1 true t116 (t116.length : Int) (wrap64 (x54_2 + 1)) a2_4 a2_5) = some r := by rw [if_pos rfl] at H; exact H
             clear H
             have H := H1
             clear H1
             have H' := Aside0.mk H
             clear H
             have p119 : 0 ≤ (x54_2 : Int) := of_decide_eq_true (by first | (with_reducible assumption) | assumption)
             have q119 : x54_2 < (t116.length : Int) := of_decide_eq_true (by first | (with_reducible assumption) | assumption)
             obtain ⟨ad119, e119, hx119_0⟩ := Kd.at_string (Kd.R_reads' HO_52.out).2.2 x54_2 p119 q119
             cases e119
             replace p119 := eq_true p119
             replace q119 := eq_true q119
             go_wp2
             go_roundg k2
             case measure => have := HJ13.out; have := HK2.out; omega
             case rel => exact ⟨(true), (wrap64 (x54_2 + 1)), (by first | rfl | (simp; done) | (simp [*]; done)), (by first | rfl | (simp; done) | (simp [*]; done)), H', ⟨by have := HJ13.out; have := HK2.out; omega⟩, ⟨by (with_reducible repeat (first | apply Kd.R_alloc | apply Kd.R_drewN | apply Kd.R_drew)); exact HO_52.out⟩, ⟨pkx BK101⟩, ⟨pkx BK103⟩, ⟨pkx BK104⟩, ⟨pkx BK105⟩, ⟨pbx HB⟩⟩
            ·
             replace c75 := Bool.eq_false_iff.mpr c75
             subst c75
             have H1 : (oculuslaw06_RightBound.l0 k2 l0 a1 ((rdOf ByteArray.empty t116 x54_2).toList == a1.toList) t116 (t116.length : Int) (wrap64 (x54_2 + 1)) a2_4 a2_5) = some r := by rw [if_neg (show ¬ (false = true) by decide)] at H; exact H
             clear H
             have H := H1
             clear H1
             have H' := Aside0.mk H
             clear H
             have p119 : 0 ≤ (x54_2 : Int) := of_decide_eq_true (by first | (with_reducible assumption) | assumption)
             have q119 : x54_2 < (t116.length : Int) := of_decide_eq_true (by first | (with_reducible assumption) | assumption)
             obtain ⟨ad119, e119, hx119_0⟩ := Kd.at_string (Kd.R_reads' HO_52.out).2.2 x54_2 p119 q119
             cases e119
             replace p119 := eq_true p119
             replace q119 := eq_true q119
             go_wp2
             go_roundg k2
             case measure => have := HJ13.out; have := HK2.out; omega
             case rel => exact ⟨(((rdOf ByteArray.empty t116 x54_2).toList == a1.toList)), (wrap64 (x54_2 + 1)), (by first | rfl | (simp; done) | (simp [*]; done) | (cases t116 <;> simp; done)), (by first | rfl | (simp; done) | (simp [*]; done)), H', ⟨by have := HJ13.out; have := HK2.out; omega⟩, ⟨by (with_reducible repeat (first | apply Kd.R_alloc | apply Kd.R_drewN | apply Kd.R_drew)); exact HO_52.out⟩, ⟨pkx BK101⟩, ⟨pkx BK103⟩, ⟨pkx BK104⟩, ⟨pkx BK105⟩, ⟨pbx HB⟩⟩
           ·
            rw [if_neg c74] at H
            exact absurd H (by simp)
          ·
           rw [if_neg c73] at H
           exact absurd H (by simp)
         ·
          rw [if_neg c72] at H
          have c72b0 : decide (x54_2 < (t116.length : Int)) = false := decide_eq_false c72
          clear c72
          by_cases c76 : x10_2 = true
          ·
           subst c76
           have H1 : ((right_Leaks.f k2 l0 a2_4 a2_5).bind fun t120 => (if t120 = true then ((oculuslaw06_alive.f k2).bind fun t121 => (some t121)) else (none))) = some r := by rw [if_pos rfl] at H; exact H
           clear H
           have H := H1
           clear H1
           replace H := Option.bind_eq_some_iff.mp H
           obtain ⟨t120, A770, H⟩ := H
           replace H : (if t120 = true then ((oculuslaw06_alive.f k2).bind fun t121 => (some t121)) else (none)) = some r := H
           have A77 := Aside0.mk A770
           clear A770
           by_cases c78 : t120 = true
           ·
            subst c78
            have H1 : ((oculuslaw06_alive.f k2).bind fun t121 => (some t121)) = some r := by rw [if_pos rfl] at H; exact H
            clear H
            have H := H1
            clear H1
            replace H := Option.bind_eq_some_iff.mp H
            obtain ⟨t121, A790, H⟩ := H
            replace H : (some t121) = some r := H
            have A79 := Aside0.mk A790
            clear A790
            obtain rfl := Option.some.inj H
            have hnb80 := NB105_101.out
            have hnc80 := NB101_105.out
            have hnb81 := NB105_103.out
            have hnc81 := NB103_105.out
            have hnb82 := NB105_104.out
            have hnc82 := NB104_105.out
            have hcz83_0 : wr.cell? ⟨gb105, 0, none⟩ = some (.int .i64 a2_4) := (blk_cell BK105.out 0).trans rfl
            have hcz83_1 : wr.cell? ⟨gb105, 1, none⟩ = some (.int .u64 a2_5) := (blk_cell BK105.out 1).trans rfl
            have hfz83_0 := blk_frozen BK105.out 0
            have hfz83_1 := blk_frozen BK105.out 1
            go_wp2_with (first | (go_at_call 21; (with_reducible refine (right_Leaks.calls k2 _ _ l0 a2_4 a2_5 true _ ?side1 ?side2 A77.out).mono ?_); (case side1 => repeat (first | exact (Kd.C_below HR0.out HB.out) | (with_reducible refine Kd.C_alloc ?_ _) | (with_reducible refine Kd.C_drewN ?_ _) | (with_reducible refine Kd.C_drew ?_))); (case side2 => exact HC0.out); rintro e w84 ⟨rfl, hb⟩; have n0_ := Aside0.mk (Kd.R_below (by (with_reducible repeat (first | apply Kd.R_alloc | apply Kd.R_drewN | apply Kd.R_drew)); exact HO_52.out) hb); have n1_ := Aside0.mk (blk_below (pkx BK101) hb); have n2_ := Aside0.mk (blk_below (pkx BK103) hb); have n3_ := Aside0.mk (blk_below (pkx BK104) hb); have n4_ := Aside0.mk (blk_below (pkx BK105) hb); have n5_ := Aside0.mk (below_step (pbx HB) hb); clear HO_52; clear BK101; clear BK103; clear BK104; clear BK105; clear HB; have HO_52 := n0_; have BK101 := n1_; have BK103 := n2_; have BK104 := n3_; have BK105 := n4_; have HB := n5_; clear n0_ n1_ n2_ n3_ n4_ n5_; (try clear hb); (try clear hb2); (try clear hk); (try clear hi)) | (go_at_call 37; (with_reducible refine (oculuslaw06_alive.calls k2  t121 _ A79.out).mono ?_); rintro e w85 ⟨rfl, hb⟩; have n0_ := Aside0.mk (Kd.R_below (by (with_reducible repeat (first | apply Kd.R_alloc | apply Kd.R_drewN | apply Kd.R_drew)); exact HO_52.out) hb); have n1_ := Aside0.mk (blk_below (pkx BK101) hb); have n2_ := Aside0.mk (blk_below (pkx BK103) hb); have n3_ := Aside0.mk (blk_below (pkx BK104) hb); have n4_ := Aside0.mk (blk_below (pkx BK105) hb); have n5_ := Aside0.mk (below_step (pbx HB) hb); clear HO_52; clear BK101; clear BK103; clear BK104; clear BK105; clear HB; have HO_52 := n0_; have BK101 := n1_; have BK103 := n2_; have BK104 := n3_; have BK105 := n4_; have HB := n5_; clear n0_ n1_ n2_ n3_ n4_ n5_; (try clear hb); (try clear hb2); (try clear hk); (try clear hi)))
            go_ret
            exact ⟨by first | rfl | (simp [errW_none, errW_some] <;> rfl) | (simp [*, errW_none, errW_some] <;> rfl), pbx HB⟩
           ·
            replace c78 := Bool.eq_false_iff.mpr c78
            subst c78
            have H1 : (none) = some r := by rw [if_neg (show ¬ (false = true) by decide)] at H; exact H
            clear H
            have H := H1
            clear H1
            exact absurd H (by simp)
          ·
           replace c76 := Bool.eq_false_iff.mpr c76
           subst c76
           have H1 : (none) = some r := by rw [if_neg (show ¬ (false = true) by decide)] at H; exact H
           clear H
           have H := H1
           clear H1
           exact absurd H (by simp)
   ·
    replace c13 := Bool.eq_false_iff.mpr c13
    subst c13
    have H1 : (none) = some r := by rw [if_neg (show ¬ (false = true) by decide)] at H; exact H
    clear H
    have H := H1
    clear H1
    exact absurd H (by simp)
  ·
   replace c9 := Bool.eq_false_iff.mpr c9
   subst c9
   have H1 : ((oculuslaw06_alive.f k).bind fun t107 => (some t107)) = some r := by rw [if_neg (show ¬ (false = true) by decide)] at H; exact H
   clear H
   have H := H1
   clear H1
   replace H := Option.bind_eq_some_iff.mp H
   obtain ⟨t107, A860, H⟩ := H
   replace H : (some t107) = some r := H
   have A86 := Aside0.mk A860
   clear A860
   obtain rfl := Option.some.inj H
   go_enter Try.func10, Try.ntmps10
   try go_wp2_with (first | ((with_reducible refine gate_dst (N := 5) rfl ?_); refine box_event ?hg (N := 5) ?hd (cs := #[.int .i64 a2_0, .int .u64 a2_1, .int .i64 a2_2, .int .u64 a2_3, .int .i64 a2_4, .int .u64 a2_5]) (t := 78) ?hr ?_; (case hd => rfl); (case hg => rfl); (case hr => first | (go_simp; done) | (go_simp; rfl)); intro gb101 hg w87 hbox hb; have n0_ := Aside0.mk (below_step (pbx HB) hb); have n1_ := Aside0.mk (hbox); have n2_ := Aside0.mk ((by rw [hg]; exact (below_size (pbx HB)) : w.heap.size ≤ gb101)); have n3_ := Aside0.mk ((by rw [hg]; exact (below_size (pbx HB)) : w.heap.size ≤ gb101)); clear HB; have HB := n0_; have BK101 := n1_; have GW101 := n2_; have GE101 := n3_; clear n0_ n1_ n2_ n3_; clear hb hbox hg))
   (try (rw [drewN_self w87]; generalize hq_ : World.drewN w87 _ = w87; have n0_ : Aside0 (w87.heap[gb101]? = some (.cells #[.int .i64 a2_0, .int .u64 a2_1, .int .i64 a2_2, .int .u64 a2_3, .int .i64 a2_4, .int .u64 a2_5] 78 (0, 0))) := ⟨by rw [← hq_]; exact (pkx BK101)⟩; have n1_ : Aside0 (Below w.heap.size w w87) := ⟨by rw [← hq_]; exact (pbx HB)⟩; clear BK101 HB hq_; have BK101 := n0_; have HB := n1_; clear n0_ n1_))
   have n0_ := Aside0.mk (blk_drew BK101.out)
   have n1_ := Aside0.mk (below_drew1 HB.out)
   clear BK101
   clear HB
   have BK101 := n0_
   have HB := n1_
   clear n0_ n1_
   refine start_ (n := 12) (S := fun w' => w'.cell? ⟨gb101, 0, none⟩ = some (.int .i64 a2_0) ∧ w'.cell? ⟨gb101, 1, none⟩ = some (.int .u64 a2_1) ∧ w'.cell? ⟨gb101, 2, none⟩ = some (.int .i64 a2_2) ∧ w'.cell? ⟨gb101, 3, none⟩ = some (.int .u64 a2_3) ∧ w'.cell? ⟨gb101, 4, none⟩ = some (.int .i64 a2_4) ∧ w'.cell? ⟨gb101, 5, none⟩ = some (.int .u64 a2_5)) (ds := []) #[false, false, false, false, false, false, false, false, false, false, false, false] (by kernel_rfl) rfl rfl ⟨(blk_cell BK101.out 0).trans rfl, (blk_cell BK101.out 1).trans rfl, (blk_cell BK101.out 2).trans rfl, (blk_cell BK101.out 3).trans rfl, (blk_cell BK101.out 4).trans rfl, (blk_cell BK101.out 5).trans rfl⟩ (fun hHeld => ?_); refine with_tabW oculuslaw06_RightBound.tab3 oculuslaw06_RightBound.bits3 (fun HT_ HW_ => ?_)
   generalize w87.drew = w88 at BK101 HB hHeld ⊢
   refine pure_ (i := 0) (N := some 17) (v := ?_) (a' := ?_) #[true, false, false, false, false, false, false, false, false, false, false, false] rfl rfl (any_of HT_.out (by kernel_rfl)) (fun _ _ _ h => h) (Or.inl ⟨by rfl, ?_⟩) ?_ ?_
   rotate_left
   ·
    intro w'
    go_simp
    with_reducible rfl
   rotate_left
   ·
    simp only [Act.put, q_, i64_w, i32_w]
    rfl
   refine pure_ (i := 2) (N := some 19) (v := ?_) (a' := ?_) #[true, false, true, false, false, false, false, false, false, false, false, false] rfl rfl (any_of HT_.out (by kernel_rfl)) (fun _ _ _ h => h) (Or.inl ⟨by rfl, ?_⟩) ?_ ?_
   rotate_left
   ·
    intro w'
    go_simp
    with_reducible rfl
   rotate_left
   ·
    simp only [Act.put, q_, i64_w, i32_w]
    rfl
   refine pure_ (i := 4) (N := some 21) (v := ?_) (a' := ?_) #[true, false, true, false, true, false, false, false, false, false, false, false] rfl rfl (any_of HT_.out (by kernel_rfl)) (fun _ _ _ h => h) (Or.inl ⟨by rfl, ?_⟩) ?_ ?_
   rotate_left
   ·
    intro w'
    go_simp
    with_reducible rfl
   rotate_left
   ·
    simp only [Act.put, q_, i64_w, i32_w]
    rfl
   refine take_ (i := 1) (N := some 18) (v := ?_) (a' := ?_) #[true, true, true, false, true, false, false, false, false, false, false, false] rfl rfl (take_ofW HT_.out HW_.out (by kernel_rfl)) (fun _ _ _ h => h) (Or.inl ⟨by rfl, ?_⟩) hHeld ?_ ?_
   rotate_left
   ·
    rintro w' ⟨s0, s1, s2, s3, s4, s5⟩
    go_simp
    with_reducible rfl
   rotate_left
   ·
    simp only [Act.put, q_, i64_w, i32_w]
    rfl
   refine take_ (i := 3) (N := some 20) (v := ?_) (a' := ?_) #[true, true, true, true, true, false, false, false, false, false, false, false] rfl rfl (take_ofW HT_.out HW_.out (by kernel_rfl)) (fun _ _ _ h => h) (Or.inl ⟨by rfl, ?_⟩) hHeld ?_ ?_
   rotate_left
   ·
    rintro w' ⟨s0, s1, s2, s3, s4, s5⟩
    go_simp
    with_reducible rfl
   rotate_left
   ·
    simp only [Act.put, q_, i64_w, i32_w]
    rfl
   refine take_ (i := 5) (N := some 22) (v := ?_) (a' := ?_) #[true, true, true, true, true, true, false, false, false, false, false, false] rfl rfl (take_ofW HT_.out HW_.out (by kernel_rfl)) (fun _ _ _ h => h) (Or.inl ⟨by rfl, ?_⟩) hHeld ?_ ?_
   rotate_left
   ·
    rintro w' ⟨s0, s1, s2, s3, s4, s5⟩
    go_simp
    with_reducible rfl
   rotate_left
   ·
    simp only [Act.put, q_, i64_w, i32_w]
    rfl
   refine join_ (σ := Nat × Nat × Nat) 3 #[true, true, true, true, true, true, true, true, true, false, false, false] (fun s_ => [(7, .pointer (some ⟨s_.1, 0, none⟩)), (8, .pointer (some ⟨s_.2.1, 0, none⟩)), (9, .pointer (some ⟨s_.2.2, 0, none⟩))]) (fun s_ w' => (w'.cell? ⟨gb101, 0, none⟩ = some (.int .i64 a2_0) ∧ w'.cell? ⟨gb101, 1, none⟩ = some (.int .u64 a2_1) ∧ w'.cell? ⟨gb101, 2, none⟩ = some (.int .i64 a2_2) ∧ w'.cell? ⟨gb101, 3, none⟩ = some (.int .u64 a2_3) ∧ w'.cell? ⟨gb101, 4, none⟩ = some (.int .i64 a2_4) ∧ w'.cell? ⟨gb101, 5, none⟩ = some (.int .u64 a2_5)) ∧ (w'.heap[gb101]? = some (.cells #[.int .i64 a2_0, .int .u64 a2_1, .int .i64 a2_2, .int .u64 a2_3, .int .i64 a2_4, .int .u64 a2_5] 78 (0, 0))) ∧ (w'.heap[s_.1]? = some (.cells #[.int .i64 0, .int .u64 0] 26 (0, 0))) ∧ (w'.heap[s_.2.1]? = some (.cells #[.int .i64 0, .int .u64 0] 26 (0, 0))) ∧ (w'.heap[s_.2.2]? = some (.cells #[.int .i64 0, .int .u64 0] 26 (0, 0))) ∧ (w.heap.size ≤ s_.1) ∧ (w.heap.size ≤ s_.1) ∧ (gb101 ≠ s_.1) ∧ (s_.1 ≠ gb101) ∧ (s_.2.1 ≠ s_.1) ∧ (s_.1 ≠ s_.2.1) ∧ (s_.2.2 ≠ s_.1) ∧ (s_.1 ≠ s_.2.2) ∧ (w.heap.size ≤ s_.2.1) ∧ (w.heap.size ≤ s_.2.1) ∧ (gb101 ≠ s_.2.1) ∧ (s_.2.1 ≠ gb101) ∧ (s_.2.2 ≠ s_.2.1) ∧ (s_.2.1 ≠ s_.2.2) ∧ (w.heap.size ≤ s_.2.2) ∧ (w.heap.size ≤ s_.2.2) ∧ (gb101 ≠ s_.2.2) ∧ (s_.2.2 ≠ gb101) ∧ (Below w.heap.size w w')) ?_ ?_
   rotate_left
   ·
    intro hJ6_7_8
    refine join_ (σ := Nat × Nat) 4 #[true, true, true, true, true, true, true, true, false, false, false, false] (fun s_ => [(7, .pointer (some ⟨s_.1, 0, none⟩)), (8, .pointer (some ⟨s_.2, 0, none⟩))]) (fun s_ w' => (w'.cell? ⟨gb101, 0, none⟩ = some (.int .i64 a2_0) ∧ w'.cell? ⟨gb101, 1, none⟩ = some (.int .u64 a2_1) ∧ w'.cell? ⟨gb101, 2, none⟩ = some (.int .i64 a2_2) ∧ w'.cell? ⟨gb101, 3, none⟩ = some (.int .u64 a2_3) ∧ w'.cell? ⟨gb101, 4, none⟩ = some (.int .i64 a2_4) ∧ w'.cell? ⟨gb101, 5, none⟩ = some (.int .u64 a2_5)) ∧ (w'.heap[gb101]? = some (.cells #[.int .i64 a2_0, .int .u64 a2_1, .int .i64 a2_2, .int .u64 a2_3, .int .i64 a2_4, .int .u64 a2_5] 78 (0, 0))) ∧ (w'.heap[s_.1]? = some (.cells #[.int .i64 0, .int .u64 0] 26 (0, 0))) ∧ (w'.heap[s_.2]? = some (.cells #[.int .i64 0, .int .u64 0] 26 (0, 0))) ∧ (w.heap.size ≤ s_.1) ∧ (w.heap.size ≤ s_.1) ∧ (gb101 ≠ s_.1) ∧ (s_.1 ≠ gb101) ∧ (s_.2 ≠ s_.1) ∧ (s_.1 ≠ s_.2) ∧ (w.heap.size ≤ s_.2) ∧ (w.heap.size ≤ s_.2) ∧ (gb101 ≠ s_.2) ∧ (s_.2 ≠ gb101) ∧ (Below w.heap.size w w')) ?_ ?_
    rotate_left
    ·
     intro hJ6_7
     refine join_ (σ := Nat × Nat) 4 #[true, true, true, true, true, true, true, false, true, false, false, false] (fun s_ => [(7, .pointer (some ⟨s_.1, 0, none⟩)), (9, .pointer (some ⟨s_.2, 0, none⟩))]) (fun s_ w' => (w'.cell? ⟨gb101, 0, none⟩ = some (.int .i64 a2_0) ∧ w'.cell? ⟨gb101, 1, none⟩ = some (.int .u64 a2_1) ∧ w'.cell? ⟨gb101, 2, none⟩ = some (.int .i64 a2_2) ∧ w'.cell? ⟨gb101, 3, none⟩ = some (.int .u64 a2_3) ∧ w'.cell? ⟨gb101, 4, none⟩ = some (.int .i64 a2_4) ∧ w'.cell? ⟨gb101, 5, none⟩ = some (.int .u64 a2_5)) ∧ (w'.heap[gb101]? = some (.cells #[.int .i64 a2_0, .int .u64 a2_1, .int .i64 a2_2, .int .u64 a2_3, .int .i64 a2_4, .int .u64 a2_5] 78 (0, 0))) ∧ (w'.heap[s_.1]? = some (.cells #[.int .i64 0, .int .u64 0] 26 (0, 0))) ∧ (w'.heap[s_.2]? = some (.cells #[.int .i64 0, .int .u64 0] 26 (0, 0))) ∧ (w.heap.size ≤ s_.1) ∧ (w.heap.size ≤ s_.1) ∧ (gb101 ≠ s_.1) ∧ (s_.1 ≠ gb101) ∧ (s_.2 ≠ s_.1) ∧ (s_.1 ≠ s_.2) ∧ (w.heap.size ≤ s_.2) ∧ (w.heap.size ≤ s_.2) ∧ (gb101 ≠ s_.2) ∧ (s_.2 ≠ gb101) ∧ (Below w.heap.size w w')) ?_ ?_
     rotate_left
     ·
      intro hJ6_8
      refine join_ (σ := Nat × Nat) 4 #[true, true, true, true, true, true, false, true, true, false, false, false] (fun s_ => [(8, .pointer (some ⟨s_.1, 0, none⟩)), (9, .pointer (some ⟨s_.2, 0, none⟩))]) (fun s_ w' => (w'.cell? ⟨gb101, 0, none⟩ = some (.int .i64 a2_0) ∧ w'.cell? ⟨gb101, 1, none⟩ = some (.int .u64 a2_1) ∧ w'.cell? ⟨gb101, 2, none⟩ = some (.int .i64 a2_2) ∧ w'.cell? ⟨gb101, 3, none⟩ = some (.int .u64 a2_3) ∧ w'.cell? ⟨gb101, 4, none⟩ = some (.int .i64 a2_4) ∧ w'.cell? ⟨gb101, 5, none⟩ = some (.int .u64 a2_5)) ∧ (w'.heap[gb101]? = some (.cells #[.int .i64 a2_0, .int .u64 a2_1, .int .i64 a2_2, .int .u64 a2_3, .int .i64 a2_4, .int .u64 a2_5] 78 (0, 0))) ∧ (w'.heap[s_.1]? = some (.cells #[.int .i64 0, .int .u64 0] 26 (0, 0))) ∧ (w'.heap[s_.2]? = some (.cells #[.int .i64 0, .int .u64 0] 26 (0, 0))) ∧ (w.heap.size ≤ s_.1) ∧ (w.heap.size ≤ s_.1) ∧ (gb101 ≠ s_.1) ∧ (s_.1 ≠ gb101) ∧ (s_.2 ≠ s_.1) ∧ (s_.1 ≠ s_.2) ∧ (w.heap.size ≤ s_.2) ∧ (w.heap.size ≤ s_.2) ∧ (gb101 ≠ s_.2) ∧ (s_.2 ≠ gb101) ∧ (Below w.heap.size w w')) ?_ ?_
      rotate_left
      ·
       intro hJ7_8
       refine join_ (σ := Nat) 5 #[true, true, true, true, true, true, true, false, false, false, false, false] (fun s_ => [(7, .pointer (some ⟨s_, 0, none⟩))]) (fun s_ w' => (w'.cell? ⟨gb101, 0, none⟩ = some (.int .i64 a2_0) ∧ w'.cell? ⟨gb101, 1, none⟩ = some (.int .u64 a2_1) ∧ w'.cell? ⟨gb101, 2, none⟩ = some (.int .i64 a2_2) ∧ w'.cell? ⟨gb101, 3, none⟩ = some (.int .u64 a2_3) ∧ w'.cell? ⟨gb101, 4, none⟩ = some (.int .i64 a2_4) ∧ w'.cell? ⟨gb101, 5, none⟩ = some (.int .u64 a2_5)) ∧ (w'.heap[gb101]? = some (.cells #[.int .i64 a2_0, .int .u64 a2_1, .int .i64 a2_2, .int .u64 a2_3, .int .i64 a2_4, .int .u64 a2_5] 78 (0, 0))) ∧ (w'.heap[s_]? = some (.cells #[.int .i64 0, .int .u64 0] 26 (0, 0))) ∧ (w.heap.size ≤ s_) ∧ (w.heap.size ≤ s_) ∧ (gb101 ≠ s_) ∧ (s_ ≠ gb101) ∧ (Below w.heap.size w w')) ?_ ?_
       rotate_left
       ·
        intro hJ6
        refine join_ (σ := Nat) 5 #[true, true, true, true, true, true, false, true, false, false, false, false] (fun s_ => [(8, .pointer (some ⟨s_, 0, none⟩))]) (fun s_ w' => (w'.cell? ⟨gb101, 0, none⟩ = some (.int .i64 a2_0) ∧ w'.cell? ⟨gb101, 1, none⟩ = some (.int .u64 a2_1) ∧ w'.cell? ⟨gb101, 2, none⟩ = some (.int .i64 a2_2) ∧ w'.cell? ⟨gb101, 3, none⟩ = some (.int .u64 a2_3) ∧ w'.cell? ⟨gb101, 4, none⟩ = some (.int .i64 a2_4) ∧ w'.cell? ⟨gb101, 5, none⟩ = some (.int .u64 a2_5)) ∧ (w'.heap[gb101]? = some (.cells #[.int .i64 a2_0, .int .u64 a2_1, .int .i64 a2_2, .int .u64 a2_3, .int .i64 a2_4, .int .u64 a2_5] 78 (0, 0))) ∧ (w'.heap[s_]? = some (.cells #[.int .i64 0, .int .u64 0] 26 (0, 0))) ∧ (w.heap.size ≤ s_) ∧ (w.heap.size ≤ s_) ∧ (gb101 ≠ s_) ∧ (s_ ≠ gb101) ∧ (Below w.heap.size w w')) ?_ ?_
        rotate_left
        ·
         intro hJ7
         refine join_ (σ := Nat) 5 #[true, true, true, true, true, true, false, false, true, false, false, false] (fun s_ => [(9, .pointer (some ⟨s_, 0, none⟩))]) (fun s_ w' => (w'.cell? ⟨gb101, 0, none⟩ = some (.int .i64 a2_0) ∧ w'.cell? ⟨gb101, 1, none⟩ = some (.int .u64 a2_1) ∧ w'.cell? ⟨gb101, 2, none⟩ = some (.int .i64 a2_2) ∧ w'.cell? ⟨gb101, 3, none⟩ = some (.int .u64 a2_3) ∧ w'.cell? ⟨gb101, 4, none⟩ = some (.int .i64 a2_4) ∧ w'.cell? ⟨gb101, 5, none⟩ = some (.int .u64 a2_5)) ∧ (w'.heap[gb101]? = some (.cells #[.int .i64 a2_0, .int .u64 a2_1, .int .i64 a2_2, .int .u64 a2_3, .int .i64 a2_4, .int .u64 a2_5] 78 (0, 0))) ∧ (w'.heap[s_]? = some (.cells #[.int .i64 0, .int .u64 0] 26 (0, 0))) ∧ (w.heap.size ≤ s_) ∧ (w.heap.size ≤ s_) ∧ (gb101 ≠ s_) ∧ (s_ ≠ gb101) ∧ (Below w.heap.size w w')) ?_ ?_
         rotate_left
         ·
          intro hJ8
          refine three_ (i := 6) (j := 7) (k := 8) (Ni := some 7) (Nj := some 8) (Nk := some 9) #[true, true, true, true, true, true, true, false, false, false, false, false] #[true, true, true, true, true, true, false, true, false, false, false, false] #[true, true, true, true, true, true, false, false, true, false, false, false] rfl rfl rfl rfl rfl rfl (three_of HT_.out (by kernel_rfl)) (by decide) (by decide) (by decide) (fun K hK => ?_) (fun K hK => ?_) (fun K hK => ?_)
          ·
           skip
           refine box_step ?hg (N := 7) ?hd (cs := #[.int .i64 0, .int .u64 0]) (t := 26) ?hr ?_; (case hd => rfl); (case hg => rfl); (case hr => first | (go_simp; done) | (go_simp; rfl))
           intro gb103 hg w89 hbox hb
           have n0_ := Aside0.mk (blk_below (pkx BK101) hb)
           have n1_ := Aside0.mk (below_step (pbx HB) hb)
           have n2_ := Aside0.mk (hbox)
           have n3_ := Aside0.mk ((by rw [hg]; exact (below_size (pbx HB)) : w.heap.size ≤ gb103))
           have n4_ := Aside0.mk ((by rw [hg]; exact (below_size (pbx HB)) : w.heap.size ≤ gb103))
           have n5_ := Aside0.mk ((by rw [hg]; exact Nat.ne_of_lt (blk_lt (pkx BK101)) : gb101 ≠ gb103))
           have n6_ := Aside0.mk ((by rw [hg]; exact Nat.ne_of_gt (blk_lt (pkx BK101)) : gb103 ≠ gb101))
           clear BK101
           clear HB
           have BK101 := n0_
           have HB := n1_
           have BK103 := n2_
           have GW103 := n3_
           have GE103 := n4_
           have NB101_103 := n5_
           have NB103_101 := n6_
           clear n0_ n1_ n2_ n3_ n4_ n5_ n6_
           clear hb hbox hg
           refine hK.out _ _ ⟨(blk_cell BK101.out 0).trans rfl, (blk_cell BK101.out 1).trans rfl, (blk_cell BK101.out 2).trans rfl, (blk_cell BK101.out 3).trans rfl, (blk_cell BK101.out 4).trans rfl, (blk_cell BK101.out 5).trans rfl⟩ (fun hHeld => ?_)
           clear hK K
           refine norm_ (a' := ?_) ?_ ?_
           rotate_left
           ·
            show Act.put _ (some 7) _ = _
            simp only [Act.put, q_, i64_w, i32_w]
            rfl
           exact norm_ (by first | (simp only [putAll, Act.put, q_]; done) | (simp only [putAll, Act.put, q_]; rfl)) (hJ6 (gb103) _ ⟨hHeld, (pkx BK101), (pkx BK103), GW103.out, GE103.out, NB101_103.out, NB103_101.out, (pbx HB)⟩)
          ·
           skip
           refine box_step ?hg (N := 8) ?hd (cs := #[.int .i64 0, .int .u64 0]) (t := 26) ?hr ?_; (case hd => rfl); (case hg => rfl); (case hr => first | (go_simp; done) | (go_simp; rfl))
           intro gb104 hg w89 hbox hb
           have n0_ := Aside0.mk (blk_below (pkx BK101) hb)
           have n1_ := Aside0.mk (below_step (pbx HB) hb)
           have n2_ := Aside0.mk (hbox)
           have n3_ := Aside0.mk ((by rw [hg]; exact (below_size (pbx HB)) : w.heap.size ≤ gb104))
           have n4_ := Aside0.mk ((by rw [hg]; exact (below_size (pbx HB)) : w.heap.size ≤ gb104))
           have n5_ := Aside0.mk ((by rw [hg]; exact Nat.ne_of_lt (blk_lt (pkx BK101)) : gb101 ≠ gb104))
           have n6_ := Aside0.mk ((by rw [hg]; exact Nat.ne_of_gt (blk_lt (pkx BK101)) : gb104 ≠ gb101))
           clear BK101
           clear HB
           have BK101 := n0_
           have HB := n1_
           have BK104 := n2_
           have GW104 := n3_
           have GE104 := n4_
           have NB101_104 := n5_
           have NB104_101 := n6_
           clear n0_ n1_ n2_ n3_ n4_ n5_ n6_
           clear hb hbox hg
           refine hK.out _ _ ⟨(blk_cell BK101.out 0).trans rfl, (blk_cell BK101.out 1).trans rfl, (blk_cell BK101.out 2).trans rfl, (blk_cell BK101.out 3).trans rfl, (blk_cell BK101.out 4).trans rfl, (blk_cell BK101.out 5).trans rfl⟩ (fun hHeld => ?_)
           clear hK K
           refine norm_ (a' := ?_) ?_ ?_
           rotate_left
           ·
            show Act.put _ (some 8) _ = _
            simp only [Act.put, q_, i64_w, i32_w]
            rfl
           exact norm_ (by first | (simp only [putAll, Act.put, q_]; done) | (simp only [putAll, Act.put, q_]; rfl)) (hJ7 (gb104) _ ⟨hHeld, (pkx BK101), (pkx BK104), GW104.out, GE104.out, NB101_104.out, NB104_101.out, (pbx HB)⟩)
          ·
           skip
           refine box_step ?hg (N := 9) ?hd (cs := #[.int .i64 0, .int .u64 0]) (t := 26) ?hr ?_; (case hd => rfl); (case hg => rfl); (case hr => first | (go_simp; done) | (go_simp; rfl))
           intro gb105 hg w89 hbox hb
           have n0_ := Aside0.mk (blk_below (pkx BK101) hb)
           have n1_ := Aside0.mk (below_step (pbx HB) hb)
           have n2_ := Aside0.mk (hbox)
           have n3_ := Aside0.mk ((by rw [hg]; exact (below_size (pbx HB)) : w.heap.size ≤ gb105))
           have n4_ := Aside0.mk ((by rw [hg]; exact (below_size (pbx HB)) : w.heap.size ≤ gb105))
           have n5_ := Aside0.mk ((by rw [hg]; exact Nat.ne_of_lt (blk_lt (pkx BK101)) : gb101 ≠ gb105))
           have n6_ := Aside0.mk ((by rw [hg]; exact Nat.ne_of_gt (blk_lt (pkx BK101)) : gb105 ≠ gb101))
           clear BK101
           clear HB
           have BK101 := n0_
           have HB := n1_
           have BK105 := n2_
           have GW105 := n3_
           have GE105 := n4_
           have NB101_105 := n5_
           have NB105_101 := n6_
           clear n0_ n1_ n2_ n3_ n4_ n5_ n6_
           clear hb hbox hg
           refine hK.out _ _ ⟨(blk_cell BK101.out 0).trans rfl, (blk_cell BK101.out 1).trans rfl, (blk_cell BK101.out 2).trans rfl, (blk_cell BK101.out 3).trans rfl, (blk_cell BK101.out 4).trans rfl, (blk_cell BK101.out 5).trans rfl⟩ (fun hHeld => ?_)
           clear hK K
           refine norm_ (a' := ?_) ?_ ?_
           rotate_left
           ·
            show Act.put _ (some 9) _ = _
            simp only [Act.put, q_, i64_w, i32_w]
            rfl
           exact norm_ (by first | (simp only [putAll, Act.put, q_]; done) | (simp only [putAll, Act.put, q_]; rfl)) (hJ8 (gb105) _ ⟨hHeld, (pkx BK101), (pkx BK105), GW105.out, GE105.out, NB101_105.out, NB105_101.out, (pbx HB)⟩)
         ·
          skip
          rintro gb105 w90 ⟨hS_, h0_, h1_, h2_, h3_, h4_, h5_, h6_⟩
          have n0_ : Aside0 (w90.heap[gb101]? = some (.cells #[.int .i64 a2_0, .int .u64 a2_1, .int .i64 a2_2, .int .u64 a2_3, .int .i64 a2_4, .int .u64 a2_5] 78 (0, 0))) := ⟨h0_⟩
          have n1_ : Aside0 (w90.heap[gb105]? = some (.cells #[.int .i64 0, .int .u64 0] 26 (0, 0))) := ⟨h1_⟩
          have n2_ : Aside0 (w.heap.size ≤ gb105) := ⟨h2_⟩
          have n3_ : Aside0 (w.heap.size ≤ gb105) := ⟨h3_⟩
          have n4_ : Aside0 (gb101 ≠ gb105) := ⟨h4_⟩
          have n5_ : Aside0 (gb105 ≠ gb101) := ⟨h5_⟩
          have n6_ : Aside0 (Below w.heap.size w w90) := ⟨h6_⟩
          clear BK101
          clear HB
          clear h0_ h1_ h2_ h3_ h4_ h5_ h6_
          have BK101 := n0_
          have BK105 := n1_
          have GW105 := n2_
          have GE105 := n3_
          have NB101_105 := n4_
          have NB105_101 := n5_
          have HB := n6_
          clear n0_ n1_ n2_ n3_ n4_ n5_ n6_
          have hHeld : w90.cell? ⟨gb101, 0, none⟩ = some (.int .i64 a2_0) ∧ w90.cell? ⟨gb101, 1, none⟩ = some (.int .u64 a2_1) ∧ w90.cell? ⟨gb101, 2, none⟩ = some (.int .i64 a2_2) ∧ w90.cell? ⟨gb101, 3, none⟩ = some (.int .u64 a2_3) ∧ w90.cell? ⟨gb101, 4, none⟩ = some (.int .i64 a2_4) ∧ w90.cell? ⟨gb101, 5, none⟩ = some (.int .u64 a2_5) := hS_
          refine norm_ (a' := ?_) ?_ ?_
          rotate_left
          ·
           simp only [putAll, Act.put, q_]
           rfl
          refine two_ (i := 6) (j := 7) (Ni := some 7) (Nj := some 8) #[true, true, true, true, true, true, true, false, true, false, false, false] #[true, true, true, true, true, true, false, true, true, false, false, false] rfl rfl rfl rfl (two_of HT_.out (by kernel_rfl)) (by decide) (by decide) (fun K hK => ?_) (fun K hK => ?_)
          ·
           skip
           refine box_step ?hg (N := 7) ?hd (cs := #[.int .i64 0, .int .u64 0]) (t := 26) ?hr ?_; (case hd => rfl); (case hg => rfl); (case hr => first | (go_simp; done) | (go_simp; rfl))
           intro gb103 hg w91 hbox hb
           have n0_ := Aside0.mk (blk_below (pkx BK101) hb)
           have n1_ := Aside0.mk (blk_below (pkx BK105) hb)
           have n2_ := Aside0.mk (below_step (pbx HB) hb)
           have n3_ := Aside0.mk (hbox)
           have n4_ := Aside0.mk ((by rw [hg]; exact (below_size (pbx HB)) : w.heap.size ≤ gb103))
           have n5_ := Aside0.mk ((by rw [hg]; exact (below_size (pbx HB)) : w.heap.size ≤ gb103))
           have n6_ := Aside0.mk ((by rw [hg]; exact Nat.ne_of_lt (blk_lt (pkx BK101)) : gb101 ≠ gb103))
           have n7_ := Aside0.mk ((by rw [hg]; exact Nat.ne_of_gt (blk_lt (pkx BK101)) : gb103 ≠ gb101))
           have n8_ := Aside0.mk ((by rw [hg]; exact Nat.ne_of_lt (blk_lt (pkx BK105)) : gb105 ≠ gb103))
           have n9_ := Aside0.mk ((by rw [hg]; exact Nat.ne_of_gt (blk_lt (pkx BK105)) : gb103 ≠ gb105))
           clear BK101
           clear BK105
           clear HB
           have BK101 := n0_
           have BK105 := n1_
           have HB := n2_
           have BK103 := n3_
           have GW103 := n4_
           have GE103 := n5_
           have NB101_103 := n6_
           have NB103_101 := n7_
           have NB105_103 := n8_
           have NB103_105 := n9_
           clear n0_ n1_ n2_ n3_ n4_ n5_ n6_ n7_ n8_ n9_
           clear hb hbox hg
           refine hK.out _ _ ⟨(blk_cell BK101.out 0).trans rfl, (blk_cell BK101.out 1).trans rfl, (blk_cell BK101.out 2).trans rfl, (blk_cell BK101.out 3).trans rfl, (blk_cell BK101.out 4).trans rfl, (blk_cell BK101.out 5).trans rfl⟩ (fun hHeld => ?_)
           clear hK K
           refine norm_ (a' := ?_) ?_ ?_
           rotate_left
           ·
            show Act.put _ (some 7) _ = _
            simp only [Act.put, q_, i64_w, i32_w]
            rfl
           exact norm_ (by first | (simp only [putAll, Act.put, q_]; done) | (simp only [putAll, Act.put, q_]; rfl)) (hJ6_8 (gb103, gb105) _ ⟨hHeld, (pkx BK101), (pkx BK103), (pkx BK105), GW103.out, GE103.out, NB101_103.out, NB103_101.out, NB105_103.out, NB103_105.out, GW105.out, GE105.out, NB101_105.out, NB105_101.out, (pbx HB)⟩)
          ·
           skip
           refine box_step ?hg (N := 8) ?hd (cs := #[.int .i64 0, .int .u64 0]) (t := 26) ?hr ?_; (case hd => rfl); (case hg => rfl); (case hr => first | (go_simp; done) | (go_simp; rfl))
           intro gb104 hg w91 hbox hb
           have n0_ := Aside0.mk (blk_below (pkx BK101) hb)
           have n1_ := Aside0.mk (blk_below (pkx BK105) hb)
           have n2_ := Aside0.mk (below_step (pbx HB) hb)
           have n3_ := Aside0.mk (hbox)
           have n4_ := Aside0.mk ((by rw [hg]; exact (below_size (pbx HB)) : w.heap.size ≤ gb104))
           have n5_ := Aside0.mk ((by rw [hg]; exact (below_size (pbx HB)) : w.heap.size ≤ gb104))
           have n6_ := Aside0.mk ((by rw [hg]; exact Nat.ne_of_lt (blk_lt (pkx BK101)) : gb101 ≠ gb104))
           have n7_ := Aside0.mk ((by rw [hg]; exact Nat.ne_of_gt (blk_lt (pkx BK101)) : gb104 ≠ gb101))
           have n8_ := Aside0.mk ((by rw [hg]; exact Nat.ne_of_lt (blk_lt (pkx BK105)) : gb105 ≠ gb104))
           have n9_ := Aside0.mk ((by rw [hg]; exact Nat.ne_of_gt (blk_lt (pkx BK105)) : gb104 ≠ gb105))
           clear BK101
           clear BK105
           clear HB
           have BK101 := n0_
           have BK105 := n1_
           have HB := n2_
           have BK104 := n3_
           have GW104 := n4_
           have GE104 := n5_
           have NB101_104 := n6_
           have NB104_101 := n7_
           have NB105_104 := n8_
           have NB104_105 := n9_
           clear n0_ n1_ n2_ n3_ n4_ n5_ n6_ n7_ n8_ n9_
           clear hb hbox hg
           refine hK.out _ _ ⟨(blk_cell BK101.out 0).trans rfl, (blk_cell BK101.out 1).trans rfl, (blk_cell BK101.out 2).trans rfl, (blk_cell BK101.out 3).trans rfl, (blk_cell BK101.out 4).trans rfl, (blk_cell BK101.out 5).trans rfl⟩ (fun hHeld => ?_)
           clear hK K
           refine norm_ (a' := ?_) ?_ ?_
           rotate_left
           ·
            show Act.put _ (some 8) _ = _
            simp only [Act.put, q_, i64_w, i32_w]
            rfl
           exact norm_ (by first | (simp only [putAll, Act.put, q_]; done) | (simp only [putAll, Act.put, q_]; rfl)) (hJ7_8 (gb104, gb105) _ ⟨hHeld, (pkx BK101), (pkx BK104), (pkx BK105), GW104.out, GE104.out, NB101_104.out, NB104_101.out, NB105_104.out, NB104_105.out, GW105.out, GE105.out, NB101_105.out, NB105_101.out, (pbx HB)⟩)
        ·
         skip
         rintro gb104 w90 ⟨hS_, h0_, h1_, h2_, h3_, h4_, h5_, h6_⟩
         have n0_ : Aside0 (w90.heap[gb101]? = some (.cells #[.int .i64 a2_0, .int .u64 a2_1, .int .i64 a2_2, .int .u64 a2_3, .int .i64 a2_4, .int .u64 a2_5] 78 (0, 0))) := ⟨h0_⟩
         have n1_ : Aside0 (w90.heap[gb104]? = some (.cells #[.int .i64 0, .int .u64 0] 26 (0, 0))) := ⟨h1_⟩
         have n2_ : Aside0 (w.heap.size ≤ gb104) := ⟨h2_⟩
         have n3_ : Aside0 (w.heap.size ≤ gb104) := ⟨h3_⟩
         have n4_ : Aside0 (gb101 ≠ gb104) := ⟨h4_⟩
         have n5_ : Aside0 (gb104 ≠ gb101) := ⟨h5_⟩
         have n6_ : Aside0 (Below w.heap.size w w90) := ⟨h6_⟩
         clear BK101
         clear HB
         clear h0_ h1_ h2_ h3_ h4_ h5_ h6_
         have BK101 := n0_
         have BK104 := n1_
         have GW104 := n2_
         have GE104 := n3_
         have NB101_104 := n4_
         have NB104_101 := n5_
         have HB := n6_
         clear n0_ n1_ n2_ n3_ n4_ n5_ n6_
         have hHeld : w90.cell? ⟨gb101, 0, none⟩ = some (.int .i64 a2_0) ∧ w90.cell? ⟨gb101, 1, none⟩ = some (.int .u64 a2_1) ∧ w90.cell? ⟨gb101, 2, none⟩ = some (.int .i64 a2_2) ∧ w90.cell? ⟨gb101, 3, none⟩ = some (.int .u64 a2_3) ∧ w90.cell? ⟨gb101, 4, none⟩ = some (.int .i64 a2_4) ∧ w90.cell? ⟨gb101, 5, none⟩ = some (.int .u64 a2_5) := hS_
         refine norm_ (a' := ?_) ?_ ?_
         rotate_left
         ·
          simp only [putAll, Act.put, q_]
          rfl
         refine two_ (i := 6) (j := 8) (Ni := some 7) (Nj := some 9) #[true, true, true, true, true, true, true, true, false, false, false, false] #[true, true, true, true, true, true, false, true, true, false, false, false] rfl rfl rfl rfl (two_of HT_.out (by kernel_rfl)) (by decide) (by decide) (fun K hK => ?_) (fun K hK => ?_)
         ·
          skip
          refine box_step ?hg (N := 7) ?hd (cs := #[.int .i64 0, .int .u64 0]) (t := 26) ?hr ?_; (case hd => rfl); (case hg => rfl); (case hr => first | (go_simp; done) | (go_simp; rfl))
          intro gb103 hg w91 hbox hb
          have n0_ := Aside0.mk (blk_below (pkx BK101) hb)
          have n1_ := Aside0.mk (blk_below (pkx BK104) hb)
          have n2_ := Aside0.mk (below_step (pbx HB) hb)
          have n3_ := Aside0.mk (hbox)
          have n4_ := Aside0.mk ((by rw [hg]; exact (below_size (pbx HB)) : w.heap.size ≤ gb103))
          have n5_ := Aside0.mk ((by rw [hg]; exact (below_size (pbx HB)) : w.heap.size ≤ gb103))
          have n6_ := Aside0.mk ((by rw [hg]; exact Nat.ne_of_lt (blk_lt (pkx BK101)) : gb101 ≠ gb103))
          have n7_ := Aside0.mk ((by rw [hg]; exact Nat.ne_of_gt (blk_lt (pkx BK101)) : gb103 ≠ gb101))
          have n8_ := Aside0.mk ((by rw [hg]; exact Nat.ne_of_lt (blk_lt (pkx BK104)) : gb104 ≠ gb103))
          have n9_ := Aside0.mk ((by rw [hg]; exact Nat.ne_of_gt (blk_lt (pkx BK104)) : gb103 ≠ gb104))
          clear BK101
          clear BK104
          clear HB
          have BK101 := n0_
          have BK104 := n1_
          have HB := n2_
          have BK103 := n3_
          have GW103 := n4_
          have GE103 := n5_
          have NB101_103 := n6_
          have NB103_101 := n7_
          have NB104_103 := n8_
          have NB103_104 := n9_
          clear n0_ n1_ n2_ n3_ n4_ n5_ n6_ n7_ n8_ n9_
          clear hb hbox hg
          refine hK.out _ _ ⟨(blk_cell BK101.out 0).trans rfl, (blk_cell BK101.out 1).trans rfl, (blk_cell BK101.out 2).trans rfl, (blk_cell BK101.out 3).trans rfl, (blk_cell BK101.out 4).trans rfl, (blk_cell BK101.out 5).trans rfl⟩ (fun hHeld => ?_)
          clear hK K
          refine norm_ (a' := ?_) ?_ ?_
          rotate_left
          ·
           show Act.put _ (some 7) _ = _
           simp only [Act.put, q_, i64_w, i32_w]
           rfl
          exact norm_ (by first | (simp only [putAll, Act.put, q_]; done) | (simp only [putAll, Act.put, q_]; rfl)) (hJ6_7 (gb103, gb104) _ ⟨hHeld, (pkx BK101), (pkx BK103), (pkx BK104), GW103.out, GE103.out, NB101_103.out, NB103_101.out, NB104_103.out, NB103_104.out, GW104.out, GE104.out, NB101_104.out, NB104_101.out, (pbx HB)⟩)
         ·
          skip
          refine box_step ?hg (N := 9) ?hd (cs := #[.int .i64 0, .int .u64 0]) (t := 26) ?hr ?_; (case hd => rfl); (case hg => rfl); (case hr => first | (go_simp; done) | (go_simp; rfl))
          intro gb105 hg w91 hbox hb
          have n0_ := Aside0.mk (blk_below (pkx BK101) hb)
          have n1_ := Aside0.mk (blk_below (pkx BK104) hb)
          have n2_ := Aside0.mk (below_step (pbx HB) hb)
          have n3_ := Aside0.mk (hbox)
          have n4_ := Aside0.mk ((by rw [hg]; exact (below_size (pbx HB)) : w.heap.size ≤ gb105))
          have n5_ := Aside0.mk ((by rw [hg]; exact (below_size (pbx HB)) : w.heap.size ≤ gb105))
          have n6_ := Aside0.mk ((by rw [hg]; exact Nat.ne_of_lt (blk_lt (pkx BK101)) : gb101 ≠ gb105))
          have n7_ := Aside0.mk ((by rw [hg]; exact Nat.ne_of_gt (blk_lt (pkx BK101)) : gb105 ≠ gb101))
          have n8_ := Aside0.mk ((by rw [hg]; exact Nat.ne_of_lt (blk_lt (pkx BK104)) : gb104 ≠ gb105))
          have n9_ := Aside0.mk ((by rw [hg]; exact Nat.ne_of_gt (blk_lt (pkx BK104)) : gb105 ≠ gb104))
          clear BK101
          clear BK104
          clear HB
          have BK101 := n0_
          have BK104 := n1_
          have HB := n2_
          have BK105 := n3_
          have GW105 := n4_
          have GE105 := n5_
          have NB101_105 := n6_
          have NB105_101 := n7_
          have NB104_105 := n8_
          have NB105_104 := n9_
          clear n0_ n1_ n2_ n3_ n4_ n5_ n6_ n7_ n8_ n9_
          clear hb hbox hg
          refine hK.out _ _ ⟨(blk_cell BK101.out 0).trans rfl, (blk_cell BK101.out 1).trans rfl, (blk_cell BK101.out 2).trans rfl, (blk_cell BK101.out 3).trans rfl, (blk_cell BK101.out 4).trans rfl, (blk_cell BK101.out 5).trans rfl⟩ (fun hHeld => ?_)
          clear hK K
          refine norm_ (a' := ?_) ?_ ?_
          rotate_left
          ·
           show Act.put _ (some 9) _ = _
           simp only [Act.put, q_, i64_w, i32_w]
           rfl
          exact norm_ (by first | (simp only [putAll, Act.put, q_]; done) | (simp only [putAll, Act.put, q_]; rfl)) (hJ7_8 (gb104, gb105) _ ⟨hHeld, (pkx BK101), (pkx BK104), (pkx BK105), GW104.out, GE104.out, NB101_104.out, NB104_101.out, NB105_104.out, NB104_105.out, GW105.out, GE105.out, NB101_105.out, NB105_101.out, (pbx HB)⟩)
       ·
        skip
        rintro gb103 w90 ⟨hS_, h0_, h1_, h2_, h3_, h4_, h5_, h6_⟩
        have n0_ : Aside0 (w90.heap[gb101]? = some (.cells #[.int .i64 a2_0, .int .u64 a2_1, .int .i64 a2_2, .int .u64 a2_3, .int .i64 a2_4, .int .u64 a2_5] 78 (0, 0))) := ⟨h0_⟩
        have n1_ : Aside0 (w90.heap[gb103]? = some (.cells #[.int .i64 0, .int .u64 0] 26 (0, 0))) := ⟨h1_⟩
        have n2_ : Aside0 (w.heap.size ≤ gb103) := ⟨h2_⟩
        have n3_ : Aside0 (w.heap.size ≤ gb103) := ⟨h3_⟩
        have n4_ : Aside0 (gb101 ≠ gb103) := ⟨h4_⟩
        have n5_ : Aside0 (gb103 ≠ gb101) := ⟨h5_⟩
        have n6_ : Aside0 (Below w.heap.size w w90) := ⟨h6_⟩
        clear BK101
        clear HB
        clear h0_ h1_ h2_ h3_ h4_ h5_ h6_
        have BK101 := n0_
        have BK103 := n1_
        have GW103 := n2_
        have GE103 := n3_
        have NB101_103 := n4_
        have NB103_101 := n5_
        have HB := n6_
        clear n0_ n1_ n2_ n3_ n4_ n5_ n6_
        have hHeld : w90.cell? ⟨gb101, 0, none⟩ = some (.int .i64 a2_0) ∧ w90.cell? ⟨gb101, 1, none⟩ = some (.int .u64 a2_1) ∧ w90.cell? ⟨gb101, 2, none⟩ = some (.int .i64 a2_2) ∧ w90.cell? ⟨gb101, 3, none⟩ = some (.int .u64 a2_3) ∧ w90.cell? ⟨gb101, 4, none⟩ = some (.int .i64 a2_4) ∧ w90.cell? ⟨gb101, 5, none⟩ = some (.int .u64 a2_5) := hS_
        refine norm_ (a' := ?_) ?_ ?_
        rotate_left
        ·
         simp only [putAll, Act.put, q_]
         rfl
        refine two_ (i := 7) (j := 8) (Ni := some 8) (Nj := some 9) #[true, true, true, true, true, true, true, true, false, false, false, false] #[true, true, true, true, true, true, true, false, true, false, false, false] rfl rfl rfl rfl (two_of HT_.out (by kernel_rfl)) (by decide) (by decide) (fun K hK => ?_) (fun K hK => ?_)
        ·
         skip
         refine box_step ?hg (N := 8) ?hd (cs := #[.int .i64 0, .int .u64 0]) (t := 26) ?hr ?_; (case hd => rfl); (case hg => rfl); (case hr => first | (go_simp; done) | (go_simp; rfl))
         intro gb104 hg w91 hbox hb
         have n0_ := Aside0.mk (blk_below (pkx BK101) hb)
         have n1_ := Aside0.mk (blk_below (pkx BK103) hb)
         have n2_ := Aside0.mk (below_step (pbx HB) hb)
         have n3_ := Aside0.mk (hbox)
         have n4_ := Aside0.mk ((by rw [hg]; exact (below_size (pbx HB)) : w.heap.size ≤ gb104))
         have n5_ := Aside0.mk ((by rw [hg]; exact (below_size (pbx HB)) : w.heap.size ≤ gb104))
         have n6_ := Aside0.mk ((by rw [hg]; exact Nat.ne_of_lt (blk_lt (pkx BK101)) : gb101 ≠ gb104))
         have n7_ := Aside0.mk ((by rw [hg]; exact Nat.ne_of_gt (blk_lt (pkx BK101)) : gb104 ≠ gb101))
         have n8_ := Aside0.mk ((by rw [hg]; exact Nat.ne_of_lt (blk_lt (pkx BK103)) : gb103 ≠ gb104))
         have n9_ := Aside0.mk ((by rw [hg]; exact Nat.ne_of_gt (blk_lt (pkx BK103)) : gb104 ≠ gb103))
         clear BK101
         clear BK103
         clear HB
         have BK101 := n0_
         have BK103 := n1_
         have HB := n2_
         have BK104 := n3_
         have GW104 := n4_
         have GE104 := n5_
         have NB101_104 := n6_
         have NB104_101 := n7_
         have NB103_104 := n8_
         have NB104_103 := n9_
         clear n0_ n1_ n2_ n3_ n4_ n5_ n6_ n7_ n8_ n9_
         clear hb hbox hg
         refine hK.out _ _ ⟨(blk_cell BK101.out 0).trans rfl, (blk_cell BK101.out 1).trans rfl, (blk_cell BK101.out 2).trans rfl, (blk_cell BK101.out 3).trans rfl, (blk_cell BK101.out 4).trans rfl, (blk_cell BK101.out 5).trans rfl⟩ (fun hHeld => ?_)
         clear hK K
         refine norm_ (a' := ?_) ?_ ?_
         rotate_left
         ·
          show Act.put _ (some 8) _ = _
          simp only [Act.put, q_, i64_w, i32_w]
          rfl
         exact norm_ (by first | (simp only [putAll, Act.put, q_]; done) | (simp only [putAll, Act.put, q_]; rfl)) (hJ6_7 (gb103, gb104) _ ⟨hHeld, (pkx BK101), (pkx BK103), (pkx BK104), GW103.out, GE103.out, NB101_103.out, NB103_101.out, NB104_103.out, NB103_104.out, GW104.out, GE104.out, NB101_104.out, NB104_101.out, (pbx HB)⟩)
        ·
         skip
         refine box_step ?hg (N := 9) ?hd (cs := #[.int .i64 0, .int .u64 0]) (t := 26) ?hr ?_; (case hd => rfl); (case hg => rfl); (case hr => first | (go_simp; done) | (go_simp; rfl))
         intro gb105 hg w91 hbox hb
         have n0_ := Aside0.mk (blk_below (pkx BK101) hb)
         have n1_ := Aside0.mk (blk_below (pkx BK103) hb)
         have n2_ := Aside0.mk (below_step (pbx HB) hb)
         have n3_ := Aside0.mk (hbox)
         have n4_ := Aside0.mk ((by rw [hg]; exact (below_size (pbx HB)) : w.heap.size ≤ gb105))
         have n5_ := Aside0.mk ((by rw [hg]; exact (below_size (pbx HB)) : w.heap.size ≤ gb105))
         have n6_ := Aside0.mk ((by rw [hg]; exact Nat.ne_of_lt (blk_lt (pkx BK101)) : gb101 ≠ gb105))
         have n7_ := Aside0.mk ((by rw [hg]; exact Nat.ne_of_gt (blk_lt (pkx BK101)) : gb105 ≠ gb101))
         have n8_ := Aside0.mk ((by rw [hg]; exact Nat.ne_of_lt (blk_lt (pkx BK103)) : gb103 ≠ gb105))
         have n9_ := Aside0.mk ((by rw [hg]; exact Nat.ne_of_gt (blk_lt (pkx BK103)) : gb105 ≠ gb103))
         clear BK101
         clear BK103
         clear HB
         have BK101 := n0_
         have BK103 := n1_
         have HB := n2_
         have BK105 := n3_
         have GW105 := n4_
         have GE105 := n5_
         have NB101_105 := n6_
         have NB105_101 := n7_
         have NB103_105 := n8_
         have NB105_103 := n9_
         clear n0_ n1_ n2_ n3_ n4_ n5_ n6_ n7_ n8_ n9_
         clear hb hbox hg
         refine hK.out _ _ ⟨(blk_cell BK101.out 0).trans rfl, (blk_cell BK101.out 1).trans rfl, (blk_cell BK101.out 2).trans rfl, (blk_cell BK101.out 3).trans rfl, (blk_cell BK101.out 4).trans rfl, (blk_cell BK101.out 5).trans rfl⟩ (fun hHeld => ?_)
         clear hK K
         refine norm_ (a' := ?_) ?_ ?_
         rotate_left
         ·
          show Act.put _ (some 9) _ = _
          simp only [Act.put, q_, i64_w, i32_w]
          rfl
         exact norm_ (by first | (simp only [putAll, Act.put, q_]; done) | (simp only [putAll, Act.put, q_]; rfl)) (hJ6_8 (gb103, gb105) _ ⟨hHeld, (pkx BK101), (pkx BK103), (pkx BK105), GW103.out, GE103.out, NB101_103.out, NB103_101.out, NB105_103.out, NB103_105.out, GW105.out, GE105.out, NB101_105.out, NB105_101.out, (pbx HB)⟩)
      ·
       skip
       rintro ⟨gb104, gb105⟩ w91 ⟨hS_, h0_, h1_, h2_, h3_, h4_, h5_, h6_, h7_, h8_, h9_, h10_, h11_, h12_, h13_⟩
       have n0_ : Aside0 (w91.heap[gb101]? = some (.cells #[.int .i64 a2_0, .int .u64 a2_1, .int .i64 a2_2, .int .u64 a2_3, .int .i64 a2_4, .int .u64 a2_5] 78 (0, 0))) := ⟨h0_⟩
       have n1_ : Aside0 (w91.heap[gb104]? = some (.cells #[.int .i64 0, .int .u64 0] 26 (0, 0))) := ⟨h1_⟩
       have n2_ : Aside0 (w91.heap[gb105]? = some (.cells #[.int .i64 0, .int .u64 0] 26 (0, 0))) := ⟨h2_⟩
       have n3_ : Aside0 (w.heap.size ≤ gb104) := ⟨h3_⟩
       have n4_ : Aside0 (w.heap.size ≤ gb104) := ⟨h4_⟩
       have n5_ : Aside0 (gb101 ≠ gb104) := ⟨h5_⟩
       have n6_ : Aside0 (gb104 ≠ gb101) := ⟨h6_⟩
       have n7_ : Aside0 (gb105 ≠ gb104) := ⟨h7_⟩
       have n8_ : Aside0 (gb104 ≠ gb105) := ⟨h8_⟩
       have n9_ : Aside0 (w.heap.size ≤ gb105) := ⟨h9_⟩
       have n10_ : Aside0 (w.heap.size ≤ gb105) := ⟨h10_⟩
       have n11_ : Aside0 (gb101 ≠ gb105) := ⟨h11_⟩
       have n12_ : Aside0 (gb105 ≠ gb101) := ⟨h12_⟩
       have n13_ : Aside0 (Below w.heap.size w w91) := ⟨h13_⟩
       clear BK101
       clear HB
       clear h0_ h1_ h2_ h3_ h4_ h5_ h6_ h7_ h8_ h9_ h10_ h11_ h12_ h13_
       have BK101 := n0_
       have BK104 := n1_
       have BK105 := n2_
       have GW104 := n3_
       have GE104 := n4_
       have NB101_104 := n5_
       have NB104_101 := n6_
       have NB105_104 := n7_
       have NB104_105 := n8_
       have GW105 := n9_
       have GE105 := n10_
       have NB101_105 := n11_
       have NB105_101 := n12_
       have HB := n13_
       clear n0_ n1_ n2_ n3_ n4_ n5_ n6_ n7_ n8_ n9_ n10_ n11_ n12_ n13_
       have hHeld : w91.cell? ⟨gb101, 0, none⟩ = some (.int .i64 a2_0) ∧ w91.cell? ⟨gb101, 1, none⟩ = some (.int .u64 a2_1) ∧ w91.cell? ⟨gb101, 2, none⟩ = some (.int .i64 a2_2) ∧ w91.cell? ⟨gb101, 3, none⟩ = some (.int .u64 a2_3) ∧ w91.cell? ⟨gb101, 4, none⟩ = some (.int .i64 a2_4) ∧ w91.cell? ⟨gb101, 5, none⟩ = some (.int .u64 a2_5) := hS_
       refine norm_ (a' := ?_) ?_ ?_
       rotate_left
       ·
        simp only [putAll, Act.put, q_]
        rfl
       refine one_ (i := 6) (N := some 7) #[true, true, true, true, true, true, true, true, true, false, false, false] rfl rfl (one_of HT_.out (by kernel_rfl)) (by decide) (fun K hK => ?_)
       refine box_step ?hg (N := 7) ?hd (cs := #[.int .i64 0, .int .u64 0]) (t := 26) ?hr ?_; (case hd => rfl); (case hg => rfl); (case hr => first | (go_simp; done) | (go_simp; rfl))
       intro gb103 hg w92 hbox hb
       have n0_ := Aside0.mk (blk_below (pkx BK101) hb)
       have n1_ := Aside0.mk (blk_below (pkx BK104) hb)
       have n2_ := Aside0.mk (blk_below (pkx BK105) hb)
       have n3_ := Aside0.mk (below_step (pbx HB) hb)
       have n4_ := Aside0.mk (hbox)
       have n5_ := Aside0.mk ((by rw [hg]; exact (below_size (pbx HB)) : w.heap.size ≤ gb103))
       have n6_ := Aside0.mk ((by rw [hg]; exact (below_size (pbx HB)) : w.heap.size ≤ gb103))
       have n7_ := Aside0.mk ((by rw [hg]; exact Nat.ne_of_lt (blk_lt (pkx BK101)) : gb101 ≠ gb103))
       have n8_ := Aside0.mk ((by rw [hg]; exact Nat.ne_of_gt (blk_lt (pkx BK101)) : gb103 ≠ gb101))
       have n9_ := Aside0.mk ((by rw [hg]; exact Nat.ne_of_lt (blk_lt (pkx BK104)) : gb104 ≠ gb103))
       have n10_ := Aside0.mk ((by rw [hg]; exact Nat.ne_of_gt (blk_lt (pkx BK104)) : gb103 ≠ gb104))
       have n11_ := Aside0.mk ((by rw [hg]; exact Nat.ne_of_lt (blk_lt (pkx BK105)) : gb105 ≠ gb103))
       have n12_ := Aside0.mk ((by rw [hg]; exact Nat.ne_of_gt (blk_lt (pkx BK105)) : gb103 ≠ gb105))
       clear BK101
       clear BK104
       clear BK105
       clear HB
       have BK101 := n0_
       have BK104 := n1_
       have BK105 := n2_
       have HB := n3_
       have BK103 := n4_
       have GW103 := n5_
       have GE103 := n6_
       have NB101_103 := n7_
       have NB103_101 := n8_
       have NB104_103 := n9_
       have NB103_104 := n10_
       have NB105_103 := n11_
       have NB103_105 := n12_
       clear n0_ n1_ n2_ n3_ n4_ n5_ n6_ n7_ n8_ n9_ n10_ n11_ n12_
       clear hb hbox hg
       refine hK.out _ _ ⟨(blk_cell BK101.out 0).trans rfl, (blk_cell BK101.out 1).trans rfl, (blk_cell BK101.out 2).trans rfl, (blk_cell BK101.out 3).trans rfl, (blk_cell BK101.out 4).trans rfl, (blk_cell BK101.out 5).trans rfl⟩ (fun hHeld => ?_)
       clear hK K
       refine norm_ (a' := ?_) ?_ ?_
       rotate_left
       ·
        show Act.put _ (some 7) _ = _
        simp only [Act.put, q_, i64_w, i32_w]
        rfl
       exact norm_ (by first | (simp only [putAll, Act.put, q_]; done) | (simp only [putAll, Act.put, q_]; rfl)) (hJ6_7_8 (gb103, gb104, gb105) _ ⟨hHeld, (pkx BK101), (pkx BK103), (pkx BK104), (pkx BK105), GW103.out, GE103.out, NB101_103.out, NB103_101.out, NB104_103.out, NB103_104.out, NB105_103.out, NB103_105.out, GW104.out, GE104.out, NB101_104.out, NB104_101.out, NB105_104.out, NB104_105.out, GW105.out, GE105.out, NB101_105.out, NB105_101.out, (pbx HB)⟩)
     ·
      skip
      rintro ⟨gb103, gb105⟩ w91 ⟨hS_, h0_, h1_, h2_, h3_, h4_, h5_, h6_, h7_, h8_, h9_, h10_, h11_, h12_, h13_⟩
      have n0_ : Aside0 (w91.heap[gb101]? = some (.cells #[.int .i64 a2_0, .int .u64 a2_1, .int .i64 a2_2, .int .u64 a2_3, .int .i64 a2_4, .int .u64 a2_5] 78 (0, 0))) := ⟨h0_⟩
      have n1_ : Aside0 (w91.heap[gb103]? = some (.cells #[.int .i64 0, .int .u64 0] 26 (0, 0))) := ⟨h1_⟩
      have n2_ : Aside0 (w91.heap[gb105]? = some (.cells #[.int .i64 0, .int .u64 0] 26 (0, 0))) := ⟨h2_⟩
      have n3_ : Aside0 (w.heap.size ≤ gb103) := ⟨h3_⟩
      have n4_ : Aside0 (w.heap.size ≤ gb103) := ⟨h4_⟩
      have n5_ : Aside0 (gb101 ≠ gb103) := ⟨h5_⟩
      have n6_ : Aside0 (gb103 ≠ gb101) := ⟨h6_⟩
      have n7_ : Aside0 (gb105 ≠ gb103) := ⟨h7_⟩
      have n8_ : Aside0 (gb103 ≠ gb105) := ⟨h8_⟩
      have n9_ : Aside0 (w.heap.size ≤ gb105) := ⟨h9_⟩
      have n10_ : Aside0 (w.heap.size ≤ gb105) := ⟨h10_⟩
      have n11_ : Aside0 (gb101 ≠ gb105) := ⟨h11_⟩
      have n12_ : Aside0 (gb105 ≠ gb101) := ⟨h12_⟩
      have n13_ : Aside0 (Below w.heap.size w w91) := ⟨h13_⟩
      clear BK101
      clear HB
      clear h0_ h1_ h2_ h3_ h4_ h5_ h6_ h7_ h8_ h9_ h10_ h11_ h12_ h13_
      have BK101 := n0_
      have BK103 := n1_
      have BK105 := n2_
      have GW103 := n3_
      have GE103 := n4_
      have NB101_103 := n5_
      have NB103_101 := n6_
      have NB105_103 := n7_
      have NB103_105 := n8_
      have GW105 := n9_
      have GE105 := n10_
      have NB101_105 := n11_
      have NB105_101 := n12_
      have HB := n13_
      clear n0_ n1_ n2_ n3_ n4_ n5_ n6_ n7_ n8_ n9_ n10_ n11_ n12_ n13_
      have hHeld : w91.cell? ⟨gb101, 0, none⟩ = some (.int .i64 a2_0) ∧ w91.cell? ⟨gb101, 1, none⟩ = some (.int .u64 a2_1) ∧ w91.cell? ⟨gb101, 2, none⟩ = some (.int .i64 a2_2) ∧ w91.cell? ⟨gb101, 3, none⟩ = some (.int .u64 a2_3) ∧ w91.cell? ⟨gb101, 4, none⟩ = some (.int .i64 a2_4) ∧ w91.cell? ⟨gb101, 5, none⟩ = some (.int .u64 a2_5) := hS_
      refine norm_ (a' := ?_) ?_ ?_
      rotate_left
      ·
       simp only [putAll, Act.put, q_]
       rfl
      refine one_ (i := 7) (N := some 8) #[true, true, true, true, true, true, true, true, true, false, false, false] rfl rfl (one_of HT_.out (by kernel_rfl)) (by decide) (fun K hK => ?_)
      refine box_step ?hg (N := 8) ?hd (cs := #[.int .i64 0, .int .u64 0]) (t := 26) ?hr ?_; (case hd => rfl); (case hg => rfl); (case hr => first | (go_simp; done) | (go_simp; rfl))
      intro gb104 hg w92 hbox hb
      have n0_ := Aside0.mk (blk_below (pkx BK101) hb)
      have n1_ := Aside0.mk (blk_below (pkx BK103) hb)
      have n2_ := Aside0.mk (blk_below (pkx BK105) hb)
      have n3_ := Aside0.mk (below_step (pbx HB) hb)
      have n4_ := Aside0.mk (hbox)
      have n5_ := Aside0.mk ((by rw [hg]; exact (below_size (pbx HB)) : w.heap.size ≤ gb104))
      have n6_ := Aside0.mk ((by rw [hg]; exact (below_size (pbx HB)) : w.heap.size ≤ gb104))
      have n7_ := Aside0.mk ((by rw [hg]; exact Nat.ne_of_lt (blk_lt (pkx BK101)) : gb101 ≠ gb104))
      have n8_ := Aside0.mk ((by rw [hg]; exact Nat.ne_of_gt (blk_lt (pkx BK101)) : gb104 ≠ gb101))
      have n9_ := Aside0.mk ((by rw [hg]; exact Nat.ne_of_lt (blk_lt (pkx BK103)) : gb103 ≠ gb104))
      have n10_ := Aside0.mk ((by rw [hg]; exact Nat.ne_of_gt (blk_lt (pkx BK103)) : gb104 ≠ gb103))
      have n11_ := Aside0.mk ((by rw [hg]; exact Nat.ne_of_lt (blk_lt (pkx BK105)) : gb105 ≠ gb104))
      have n12_ := Aside0.mk ((by rw [hg]; exact Nat.ne_of_gt (blk_lt (pkx BK105)) : gb104 ≠ gb105))
      clear BK101
      clear BK103
      clear BK105
      clear HB
      have BK101 := n0_
      have BK103 := n1_
      have BK105 := n2_
      have HB := n3_
      have BK104 := n4_
      have GW104 := n5_
      have GE104 := n6_
      have NB101_104 := n7_
      have NB104_101 := n8_
      have NB103_104 := n9_
      have NB104_103 := n10_
      have NB105_104 := n11_
      have NB104_105 := n12_
      clear n0_ n1_ n2_ n3_ n4_ n5_ n6_ n7_ n8_ n9_ n10_ n11_ n12_
      clear hb hbox hg
      refine hK.out _ _ ⟨(blk_cell BK101.out 0).trans rfl, (blk_cell BK101.out 1).trans rfl, (blk_cell BK101.out 2).trans rfl, (blk_cell BK101.out 3).trans rfl, (blk_cell BK101.out 4).trans rfl, (blk_cell BK101.out 5).trans rfl⟩ (fun hHeld => ?_)
      clear hK K
      refine norm_ (a' := ?_) ?_ ?_
      rotate_left
      ·
       show Act.put _ (some 8) _ = _
       simp only [Act.put, q_, i64_w, i32_w]
       rfl
      exact norm_ (by first | (simp only [putAll, Act.put, q_]; done) | (simp only [putAll, Act.put, q_]; rfl)) (hJ6_7_8 (gb103, gb104, gb105) _ ⟨hHeld, (pkx BK101), (pkx BK103), (pkx BK104), (pkx BK105), GW103.out, GE103.out, NB101_103.out, NB103_101.out, NB104_103.out, NB103_104.out, NB105_103.out, NB103_105.out, GW104.out, GE104.out, NB101_104.out, NB104_101.out, NB105_104.out, NB104_105.out, GW105.out, GE105.out, NB101_105.out, NB105_101.out, (pbx HB)⟩)
    ·
     skip
     rintro ⟨gb103, gb104⟩ w91 ⟨hS_, h0_, h1_, h2_, h3_, h4_, h5_, h6_, h7_, h8_, h9_, h10_, h11_, h12_, h13_⟩
     have n0_ : Aside0 (w91.heap[gb101]? = some (.cells #[.int .i64 a2_0, .int .u64 a2_1, .int .i64 a2_2, .int .u64 a2_3, .int .i64 a2_4, .int .u64 a2_5] 78 (0, 0))) := ⟨h0_⟩
     have n1_ : Aside0 (w91.heap[gb103]? = some (.cells #[.int .i64 0, .int .u64 0] 26 (0, 0))) := ⟨h1_⟩
     have n2_ : Aside0 (w91.heap[gb104]? = some (.cells #[.int .i64 0, .int .u64 0] 26 (0, 0))) := ⟨h2_⟩
     have n3_ : Aside0 (w.heap.size ≤ gb103) := ⟨h3_⟩
     have n4_ : Aside0 (w.heap.size ≤ gb103) := ⟨h4_⟩
     have n5_ : Aside0 (gb101 ≠ gb103) := ⟨h5_⟩
     have n6_ : Aside0 (gb103 ≠ gb101) := ⟨h6_⟩
     have n7_ : Aside0 (gb104 ≠ gb103) := ⟨h7_⟩
     have n8_ : Aside0 (gb103 ≠ gb104) := ⟨h8_⟩
     have n9_ : Aside0 (w.heap.size ≤ gb104) := ⟨h9_⟩
     have n10_ : Aside0 (w.heap.size ≤ gb104) := ⟨h10_⟩
     have n11_ : Aside0 (gb101 ≠ gb104) := ⟨h11_⟩
     have n12_ : Aside0 (gb104 ≠ gb101) := ⟨h12_⟩
     have n13_ : Aside0 (Below w.heap.size w w91) := ⟨h13_⟩
     clear BK101
     clear HB
     clear h0_ h1_ h2_ h3_ h4_ h5_ h6_ h7_ h8_ h9_ h10_ h11_ h12_ h13_
     have BK101 := n0_
     have BK103 := n1_
     have BK104 := n2_
     have GW103 := n3_
     have GE103 := n4_
     have NB101_103 := n5_
     have NB103_101 := n6_
     have NB104_103 := n7_
     have NB103_104 := n8_
     have GW104 := n9_
     have GE104 := n10_
     have NB101_104 := n11_
     have NB104_101 := n12_
     have HB := n13_
     clear n0_ n1_ n2_ n3_ n4_ n5_ n6_ n7_ n8_ n9_ n10_ n11_ n12_ n13_
     have hHeld : w91.cell? ⟨gb101, 0, none⟩ = some (.int .i64 a2_0) ∧ w91.cell? ⟨gb101, 1, none⟩ = some (.int .u64 a2_1) ∧ w91.cell? ⟨gb101, 2, none⟩ = some (.int .i64 a2_2) ∧ w91.cell? ⟨gb101, 3, none⟩ = some (.int .u64 a2_3) ∧ w91.cell? ⟨gb101, 4, none⟩ = some (.int .i64 a2_4) ∧ w91.cell? ⟨gb101, 5, none⟩ = some (.int .u64 a2_5) := hS_
     refine norm_ (a' := ?_) ?_ ?_
     rotate_left
     ·
      simp only [putAll, Act.put, q_]
      rfl
     refine one_ (i := 8) (N := some 9) #[true, true, true, true, true, true, true, true, true, false, false, false] rfl rfl (one_of HT_.out (by kernel_rfl)) (by decide) (fun K hK => ?_)
     refine box_step ?hg (N := 9) ?hd (cs := #[.int .i64 0, .int .u64 0]) (t := 26) ?hr ?_; (case hd => rfl); (case hg => rfl); (case hr => first | (go_simp; done) | (go_simp; rfl))
     intro gb105 hg w92 hbox hb
     have n0_ := Aside0.mk (blk_below (pkx BK101) hb)
     have n1_ := Aside0.mk (blk_below (pkx BK103) hb)
     have n2_ := Aside0.mk (blk_below (pkx BK104) hb)
     have n3_ := Aside0.mk (below_step (pbx HB) hb)
     have n4_ := Aside0.mk (hbox)
     have n5_ := Aside0.mk ((by rw [hg]; exact (below_size (pbx HB)) : w.heap.size ≤ gb105))
     have n6_ := Aside0.mk ((by rw [hg]; exact (below_size (pbx HB)) : w.heap.size ≤ gb105))
     have n7_ := Aside0.mk ((by rw [hg]; exact Nat.ne_of_lt (blk_lt (pkx BK101)) : gb101 ≠ gb105))
     have n8_ := Aside0.mk ((by rw [hg]; exact Nat.ne_of_gt (blk_lt (pkx BK101)) : gb105 ≠ gb101))
     have n9_ := Aside0.mk ((by rw [hg]; exact Nat.ne_of_lt (blk_lt (pkx BK103)) : gb103 ≠ gb105))
     have n10_ := Aside0.mk ((by rw [hg]; exact Nat.ne_of_gt (blk_lt (pkx BK103)) : gb105 ≠ gb103))
     have n11_ := Aside0.mk ((by rw [hg]; exact Nat.ne_of_lt (blk_lt (pkx BK104)) : gb104 ≠ gb105))
     have n12_ := Aside0.mk ((by rw [hg]; exact Nat.ne_of_gt (blk_lt (pkx BK104)) : gb105 ≠ gb104))
     clear BK101
     clear BK103
     clear BK104
     clear HB
     have BK101 := n0_
     have BK103 := n1_
     have BK104 := n2_
     have HB := n3_
     have BK105 := n4_
     have GW105 := n5_
     have GE105 := n6_
     have NB101_105 := n7_
     have NB105_101 := n8_
     have NB103_105 := n9_
     have NB105_103 := n10_
     have NB104_105 := n11_
     have NB105_104 := n12_
     clear n0_ n1_ n2_ n3_ n4_ n5_ n6_ n7_ n8_ n9_ n10_ n11_ n12_
     clear hb hbox hg
     refine hK.out _ _ ⟨(blk_cell BK101.out 0).trans rfl, (blk_cell BK101.out 1).trans rfl, (blk_cell BK101.out 2).trans rfl, (blk_cell BK101.out 3).trans rfl, (blk_cell BK101.out 4).trans rfl, (blk_cell BK101.out 5).trans rfl⟩ (fun hHeld => ?_)
     clear hK K
     refine norm_ (a' := ?_) ?_ ?_
     rotate_left
     ·
      show Act.put _ (some 9) _ = _
      simp only [Act.put, q_, i64_w, i32_w]
      rfl
     exact norm_ (by first | (simp only [putAll, Act.put, q_]; done) | (simp only [putAll, Act.put, q_]; rfl)) (hJ6_7_8 (gb103, gb104, gb105) _ ⟨hHeld, (pkx BK101), (pkx BK103), (pkx BK104), (pkx BK105), GW103.out, GE103.out, NB101_103.out, NB103_101.out, NB104_103.out, NB103_104.out, NB105_103.out, NB103_105.out, GW104.out, GE104.out, NB101_104.out, NB104_101.out, NB105_104.out, NB104_105.out, GW105.out, GE105.out, NB101_105.out, NB105_101.out, (pbx HB)⟩)
   rintro ⟨gb103, gb104, gb105⟩ w92 ⟨hS_, h0_, h1_, h2_, h3_, h4_, h5_, h6_, h7_, h8_, h9_, h10_, h11_, h12_, h13_, h14_, h15_, h16_, h17_, h18_, h19_, h20_, h21_, h22_⟩
   have n0_ : Aside0 (w92.heap[gb101]? = some (.cells #[.int .i64 a2_0, .int .u64 a2_1, .int .i64 a2_2, .int .u64 a2_3, .int .i64 a2_4, .int .u64 a2_5] 78 (0, 0))) := ⟨h0_⟩
   have n1_ : Aside0 (w92.heap[gb103]? = some (.cells #[.int .i64 0, .int .u64 0] 26 (0, 0))) := ⟨h1_⟩
   have n2_ : Aside0 (w92.heap[gb104]? = some (.cells #[.int .i64 0, .int .u64 0] 26 (0, 0))) := ⟨h2_⟩
   have n3_ : Aside0 (w92.heap[gb105]? = some (.cells #[.int .i64 0, .int .u64 0] 26 (0, 0))) := ⟨h3_⟩
   have n4_ : Aside0 (w.heap.size ≤ gb103) := ⟨h4_⟩
   have n5_ : Aside0 (w.heap.size ≤ gb103) := ⟨h5_⟩
   have n6_ : Aside0 (gb101 ≠ gb103) := ⟨h6_⟩
   have n7_ : Aside0 (gb103 ≠ gb101) := ⟨h7_⟩
   have n8_ : Aside0 (gb104 ≠ gb103) := ⟨h8_⟩
   have n9_ : Aside0 (gb103 ≠ gb104) := ⟨h9_⟩
   have n10_ : Aside0 (gb105 ≠ gb103) := ⟨h10_⟩
   have n11_ : Aside0 (gb103 ≠ gb105) := ⟨h11_⟩
   have n12_ : Aside0 (w.heap.size ≤ gb104) := ⟨h12_⟩
   have n13_ : Aside0 (w.heap.size ≤ gb104) := ⟨h13_⟩
   have n14_ : Aside0 (gb101 ≠ gb104) := ⟨h14_⟩
   have n15_ : Aside0 (gb104 ≠ gb101) := ⟨h15_⟩
   have n16_ : Aside0 (gb105 ≠ gb104) := ⟨h16_⟩
   have n17_ : Aside0 (gb104 ≠ gb105) := ⟨h17_⟩
   have n18_ : Aside0 (w.heap.size ≤ gb105) := ⟨h18_⟩
   have n19_ : Aside0 (w.heap.size ≤ gb105) := ⟨h19_⟩
   have n20_ : Aside0 (gb101 ≠ gb105) := ⟨h20_⟩
   have n21_ : Aside0 (gb105 ≠ gb101) := ⟨h21_⟩
   have n22_ : Aside0 (Below w.heap.size w w92) := ⟨h22_⟩
   clear BK101
   clear HB
   clear h0_ h1_ h2_ h3_ h4_ h5_ h6_ h7_ h8_ h9_ h10_ h11_ h12_ h13_ h14_ h15_ h16_ h17_ h18_ h19_ h20_ h21_ h22_
   have BK101 := n0_
   have BK103 := n1_
   have BK104 := n2_
   have BK105 := n3_
   have GW103 := n4_
   have GE103 := n5_
   have NB101_103 := n6_
   have NB103_101 := n7_
   have NB104_103 := n8_
   have NB103_104 := n9_
   have NB105_103 := n10_
   have NB103_105 := n11_
   have GW104 := n12_
   have GE104 := n13_
   have NB101_104 := n14_
   have NB104_101 := n15_
   have NB105_104 := n16_
   have NB104_105 := n17_
   have GW105 := n18_
   have GE105 := n19_
   have NB101_105 := n20_
   have NB105_101 := n21_
   have HB := n22_
   clear n0_ n1_ n2_ n3_ n4_ n5_ n6_ n7_ n8_ n9_ n10_ n11_ n12_ n13_ n14_ n15_ n16_ n17_ n18_ n19_ n20_ n21_ n22_
   have hHeld : w92.cell? ⟨gb101, 0, none⟩ = some (.int .i64 a2_0) ∧ w92.cell? ⟨gb101, 1, none⟩ = some (.int .u64 a2_1) ∧ w92.cell? ⟨gb101, 2, none⟩ = some (.int .i64 a2_2) ∧ w92.cell? ⟨gb101, 3, none⟩ = some (.int .u64 a2_3) ∧ w92.cell? ⟨gb101, 4, none⟩ = some (.int .i64 a2_4) ∧ w92.cell? ⟨gb101, 5, none⟩ = some (.int .u64 a2_5) := hS_
   refine norm_ (a' := ?_) ?_ ?_
   rotate_left
   ·
    simp only [putAll, Act.put, q_]
    rfl
   refine one_ (i := 9) (N := none) #[true, true, true, true, true, true, true, true, true, true, false, false] rfl rfl (one_of HT_.out (by kernel_rfl)) (by decide) (fun K hK => ?_)
   have hs93 : w92.cell? ⟨gb103, 0, none⟩ = some (.int .i64 0) := (blk_cell BK103.out 0).trans rfl
   have hfs93 := blk_frozen BK103.out 0
   have hns93_0 := NB101_103.out
   have hns93_2 := NB104_103.out
   have hns93_3 := NB105_103.out
   have hms93_0 := NB103_101.out
   have hms93_2 := NB103_104.out
   have hms93_3 := NB103_105.out
   have hs94 : w92.cell? ⟨gb103, 1, none⟩ = some (.int .u64 0) := (blk_cell BK103.out 1).trans rfl
   have hfs94 := blk_frozen BK103.out 1
   have hns94_0 := NB101_103.out
   have hns94_2 := NB104_103.out
   have hns94_3 := NB105_103.out
   have hms94_0 := NB103_101.out
   have hms94_2 := NB103_104.out
   have hms94_3 := NB103_105.out
   refine skip_ (w1 := ?_) (by rfl) rfl ?_ ?_
   rotate_left
   ·
    go_simp
    rfl
   refine hK.out _ _ ⟨((cell_far (p := ⟨gb103, _, none⟩) NB101_103.out _).trans (((cell_far (p := ⟨gb103, _, none⟩) NB101_103.out _).trans (hHeld.1)))), ((cell_far (p := ⟨gb103, _, none⟩) NB101_103.out _).trans (((cell_far (p := ⟨gb103, _, none⟩) NB101_103.out _).trans (hHeld.2.1)))), ((cell_far (p := ⟨gb103, _, none⟩) NB101_103.out _).trans (((cell_far (p := ⟨gb103, _, none⟩) NB101_103.out _).trans (hHeld.2.2.1)))), ((cell_far (p := ⟨gb103, _, none⟩) NB101_103.out _).trans (((cell_far (p := ⟨gb103, _, none⟩) NB101_103.out _).trans (hHeld.2.2.2.1)))), ((cell_far (p := ⟨gb103, _, none⟩) NB101_103.out _).trans (((cell_far (p := ⟨gb103, _, none⟩) NB101_103.out _).trans (hHeld.2.2.2.2.1)))), ((cell_far (p := ⟨gb103, _, none⟩) NB101_103.out _).trans (((cell_far (p := ⟨gb103, _, none⟩) NB101_103.out _).trans (hHeld.2.2.2.2.2))))⟩ (fun hHeld => ?_)
   clear hK K
   refine one_ (i := 10) (N := none) #[true, true, true, true, true, true, true, true, true, true, true, false] rfl rfl (one_of HT_.out (by kernel_rfl)) (by decide) (fun K hK => ?_)
   have hs95 : w92.cell? ⟨gb104, 0, none⟩ = some (.int .i64 0) := (blk_cell BK104.out 0).trans rfl
   have hfs95 := blk_frozen BK104.out 0
   have hns95_0 := NB101_104.out
   have hns95_1 := NB103_104.out
   have hns95_3 := NB105_104.out
   have hms95_0 := NB104_101.out
   have hms95_1 := NB104_103.out
   have hms95_3 := NB104_105.out
   have hs96 : w92.cell? ⟨gb104, 1, none⟩ = some (.int .u64 0) := (blk_cell BK104.out 1).trans rfl
   have hfs96 := blk_frozen BK104.out 1
   have hns96_0 := NB101_104.out
   have hns96_1 := NB103_104.out
   have hns96_3 := NB105_104.out
   have hms96_0 := NB104_101.out
   have hms96_1 := NB104_103.out
   have hms96_3 := NB104_105.out
   refine skip_ (w1 := ?_) (by rfl) rfl ?_ ?_
   rotate_left
   ·
    go_simp
    rfl
   refine hK.out _ _ ⟨((cell_far (p := ⟨gb104, _, none⟩) NB101_104.out _).trans (((cell_far (p := ⟨gb104, _, none⟩) NB101_104.out _).trans (hHeld.1)))), ((cell_far (p := ⟨gb104, _, none⟩) NB101_104.out _).trans (((cell_far (p := ⟨gb104, _, none⟩) NB101_104.out _).trans (hHeld.2.1)))), ((cell_far (p := ⟨gb104, _, none⟩) NB101_104.out _).trans (((cell_far (p := ⟨gb104, _, none⟩) NB101_104.out _).trans (hHeld.2.2.1)))), ((cell_far (p := ⟨gb104, _, none⟩) NB101_104.out _).trans (((cell_far (p := ⟨gb104, _, none⟩) NB101_104.out _).trans (hHeld.2.2.2.1)))), ((cell_far (p := ⟨gb104, _, none⟩) NB101_104.out _).trans (((cell_far (p := ⟨gb104, _, none⟩) NB101_104.out _).trans (hHeld.2.2.2.2.1)))), ((cell_far (p := ⟨gb104, _, none⟩) NB101_104.out _).trans (((cell_far (p := ⟨gb104, _, none⟩) NB101_104.out _).trans (hHeld.2.2.2.2.2))))⟩ (fun hHeld => ?_)
   clear hK K
   refine one_ (i := 11) (N := none) #[true, true, true, true, true, true, true, true, true, true, true, true] rfl rfl (one_of HT_.out (by kernel_rfl)) (by decide) (fun K hK => ?_)
   have hs97 : w92.cell? ⟨gb105, 0, none⟩ = some (.int .i64 0) := (blk_cell BK105.out 0).trans rfl
   have hfs97 := blk_frozen BK105.out 0
   have hns97_0 := NB101_105.out
   have hns97_1 := NB103_105.out
   have hns97_2 := NB104_105.out
   have hms97_0 := NB105_101.out
   have hms97_1 := NB105_103.out
   have hms97_2 := NB105_104.out
   have hs98 : w92.cell? ⟨gb105, 1, none⟩ = some (.int .u64 0) := (blk_cell BK105.out 1).trans rfl
   have hfs98 := blk_frozen BK105.out 1
   have hns98_0 := NB101_105.out
   have hns98_1 := NB103_105.out
   have hns98_2 := NB104_105.out
   have hms98_0 := NB105_101.out
   have hms98_1 := NB105_103.out
   have hms98_2 := NB105_104.out
   refine skip_ (w1 := ?_) (by rfl) rfl ?_ ?_
   rotate_left
   ·
    go_simp
    rfl
   refine hK.out _ _ ⟨((cell_far (p := ⟨gb105, _, none⟩) NB101_105.out _).trans (((cell_far (p := ⟨gb105, _, none⟩) NB101_105.out _).trans (hHeld.1)))), ((cell_far (p := ⟨gb105, _, none⟩) NB101_105.out _).trans (((cell_far (p := ⟨gb105, _, none⟩) NB101_105.out _).trans (hHeld.2.1)))), ((cell_far (p := ⟨gb105, _, none⟩) NB101_105.out _).trans (((cell_far (p := ⟨gb105, _, none⟩) NB101_105.out _).trans (hHeld.2.2.1)))), ((cell_far (p := ⟨gb105, _, none⟩) NB101_105.out _).trans (((cell_far (p := ⟨gb105, _, none⟩) NB101_105.out _).trans (hHeld.2.2.2.1)))), ((cell_far (p := ⟨gb105, _, none⟩) NB101_105.out _).trans (((cell_far (p := ⟨gb105, _, none⟩) NB101_105.out _).trans (hHeld.2.2.2.2.1)))), ((cell_far (p := ⟨gb105, _, none⟩) NB101_105.out _).trans (((cell_far (p := ⟨gb105, _, none⟩) NB101_105.out _).trans (hHeld.2.2.2.2.2))))⟩ (fun hHeld => ?_)
   clear hK K
   refine done_ (done_of HT_.out (by kernel_rfl)) ?_
   have hnb99 := NB103_101.out
   have hnc99 := NB101_103.out
   have hnb100 := NB103_104.out
   have hnc100 := NB104_103.out
   have hnb101 := NB103_105.out
   have hnc101 := NB105_103.out
   have hcz102_0 : w92.cell? ⟨gb103, 0, none⟩ = some (.int .i64 0) := (blk_cell BK103.out 0).trans rfl
   have hcz102_1 : w92.cell? ⟨gb103, 1, none⟩ = some (.int .u64 0) := (blk_cell BK103.out 1).trans rfl
   have hfz102_0 := blk_frozen BK103.out 0
   have hfz102_1 := blk_frozen BK103.out 1
   have hnb103 := NB104_101.out
   have hnc103 := NB101_104.out
   have hnb104 := NB104_105.out
   have hnc104 := NB105_104.out
   have hcz105_0 : w92.cell? ⟨gb104, 0, none⟩ = some (.int .i64 0) := (blk_cell BK104.out 0).trans rfl
   have hcz105_1 : w92.cell? ⟨gb104, 1, none⟩ = some (.int .u64 0) := (blk_cell BK104.out 1).trans rfl
   have hfz105_0 := blk_frozen BK104.out 0
   have hfz105_1 := blk_frozen BK104.out 1
   try go_wp2_with (first | ((with_reducible refine gate_callee (f := 38) rfl ?_); refine goesL_ (some 27) rfl rfl Try.func38 (by kernel_rfl) rfl #[.slice A0 l0.length c0, .string a1, .agg #[.int .i64 a2_0, .int .u64 a2_1], .agg #[.int .i64 a2_2, .int .u64 a2_3]] rfl (by (try simp only [List.map_toArray, List.map_cons, List.map_nil]); first | done | rfl | (simp only [List.length_drop, List.length_take]; rfl)) ?_; (with_reducible refine (right_Lowers.calls k _ _ l0 a1 a2_0 a2_1 a2_2 a2_3 false _ ?side1 ?side2 A8.out).mono ?_); (case side1 => exact Kd.C_below HR0.out (by repeat (first | (with_reducible first | exact HB.out | apply below_alloc | apply pw_below_drewN | apply below_drew1 | refine below_set ?_ GE101.out | refine below_set ?_ GE103.out | refine below_set ?_ GE104.out | refine below_set ?_ GE105.out) | exact HB.out))); (case side2 => exact HC0.out); rintro e w106 ⟨rfl, hb⟩; refine ⟨_, rfl, ?_⟩; have n0_ := Aside0.mk (blk_below (g := gb101) (o := .cells #[.int .i64 a2_0, .int .u64 a2_1, .int .i64 a2_2, .int .u64 a2_3, .int .i64 a2_4, .int .u64 a2_5] 78 (0, 0)) (by (with_reducible repeat (first | refine blk_drewN ?_ _ | refine blk_drew ?_ | refine blk_alloc ?_ _)); refine blk_far ?_ NB101_105.out _; (with_reducible repeat (first | refine blk_drewN ?_ _ | refine blk_drew ?_ | refine blk_alloc ?_ _)); refine blk_far ?_ NB101_105.out _; (with_reducible repeat (first | refine blk_drewN ?_ _ | refine blk_drew ?_ | refine blk_alloc ?_ _)); refine blk_far ?_ NB101_104.out _; (with_reducible repeat (first | refine blk_drewN ?_ _ | refine blk_drew ?_ | refine blk_alloc ?_ _)); refine blk_far ?_ NB101_104.out _; (with_reducible repeat (first | refine blk_drewN ?_ _ | refine blk_drew ?_ | refine blk_alloc ?_ _)); refine blk_far ?_ NB101_103.out _; (with_reducible repeat (first | refine blk_drewN ?_ _ | refine blk_drew ?_ | refine blk_alloc ?_ _)); refine blk_far ?_ NB101_103.out _; (with_reducible repeat (first | refine blk_drewN ?_ _ | refine blk_drew ?_ | refine blk_alloc ?_ _)); exact BK101.out) hb); have n1_ := Aside0.mk (blk_below (g := gb103) (o := .cells #[.int .i64 a2_0, .int .u64 a2_1] 26 (0, 0)) (by (with_reducible repeat (first | refine blk_drewN ?_ _ | refine blk_drew ?_ | refine blk_alloc ?_ _)); refine blk_far ?_ NB103_105.out _; (with_reducible repeat (first | refine blk_drewN ?_ _ | refine blk_drew ?_ | refine blk_alloc ?_ _)); refine blk_far ?_ NB103_105.out _; (with_reducible repeat (first | refine blk_drewN ?_ _ | refine blk_drew ?_ | refine blk_alloc ?_ _)); refine blk_far ?_ NB103_104.out _; (with_reducible repeat (first | refine blk_drewN ?_ _ | refine blk_drew ?_ | refine blk_alloc ?_ _)); refine blk_far ?_ NB103_104.out _; (with_reducible repeat (first | refine blk_drewN ?_ _ | refine blk_drew ?_ | refine blk_alloc ?_ _)); refine blk_put (cs := #[.int .i64 a2_0, .int .u64 0]) ?_ 1 _ rfl; (with_reducible repeat (first | refine blk_drewN ?_ _ | refine blk_drew ?_ | refine blk_alloc ?_ _)); refine blk_put (cs := #[.int .i64 0, .int .u64 0]) ?_ 0 _ rfl; (with_reducible repeat (first | refine blk_drewN ?_ _ | refine blk_drew ?_ | refine blk_alloc ?_ _)); exact BK103.out) hb); have n2_ := Aside0.mk (blk_below (g := gb104) (o := .cells #[.int .i64 a2_2, .int .u64 a2_3] 26 (0, 0)) (by (with_reducible repeat (first | refine blk_drewN ?_ _ | refine blk_drew ?_ | refine blk_alloc ?_ _)); refine blk_far ?_ NB104_105.out _; (with_reducible repeat (first | refine blk_drewN ?_ _ | refine blk_drew ?_ | refine blk_alloc ?_ _)); refine blk_far ?_ NB104_105.out _; (with_reducible repeat (first | refine blk_drewN ?_ _ | refine blk_drew ?_ | refine blk_alloc ?_ _)); refine blk_put (cs := #[.int .i64 a2_2, .int .u64 0]) ?_ 1 _ rfl; (with_reducible repeat (first | refine blk_drewN ?_ _ | refine blk_drew ?_ | refine blk_alloc ?_ _)); refine blk_put (cs := #[.int .i64 0, .int .u64 0]) ?_ 0 _ rfl; (with_reducible repeat (first | refine blk_drewN ?_ _ | refine blk_drew ?_ | refine blk_alloc ?_ _)); refine blk_far ?_ NB104_103.out _; (with_reducible repeat (first | refine blk_drewN ?_ _ | refine blk_drew ?_ | refine blk_alloc ?_ _)); refine blk_far ?_ NB104_103.out _; (with_reducible repeat (first | refine blk_drewN ?_ _ | refine blk_drew ?_ | refine blk_alloc ?_ _)); exact BK104.out) hb); have n3_ := Aside0.mk (blk_below (g := gb105) (o := .cells #[.int .i64 a2_4, .int .u64 a2_5] 26 (0, 0)) (by (with_reducible repeat (first | refine blk_drewN ?_ _ | refine blk_drew ?_ | refine blk_alloc ?_ _)); refine blk_put (cs := #[.int .i64 a2_4, .int .u64 0]) ?_ 1 _ rfl; (with_reducible repeat (first | refine blk_drewN ?_ _ | refine blk_drew ?_ | refine blk_alloc ?_ _)); refine blk_put (cs := #[.int .i64 0, .int .u64 0]) ?_ 0 _ rfl; (with_reducible repeat (first | refine blk_drewN ?_ _ | refine blk_drew ?_ | refine blk_alloc ?_ _)); refine blk_far ?_ NB105_104.out _; (with_reducible repeat (first | refine blk_drewN ?_ _ | refine blk_drew ?_ | refine blk_alloc ?_ _)); refine blk_far ?_ NB105_104.out _; (with_reducible repeat (first | refine blk_drewN ?_ _ | refine blk_drew ?_ | refine blk_alloc ?_ _)); refine blk_far ?_ NB105_103.out _; (with_reducible repeat (first | refine blk_drewN ?_ _ | refine blk_drew ?_ | refine blk_alloc ?_ _)); refine blk_far ?_ NB105_103.out _; (with_reducible repeat (first | refine blk_drewN ?_ _ | refine blk_drew ?_ | refine blk_alloc ?_ _)); exact BK105.out) hb); have n4_ := Aside0.mk (below_step (by repeat (first | (with_reducible first | exact HB.out | apply below_alloc | apply pw_below_drewN | apply below_drew1 | refine below_set ?_ GE101.out | refine below_set ?_ GE103.out | refine below_set ?_ GE104.out | refine below_set ?_ GE105.out) | exact HB.out)) hb); clear BK101; clear BK103; clear BK104; clear BK105; clear HB; have BK101 := n0_; have BK103 := n1_; have BK104 := n2_; have BK105 := n3_; have HB := n4_; clear n0_ n1_ n2_ n3_ n4_; (try clear hb); (try clear hb2); (try clear hk); (try clear hi)) | ((with_reducible refine gate_callee (f := 37) rfl ?_); refine goesL_ (some 29) rfl rfl Try.func37 (by kernel_rfl) rfl #[] rfl (by (try simp only [List.map_toArray, List.map_cons, List.map_nil]); first | done | rfl | (simp only [List.length_drop, List.length_take]; rfl)) ?_; (with_reducible refine (oculuslaw06_alive.calls k  t107 _ A86.out).mono ?_); rintro e w107 ⟨rfl, hb⟩; refine ⟨_, rfl, ?_⟩; have n0_ := Aside0.mk (blk_below (pkx BK101) hb); have n1_ := Aside0.mk (blk_below (pkx BK103) hb); have n2_ := Aside0.mk (blk_below (pkx BK104) hb); have n3_ := Aside0.mk (blk_below (pkx BK105) hb); have n4_ := Aside0.mk (below_step (pbx HB) hb); clear BK101; clear BK103; clear BK104; clear BK105; clear HB; have BK101 := n0_; have BK103 := n1_; have BK104 := n2_; have BK105 := n3_; have HB := n4_; clear n0_ n1_ n2_ n3_ n4_; (try clear hb); (try clear hb2); (try clear hk); (try clear hi)))
   go_ret
   exact ⟨by first | rfl | (simp [errW_none, errW_some] <;> rfl) | (simp [*, errW_none, errW_some] <;> rfl), pbx HB⟩

end Go.Proofs.Ytlchgkoafabapaa.X
