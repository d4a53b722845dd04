/- Contracts of the functions that the law NodeSame reaches, and what they answer (a session's own texts, joined; part 2). -/
import Derived.Shelf.Strconv.Itoa0
import Derived.Shelf.Strconv.Itoa1
import Derived.Shelf.LaysM
import Derived.Shelf.Strconv.Itoa2
import Derived.Shelf.Strconv.Itoa3
import Derived.Shelf.Strings.Search1
import Derived.Shelf.Strings.Search2
import Derived.Shelf.Strings.Search3
import Derived.Shelf.Strings.Cut
import Derived.Shelf.Strings.Count
import Derived.Shelf.Strings.Shaped
import Derived.Shelf.Strings.Split
import Derived.Shelf.Unicode.DecodeSlow
import Derived.Test.YtdddhabemdbooaaDoorProg
import Derived.Shelf.Strings.SplitCore
import Derived.Lib.SplitLaws
import Derived.Lib.IndexBytes
import Derived.Test.YtdddhabemdbooaaDoorBNodeSame1
namespace Go.Proofs.YtdddhabemdbooaaDoor.X
open Go.RowKit Go.Proofs.YtdddhabemdbooaaDoorW.PrintWords Go.Proofs.YtdddhabemdbooaaDoorW.PrintLast Go.Proofs.YtdddhabemdbooaaDoorW.PrintMore
attribute [local go_sem] max2_int min2_int max_two min_two max_three min_three max_four min_four
set_option linter.unusedVariables false
set_option linter.unusedSimpArgs false
mutual
def node_List.l0 : Nat → List (S28) → List (S28) → Int → Int → Option ((List (S28)))
 | 0, _, _, _, _ => none
 | k + 1, x3, x9, x10, x11 => if x11 < x10 then (if 0 ≤ x11 then (if x11 < (x9.length : Int) then ((node_List.f k ((rd_T28 x9 x11).f0) ((rd_T28 x9 x11).f1) ((rd_T28 x9 x11).f2.f0) ((rd_T28 x9 x11).f2.f1) ((rd_T28 x9 x11).f2.f2) ((rd_T28 x9 x11).f3.f0) ((rd_T28 x9 x11).f3.f1) ((rd_T28 x9 x11).f3.f2) ((rd_T28 x9 x11).f3.f3) ((rd_T28 x9 x11).f4.f0) ((rd_T28 x9 x11).f4.f1) ((rd_T28 x9 x11).f4.f2) ((rd_T28 x9 x11).f4.f3) ((rd_T28 x9 x11).f5)).bind fun t107 => (if x3.length + t107.length < 1172812402961 then (node_List.l0 k (x3 ++ t107) x9 x10 (wrap64 (x11 + 1))) else (none))) else (none)) else (none)) else (some x3)
def node_List.f : Nat → Int → Int → Int → Int → ByteArray → Int → Int → Bool → Bool → Int → Int → Bool → Bool → List (S28) → Option ((List (S28)))
 | 0, _, _, _, _, _, _, _, _, _, _, _, _, _, _ => none
 | k + 1, a0_0, a0_1, a0_2, a0_3, a0_4, a0_5, a0_6, a0_7, a0_8, a0_9, a0_10, a0_11, a0_12, l0_13 => node_List.l0 k (([(⟨a0_0, a0_1, (⟨a0_2, a0_3, a0_4⟩ : S23), (⟨a0_5, a0_6, a0_7, a0_8⟩ : S25), (⟨a0_9, a0_10, a0_11, a0_12⟩ : S25), l0_13⟩ : S28)] : List (S28))) l0_13 (l0_13.length : Int) 0
end
theorem node_List.mono_l : ∀ k, (∀ y0 y1 y2 y3 y4 y5 y6 y7 y8 y9 y10 y11 y12 y13, LeO (node_List.f k y0 y1 y2 y3 y4 y5 y6 y7 y8 y9 y10 y11 y12 y13) (node_List.f (k + 1) y0 y1 y2 y3 y4 y5 y6 y7 y8 y9 y10 y11 y12 y13)) ∧ (∀ y0 y1 y2 y3, LeO (node_List.l0 k y0 y1 y2 y3) (node_List.l0 (k + 1) y0 y1 y2 y3))
 | 0 => ⟨fun _ _ _ _ _ _ _ _ _ _ _ _ _ _ r h => by simp [node_List.f] at h, fun _ _ _ _ r h => by simp [node_List.l0] at h⟩
 | k + 1 => by
  obtain ⟨ih0, ih1⟩ := node_List.mono_l k
  refine ⟨?_, ?_⟩
  ·intro y0 y1 y2 y3 y4 y5 y6 y7 y8 y9 y10 y11 y12 y13
   unfold node_List.f
   repeat' first
   | (with_reducible exact ih0 _ _ _ _ _ _ _ _ _ _ _ _ _ _)
   | (with_reducible exact ih1 _ _ _ _)
   | (with_reducible exact LeO.refl _)
   | (with_reducible exact LeO.none _)
   | (with_reducible refine LeO.ite ?_ ?_)
   | (with_reducible refine LeO.bind ?_ (fun _ => ?_))
  ·intro y0 y1 y2 y3
   unfold node_List.l0
   repeat' first
   | (with_reducible exact ih0 _ _ _ _ _ _ _ _ _ _ _ _ _ _)
   | (with_reducible exact ih1 _ _ _ _)
   | (with_reducible exact LeO.refl _)
   | (with_reducible exact LeO.none _)
   | (with_reducible refine LeO.ite ?_ ?_)
   | (with_reducible refine LeO.bind ?_ (fun _ => ?_))
theorem node_List.mono : ∀ a0 a1 a2 a3 a4 a5 a6 a7 a8 a9 a10 a11 a12 a13 k, LeO (node_List.f k a0 a1 a2 a3 a4 a5 a6 a7 a8 a9 a10 a11 a12 a13) (node_List.f (k + 1) a0 a1 a2 a3 a4 a5 a6 a7 a8 a9 a10 a11 a12 a13) := by
 intro a0 a1 a2 a3 a4 a5 a6 a7 a8 a9 a10 a11 a12 a13 k; obtain ⟨ih0, ih1⟩ := node_List.mono_l k
 exact ih0 a0 a1 a2 a3 a4 a5 a6 a7 a8 a9 a10 a11 a12 a13
set_option maxHeartbeats 8000000 in
set_option maxRecDepth 100000 in
theorem node_List.calls (k : Nat) : ∀ (a0_0 : Int) (a0_1 : Int) (a0_2 : Int) (a0_3 : Int) (a0_4 : ByteArray) (a0_5 : Int) (a0_6 : Int) (a0_7 : Bool) (a0_8 : Bool) (a0_9 : Int) (a0_10 : Int) (a0_11 : Bool) (a0_12 : Bool) (P0_13_ : Nat → Prop) (A0_13 : Option Addr) (c0_13 : Nat) (l0_13 : List (S28)) (r : List (S28)) (w : World) (hs0_13 : Kd.V k28 28 w w.heap.size (fun k_ => P0_13_ k_) (.slice A0_13 l0_13.length c0_13) l0_13) (h : node_List.f k a0_0 a0_1 a0_2 a0_3 a0_4 a0_5 a0_6 a0_7 a0_8 a0_9 a0_10 a0_11 a0_12 l0_13 = some r),
  Calls Tryd.prog 8 #[.agg #[.int .i64 a0_0, .int .i64 a0_1, .int .i64 a0_2, .int .i64 a0_3, .string a0_4, .int .i64 a0_5, .int .i64 a0_6, .bool a0_7, .bool a0_8, .int .i64 a0_9, .int .i64 a0_10, .bool a0_11, .bool a0_12, .slice A0_13 l0_13.length c0_13]] w fun e w' => ∃ v0_ : Value, e = .returned (v0_) ∧ Kd.N k28 28 w' w.heap.size (fun k_ => (P0_13_ k_ ∨ w.heap.size ≤ k_)) v0_ r ∧ Below w.heap.size w w' := by
 induction k using Nat.strongRecOn with
 | _ k ih =>
 intro a0_0 a0_1 a0_2 a0_3 a0_4 a0_5 a0_6 a0_7 a0_8 a0_9 a0_10 a0_11 a0_12 P0_13_ A0_13 c0_13 l0_13 r w hs0_13 h
 cases k with
 | zero => exact absurd h (by simp [node_List.f])
 | succ k =>
 simp only [node_List.f] at h
 have hu28 := Tryd.underlying28; have HO0_13 := Aside0.mk (show Kd.V k28 28 w w.heap.size (fun k_ => (P0_13_ k_ ∨ w.heap.size ≤ k_)) (.slice A0_13 l0_13.length c0_13) l0_13 from Kd.V_mono hs0_13 (fun k_ hk => .inl hk)); have HB := Aside0.mk (Below.refl w.heap.size w)
 have H : (node_List.l0 k (([(⟨a0_0, a0_1, (⟨a0_2, a0_3, a0_4⟩ : S23), (⟨a0_5, a0_6, a0_7, a0_8⟩ : S25), (⟨a0_9, a0_10, a0_11, a0_12⟩ : S25), l0_13⟩ : S28)] : List (S28))) l0_13 (l0_13.length : Int) 0) = some r := h
 clear h; obtain ⟨y102, hy102⟩ : ∃ y_ : List (S28), y_ = (([(⟨a0_0, a0_1, (⟨a0_2, a0_3, a0_4⟩ : S23), (⟨a0_5, a0_6, a0_7, a0_8⟩ : S25), (⟨a0_9, a0_10, a0_11, a0_12⟩ : S25), l0_13⟩ : S28)] : List (S28))) := ⟨_, rfl⟩
 replace H : (node_List.l0 k y102 l0_13 (l0_13.length : Int) 0) = some r := by first | (rw [hy102]; with_reducible exact H) | (have H2_ := (Option.bind_some _ _).symm.trans H; rw [hy102]; with_reducible exact H2_) | (have H2_ := (Option.bind_some _ _).symm.trans H; with_reducible exact H2_) | with_reducible exact H | (rw [hy102]; exact H) | exact H
 have Ny102 := Aside0.mk hy102; clear hy102
 have H' := Aside0.mk H
 clear H
 go_enter Tryd.func8, Tryd.ntmps8
 go_wp2_with (first | ((with_reducible refine gate_dst (N:=1) rfl ?_); refine be_ (N:=1) (cs := #[.int .i64 a0_0, .int .i64 a0_1, .int .i64 a0_2, .int .i64 a0_3, .string a0_4, .int .i64 a0_5, .int .i64 a0_6, .bool a0_7, .bool a0_8, .int .i64 a0_9, .int .i64 a0_10, .bool a0_11, .bool a0_12, .slice A0_13 l0_13.length c0_13]) (t:=28) ?_; intro gb101 hg w2 hbox hb; have BK101 := Aside0.mk (hbox); have GW101 := hs_ HB hg; have GE101 := hs_ HB hg; replace HO0_13 := Aside0.mk (Kd.V_below (Kd.V_elderB (by (with_reducible repeat (first | apply Kd.V_alloc | apply Kd.V_drewN | apply Kd.V_drew)); exact HO0_13.out) gb101 (Nat.le_of_eq hg.symm)) hb); replace HB := bs_ HB hb; clear hb hbox hg; have hcz3_0 : w2.cell? ⟨gb101, 0, none⟩ = some (.int .i64 a0_0) := bc_ BK101 0 rfl; have hcz3_1 : w2.cell? ⟨gb101, 1, none⟩ = some (.int .i64 a0_1) := bc_ BK101 1 rfl; have hcz3_2 : w2.cell? ⟨gb101, 2, none⟩ = some (.int .i64 a0_2) := bc_ BK101 2 rfl; have hcz3_3 : w2.cell? ⟨gb101, 3, none⟩ = some (.int .i64 a0_3) := bc_ BK101 3 rfl; have hcz3_4 : w2.cell? ⟨gb101, 4, none⟩ = some (.string a0_4) := bc_ BK101 4 rfl; have hcz3_5 : w2.cell? ⟨gb101, 5, none⟩ = some (.int .i64 a0_5) := bc_ BK101 5 rfl; have hcz3_6 : w2.cell? ⟨gb101, 6, none⟩ = some (.int .i64 a0_6) := bc_ BK101 6 rfl; have hcz3_7 : w2.cell? ⟨gb101, 7, none⟩ = some (.bool a0_7) := bc_ BK101 7 rfl; have hcz3_8 : w2.cell? ⟨gb101, 8, none⟩ = some (.bool a0_8) := bc_ BK101 8 rfl; have hcz3_9 : w2.cell? ⟨gb101, 9, none⟩ = some (.int .i64 a0_9) := bc_ BK101 9 rfl; have hcz3_10 : w2.cell? ⟨gb101, 10, none⟩ = some (.int .i64 a0_10) := bc_ BK101 10 rfl; have hcz3_11 : w2.cell? ⟨gb101, 11, none⟩ = some (.bool a0_11) := bc_ BK101 11 rfl; have hcz3_12 : w2.cell? ⟨gb101, 12, none⟩ = some (.bool a0_12) := bc_ BK101 12 rfl; have hcz3_13 : w2.cell? ⟨gb101, 13, none⟩ = some (.slice A0_13 l0_13.length c0_13) := bc_ BK101 13 rfl; have hfz3_0 := blk_frozen BK101.out 0; have hfz3_1 := blk_frozen BK101.out 1; have hfz3_2 := blk_frozen BK101.out 2; have hfz3_3 := blk_frozen BK101.out 3; have hfz3_4 := blk_frozen BK101.out 4; have hfz3_5 := blk_frozen BK101.out 5; have hfz3_6 := blk_frozen BK101.out 6; have hfz3_7 := blk_frozen BK101.out 7; have hfz3_8 := blk_frozen BK101.out 8; have hfz3_9 := blk_frozen BK101.out 9; have hfz3_10 := blk_frozen BK101.out 10; have hfz3_11 := blk_frozen BK101.out 11; have hfz3_12 := blk_frozen BK101.out 12; have hfz3_13 := blk_frozen BK101.out 13) | ((with_reducible refine gate_dst (N:=7) rfl ?_); refine Kd.N_lit k28 _ 28 ?hg (N':=7) ?hd (xs := ([(⟨a0_0, a0_1, (⟨a0_2, a0_3, a0_4⟩ : S23), (⟨a0_5, a0_6, a0_7, a0_8⟩ : S25), (⟨a0_9, a0_10, a0_11, a0_12⟩ : S25), l0_13⟩ : S28)] : List (S28))) (inner := [.int .i64 a0_0, .int .i64 a0_1, .int .i64 a0_2, .int .i64 a0_3, .string a0_4, .int .i64 a0_5, .int .i64 a0_6, .bool a0_7, .bool a0_8, .int .i64 a0_9, .int .i64 a0_10, .bool a0_11, .bool a0_12, .slice A0_13 l0_13.length c0_13]) (ok := (fun k_ => (P0_13_ k_ ∨ w.heap.size ≤ k_) ∧ k_ ≠ gb101)) (okp := (fun k_ => (P0_13_ k_ ∨ w.heap.size ≤ k_) ∧ k_ ≠ gb101)) ?hr ?hp (fun _ hk => hk) ((show ∀ k_, w2.heap.size ≤ k_ → (fun k_ => (P0_13_ k_ ∨ w.heap.size ≤ k_) ∧ k_ ≠ gb101) k_ from fun k_ hk => ⟨(.inr (Nat.le_trans (below_size (pbx HB)) hk)), Kd.freshB (pkx BK101) k_ hk⟩) _ (Nat.le_refl _)) (Below.refl _ _) (Nat.le_refl _) (by simp) ?_; (case hd => rfl); (case hg => rfl); (case hr => first | (go_simp; done) | (go_simp; rfl)); (case hp => exact (Reps.front (show Kd.FK k28 _ _ (⟨a0_0, a0_1, (⟨a0_2, a0_3, a0_4⟩ : S23), (⟨a0_5, a0_6, a0_7, a0_8⟩ : S25), (⟨a0_9, a0_10, a0_11, a0_12⟩ : S25), l0_13⟩ : S28) [.int .i64 a0_0, .int .i64 a0_1, .int .i64 a0_2, .int .i64 a0_3, .string a0_4, .int .i64 a0_5, .int .i64 a0_6, .bool a0_7, .bool a0_8, .int .i64 a0_9, .int .i64 a0_10, .bool a0_11, .bool a0_12, .slice A0_13 l0_13.length c0_13] from (k28_mkF _ _ (⟨a0_0, a0_1, (⟨a0_2, a0_3, a0_4⟩ : S23), (⟨a0_5, a0_6, a0_7, a0_8⟩ : S25), (⟨a0_9, a0_10, a0_11, a0_12⟩ : S25), l0_13⟩ : S28) (Kd.V_reads' (Kd.V_mono (ok' := (fun k_ => (P0_13_ k_ ∨ w.heap.size ≤ k_) ∧ k_ ≠ gb101)) (HO0_13.out) (fun k_ hk => ⟨hk.1, hk.2⟩))).2.1 (Kd.V_F (Kd.V_mono (ok' := (fun k_ => (P0_13_ k_ ∨ w.heap.size ≤ k_) ∧ k_ ≠ gb101)) (HO0_13.out) (fun k_ hk => ⟨hk.1, hk.2⟩))))) rfl (Reps.none _ _) rfl)); intro v103 w4 ho5 hb hg_ hnew_; clear hg_ hnew_; (first | rw [← Ny102.out] at ho5 | (simp only [Int.reduceToNat] at ho5; rw [← Ny102.out] at ho5)); have HO104 := Aside0.mk (Kd.N_lower ho5 (below_size (pbx HB))); replace HO0_13 := Aside0.mk (Kd.V_elder' (by (with_reducible repeat (first | apply Kd.V_alloc | apply Kd.V_drewN | apply Kd.V_drew)); exact HO0_13.out) (Kd.N_base ho5) hb); replace BK101 := bb_ BK101 hb; replace HB := bs_ HB hb; clear hb ho5; have hcz6_0 : w4.cell? ⟨gb101, 0, none⟩ = some (.int .i64 a0_0) := bc_ BK101 0 rfl; have hcz6_1 : w4.cell? ⟨gb101, 1, none⟩ = some (.int .i64 a0_1) := bc_ BK101 1 rfl; have hcz6_2 : w4.cell? ⟨gb101, 2, none⟩ = some (.int .i64 a0_2) := bc_ BK101 2 rfl; have hcz6_3 : w4.cell? ⟨gb101, 3, none⟩ = some (.int .i64 a0_3) := bc_ BK101 3 rfl; have hcz6_4 : w4.cell? ⟨gb101, 4, none⟩ = some (.string a0_4) := bc_ BK101 4 rfl; have hcz6_5 : w4.cell? ⟨gb101, 5, none⟩ = some (.int .i64 a0_5) := bc_ BK101 5 rfl; have hcz6_6 : w4.cell? ⟨gb101, 6, none⟩ = some (.int .i64 a0_6) := bc_ BK101 6 rfl; have hcz6_7 : w4.cell? ⟨gb101, 7, none⟩ = some (.bool a0_7) := bc_ BK101 7 rfl; have hcz6_8 : w4.cell? ⟨gb101, 8, none⟩ = some (.bool a0_8) := bc_ BK101 8 rfl; have hcz6_9 : w4.cell? ⟨gb101, 9, none⟩ = some (.int .i64 a0_9) := bc_ BK101 9 rfl; have hcz6_10 : w4.cell? ⟨gb101, 10, none⟩ = some (.int .i64 a0_10) := bc_ BK101 10 rfl; have hcz6_11 : w4.cell? ⟨gb101, 11, none⟩ = some (.bool a0_11) := bc_ BK101 11 rfl; have hcz6_12 : w4.cell? ⟨gb101, 12, none⟩ = some (.bool a0_12) := bc_ BK101 12 rfl; have hcz6_13 : w4.cell? ⟨gb101, 13, none⟩ = some (.slice A0_13 l0_13.length c0_13) := bc_ BK101 13 rfl; have hfz6_0 := blk_frozen BK101.out 0; have hfz6_1 := blk_frozen BK101.out 1; have hfz6_2 := blk_frozen BK101.out 2; have hfz6_3 := blk_frozen BK101.out 3; have hfz6_4 := blk_frozen BK101.out 4; have hfz6_5 := blk_frozen BK101.out 5; have hfz6_6 := blk_frozen BK101.out 6; have hfz6_7 := blk_frozen BK101.out 7; have hfz6_8 := blk_frozen BK101.out 8; have hfz6_9 := blk_frozen BK101.out 9; have hfz6_10 := blk_frozen BK101.out 10; have hfz6_11 := blk_frozen BK101.out 11; have hfz6_12 := blk_frozen BK101.out 12; have hfz6_13 := blk_frozen BK101.out 13))
 go_loopg [3, 11] k (fun kq v3 v11 w' => ∃ (x3_1 : List (S28)) (x11_1 : Int), v11 = .int .i64 x11_1 ∧ Aside0 (node_List.l0 kq x3_1 l0_13 (l0_13.length : Int) x11_1 = some r) ∧ Aside0 (kq ≤ k) ∧ Aside0 (Kd.N k28 28 w' w.heap.size (fun k_ => (P0_13_ k_ ∨ w.heap.size ≤ k_) ∧ k_ ≠ gb101) v3 x3_1) ∧ Aside0 (Kd.V k28 28 w' w.heap.size (fun k_ => (P0_13_ k_ ∨ w.heap.size ≤ k_) ∧ some k_ ≠ (v3 : Value).ownBlock ∧ k_ ≠ gb101) (.slice A0_13 l0_13.length c0_13) l0_13) ∧ Aside0 (Kd.V k28 28 w' w.heap.size (fun k_ => (P0_13_ k_ ∨ w.heap.size ≤ k_) ∧ some k_ ≠ (v3 : Value).ownBlock ∧ k_ ≠ gb101) (.slice A0_13 l0_13.length c0_13) l0_13) ∧ Aside0 (w'.heap[gb101]? = some (.cells #[.int .i64 a0_0, .int .i64 a0_1, .int .i64 a0_2, .int .i64 a0_3, .string a0_4, .int .i64 a0_5, .int .i64 a0_6, .bool a0_7, .bool a0_8, .int .i64 a0_9, .int .i64 a0_10, .bool a0_11, .bool a0_12, (.slice A0_13 l0_13.length c0_13)] 28 (0, 0))) ∧ Aside0 (Below w.heap.size w w'))
 case atStart => exact ⟨(y102), (0), (by first | rfl | (simp; done) | (simp [*]; done)), H', ⟨Nat.le_refl _⟩, ⟨by (with_reducible repeat (first | apply Kd.N_alloc | apply Kd.N_drewN | apply Kd.N_drew)); exact HO104.out⟩, ⟨by (with_reducible repeat (first | apply Kd.V_alloc | apply Kd.V_drewN | apply Kd.V_drew)); exact Kd.V_mono HO0_13.out (fun _ hk => ⟨hk.1.1, ⟨hk.2, hk.1.2⟩⟩)⟩, ⟨by (with_reducible repeat (first | apply Kd.V_alloc | apply Kd.V_drewN | apply Kd.V_drew)); exact Kd.V_mono HO0_13.out (fun _ hk => ⟨hk.1.1, ⟨hk.2, hk.1.2⟩⟩)⟩, ⟨pkx BK101⟩, ⟨pbx HB⟩⟩
 case round =>
  clear H'; (try clear p2); (try clear hcz3_0); (try clear hcz3_1); (try clear hcz3_10); (try clear hcz3_11); (try clear hcz3_12); (try clear hcz3_13); (try clear hcz3_2); (try clear hcz3_3); (try clear hcz3_4); (try clear hcz3_5); (try clear hcz3_6); (try clear hcz3_7); (try clear hcz3_8); (try clear hcz3_9); (try clear hcz6_0); (try clear hcz6_1); (try clear hcz6_10); (try clear hcz6_11); (try clear hcz6_12); (try clear hcz6_13); (try clear hcz6_2); (try clear hcz6_3); (try clear hcz6_4); (try clear hcz6_5); (try clear hcz6_6); (try clear hcz6_7); (try clear hcz6_8); (try clear hcz6_9); (try clear hfz3_0); (try clear hfz3_1); (try clear hfz3_10); (try clear hfz3_11); (try clear hfz3_12); (try clear hfz3_13); (try clear hfz3_2); (try clear hfz3_3); (try clear hfz3_4); (try clear hfz3_5); (try clear hfz3_6); (try clear hfz3_7); (try clear hfz3_8); (try clear hfz3_9); (try clear hfz6_0); (try clear hfz6_1)
  (try clear hfz6_10); (try clear hfz6_11); (try clear hfz6_12); (try clear hfz6_13); (try clear hfz6_2); (try clear hfz6_3); (try clear hfz6_4); (try clear hfz6_5); (try clear hfz6_6); (try clear hfz6_7); (try clear hfz6_8); (try clear hfz6_9); obtain ⟨x3_1, x11_1, rfl, HA, HK1, HO_3, HO_9, HO_102013, BK101, HB⟩ := hrel
  cases gk with
  | zero => exact absurd HA.out (by simp [node_List.l0])
  | succ k1 =>
   have H := HA.out; clear HA
   simp only [node_List.l0] at H
   by_cases c7 : x11_1 < (l0_13.length : Int)
   ·rw [if_pos c7] at H; have c7b0 : decide (x11_1 < (l0_13.length : Int)) = true := decide_eq_true c7; clear c7
    by_cases c8 : 0 ≤ x11_1
    ·rw [if_pos c8] at H; have c8b0 : decide (0 ≤ x11_1) = true := decide_eq_true c8; clear c8
     by_cases c9 : x11_1 < (l0_13.length : Int)
     ·rw [if_pos c9] at H; have c9b0 : decide (x11_1 < (l0_13.length : Int)) = true := decide_eq_true c9; clear c9; replace H := Option.bind_eq_some_iff.mp H; obtain ⟨t107, A100, H⟩ := H
      replace H : (if x3_1.length + t107.length < 1172812402961 then (node_List.l0 k1 (x3_1 ++ t107) l0_13 (l0_13.length : Int) (wrap64 (x11_1 + 1))) else (none)) = some r := H
      have A10 := Aside0.mk A100; clear A100
      by_cases c11 : x3_1.length + t107.length < 1172812402961
      ·rw [if_pos c11] at H; have LMc11 := Aside0.mk c11; clear c11; obtain ⟨y110, hy110⟩ : ∃ y_ : List (S28), y_ = (x3_1 ++ t107) := ⟨_, rfl⟩
       replace H : (node_List.l0 k1 y110 l0_13 (l0_13.length : Int) (wrap64 (x11_1 + 1))) = some r := by first | (rw [hy110]; with_reducible exact H) | (have H2_ := (Option.bind_some _ _).symm.trans H; rw [hy110]; with_reducible exact H2_) | (have H2_ := (Option.bind_some _ _).symm.trans H; with_reducible exact H2_) | with_reducible exact H | (rw [hy110]; exact H) | exact H
       have Ny110 := Aside0.mk hy110; clear hy110
       have H' := Aside0.mk H
       clear H
       have p105 : 0 ≤ (x11_1 : Int) := of_decide_eq_true (by first | (with_reducible assumption) | assumption)
       have q105 : x11_1 < (l0_13.length : Int) := of_decide_eq_true (by first | (with_reducible assumption) | assumption)
       obtain ⟨ad105, A105_13, c105_13, e105, hx105_0, hx105_1, hx105_2, hx105_3, hx105_4, hx105_5, hx105_6, hx105_7, hx105_8, hx105_9, hx105_10, hx105_11, hx105_12, hx105_13, hl105_13, hi105_13⟩ := at_T28 (Kd.V_reads' HO_9.out).2.2 x11_1 p105 q105
       cases e105
       obtain ⟨ce105, hce105, hMe105, hcc105⟩ := Kd.V_get HO_9.out z28 x11_1 p105 (by first | exact q105 | exact of_decide_eq_true (by first | (with_reducible assumption) | assumption) | (have e_ := (Kd.V_reads' HO_9.out).1; omega)); obtain ⟨ua105_13, uc105_13, rfl, ul105_13, ge105_13⟩ := k28_openF hMe105; have hv105_13 := hcc105 13 _ rfl; rw [add_field _ _ 13 (by omega)] at hv105_13; replace hv105_13 := Option.some.inj (hv105_13.symm.trans hx105_13)
       injection hv105_13 with hva_ hvn_ hvc_
       rw [hva_] at ge105_13; rw [hvc_] at ul105_13; have HL105_13 := Aside0.mk (show Kd.V k28 28 _ w.heap.size _ _ ((rd_T28 l0_13 x11_1).f5) from Kd.V_mk ul105_13 ge105_13); clear hva_ hvn_ hvc_ ge105_13 ul105_13; clear hcc105 hce105; have HR105_13 := Aside0.mk hi105_13; have HC105_13 := Aside0.mk hl105_13; clear hi105_13 hl105_13; replace p105 := eq_true p105; replace q105 := eq_true q105
       go_wp2_with (first | ((with_reducible refine gate_dst (N:=5) rfl ?_); refine be_ (N:=5) (cs := #[.int .i64 0, .int .i64 0, .int .i64 0, .int .i64 0, .string (⟨#[]⟩ : ByteArray), .int .i64 0, .int .i64 0, .bool false, .bool false, .int .i64 0, .int .i64 0, .bool false, .bool false, .slice none 0 0]) (t:=28) ?_; intro gb106 hg w12 hbox hb; have BK106 := Aside0.mk (hbox); have GW106 := hs_ HB hg; have GE106 := hs_ HB hg; have NB101_106 := hl_ BK101 hg; have NB106_101 := hr_ BK101 hg; replace HO_3 := Aside0.mk (Kd.N_below (Kd.N_elderB (by (with_reducible repeat (first | apply Kd.N_alloc | apply Kd.N_drewN | apply Kd.N_drew)); exact HO_3.out) gb106 (Nat.le_of_eq hg.symm)) hb); replace HO_9 := Aside0.mk (Kd.V_below (Kd.V_elderB (by (with_reducible repeat (first | apply Kd.V_alloc | apply Kd.V_drewN | apply Kd.V_drew)); exact HO_9.out) gb106 (Nat.le_of_eq hg.symm)) hb); replace HO_102013 := Aside0.mk (Kd.V_below (Kd.V_elderB (by (with_reducible repeat (first | apply Kd.V_alloc | apply Kd.V_drewN | apply Kd.V_drew)); exact HO_102013.out) gb106 (Nat.le_of_eq hg.symm)) hb); replace HL105_13 := Aside0.mk (Kd.V_below (Kd.V_elderB (by (with_reducible repeat (first | apply Kd.V_alloc | apply Kd.V_drewN | apply Kd.V_drew)); exact HL105_13.out) gb106 (Nat.le_of_eq hg.symm)) hb); replace BK101 := bb_ BK101 hb; replace HR105_13 := Aside0.mk (Kd.C_below (by repeat (first | (with_reducible exact HR105_13.out) | (with_reducible refine Kd.C_alloc ?_ _) | (with_reducible refine Kd.C_drewN ?_ _) | (with_reducible refine Kd.C_drew ?_) | exact HR105_13.out)) hb); replace HB := bs_ HB hb; clear hb hbox hg; have hnb13 := NB106_101.out; have hnc13 := NB101_106.out; have hcz14_0 : w12.cell? ⟨gb106, 0, none⟩ = some (.int .i64 0) := bc_ BK106 0 rfl; have hcz14_1 : w12.cell? ⟨gb106, 1, none⟩ = some (.int .i64 0) := bc_ BK106 1 rfl; have hcz14_2 : w12.cell? ⟨gb106, 2, none⟩ = some (.int .i64 0) := bc_ BK106 2 rfl; have hcz14_3 : w12.cell? ⟨gb106, 3, none⟩ = some (.int .i64 0) := bc_ BK106 3 rfl; have hcz14_4 : w12.cell? ⟨gb106, 4, none⟩ = some (.string (⟨#[]⟩ : ByteArray)) := bc_ BK106 4 rfl; have hcz14_5 : w12.cell? ⟨gb106, 5, none⟩ = some (.int .i64 0) := bc_ BK106 5 rfl; have hcz14_6 : w12.cell? ⟨gb106, 6, none⟩ = some (.int .i64 0) := bc_ BK106 6 rfl; have hcz14_7 : w12.cell? ⟨gb106, 7, none⟩ = some (.bool false) := bc_ BK106 7 rfl; have hcz14_8 : w12.cell? ⟨gb106, 8, none⟩ = some (.bool false) := bc_ BK106 8 rfl; have hcz14_9 : w12.cell? ⟨gb106, 9, none⟩ = some (.int .i64 0) := bc_ BK106 9 rfl; have hcz14_10 : w12.cell? ⟨gb106, 10, none⟩ = some (.int .i64 0) := bc_ BK106 10 rfl; have hcz14_11 : w12.cell? ⟨gb106, 11, none⟩ = some (.bool false) := bc_ BK106 11 rfl; have hcz14_12 : w12.cell? ⟨gb106, 12, none⟩ = some (.bool false) := bc_ BK106 12 rfl; have hcz14_13 : w12.cell? ⟨gb106, 13, none⟩ = some (.slice none 0 0) := bc_ BK106 13 rfl; have hfz14_0 := blk_frozen BK106.out 0; have hfz14_1 := blk_frozen BK106.out 1; have hfz14_2 := blk_frozen BK106.out 2; have hfz14_3 := blk_frozen BK106.out 3; have hfz14_4 := blk_frozen BK106.out 4; have hfz14_5 := blk_frozen BK106.out 5; have hfz14_6 := blk_frozen BK106.out 6; have hfz14_7 := blk_frozen BK106.out 7; have hfz14_8 := blk_frozen BK106.out 8; have hfz14_9 := blk_frozen BK106.out 9; have hfz14_10 := blk_frozen BK106.out 10; have hfz14_11 := blk_frozen BK106.out 11; have hfz14_12 := blk_frozen BK106.out 12; have hfz14_13 := blk_frozen BK106.out 13) | ((with_reducible refine gate_store (t:=28) (p:=5) rfl ?_); refine store_event (t:=28) (p:=5) (v:=?vo_w15) (w1 := ((((((((((((((w12.setCell ⟨gb106, 0, none⟩ (.int .i64 ((rd_T28 l0_13 x11_1).f0))).setCell ⟨gb106, 1, none⟩ (.int .i64 ((rd_T28 l0_13 x11_1).f1))).setCell ⟨gb106, 2, none⟩ (.int .i64 ((rd_T28 l0_13 x11_1).f2.f0))).setCell ⟨gb106, 3, none⟩ (.int .i64 ((rd_T28 l0_13 x11_1).f2.f1))).setCell ⟨gb106, 4, none⟩ (.string ((rd_T28 l0_13 x11_1).f2.f2))).setCell ⟨gb106, 5, none⟩ (.int .i64 ((rd_T28 l0_13 x11_1).f3.f0))).setCell ⟨gb106, 6, none⟩ (.int .i64 ((rd_T28 l0_13 x11_1).f3.f1))).setCell ⟨gb106, 7, none⟩ (.bool ((rd_T28 l0_13 x11_1).f3.f2))).setCell ⟨gb106, 8, none⟩ (.bool ((rd_T28 l0_13 x11_1).f3.f3))).setCell ⟨gb106, 9, none⟩ (.int .i64 ((rd_T28 l0_13 x11_1).f4.f0))).setCell ⟨gb106, 10, none⟩ (.int .i64 ((rd_T28 l0_13 x11_1).f4.f1))).setCell ⟨gb106, 11, none⟩ (.bool ((rd_T28 l0_13 x11_1).f4.f2))).setCell ⟨gb106, 12, none⟩ (.bool ((rd_T28 l0_13 x11_1).f4.f3))).setCell ⟨gb106, 13, none⟩ (.slice A105_13 ((rd_T28 l0_13 x11_1).f5).length c105_13))) ?hg ?ho ?hn ?hr ?_; (case ho => rfl); (case hg => rfl); (case hn => rfl); (case hr => first | (go_simp; done) | (go_simp; rfl)); intro w15 hw; have n0_ : Aside0 (Kd.N k28 28 w15 w.heap.size (fun k_ => (P0_13_ k_ ∨ w.heap.size ≤ k_) ∧ k_ ≠ gb101 ∧ k_ ≠ gb106) u3 x3_1) := ⟨(by rw [hw]; exact (by (with_reducible repeat (first | apply Kd.N_alloc | apply Kd.N_drewN | apply Kd.N_drew)); exact Kd.N_mono (Kd.N_far (p := ⟨gb106, 13, none⟩) (Kd.N_far (p := ⟨gb106, 12, none⟩) (Kd.N_far (p := ⟨gb106, 11, none⟩) (Kd.N_far (p := ⟨gb106, 10, none⟩) (Kd.N_far (p := ⟨gb106, 9, none⟩) (Kd.N_far (p := ⟨gb106, 8, none⟩) (Kd.N_far (p := ⟨gb106, 7, none⟩) (Kd.N_far (p := ⟨gb106, 6, none⟩) (Kd.N_far (p := ⟨gb106, 5, none⟩) (Kd.N_far (p := ⟨gb106, 4, none⟩) (Kd.N_far (p := ⟨gb106, 3, none⟩) (Kd.N_far (p := ⟨gb106, 2, none⟩) (Kd.N_far (p := ⟨gb106, 1, none⟩) (Kd.N_far (p := ⟨gb106, 0, none⟩) (Kd.N_mono HO_3.out (fun k_ hk => (⟨hk, hk.2⟩ : _ ∧ k_ ≠ gb106))) (fun _ hk => hk.2) (.int .i64 ((rd_T28 l0_13 x11_1).f0))) (fun _ hk => hk.2) (.int .i64 ((rd_T28 l0_13 x11_1).f1))) (fun _ hk => hk.2) (.int .i64 ((rd_T28 l0_13 x11_1).f2.f0))) (fun _ hk => hk.2) (.int .i64 ((rd_T28 l0_13 x11_1).f2.f1))) (fun _ hk => hk.2) (.string ((rd_T28 l0_13 x11_1).f2.f2))) (fun _ hk => hk.2) (.int .i64 ((rd_T28 l0_13 x11_1).f3.f0))) (fun _ hk => hk.2) (.int .i64 ((rd_T28 l0_13 x11_1).f3.f1))) (fun _ hk => hk.2) (.bool ((rd_T28 l0_13 x11_1).f3.f2))) (fun _ hk => hk.2) (.bool ((rd_T28 l0_13 x11_1).f3.f3))) (fun _ hk => hk.2) (.int .i64 ((rd_T28 l0_13 x11_1).f4.f0))) (fun _ hk => hk.2) (.int .i64 ((rd_T28 l0_13 x11_1).f4.f1))) (fun _ hk => hk.2) (.bool ((rd_T28 l0_13 x11_1).f4.f2))) (fun _ hk => hk.2) (.bool ((rd_T28 l0_13 x11_1).f4.f3))) (fun _ hk => hk.2) (.slice A105_13 ((rd_T28 l0_13 x11_1).f5).length c105_13)) (fun _ hk => ⟨hk.1.1.1, ⟨hk.1.1.2, hk.1.2⟩⟩)))⟩; have n1_ : Aside0 (Kd.V k28 28 w15 w.heap.size (fun k_ => (P0_13_ k_ ∨ w.heap.size ≤ k_) ∧ some k_ ≠ (u3 : Value).ownBlock ∧ k_ ≠ gb101 ∧ k_ ≠ gb106) (.slice (some ad105) l0_13.length c0_13) l0_13) := ⟨(by rw [hw]; exact (by (with_reducible repeat (first | apply Kd.V_alloc | apply Kd.V_drewN | apply Kd.V_drew)); exact Kd.V_mono (Kd.V_far (p := ⟨gb106, 13, none⟩) (Kd.V_far (p := ⟨gb106, 12, none⟩) (Kd.V_far (p := ⟨gb106, 11, none⟩) (Kd.V_far (p := ⟨gb106, 10, none⟩) (Kd.V_far (p := ⟨gb106, 9, none⟩) (Kd.V_far (p := ⟨gb106, 8, none⟩) (Kd.V_far (p := ⟨gb106, 7, none⟩) (Kd.V_far (p := ⟨gb106, 6, none⟩) (Kd.V_far (p := ⟨gb106, 5, none⟩) (Kd.V_far (p := ⟨gb106, 4, none⟩) (Kd.V_far (p := ⟨gb106, 3, none⟩) (Kd.V_far (p := ⟨gb106, 2, none⟩) (Kd.V_far (p := ⟨gb106, 1, none⟩) (Kd.V_far (p := ⟨gb106, 0, none⟩) (Kd.V_mono HO_9.out (fun k_ hk => (⟨hk, hk.2⟩ : _ ∧ k_ ≠ gb106))) (fun _ hk => hk.2) (.int .i64 ((rd_T28 l0_13 x11_1).f0))) (fun _ hk => hk.2) (.int .i64 ((rd_T28 l0_13 x11_1).f1))) (fun _ hk => hk.2) (.int .i64 ((rd_T28 l0_13 x11_1).f2.f0))) (fun _ hk => hk.2) (.int .i64 ((rd_T28 l0_13 x11_1).f2.f1))) (fun _ hk => hk.2) (.string ((rd_T28 l0_13 x11_1).f2.f2))) (fun _ hk => hk.2) (.int .i64 ((rd_T28 l0_13 x11_1).f3.f0))) (fun _ hk => hk.2) (.int .i64 ((rd_T28 l0_13 x11_1).f3.f1))) (fun _ hk => hk.2) (.bool ((rd_T28 l0_13 x11_1).f3.f2))) (fun _ hk => hk.2) (.bool ((rd_T28 l0_13 x11_1).f3.f3))) (fun _ hk => hk.2) (.int .i64 ((rd_T28 l0_13 x11_1).f4.f0))) (fun _ hk => hk.2) (.int .i64 ((rd_T28 l0_13 x11_1).f4.f1))) (fun _ hk => hk.2) (.bool ((rd_T28 l0_13 x11_1).f4.f2))) (fun _ hk => hk.2) (.bool ((rd_T28 l0_13 x11_1).f4.f3))) (fun _ hk => hk.2) (.slice A105_13 ((rd_T28 l0_13 x11_1).f5).length c105_13)) (fun _ hk => ⟨hk.1.1.1, ⟨hk.1.1.2.1, ⟨hk.1.1.2.2, hk.1.2⟩⟩⟩)))⟩; have n2_ : Aside0 (Kd.V k28 28 w15 w.heap.size (fun k_ => (P0_13_ k_ ∨ w.heap.size ≤ k_) ∧ some k_ ≠ (u3 : Value).ownBlock ∧ k_ ≠ gb101 ∧ k_ ≠ gb106) (.slice (some ad105) l0_13.length c0_13) l0_13) := ⟨(by rw [hw]; exact (by (with_reducible repeat (first | apply Kd.V_alloc | apply Kd.V_drewN | apply Kd.V_drew)); exact Kd.V_mono (Kd.V_far (p := ⟨gb106, 13, none⟩) (Kd.V_far (p := ⟨gb106, 12, none⟩) (Kd.V_far (p := ⟨gb106, 11, none⟩) (Kd.V_far (p := ⟨gb106, 10, none⟩) (Kd.V_far (p := ⟨gb106, 9, none⟩) (Kd.V_far (p := ⟨gb106, 8, none⟩) (Kd.V_far (p := ⟨gb106, 7, none⟩) (Kd.V_far (p := ⟨gb106, 6, none⟩) (Kd.V_far (p := ⟨gb106, 5, none⟩) (Kd.V_far (p := ⟨gb106, 4, none⟩) (Kd.V_far (p := ⟨gb106, 3, none⟩) (Kd.V_far (p := ⟨gb106, 2, none⟩) (Kd.V_far (p := ⟨gb106, 1, none⟩) (Kd.V_far (p := ⟨gb106, 0, none⟩) (Kd.V_mono HO_102013.out (fun k_ hk => (⟨hk, hk.2⟩ : _ ∧ k_ ≠ gb106))) (fun _ hk => hk.2) (.int .i64 ((rd_T28 l0_13 x11_1).f0))) (fun _ hk => hk.2) (.int .i64 ((rd_T28 l0_13 x11_1).f1))) (fun _ hk => hk.2) (.int .i64 ((rd_T28 l0_13 x11_1).f2.f0))) (fun _ hk => hk.2) (.int .i64 ((rd_T28 l0_13 x11_1).f2.f1))) (fun _ hk => hk.2) (.string ((rd_T28 l0_13 x11_1).f2.f2))) (fun _ hk => hk.2) (.int .i64 ((rd_T28 l0_13 x11_1).f3.f0))) (fun _ hk => hk.2) (.int .i64 ((rd_T28 l0_13 x11_1).f3.f1))) (fun _ hk => hk.2) (.bool ((rd_T28 l0_13 x11_1).f3.f2))) (fun _ hk => hk.2) (.bool ((rd_T28 l0_13 x11_1).f3.f3))) (fun _ hk => hk.2) (.int .i64 ((rd_T28 l0_13 x11_1).f4.f0))) (fun _ hk => hk.2) (.int .i64 ((rd_T28 l0_13 x11_1).f4.f1))) (fun _ hk => hk.2) (.bool ((rd_T28 l0_13 x11_1).f4.f2))) (fun _ hk => hk.2) (.bool ((rd_T28 l0_13 x11_1).f4.f3))) (fun _ hk => hk.2) (.slice A105_13 ((rd_T28 l0_13 x11_1).f5).length c105_13)) (fun _ hk => ⟨hk.1.1.1, ⟨hk.1.1.2.1, ⟨hk.1.1.2.2, hk.1.2⟩⟩⟩)))⟩; have n3_ : Aside0 (Kd.V k28 28 w15 w.heap.size (fun k_ => (P0_13_ k_ ∨ w.heap.size ≤ k_) ∧ some k_ ≠ (u3 : Value).ownBlock ∧ k_ ≠ gb101 ∧ k_ ≠ gb106) (.slice A105_13 ((rd_T28 l0_13 x11_1).f5).length c105_13) ((rd_T28 l0_13 x11_1).f5)) := ⟨(by rw [hw]; exact (by (with_reducible repeat (first | apply Kd.V_alloc | apply Kd.V_drewN | apply Kd.V_drew)); exact Kd.V_mono (Kd.V_far (p := ⟨gb106, 13, none⟩) (Kd.V_far (p := ⟨gb106, 12, none⟩) (Kd.V_far (p := ⟨gb106, 11, none⟩) (Kd.V_far (p := ⟨gb106, 10, none⟩) (Kd.V_far (p := ⟨gb106, 9, none⟩) (Kd.V_far (p := ⟨gb106, 8, none⟩) (Kd.V_far (p := ⟨gb106, 7, none⟩) (Kd.V_far (p := ⟨gb106, 6, none⟩) (Kd.V_far (p := ⟨gb106, 5, none⟩) (Kd.V_far (p := ⟨gb106, 4, none⟩) (Kd.V_far (p := ⟨gb106, 3, none⟩) (Kd.V_far (p := ⟨gb106, 2, none⟩) (Kd.V_far (p := ⟨gb106, 1, none⟩) (Kd.V_far (p := ⟨gb106, 0, none⟩) (Kd.V_mono HL105_13.out (fun k_ hk => (⟨hk, hk.2⟩ : _ ∧ k_ ≠ gb106))) (fun _ hk => hk.2) (.int .i64 ((rd_T28 l0_13 x11_1).f0))) (fun _ hk => hk.2) (.int .i64 ((rd_T28 l0_13 x11_1).f1))) (fun _ hk => hk.2) (.int .i64 ((rd_T28 l0_13 x11_1).f2.f0))) (fun _ hk => hk.2) (.int .i64 ((rd_T28 l0_13 x11_1).f2.f1))) (fun _ hk => hk.2) (.string ((rd_T28 l0_13 x11_1).f2.f2))) (fun _ hk => hk.2) (.int .i64 ((rd_T28 l0_13 x11_1).f3.f0))) (fun _ hk => hk.2) (.int .i64 ((rd_T28 l0_13 x11_1).f3.f1))) (fun _ hk => hk.2) (.bool ((rd_T28 l0_13 x11_1).f3.f2))) (fun _ hk => hk.2) (.bool ((rd_T28 l0_13 x11_1).f3.f3))) (fun _ hk => hk.2) (.int .i64 ((rd_T28 l0_13 x11_1).f4.f0))) (fun _ hk => hk.2) (.int .i64 ((rd_T28 l0_13 x11_1).f4.f1))) (fun _ hk => hk.2) (.bool ((rd_T28 l0_13 x11_1).f4.f2))) (fun _ hk => hk.2) (.bool ((rd_T28 l0_13 x11_1).f4.f3))) (fun _ hk => hk.2) (.slice A105_13 ((rd_T28 l0_13 x11_1).f5).length c105_13)) (fun _ hk => ⟨hk.1.1.1, ⟨hk.1.1.2.1, ⟨hk.1.1.2.2, hk.1.2⟩⟩⟩)))⟩; have n4_ : Aside0 (w15.heap[gb101]? = some (.cells #[.int .i64 a0_0, .int .i64 a0_1, .int .i64 a0_2, .int .i64 a0_3, .string a0_4, .int .i64 a0_5, .int .i64 a0_6, .bool a0_7, .bool a0_8, .int .i64 a0_9, .int .i64 a0_10, .bool a0_11, .bool a0_12, .slice (some ad105) l0_13.length c0_13] 28 (0, 0))) := ⟨(by rw [hw]; exact (by refine pf_ ?_ NB101_106.out; refine blk_far ?_ NB101_106.out _; refine blk_far ?_ NB101_106.out _; refine blk_far ?_ NB101_106.out _; refine blk_far ?_ NB101_106.out _; refine blk_far ?_ NB101_106.out _; refine blk_far ?_ NB101_106.out _; refine blk_far ?_ NB101_106.out _; refine blk_far ?_ NB101_106.out _; refine blk_far ?_ NB101_106.out _; refine blk_far ?_ NB101_106.out _; refine blk_far ?_ NB101_106.out _; refine blk_far ?_ NB101_106.out _; refine blk_far ?_ NB101_106.out _; exact pkx BK101))⟩; have n5_ : Aside0 (w15.heap[gb106]? = some (.cells #[.int .i64 ((rd_T28 l0_13 x11_1).f0), .int .i64 ((rd_T28 l0_13 x11_1).f1), .int .i64 ((rd_T28 l0_13 x11_1).f2.f0), .int .i64 ((rd_T28 l0_13 x11_1).f2.f1), .string ((rd_T28 l0_13 x11_1).f2.f2), .int .i64 ((rd_T28 l0_13 x11_1).f3.f0), .int .i64 ((rd_T28 l0_13 x11_1).f3.f1), .bool ((rd_T28 l0_13 x11_1).f3.f2), .bool ((rd_T28 l0_13 x11_1).f3.f3), .int .i64 ((rd_T28 l0_13 x11_1).f4.f0), .int .i64 ((rd_T28 l0_13 x11_1).f4.f1), .bool ((rd_T28 l0_13 x11_1).f4.f2), .bool ((rd_T28 l0_13 x11_1).f4.f3), .slice A105_13 ((rd_T28 l0_13 x11_1).f5).length c105_13] 28 (0, 0))) := ⟨(by rw [hw]; exact (by refine pp_ (cs := #[.int .i64 ((rd_T28 l0_13 x11_1).f0), .int .i64 ((rd_T28 l0_13 x11_1).f1), .int .i64 ((rd_T28 l0_13 x11_1).f2.f0), .int .i64 ((rd_T28 l0_13 x11_1).f2.f1), .string ((rd_T28 l0_13 x11_1).f2.f2), .int .i64 ((rd_T28 l0_13 x11_1).f3.f0), .int .i64 ((rd_T28 l0_13 x11_1).f3.f1), .bool ((rd_T28 l0_13 x11_1).f3.f2), .bool ((rd_T28 l0_13 x11_1).f3.f3), .int .i64 ((rd_T28 l0_13 x11_1).f4.f0), .int .i64 ((rd_T28 l0_13 x11_1).f4.f1), .bool ((rd_T28 l0_13 x11_1).f4.f2), .bool ((rd_T28 l0_13 x11_1).f4.f3), .slice none 0 0]) 13 ?_ rfl; refine blk_put (cs := #[.int .i64 ((rd_T28 l0_13 x11_1).f0), .int .i64 ((rd_T28 l0_13 x11_1).f1), .int .i64 ((rd_T28 l0_13 x11_1).f2.f0), .int .i64 ((rd_T28 l0_13 x11_1).f2.f1), .string ((rd_T28 l0_13 x11_1).f2.f2), .int .i64 ((rd_T28 l0_13 x11_1).f3.f0), .int .i64 ((rd_T28 l0_13 x11_1).f3.f1), .bool ((rd_T28 l0_13 x11_1).f3.f2), .bool ((rd_T28 l0_13 x11_1).f3.f3), .int .i64 ((rd_T28 l0_13 x11_1).f4.f0), .int .i64 ((rd_T28 l0_13 x11_1).f4.f1), .bool ((rd_T28 l0_13 x11_1).f4.f2), .bool false, .slice none 0 0]) ?_ 12 _ rfl; refine blk_put (cs := #[.int .i64 ((rd_T28 l0_13 x11_1).f0), .int .i64 ((rd_T28 l0_13 x11_1).f1), .int .i64 ((rd_T28 l0_13 x11_1).f2.f0), .int .i64 ((rd_T28 l0_13 x11_1).f2.f1), .string ((rd_T28 l0_13 x11_1).f2.f2), .int .i64 ((rd_T28 l0_13 x11_1).f3.f0), .int .i64 ((rd_T28 l0_13 x11_1).f3.f1), .bool ((rd_T28 l0_13 x11_1).f3.f2), .bool ((rd_T28 l0_13 x11_1).f3.f3), .int .i64 ((rd_T28 l0_13 x11_1).f4.f0), .int .i64 ((rd_T28 l0_13 x11_1).f4.f1), .bool false, .bool false, .slice none 0 0]) ?_ 11 _ rfl; refine blk_put (cs := #[.int .i64 ((rd_T28 l0_13 x11_1).f0), .int .i64 ((rd_T28 l0_13 x11_1).f1), .int .i64 ((rd_T28 l0_13 x11_1).f2.f0), .int .i64 ((rd_T28 l0_13 x11_1).f2.f1), .string ((rd_T28 l0_13 x11_1).f2.f2), .int .i64 ((rd_T28 l0_13 x11_1).f3.f0), .int .i64 ((rd_T28 l0_13 x11_1).f3.f1), .bool ((rd_T28 l0_13 x11_1).f3.f2), .bool ((rd_T28 l0_13 x11_1).f3.f3), .int .i64 ((rd_T28 l0_13 x11_1).f4.f0), .int .i64 0, .bool false, .bool false, .slice none 0 0]) ?_ 10 _ rfl; refine blk_put (cs := #[.int .i64 ((rd_T28 l0_13 x11_1).f0), .int .i64 ((rd_T28 l0_13 x11_1).f1), .int .i64 ((rd_T28 l0_13 x11_1).f2.f0), .int .i64 ((rd_T28 l0_13 x11_1).f2.f1), .string ((rd_T28 l0_13 x11_1).f2.f2), .int .i64 ((rd_T28 l0_13 x11_1).f3.f0), .int .i64 ((rd_T28 l0_13 x11_1).f3.f1), .bool ((rd_T28 l0_13 x11_1).f3.f2), .bool ((rd_T28 l0_13 x11_1).f3.f3), .int .i64 0, .int .i64 0, .bool false, .bool false, .slice none 0 0]) ?_ 9 _ rfl; refine blk_put (cs := #[.int .i64 ((rd_T28 l0_13 x11_1).f0), .int .i64 ((rd_T28 l0_13 x11_1).f1), .int .i64 ((rd_T28 l0_13 x11_1).f2.f0), .int .i64 ((rd_T28 l0_13 x11_1).f2.f1), .string ((rd_T28 l0_13 x11_1).f2.f2), .int .i64 ((rd_T28 l0_13 x11_1).f3.f0), .int .i64 ((rd_T28 l0_13 x11_1).f3.f1), .bool ((rd_T28 l0_13 x11_1).f3.f2), .bool false, .int .i64 0, .int .i64 0, .bool false, .bool false, .slice none 0 0]) ?_ 8 _ rfl; refine blk_put (cs := #[.int .i64 ((rd_T28 l0_13 x11_1).f0), .int .i64 ((rd_T28 l0_13 x11_1).f1), .int .i64 ((rd_T28 l0_13 x11_1).f2.f0), .int .i64 ((rd_T28 l0_13 x11_1).f2.f1), .string ((rd_T28 l0_13 x11_1).f2.f2), .int .i64 ((rd_T28 l0_13 x11_1).f3.f0), .int .i64 ((rd_T28 l0_13 x11_1).f3.f1), .bool false, .bool false, .int .i64 0, .int .i64 0, .bool false, .bool false, .slice none 0 0]) ?_ 7 _ rfl; refine blk_put (cs := #[.int .i64 ((rd_T28 l0_13 x11_1).f0), .int .i64 ((rd_T28 l0_13 x11_1).f1), .int .i64 ((rd_T28 l0_13 x11_1).f2.f0), .int .i64 ((rd_T28 l0_13 x11_1).f2.f1), .string ((rd_T28 l0_13 x11_1).f2.f2), .int .i64 ((rd_T28 l0_13 x11_1).f3.f0), .int .i64 0, .bool false, .bool false, .int .i64 0, .int .i64 0, .bool false, .bool false, .slice none 0 0]) ?_ 6 _ rfl; refine blk_put (cs := #[.int .i64 ((rd_T28 l0_13 x11_1).f0), .int .i64 ((rd_T28 l0_13 x11_1).f1), .int .i64 ((rd_T28 l0_13 x11_1).f2.f0), .int .i64 ((rd_T28 l0_13 x11_1).f2.f1), .string ((rd_T28 l0_13 x11_1).f2.f2), .int .i64 0, .int .i64 0, .bool false, .bool false, .int .i64 0, .int .i64 0, .bool false, .bool false, .slice none 0 0]) ?_ 5 _ rfl; refine blk_put (cs := #[.int .i64 ((rd_T28 l0_13 x11_1).f0), .int .i64 ((rd_T28 l0_13 x11_1).f1), .int .i64 ((rd_T28 l0_13 x11_1).f2.f0), .int .i64 ((rd_T28 l0_13 x11_1).f2.f1), .string (⟨#[]⟩ : ByteArray), .int .i64 0, .int .i64 0, .bool false, .bool false, .int .i64 0, .int .i64 0, .bool false, .bool false, .slice none 0 0]) ?_ 4 _ rfl; refine pp_ (cs := #[.int .i64 ((rd_T28 l0_13 x11_1).f0), .int .i64 ((rd_T28 l0_13 x11_1).f1), .int .i64 ((rd_T28 l0_13 x11_1).f2.f0), .int .i64 0, .string (⟨#[]⟩ : ByteArray), .int .i64 0, .int .i64 0, .bool false, .bool false, .int .i64 0, .int .i64 0, .bool false, .bool false, .slice none 0 0]) 3 ?_ rfl; refine pp_ (cs := #[.int .i64 ((rd_T28 l0_13 x11_1).f0), .int .i64 ((rd_T28 l0_13 x11_1).f1), .int .i64 0, .int .i64 0, .string (⟨#[]⟩ : ByteArray), .int .i64 0, .int .i64 0, .bool false, .bool false, .int .i64 0, .int .i64 0, .bool false, .bool false, .slice none 0 0]) 2 ?_ rfl; refine pp_ (cs := #[.int .i64 ((rd_T28 l0_13 x11_1).f0), .int .i64 0, .int .i64 0, .int .i64 0, .string (⟨#[]⟩ : ByteArray), .int .i64 0, .int .i64 0, .bool false, .bool false, .int .i64 0, .int .i64 0, .bool false, .bool false, .slice none 0 0]) 1 ?_ rfl; refine pp_ (cs := #[.int .i64 0, .int .i64 0, .int .i64 0, .int .i64 0, .string (⟨#[]⟩ : ByteArray), .int .i64 0, .int .i64 0, .bool false, .bool false, .int .i64 0, .int .i64 0, .bool false, .bool false, .slice none 0 0]) 0 ?_ rfl; exact pkx BK106))⟩; have n6_ : Aside0 (Below w.heap.size w w15) := ⟨(by rw [hw]; exact (by repeat (first | (with_reducible first | exact HB.out | apply below_alloc | apply pw_below_drewN | apply below_drew1 | refine below_set ?_ GE101.out | refine below_set ?_ GE106.out) | exact HB.out)))⟩; clear hw; clear HO_3; clear HO_9; clear HO_102013; clear HL105_13; clear BK101; clear BK106; clear HB; have HO_3 := n0_; have HO_9 := n1_; have HO_102013 := n2_; have HL105_13 := n3_; have BK101 := n4_; have BK106 := n5_; have HB := n6_; clear n0_ n1_ n2_ n3_ n4_ n5_ n6_; have hcz16_0 : w15.cell? ⟨gb106, 0, none⟩ = some (.int .i64 ((rd_T28 l0_13 x11_1).f0)) := bc_ BK106 0 rfl; have hcz16_1 : w15.cell? ⟨gb106, 1, none⟩ = some (.int .i64 ((rd_T28 l0_13 x11_1).f1)) := bc_ BK106 1 rfl; have hcz16_2 : w15.cell? ⟨gb106, 2, none⟩ = some (.int .i64 ((rd_T28 l0_13 x11_1).f2.f0)) := bc_ BK106 2 rfl; have hcz16_3 : w15.cell? ⟨gb106, 3, none⟩ = some (.int .i64 ((rd_T28 l0_13 x11_1).f2.f1)) := bc_ BK106 3 rfl; have hcz16_4 : w15.cell? ⟨gb106, 4, none⟩ = some (.string ((rd_T28 l0_13 x11_1).f2.f2)) := bc_ BK106 4 rfl; have hcz16_5 : w15.cell? ⟨gb106, 5, none⟩ = some (.int .i64 ((rd_T28 l0_13 x11_1).f3.f0)) := bc_ BK106 5 rfl; have hcz16_6 : w15.cell? ⟨gb106, 6, none⟩ = some (.int .i64 ((rd_T28 l0_13 x11_1).f3.f1)) := bc_ BK106 6 rfl; have hcz16_7 : w15.cell? ⟨gb106, 7, none⟩ = some (.bool ((rd_T28 l0_13 x11_1).f3.f2)) := bc_ BK106 7 rfl; have hcz16_8 : w15.cell? ⟨gb106, 8, none⟩ = some (.bool ((rd_T28 l0_13 x11_1).f3.f3)) := bc_ BK106 8 rfl; have hcz16_9 : w15.cell? ⟨gb106, 9, none⟩ = some (.int .i64 ((rd_T28 l0_13 x11_1).f4.f0)) := bc_ BK106 9 rfl; have hcz16_10 : w15.cell? ⟨gb106, 10, none⟩ = some (.int .i64 ((rd_T28 l0_13 x11_1).f4.f1)) := bc_ BK106 10 rfl; have hcz16_11 : w15.cell? ⟨gb106, 11, none⟩ = some (.bool ((rd_T28 l0_13 x11_1).f4.f2)) := bc_ BK106 11 rfl; have hcz16_12 : w15.cell? ⟨gb106, 12, none⟩ = some (.bool ((rd_T28 l0_13 x11_1).f4.f3)) := bc_ BK106 12 rfl; have hcz16_13 : w15.cell? ⟨gb106, 13, none⟩ = some (.slice A105_13 ((rd_T28 l0_13 x11_1).f5).length c105_13) := bc_ BK106 13 rfl; have hfz16_0 := blk_frozen BK106.out 0; have hfz16_1 := blk_frozen BK106.out 1; have hfz16_2 := blk_frozen BK106.out 2; have hfz16_3 := blk_frozen BK106.out 3; have hfz16_4 := blk_frozen BK106.out 4; have hfz16_5 := blk_frozen BK106.out 5; have hfz16_6 := blk_frozen BK106.out 6; have hfz16_7 := blk_frozen BK106.out 7; have hfz16_8 := blk_frozen BK106.out 8; have hfz16_9 := blk_frozen BK106.out 9; have hfz16_10 := blk_frozen BK106.out 10; have hfz16_11 := blk_frozen BK106.out 11; have hfz16_12 := blk_frozen BK106.out 12; have hfz16_13 := blk_frozen BK106.out 13) | ((with_reducible refine gate_callee (f:=8) rfl ?_); refine gL_ (some 17) rfl rfl Tryd.func8 rfl #[.agg #[.int .i64 ((rd_T28 l0_13 x11_1).f0), .int .i64 ((rd_T28 l0_13 x11_1).f1), .int .i64 ((rd_T28 l0_13 x11_1).f2.f0), .int .i64 ((rd_T28 l0_13 x11_1).f2.f1), .string ((rd_T28 l0_13 x11_1).f2.f2), .int .i64 ((rd_T28 l0_13 x11_1).f3.f0), .int .i64 ((rd_T28 l0_13 x11_1).f3.f1), .bool ((rd_T28 l0_13 x11_1).f3.f2), .bool ((rd_T28 l0_13 x11_1).f3.f3), .int .i64 ((rd_T28 l0_13 x11_1).f4.f0), .int .i64 ((rd_T28 l0_13 x11_1).f4.f1), .bool ((rd_T28 l0_13 x11_1).f4.f2), .bool ((rd_T28 l0_13 x11_1).f4.f3), .slice A105_13 ((rd_T28 l0_13 x11_1).f5).length c105_13]] rfl ?_; (with_reducible refine (ih k1 (by have := HK1.out; omega) ((rd_T28 l0_13 x11_1).f0) ((rd_T28 l0_13 x11_1).f1) ((rd_T28 l0_13 x11_1).f2.f0) ((rd_T28 l0_13 x11_1).f2.f1) ((rd_T28 l0_13 x11_1).f2.f2) ((rd_T28 l0_13 x11_1).f3.f0) ((rd_T28 l0_13 x11_1).f3.f1) ((rd_T28 l0_13 x11_1).f3.f2) ((rd_T28 l0_13 x11_1).f3.f3) ((rd_T28 l0_13 x11_1).f4.f0) ((rd_T28 l0_13 x11_1).f4.f1) ((rd_T28 l0_13 x11_1).f4.f2) ((rd_T28 l0_13 x11_1).f4.f3) (fun k_ => ((P0_13_ k_ ∨ w.heap.size ≤ k_) ∧ (some k_ ≠ (u3 : Value).ownBlock ∧ (k_ ≠ gb101 ∧ k_ ≠ gb106)))) _ _ ((rd_T28 l0_13 x11_1).f5) t107 _ ?side1 A10.out).mono ?_); (case side1 => exact HL105_13.out); rintro e w17 ⟨v108, rfl, ho0, hb⟩; refine ⟨_, rfl, ?_⟩; have n0_ := Aside0.mk (Kd.N_elder' (by (with_reducible repeat (first | apply Kd.N_alloc | apply Kd.N_drewN | apply Kd.N_drew)); exact HO_3.out) (Kd.N_base ho0) hb); have n1_ := Aside0.mk (Kd.V_elder' (by (with_reducible repeat (first | apply Kd.V_alloc | apply Kd.V_drewN | apply Kd.V_drew)); exact HO_9.out) (Kd.N_base ho0) hb); have n2_ := Aside0.mk (Kd.V_elder' (by (with_reducible repeat (first | apply Kd.V_alloc | apply Kd.V_drewN | apply Kd.V_drew)); exact HO_102013.out) (Kd.N_base ho0) hb); have n3_ := Aside0.mk (Kd.V_elder' (by (with_reducible repeat (first | apply Kd.V_alloc | apply Kd.V_drewN | apply Kd.V_drew)); exact HL105_13.out) (Kd.N_base ho0) hb); have n4_ := Aside0.mk (Kd.N_lower (Kd.N_mono (ok' := fun k_ => (P0_13_ k_ ∨ w.heap.size ≤ k_) ∧ some k_ ≠ (u3 : Value).ownBlock ∧ k_ ≠ gb101 ∧ k_ ≠ gb106) ho0 (fun k_ hk_ => ⟨Or.elim hk_ (fun hs_ => hs_.1) (fun hn_ => (.inr (Nat.le_trans (below_size (pbx HB)) hn_))), Or.elim hk_ (fun hs_ => hs_.2.1) (fun hn_ => (Kd.fresh' (Kd.N_lt (by (with_reducible repeat (first | apply Kd.N_alloc | apply Kd.N_drewN | apply Kd.N_drew)); exact HO_3.out)) k_ hn_)), Or.elim hk_ (fun hs_ => hs_.2.2.1) (fun hn_ => (Kd.freshB (pkx BK101) k_ hn_)), Or.elim hk_ (fun hs_ => hs_.2.2.2) (fun hn_ => (Kd.freshB (pkx BK106) k_ hn_))⟩)) (below_size (pbx HB))); have n5_ := bb_ BK101 hb; have n7_ := bb_ BK106 hb; have n8_ := bs_ HB hb; clear HO_3; clear HO_9; clear HO_102013; clear HL105_13; clear BK101; clear BK106; clear HB; have HO_3 := n0_; have HO_9 := n1_; have HO_102013 := n2_; have HL105_13 := n3_; have HO109 := n4_; have BK101 := n5_; have BK106 := n7_; have HB := n8_; clear n0_ n1_ n2_ n3_ n4_ n5_ n7_ n8_; (try clear hb); (try clear hb2); (try clear hk); (try clear hi); (try clear ho0); obtain ⟨Ao19, co19, eo19⟩ := Kd.N_slice HO109.out; subst eo19) | ((with_reducible refine gate_builtin (b := .append) (xs := #[.tmp 15, .tmp 17]) rfl ?_); at_builtin; refine Kd.N_append_rows k28 (w0 := w) w.heap.size rfl (.tmp 15) (.tmp 17) 26 28 (.agg #[(.int .i64 0), (.int .i64 0), (.int .i64 0), (.int .i64 0), (.string ⟨#[]⟩), (.int .i64 0), (.int .i64 0), (.bool false), (.bool false), (.int .i64 0), (.int .i64 0), (.bool false), (.bool false), (.slice none 0 0)]) 120 rfl Tryd.underlying26 info28 rfl (by decide) (by omega) u3 x3_1 t107 _ _ _ (fun k_ => (P0_13_ k_ ∨ w.heap.size ≤ k_) ∧ k_ ≠ gb101 ∧ k_ ≠ gb106) (fun k_ => ((fun k_ => (P0_13_ k_ ∨ w.heap.size ≤ k_) ∧ k_ ≠ gb101 ∧ k_ ≠ gb106)) k_ ∧ some k_ ≠ (u3 : Value).ownBlock) rfl rfl ?aO ?aR (fun _ hk => hk) ?aF ?aB ?aS ?aL ?_; (case aR => exact (by skip; exact Kd.N_F (Kd.N_mono (ok' := (fun k_ => ((fun k_ => (P0_13_ k_ ∨ w.heap.size ≤ k_) ∧ k_ ≠ gb101 ∧ k_ ≠ gb106)) k_ ∧ some k_ ≠ (u3 : Value).ownBlock)) (HO109.out) (fun k_ hk => ⟨⟨hk.1, ⟨hk.2.2.1, hk.2.2.2⟩⟩, hk.2.1⟩)))); (case aB => exact (pbx HB)); (case aF => exact (fun k_ hk => ⟨(.inr (Nat.le_trans (below_size (pbx HB)) hk)), Kd.freshB (pkx BK101) k_ hk, Kd.freshB (pkx BK106) k_ hk⟩)); (case aO => exact (by (with_reducible repeat (first | apply Kd.N_alloc | apply Kd.N_drewN | apply Kd.N_drew)); exact Kd.N_mono HO_3.out (fun _ hk => ⟨hk.1.1, ⟨hk.1.2.1, hk.1.2.2⟩⟩))); (case aS => exact (below_size (pbx HB))); (case aL => have := LMc11.out; omega); intro v111 w18 ho hb hg hat; rw [← Ny110.out] at ho; have HO112 := Aside0.mk (ho); replace HO_9 := Aside0.mk (Kd.V_afterv (ok := (fun k_ => (P0_13_ k_ ∨ w.heap.size ≤ k_) ∧ some k_ ≠ (.slice Ao19 t107.length co19 : Value).ownBlock ∧ k_ ≠ gb101 ∧ k_ ≠ gb106)) (by (with_reducible repeat (first | apply Kd.V_alloc | apply Kd.V_drewN | apply Kd.V_drew)); exact Kd.V_mono HO_9.out (fun _ hk => ⟨⟨hk.1.1, ⟨hk.2, ⟨hk.1.2.2.1, hk.1.2.2.2⟩⟩⟩, hk.1.2.1⟩)) hg hat); replace HO_102013 := Aside0.mk (Kd.V_afterv (ok := (fun k_ => (P0_13_ k_ ∨ w.heap.size ≤ k_) ∧ some k_ ≠ (.slice Ao19 t107.length co19 : Value).ownBlock ∧ k_ ≠ gb101 ∧ k_ ≠ gb106)) (by (with_reducible repeat (first | apply Kd.V_alloc | apply Kd.V_drewN | apply Kd.V_drew)); exact Kd.V_mono HO_102013.out (fun _ hk => ⟨⟨hk.1.1, ⟨hk.2, ⟨hk.1.2.2.1, hk.1.2.2.2⟩⟩⟩, hk.1.2.1⟩)) hg hat); replace BK101 := Aside0.mk (blk_grown (pkx BK101) hg (Kd.N_away HO_3.out (fun _ hk => hk.1.2.1))); replace HL105_13 := Aside0.mk (Kd.V_afterv (ok := (fun k_ => (P0_13_ k_ ∨ w.heap.size ≤ k_) ∧ some k_ ≠ (.slice Ao19 t107.length co19 : Value).ownBlock ∧ k_ ≠ gb101 ∧ k_ ≠ gb106)) (by (with_reducible repeat (first | apply Kd.V_alloc | apply Kd.V_drewN | apply Kd.V_drew)); exact Kd.V_mono HL105_13.out (fun _ hk => ⟨⟨hk.1.1, ⟨hk.2, ⟨hk.1.2.2.1, hk.1.2.2.2⟩⟩⟩, hk.1.2.1⟩)) hg hat); replace BK106 := Aside0.mk (blk_grown (pkx BK106) hg (Kd.N_away HO_3.out (fun _ hk => hk.1.2.2))); replace HO109 := Aside0.mk (Kd.N_afterv (ok := (fun k_ => (P0_13_ k_ ∨ w.heap.size ≤ k_) ∧ k_ ≠ gb101 ∧ k_ ≠ gb106)) (by (with_reducible repeat (first | apply Kd.N_alloc | apply Kd.N_drewN | apply Kd.N_drew)); exact Kd.N_mono HO109.out (fun _ hk => ⟨⟨hk.1, ⟨hk.2.2.1, hk.2.2.2⟩⟩, hk.2.1⟩)) hg hat); replace HB := Aside0.mk (hb); clear HO_3; clear ho hb hg hat))
       go_roundg k1
       case measure => have := HK1.out; omega
       case rel => exact ⟨(y110), (wrap64 (x11_1 + 1)), (by first | rfl | (simp; done) | (simp [*]; done)), H', ⟨by have := HK1.out; omega⟩, ⟨by (with_reducible repeat (first | apply Kd.N_alloc | apply Kd.N_drewN | apply Kd.N_drew)); exact Kd.N_mono HO112.out (fun _ hk => ⟨hk.1, hk.2.1⟩)⟩, ⟨by (with_reducible repeat (first | apply Kd.V_alloc | apply Kd.V_drewN | apply Kd.V_drew)); exact Kd.V_mono HO_9.out (fun _ hk => ⟨hk.1.1, ⟨hk.2, hk.1.2.2.1⟩⟩)⟩, ⟨by (with_reducible repeat (first | apply Kd.V_alloc | apply Kd.V_drewN | apply Kd.V_drew)); exact Kd.V_mono HO_102013.out (fun _ hk => ⟨hk.1.1, ⟨hk.2, hk.1.2.2.1⟩⟩)⟩, ⟨pkx BK101⟩, ⟨pbx HB⟩⟩
      ·rw [if_neg c11] at H
       exact absurd H (by simp)
     ·rw [if_neg c9] at H
      exact absurd H (by simp)
    ·rw [if_neg c8] at H
     exact absurd H (by simp)
   ·rw [if_neg c7] at H; have c7b0 : decide (x11_1 < (l0_13.length : Int)) = false := decide_eq_false c7; clear c7; obtain rfl := Option.some.inj H
    go_wp2
    go_ret
    exact ⟨_, by first | rfl | (simp [errW_none, errW_some] <;> rfl) | (simp [*, errW_none, errW_some] <;> rfl), by (with_reducible repeat (first | apply Kd.N_alloc | apply Kd.N_drewN | apply Kd.N_drew)); exact Kd.N_mono HO_3.out (fun _ hk => hk.1), pbx HB⟩

end Go.Proofs.YtdddhabemdbooaaDoor.X
-- fix22
namespace Go.Proofs.YtdddhabemdbooaaDoor.X
open Go.RowKit Go.Proofs.YtdddhabemdbooaaDoorW.PrintWords Go.Proofs.YtdddhabemdbooaaDoorW.PrintLast Go.Proofs.YtdddhabemdbooaaDoorW.PrintMore
attribute [local go_sem] max2_int min2_int max_two min_two max_three min_three max_four min_four
set_option linter.unusedVariables false
set_option linter.unusedSimpArgs false
mutual
def node_Deep.l0 : Nat → Int → List (S28) → Int → Int → Option (Int)
 | 0, _, _, _, _ => none
 | k + 1, x3, x7, x8, x9 => if x9 < x8 then (if 0 ≤ x9 then (if x9 < (x7.length : Int) then ((node_Deep.f k ((rd_T28 x7 x9).f0) ((rd_T28 x7 x9).f1) ((rd_T28 x7 x9).f2.f0) ((rd_T28 x7 x9).f2.f1) ((rd_T28 x7 x9).f2.f2) ((rd_T28 x7 x9).f3.f0) ((rd_T28 x7 x9).f3.f1) ((rd_T28 x7 x9).f3.f2) ((rd_T28 x7 x9).f3.f3) ((rd_T28 x7 x9).f4.f0) ((rd_T28 x7 x9).f4.f1) ((rd_T28 x7 x9).f4.f2) ((rd_T28 x7 x9).f4.f3) ((rd_T28 x7 x9).f5)).bind fun t104 => (node_Deep.l0 k (mx x3 t104) x7 x8 (wrap64 (x9 + 1)))) else (none)) else (none)) else (some (wrap64 (x3 + 1)))
def node_Deep.f : Nat → Int → Int → Int → Int → ByteArray → Int → Int → Bool → Bool → Int → Int → Bool → Bool → List (S28) → Option (Int)
 | 0, _, _, _, _, _, _, _, _, _, _, _, _, _, _ => none
 | k + 1, a0_0, a0_1, a0_2, a0_3, a0_4, a0_5, a0_6, a0_7, a0_8, a0_9, a0_10, a0_11, a0_12, l0_13 => node_Deep.l0 k 0 l0_13 (l0_13.length : Int) 0
end
theorem node_Deep.mono_l : ∀ k, (∀ y0 y1 y2 y3 y4 y5 y6 y7 y8 y9 y10 y11 y12 y13, LeO (node_Deep.f k y0 y1 y2 y3 y4 y5 y6 y7 y8 y9 y10 y11 y12 y13) (node_Deep.f (k + 1) y0 y1 y2 y3 y4 y5 y6 y7 y8 y9 y10 y11 y12 y13)) ∧ (∀ y0 y1 y2 y3, LeO (node_Deep.l0 k y0 y1 y2 y3) (node_Deep.l0 (k + 1) y0 y1 y2 y3))
 | 0 => ⟨fun _ _ _ _ _ _ _ _ _ _ _ _ _ _ r h => by simp [node_Deep.f] at h, fun _ _ _ _ r h => by simp [node_Deep.l0] at h⟩
 | k + 1 => by
  obtain ⟨ih0, ih1⟩ := node_Deep.mono_l k
  refine ⟨?_, ?_⟩
  ·intro y0 y1 y2 y3 y4 y5 y6 y7 y8 y9 y10 y11 y12 y13
   unfold node_Deep.f
   repeat' first
   | (with_reducible exact ih0 _ _ _ _ _ _ _ _ _ _ _ _ _ _)
   | (with_reducible exact ih1 _ _ _ _)
   | (with_reducible exact LeO.refl _)
   | (with_reducible exact LeO.none _)
   | (with_reducible refine LeO.ite ?_ ?_)
   | (with_reducible refine LeO.bind ?_ (fun _ => ?_))
  ·intro y0 y1 y2 y3
   unfold node_Deep.l0
   repeat' first
   | (with_reducible exact ih0 _ _ _ _ _ _ _ _ _ _ _ _ _ _)
   | (with_reducible exact ih1 _ _ _ _)
   | (with_reducible exact LeO.refl _)
   | (with_reducible exact LeO.none _)
   | (with_reducible refine LeO.ite ?_ ?_)
   | (with_reducible refine LeO.bind ?_ (fun _ => ?_))
theorem node_Deep.mono : ∀ a0 a1 a2 a3 a4 a5 a6 a7 a8 a9 a10 a11 a12 a13 k, LeO (node_Deep.f k a0 a1 a2 a3 a4 a5 a6 a7 a8 a9 a10 a11 a12 a13) (node_Deep.f (k + 1) a0 a1 a2 a3 a4 a5 a6 a7 a8 a9 a10 a11 a12 a13) := by
 intro a0 a1 a2 a3 a4 a5 a6 a7 a8 a9 a10 a11 a12 a13 k; obtain ⟨ih0, ih1⟩ := node_Deep.mono_l k
 exact ih0 a0 a1 a2 a3 a4 a5 a6 a7 a8 a9 a10 a11 a12 a13
set_option maxHeartbeats 8000000 in
set_option maxRecDepth 100000 in
theorem node_Deep.calls (k : Nat) : ∀ (a0_0 : Int) (a0_1 : Int) (a0_2 : Int) (a0_3 : Int) (a0_4 : ByteArray) (a0_5 : Int) (a0_6 : Int) (a0_7 : Bool) (a0_8 : Bool) (a0_9 : Int) (a0_10 : Int) (a0_11 : Bool) (a0_12 : Bool) (A0_13 : Option Addr) (c0_13 : Nat) (l0_13 : List (S28)) (r : Int) (w : World) (hr0_13 : Kd.C k28 w A0_13 l0_13.length l0_13) (hc0_13 : l0_13.length ≤ c0_13) (h : node_Deep.f k a0_0 a0_1 a0_2 a0_3 a0_4 a0_5 a0_6 a0_7 a0_8 a0_9 a0_10 a0_11 a0_12 l0_13 = some r),
  Calls Tryd.prog 11 #[.agg #[.int .i64 a0_0, .int .i64 a0_1, .int .i64 a0_2, .int .i64 a0_3, .string a0_4, .int .i64 a0_5, .int .i64 a0_6, .bool a0_7, .bool a0_8, .int .i64 a0_9, .int .i64 a0_10, .bool a0_11, .bool a0_12, .slice A0_13 l0_13.length c0_13]] w fun e w' => e = .returned (.int .i64 r) ∧ Below w.heap.size w w' := by
 induction k using Nat.strongRecOn with
 | _ k ih =>
 intro a0_0 a0_1 a0_2 a0_3 a0_4 a0_5 a0_6 a0_7 a0_8 a0_9 a0_10 a0_11 a0_12 A0_13 c0_13 l0_13 r w hr0_13 hc0_13 h
 cases k with
 | zero => exact absurd h (by simp [node_Deep.f])
 | succ k =>
 simp only [node_Deep.f] at h
 have hu28 := Tryd.underlying28; have HR0_13 := Aside0.mk hr0_13; have HC0_13 := Aside0.mk hc0_13; clear hr0_13 hc0_13; have HB := Aside0.mk (Below.refl w.heap.size w)
 have H : (node_Deep.l0 k 0 l0_13 (l0_13.length : Int) 0) = some r := h
 clear h
 have H' := Aside0.mk H
 clear H
 go_enter Tryd.func11, Tryd.ntmps11
 go_wp2_with (first | ((with_reducible refine gate_dst (N:=1) rfl ?_); refine be_ (N:=1) (cs := #[.int .i64 a0_0, .int .i64 a0_1, .int .i64 a0_2, .int .i64 a0_3, .string a0_4, .int .i64 a0_5, .int .i64 a0_6, .bool a0_7, .bool a0_8, .int .i64 a0_9, .int .i64 a0_10, .bool a0_11, .bool a0_12, .slice A0_13 l0_13.length c0_13]) (t:=28) ?_; intro gb101 hg w2 hbox hb; have BK101 := Aside0.mk (hbox); have GW101 := hs_ HB hg; have GE101 := hs_ HB hg; replace HB := bs_ HB hb; clear hb hbox hg; have hcz3_0 : w2.cell? ⟨gb101, 0, none⟩ = some (.int .i64 a0_0) := bc_ BK101 0 rfl; have hcz3_1 : w2.cell? ⟨gb101, 1, none⟩ = some (.int .i64 a0_1) := bc_ BK101 1 rfl; have hcz3_2 : w2.cell? ⟨gb101, 2, none⟩ = some (.int .i64 a0_2) := bc_ BK101 2 rfl; have hcz3_3 : w2.cell? ⟨gb101, 3, none⟩ = some (.int .i64 a0_3) := bc_ BK101 3 rfl; have hcz3_4 : w2.cell? ⟨gb101, 4, none⟩ = some (.string a0_4) := bc_ BK101 4 rfl; have hcz3_5 : w2.cell? ⟨gb101, 5, none⟩ = some (.int .i64 a0_5) := bc_ BK101 5 rfl; have hcz3_6 : w2.cell? ⟨gb101, 6, none⟩ = some (.int .i64 a0_6) := bc_ BK101 6 rfl; have hcz3_7 : w2.cell? ⟨gb101, 7, none⟩ = some (.bool a0_7) := bc_ BK101 7 rfl; have hcz3_8 : w2.cell? ⟨gb101, 8, none⟩ = some (.bool a0_8) := bc_ BK101 8 rfl; have hcz3_9 : w2.cell? ⟨gb101, 9, none⟩ = some (.int .i64 a0_9) := bc_ BK101 9 rfl; have hcz3_10 : w2.cell? ⟨gb101, 10, none⟩ = some (.int .i64 a0_10) := bc_ BK101 10 rfl; have hcz3_11 : w2.cell? ⟨gb101, 11, none⟩ = some (.bool a0_11) := bc_ BK101 11 rfl; have hcz3_12 : w2.cell? ⟨gb101, 12, none⟩ = some (.bool a0_12) := bc_ BK101 12 rfl; have hcz3_13 : w2.cell? ⟨gb101, 13, none⟩ = some (.slice A0_13 l0_13.length c0_13) := bc_ BK101 13 rfl; have hfz3_0 := blk_frozen BK101.out 0; have hfz3_1 := blk_frozen BK101.out 1; have hfz3_2 := blk_frozen BK101.out 2; have hfz3_3 := blk_frozen BK101.out 3; have hfz3_4 := blk_frozen BK101.out 4; have hfz3_5 := blk_frozen BK101.out 5; have hfz3_6 := blk_frozen BK101.out 6; have hfz3_7 := blk_frozen BK101.out 7; have hfz3_8 := blk_frozen BK101.out 8; have hfz3_9 := blk_frozen BK101.out 9; have hfz3_10 := blk_frozen BK101.out 10; have hfz3_11 := blk_frozen BK101.out 11; have hfz3_12 := blk_frozen BK101.out 12; have hfz3_13 := blk_frozen BK101.out 13))
 go_loopg [3, 9] k (fun kq v3 v9 w' => ∃ (x3_1 : Int) (x9_1 : Int), v3 = .int .i64 x3_1 ∧ v9 = .int .i64 x9_1 ∧ Aside0 (node_Deep.l0 kq x3_1 l0_13 (l0_13.length : Int) x9_1 = some r) ∧ Aside0 (kq ≤ k) ∧ Aside0 (w'.heap[gb101]? = some (.cells #[.int .i64 a0_0, .int .i64 a0_1, .int .i64 a0_2, .int .i64 a0_3, .string a0_4, .int .i64 a0_5, .int .i64 a0_6, .bool a0_7, .bool a0_8, .int .i64 a0_9, .int .i64 a0_10, .bool a0_11, .bool a0_12, (.slice A0_13 l0_13.length c0_13)] 28 (0, 0))) ∧ Aside0 (Below w.heap.size w w'))
 case atStart => exact ⟨(0), (0), (by first | rfl | (simp; done) | (simp [*]; done)), (by first | rfl | (simp; done) | (simp [*]; done)), H', ⟨Nat.le_refl _⟩, ⟨pkx BK101⟩, ⟨pbx HB⟩⟩
 case round =>
  clear H'; (try clear c1); (try clear p2); (try clear hcz3_0); (try clear hcz3_1); (try clear hcz3_10); (try clear hcz3_11); (try clear hcz3_12); (try clear hcz3_13); (try clear hcz3_2); (try clear hcz3_3); (try clear hcz3_4); (try clear hcz3_5); (try clear hcz3_6); (try clear hcz3_7); (try clear hcz3_8); (try clear hcz3_9); (try clear hfz3_0); (try clear hfz3_1); (try clear hfz3_10); (try clear hfz3_11); (try clear hfz3_12); (try clear hfz3_13); (try clear hfz3_2); (try clear hfz3_3); (try clear hfz3_4); (try clear hfz3_5); (try clear hfz3_6); (try clear hfz3_7); (try clear hfz3_8); (try clear hfz3_9); obtain ⟨x3_1, x9_1, rfl, rfl, HA, HK1, BK101, HB⟩ := hrel
  cases gk with
  | zero => exact absurd HA.out (by simp [node_Deep.l0])
  | succ k1 =>
   have H := HA.out; clear HA
   simp only [node_Deep.l0] at H
   by_cases c4 : x9_1 < (l0_13.length : Int)
   ·rw [if_pos c4] at H; have c4b0 : decide (x9_1 < (l0_13.length : Int)) = true := decide_eq_true c4; clear c4
    by_cases c5 : 0 ≤ x9_1
    ·rw [if_pos c5] at H; have c5b0 : decide (0 ≤ x9_1) = true := decide_eq_true c5; clear c5
     by_cases c6 : x9_1 < (l0_13.length : Int)
     ·rw [if_pos c6] at H; have c6b0 : decide (x9_1 < (l0_13.length : Int)) = true := decide_eq_true c6; clear c6; replace H := Option.bind_eq_some_iff.mp H; obtain ⟨t104, A70, H⟩ := H
      replace H : (node_Deep.l0 k1 (mx x3_1 t104) l0_13 (l0_13.length : Int) (wrap64 (x9_1 + 1))) = some r := H
      have A7 := Aside0.mk A70; clear A70; obtain ⟨ji8, hji8⟩ : ∃ j_ : Int, (mx x3_1 t104) = j_ := ⟨_, rfl⟩
      replace H : (node_Deep.l0 k1 ji8 l0_13 (l0_13.length : Int) (wrap64 (x9_1 + 1))) = some r := by first | (rw [hji8] at H; exact H) | (simp only [hji8] at H ⊢; exact H)
      (try rw [hji8] at A7)
      have hji8_ : (if x3_1 < t104 then t104 else x3_1) = ji8 := hji8
      have H' := Aside0.mk H
      clear H
      have p102 : 0 ≤ (x9_1 : Int) := of_decide_eq_true (by first | (with_reducible assumption) | assumption)
      have q102 : x9_1 < (l0_13.length : Int) := of_decide_eq_true (by first | (with_reducible assumption) | assumption)
      obtain ⟨ad102, A102_13, c102_13, e102, hx102_0, hx102_1, hx102_2, hx102_3, hx102_4, hx102_5, hx102_6, hx102_7, hx102_8, hx102_9, hx102_10, hx102_11, hx102_12, hx102_13, hl102_13, hi102_13⟩ := at_T28 HR0_13.out x9_1 p102 q102
      cases e102
      replace hx102_0 := (HB.out.cell (World.block_lt_of_cell? w _ hx102_0)).trans hx102_0; replace hx102_1 := (HB.out.cell (World.block_lt_of_cell? w _ hx102_1)).trans hx102_1; replace hx102_2 := (HB.out.cell (World.block_lt_of_cell? w _ hx102_2)).trans hx102_2; replace hx102_3 := (HB.out.cell (World.block_lt_of_cell? w _ hx102_3)).trans hx102_3; replace hx102_4 := (HB.out.cell (World.block_lt_of_cell? w _ hx102_4)).trans hx102_4; replace hx102_5 := (HB.out.cell (World.block_lt_of_cell? w _ hx102_5)).trans hx102_5; replace hx102_6 := (HB.out.cell (World.block_lt_of_cell? w _ hx102_6)).trans hx102_6; replace hx102_7 := (HB.out.cell (World.block_lt_of_cell? w _ hx102_7)).trans hx102_7; replace hx102_8 := (HB.out.cell (World.block_lt_of_cell? w _ hx102_8)).trans hx102_8; replace hx102_9 := (HB.out.cell (World.block_lt_of_cell? w _ hx102_9)).trans hx102_9; replace hx102_10 := (HB.out.cell (World.block_lt_of_cell? w _ hx102_10)).trans hx102_10
      replace hx102_11 := (HB.out.cell (World.block_lt_of_cell? w _ hx102_11)).trans hx102_11; replace hx102_12 := (HB.out.cell (World.block_lt_of_cell? w _ hx102_12)).trans hx102_12; replace hx102_13 := (HB.out.cell (World.block_lt_of_cell? w _ hx102_13)).trans hx102_13; have HR102_13 := Aside0.mk hi102_13; have HC102_13 := Aside0.mk hl102_13; clear hi102_13 hl102_13; replace p102 := eq_true p102; replace q102 := eq_true q102
      go_wp2_with (first | ((with_reducible refine gate_dst (N:=5) rfl ?_); refine be_ (N:=5) (cs := #[.int .i64 0, .int .i64 0, .int .i64 0, .int .i64 0, .string (⟨#[]⟩ : ByteArray), .int .i64 0, .int .i64 0, .bool false, .bool false, .int .i64 0, .int .i64 0, .bool false, .bool false, .slice none 0 0]) (t:=28) ?_; intro gb103 hg w9 hbox hb; have BK103 := Aside0.mk (hbox); have GW103 := hs_ HB hg; have GE103 := hs_ HB hg; have NB101_103 := hl_ BK101 hg; have NB103_101 := hr_ BK101 hg; replace BK101 := bb_ BK101 hb; replace HB := bs_ HB hb; clear hb hbox hg; have hnb10 := NB103_101.out; have hnc10 := NB101_103.out; have hcz11_0 : w9.cell? ⟨gb103, 0, none⟩ = some (.int .i64 0) := bc_ BK103 0 rfl; have hcz11_1 : w9.cell? ⟨gb103, 1, none⟩ = some (.int .i64 0) := bc_ BK103 1 rfl; have hcz11_2 : w9.cell? ⟨gb103, 2, none⟩ = some (.int .i64 0) := bc_ BK103 2 rfl; have hcz11_3 : w9.cell? ⟨gb103, 3, none⟩ = some (.int .i64 0) := bc_ BK103 3 rfl; have hcz11_4 : w9.cell? ⟨gb103, 4, none⟩ = some (.string (⟨#[]⟩ : ByteArray)) := bc_ BK103 4 rfl; have hcz11_5 : w9.cell? ⟨gb103, 5, none⟩ = some (.int .i64 0) := bc_ BK103 5 rfl; have hcz11_6 : w9.cell? ⟨gb103, 6, none⟩ = some (.int .i64 0) := bc_ BK103 6 rfl; have hcz11_7 : w9.cell? ⟨gb103, 7, none⟩ = some (.bool false) := bc_ BK103 7 rfl; have hcz11_8 : w9.cell? ⟨gb103, 8, none⟩ = some (.bool false) := bc_ BK103 8 rfl; have hcz11_9 : w9.cell? ⟨gb103, 9, none⟩ = some (.int .i64 0) := bc_ BK103 9 rfl; have hcz11_10 : w9.cell? ⟨gb103, 10, none⟩ = some (.int .i64 0) := bc_ BK103 10 rfl; have hcz11_11 : w9.cell? ⟨gb103, 11, none⟩ = some (.bool false) := bc_ BK103 11 rfl; have hcz11_12 : w9.cell? ⟨gb103, 12, none⟩ = some (.bool false) := bc_ BK103 12 rfl; have hcz11_13 : w9.cell? ⟨gb103, 13, none⟩ = some (.slice none 0 0) := bc_ BK103 13 rfl; have hfz11_0 := blk_frozen BK103.out 0; have hfz11_1 := blk_frozen BK103.out 1; have hfz11_2 := blk_frozen BK103.out 2; have hfz11_3 := blk_frozen BK103.out 3; have hfz11_4 := blk_frozen BK103.out 4; have hfz11_5 := blk_frozen BK103.out 5; have hfz11_6 := blk_frozen BK103.out 6; have hfz11_7 := blk_frozen BK103.out 7; have hfz11_8 := blk_frozen BK103.out 8; have hfz11_9 := blk_frozen BK103.out 9; have hfz11_10 := blk_frozen BK103.out 10; have hfz11_11 := blk_frozen BK103.out 11; have hfz11_12 := blk_frozen BK103.out 12; have hfz11_13 := blk_frozen BK103.out 13) | ((with_reducible refine gate_callee (f:=11) rfl ?_); refine gL_ (some 15) rfl rfl Tryd.func11 rfl #[.agg #[.int .i64 ((rd_T28 l0_13 x9_1).f0), .int .i64 ((rd_T28 l0_13 x9_1).f1), .int .i64 ((rd_T28 l0_13 x9_1).f2.f0), .int .i64 ((rd_T28 l0_13 x9_1).f2.f1), .string ((rd_T28 l0_13 x9_1).f2.f2), .int .i64 ((rd_T28 l0_13 x9_1).f3.f0), .int .i64 ((rd_T28 l0_13 x9_1).f3.f1), .bool ((rd_T28 l0_13 x9_1).f3.f2), .bool ((rd_T28 l0_13 x9_1).f3.f3), .int .i64 ((rd_T28 l0_13 x9_1).f4.f0), .int .i64 ((rd_T28 l0_13 x9_1).f4.f1), .bool ((rd_T28 l0_13 x9_1).f4.f2), .bool ((rd_T28 l0_13 x9_1).f4.f3), .slice A102_13 ((rd_T28 l0_13 x9_1).f5).length c102_13]] rfl ?_; (with_reducible refine (ih k1 (by have := HK1.out; omega) ((rd_T28 l0_13 x9_1).f0) ((rd_T28 l0_13 x9_1).f1) ((rd_T28 l0_13 x9_1).f2.f0) ((rd_T28 l0_13 x9_1).f2.f1) ((rd_T28 l0_13 x9_1).f2.f2) ((rd_T28 l0_13 x9_1).f3.f0) ((rd_T28 l0_13 x9_1).f3.f1) ((rd_T28 l0_13 x9_1).f3.f2) ((rd_T28 l0_13 x9_1).f3.f3) ((rd_T28 l0_13 x9_1).f4.f0) ((rd_T28 l0_13 x9_1).f4.f1) ((rd_T28 l0_13 x9_1).f4.f2) ((rd_T28 l0_13 x9_1).f4.f3) _ _ ((rd_T28 l0_13 x9_1).f5) t104 _ ?side1 ?side2 A7.out).mono ?_); (case side1 => exact Kd.C_below HR102_13.out (by repeat (first | (with_reducible first | exact HB.out | apply below_alloc | apply pw_below_drewN | apply below_drew1 | refine below_set ?_ GE101.out | refine below_set ?_ GE103.out) | exact HB.out))); (case side2 => exact HC102_13.out); rintro e w12 ⟨rfl, hb⟩; refine ⟨_, rfl, ?_⟩; replace BK101 := Aside0.mk (blk_below (g:=gb101) (o := .cells #[.int .i64 a0_0, .int .i64 a0_1, .int .i64 a0_2, .int .i64 a0_3, .string a0_4, .int .i64 a0_5, .int .i64 a0_6, .bool a0_7, .bool a0_8, .int .i64 a0_9, .int .i64 a0_10, .bool a0_11, .bool a0_12, .slice (some ad102) l0_13.length c0_13] 28 (0, 0)) (by refine pf_ ?_ NB101_103.out; refine blk_far ?_ NB101_103.out _; refine blk_far ?_ NB101_103.out _; refine blk_far ?_ NB101_103.out _; refine blk_far ?_ NB101_103.out _; refine blk_far ?_ NB101_103.out _; refine blk_far ?_ NB101_103.out _; refine blk_far ?_ NB101_103.out _; refine blk_far ?_ NB101_103.out _; refine blk_far ?_ NB101_103.out _; refine blk_far ?_ NB101_103.out _; refine blk_far ?_ NB101_103.out _; refine blk_far ?_ NB101_103.out _; refine blk_far ?_ NB101_103.out _; exact pkx BK101) hb); replace BK103 := Aside0.mk (blk_below (g:=gb103) (o := .cells #[.int .i64 ((rd_T28 l0_13 x9_1).f0), .int .i64 ((rd_T28 l0_13 x9_1).f1), .int .i64 ((rd_T28 l0_13 x9_1).f2.f0), .int .i64 ((rd_T28 l0_13 x9_1).f2.f1), .string ((rd_T28 l0_13 x9_1).f2.f2), .int .i64 ((rd_T28 l0_13 x9_1).f3.f0), .int .i64 ((rd_T28 l0_13 x9_1).f3.f1), .bool ((rd_T28 l0_13 x9_1).f3.f2), .bool ((rd_T28 l0_13 x9_1).f3.f3), .int .i64 ((rd_T28 l0_13 x9_1).f4.f0), .int .i64 ((rd_T28 l0_13 x9_1).f4.f1), .bool ((rd_T28 l0_13 x9_1).f4.f2), .bool ((rd_T28 l0_13 x9_1).f4.f3), .slice A102_13 ((rd_T28 l0_13 x9_1).f5).length c102_13] 28 (0, 0)) (by refine pp_ (cs := #[.int .i64 ((rd_T28 l0_13 x9_1).f0), .int .i64 ((rd_T28 l0_13 x9_1).f1), .int .i64 ((rd_T28 l0_13 x9_1).f2.f0), .int .i64 ((rd_T28 l0_13 x9_1).f2.f1), .string ((rd_T28 l0_13 x9_1).f2.f2), .int .i64 ((rd_T28 l0_13 x9_1).f3.f0), .int .i64 ((rd_T28 l0_13 x9_1).f3.f1), .bool ((rd_T28 l0_13 x9_1).f3.f2), .bool ((rd_T28 l0_13 x9_1).f3.f3), .int .i64 ((rd_T28 l0_13 x9_1).f4.f0), .int .i64 ((rd_T28 l0_13 x9_1).f4.f1), .bool ((rd_T28 l0_13 x9_1).f4.f2), .bool ((rd_T28 l0_13 x9_1).f4.f3), .slice none 0 0]) 13 ?_ rfl; refine blk_put (cs := #[.int .i64 ((rd_T28 l0_13 x9_1).f0), .int .i64 ((rd_T28 l0_13 x9_1).f1), .int .i64 ((rd_T28 l0_13 x9_1).f2.f0), .int .i64 ((rd_T28 l0_13 x9_1).f2.f1), .string ((rd_T28 l0_13 x9_1).f2.f2), .int .i64 ((rd_T28 l0_13 x9_1).f3.f0), .int .i64 ((rd_T28 l0_13 x9_1).f3.f1), .bool ((rd_T28 l0_13 x9_1).f3.f2), .bool ((rd_T28 l0_13 x9_1).f3.f3), .int .i64 ((rd_T28 l0_13 x9_1).f4.f0), .int .i64 ((rd_T28 l0_13 x9_1).f4.f1), .bool ((rd_T28 l0_13 x9_1).f4.f2), .bool false, .slice none 0 0]) ?_ 12 _ rfl; refine blk_put (cs := #[.int .i64 ((rd_T28 l0_13 x9_1).f0), .int .i64 ((rd_T28 l0_13 x9_1).f1), .int .i64 ((rd_T28 l0_13 x9_1).f2.f0), .int .i64 ((rd_T28 l0_13 x9_1).f2.f1), .string ((rd_T28 l0_13 x9_1).f2.f2), .int .i64 ((rd_T28 l0_13 x9_1).f3.f0), .int .i64 ((rd_T28 l0_13 x9_1).f3.f1), .bool ((rd_T28 l0_13 x9_1).f3.f2), .bool ((rd_T28 l0_13 x9_1).f3.f3), .int .i64 ((rd_T28 l0_13 x9_1).f4.f0), .int .i64 ((rd_T28 l0_13 x9_1).f4.f1), .bool false, .bool false, .slice none 0 0]) ?_ 11 _ rfl; refine blk_put (cs := #[.int .i64 ((rd_T28 l0_13 x9_1).f0), .int .i64 ((rd_T28 l0_13 x9_1).f1), .int .i64 ((rd_T28 l0_13 x9_1).f2.f0), .int .i64 ((rd_T28 l0_13 x9_1).f2.f1), .string ((rd_T28 l0_13 x9_1).f2.f2), .int .i64 ((rd_T28 l0_13 x9_1).f3.f0), .int .i64 ((rd_T28 l0_13 x9_1).f3.f1), .bool ((rd_T28 l0_13 x9_1).f3.f2), .bool ((rd_T28 l0_13 x9_1).f3.f3), .int .i64 ((rd_T28 l0_13 x9_1).f4.f0), .int .i64 0, .bool false, .bool false, .slice none 0 0]) ?_ 10 _ rfl; refine blk_put (cs := #[.int .i64 ((rd_T28 l0_13 x9_1).f0), .int .i64 ((rd_T28 l0_13 x9_1).f1), .int .i64 ((rd_T28 l0_13 x9_1).f2.f0), .int .i64 ((rd_T28 l0_13 x9_1).f2.f1), .string ((rd_T28 l0_13 x9_1).f2.f2), .int .i64 ((rd_T28 l0_13 x9_1).f3.f0), .int .i64 ((rd_T28 l0_13 x9_1).f3.f1), .bool ((rd_T28 l0_13 x9_1).f3.f2), .bool ((rd_T28 l0_13 x9_1).f3.f3), .int .i64 0, .int .i64 0, .bool false, .bool false, .slice none 0 0]) ?_ 9 _ rfl; refine blk_put (cs := #[.int .i64 ((rd_T28 l0_13 x9_1).f0), .int .i64 ((rd_T28 l0_13 x9_1).f1), .int .i64 ((rd_T28 l0_13 x9_1).f2.f0), .int .i64 ((rd_T28 l0_13 x9_1).f2.f1), .string ((rd_T28 l0_13 x9_1).f2.f2), .int .i64 ((rd_T28 l0_13 x9_1).f3.f0), .int .i64 ((rd_T28 l0_13 x9_1).f3.f1), .bool ((rd_T28 l0_13 x9_1).f3.f2), .bool false, .int .i64 0, .int .i64 0, .bool false, .bool false, .slice none 0 0]) ?_ 8 _ rfl; refine blk_put (cs := #[.int .i64 ((rd_T28 l0_13 x9_1).f0), .int .i64 ((rd_T28 l0_13 x9_1).f1), .int .i64 ((rd_T28 l0_13 x9_1).f2.f0), .int .i64 ((rd_T28 l0_13 x9_1).f2.f1), .string ((rd_T28 l0_13 x9_1).f2.f2), .int .i64 ((rd_T28 l0_13 x9_1).f3.f0), .int .i64 ((rd_T28 l0_13 x9_1).f3.f1), .bool false, .bool false, .int .i64 0, .int .i64 0, .bool false, .bool false, .slice none 0 0]) ?_ 7 _ rfl; refine blk_put (cs := #[.int .i64 ((rd_T28 l0_13 x9_1).f0), .int .i64 ((rd_T28 l0_13 x9_1).f1), .int .i64 ((rd_T28 l0_13 x9_1).f2.f0), .int .i64 ((rd_T28 l0_13 x9_1).f2.f1), .string ((rd_T28 l0_13 x9_1).f2.f2), .int .i64 ((rd_T28 l0_13 x9_1).f3.f0), .int .i64 0, .bool false, .bool false, .int .i64 0, .int .i64 0, .bool false, .bool false, .slice none 0 0]) ?_ 6 _ rfl; refine blk_put (cs := #[.int .i64 ((rd_T28 l0_13 x9_1).f0), .int .i64 ((rd_T28 l0_13 x9_1).f1), .int .i64 ((rd_T28 l0_13 x9_1).f2.f0), .int .i64 ((rd_T28 l0_13 x9_1).f2.f1), .string ((rd_T28 l0_13 x9_1).f2.f2), .int .i64 0, .int .i64 0, .bool false, .bool false, .int .i64 0, .int .i64 0, .bool false, .bool false, .slice none 0 0]) ?_ 5 _ rfl; refine blk_put (cs := #[.int .i64 ((rd_T28 l0_13 x9_1).f0), .int .i64 ((rd_T28 l0_13 x9_1).f1), .int .i64 ((rd_T28 l0_13 x9_1).f2.f0), .int .i64 ((rd_T28 l0_13 x9_1).f2.f1), .string (⟨#[]⟩ : ByteArray), .int .i64 0, .int .i64 0, .bool false, .bool false, .int .i64 0, .int .i64 0, .bool false, .bool false, .slice none 0 0]) ?_ 4 _ rfl; refine pp_ (cs := #[.int .i64 ((rd_T28 l0_13 x9_1).f0), .int .i64 ((rd_T28 l0_13 x9_1).f1), .int .i64 ((rd_T28 l0_13 x9_1).f2.f0), .int .i64 0, .string (⟨#[]⟩ : ByteArray), .int .i64 0, .int .i64 0, .bool false, .bool false, .int .i64 0, .int .i64 0, .bool false, .bool false, .slice none 0 0]) 3 ?_ rfl; refine pp_ (cs := #[.int .i64 ((rd_T28 l0_13 x9_1).f0), .int .i64 ((rd_T28 l0_13 x9_1).f1), .int .i64 0, .int .i64 0, .string (⟨#[]⟩ : ByteArray), .int .i64 0, .int .i64 0, .bool false, .bool false, .int .i64 0, .int .i64 0, .bool false, .bool false, .slice none 0 0]) 2 ?_ rfl; refine pp_ (cs := #[.int .i64 ((rd_T28 l0_13 x9_1).f0), .int .i64 0, .int .i64 0, .int .i64 0, .string (⟨#[]⟩ : ByteArray), .int .i64 0, .int .i64 0, .bool false, .bool false, .int .i64 0, .int .i64 0, .bool false, .bool false, .slice none 0 0]) 1 ?_ rfl; refine pp_ (cs := #[.int .i64 0, .int .i64 0, .int .i64 0, .int .i64 0, .string (⟨#[]⟩ : ByteArray), .int .i64 0, .int .i64 0, .bool false, .bool false, .int .i64 0, .int .i64 0, .bool false, .bool false, .slice none 0 0]) 0 ?_ rfl; exact pkx BK103) hb); replace HB := Aside0.mk (below_step (by repeat (first | (with_reducible first | exact HB.out | apply below_alloc | apply pw_below_drewN | apply below_drew1 | refine below_set ?_ GE101.out | refine below_set ?_ GE103.out) | exact HB.out)) hb); (try clear hb); (try clear hb2); (try clear hk); (try clear hi)))
      go_roundg k1
      case measure => have := HK1.out; omega
      case rel => exact ⟨(ji8), (wrap64 (x9_1 + 1)), (by first | rfl | (simp; done) | (simp only [← hji8] <;> (first | rfl | simp)) | (simp [*]; done)), (by first | rfl | (simp; done) | (simp [*]; done)), H', ⟨by have := HK1.out; omega⟩, ⟨pkx BK101⟩, ⟨pbx HB⟩⟩
     ·rw [if_neg c6] at H
      exact absurd H (by simp)
    ·rw [if_neg c5] at H
     exact absurd H (by simp)
   ·rw [if_neg c4] at H; have c4b0 : decide (x9_1 < (l0_13.length : Int)) = false := decide_eq_false c4; clear c4; obtain rfl := Option.some.inj H
    go_wp2
    go_ret
    exact ⟨by first | rfl | (simp [errW_none, errW_some] <;> rfl) | (simp [*, errW_none, errW_some] <;> rfl), pbx HB⟩

def dec_May.f (a0 : Int) : Option (Bool) := some (a0 != (-9223372036854775808))
set_option maxHeartbeats 8000000 in
set_option maxRecDepth 100000 in
theorem dec_May.calls (a0 : Int) (r : Bool) (w : World) (h : dec_May.f a0 = some r) :
  Calls Tryd.prog 39 #[.int .i64 a0] w fun e w' => e = .returned (.bool r) ∧ Drawn0 w w' := by
 have H : (some (a0 != (-9223372036854775808))) = some r := h
 clear h; obtain rfl := Option.some.inj H
 go_enter Tryd.func39, Tryd.ntmps39
 go_wp2
 go_ret
 exact ⟨by first | rfl | (simp; done) | (simp [*]; done), by repeat (first | exact Drawn0.refl _ | apply Drawn0.step)⟩

def value_May.f (a0_0 : Int) (a0_1 : Int) (a0_2 : ByteArray) : Option (Bool) := if a0_0 = 0 then (if a0_1 = 0 then (some (a0_2.toList == ([] : List UInt8))) else (some false)) else (if a0_0 = 1 then ((dec_May.f a0_1).bind fun t102 => (if t102 = true then (some (a0_2.toList == ([] : List UInt8))) else (some false))) else (if a0_0 = 2 then (if a0_1 = 0 then (some (decide ((a0_2.size : Int) ≤ 256))) else (some false)) else (if a0_0 = 3 then (if a0_1 = 0 then (some (a0_2.toList == ([] : List UInt8))) else (if a0_1 = 1 then (some (a0_2.toList == ([] : List UInt8))) else (some false))) else (if a0_0 = 4 then (if a0_1 ≥ 1 then (if a0_1 ≤ 7 then (some (a0_2.toList == ([] : List UInt8))) else (some false)) else (some false)) else (some false)))))
set_option maxHeartbeats 8000000 in
set_option maxRecDepth 100000 in
theorem value_May.calls (a0_0 : Int) (a0_1 : Int) (a0_2 : ByteArray) (r : Bool) (w : World) (h : value_May.f a0_0 a0_1 a0_2 = some r) :
  Calls Tryd.prog 27 #[.agg #[.int .i64 a0_0, .int .i64 a0_1, .string a0_2]] w fun e w' => e = .returned (.bool r) ∧ Below w.heap.size w w' := by
 have hu23 := Tryd.underlying23; have HB := Aside0.mk (Below.refl w.heap.size w)
 have H : (if a0_0 = 0 then (if a0_1 = 0 then (some (a0_2.toList == ([] : List UInt8))) else (some false)) else (if a0_0 = 1 then ((dec_May.f a0_1).bind fun t102 => (if t102 = true then (some (a0_2.toList == ([] : List UInt8))) else (some false))) else (if a0_0 = 2 then (if a0_1 = 0 then (some (decide ((a0_2.size : Int) ≤ 256))) else (some false)) else (if a0_0 = 3 then (if a0_1 = 0 then (some (a0_2.toList == ([] : List UInt8))) else (if a0_1 = 1 then (some (a0_2.toList == ([] : List UInt8))) else (some false))) else (if a0_0 = 4 then (if a0_1 ≥ 1 then (if a0_1 ≤ 7 then (some (a0_2.toList == ([] : List UInt8))) else (some false)) else (some false)) else (some false)))))) = some r := h
 clear h
 by_cases c2 : a0_0 = 0
 ·rw [if_pos c2] at H; have c2b0 : (a0_0 == 0) = true := beq_iff_eq.mpr c2; have c2b1 : (a0_0 != 0) = false := bne_eq_false_iff_eq.mpr c2; clear c2
  by_cases c3 : a0_1 = 0
  ·rw [if_pos c3] at H; have c3b0 : (a0_1 == 0) = true := beq_iff_eq.mpr c3; have c3b1 : (a0_1 != 0) = false := bne_eq_false_iff_eq.mpr c3; clear c3; obtain rfl := Option.some.inj H
   go_enter Tryd.func27, Tryd.ntmps27
   go_wp2_with (first | ((with_reducible refine gate_dst (N:=1) rfl ?_); (try (refine gate_guard (by rfl) ?_; dsimp only)); refine be_ (N:=1) (cs := #[.int .i64 a0_0, .int .i64 a0_1, .string a0_2]) (t:=23) ?_; intro gb101 hg w4 hbox hb; have BK101 := Aside0.mk (hbox); replace HB := bs_ HB hb; clear hb hbox hg; have hcz5_0 : w4.cell? ⟨gb101, 0, none⟩ = some (.int .i64 a0_0) := bc_ BK101 0 rfl; have hcz5_1 : w4.cell? ⟨gb101, 1, none⟩ = some (.int .i64 a0_1) := bc_ BK101 1 rfl; have hcz5_2 : w4.cell? ⟨gb101, 2, none⟩ = some (.string a0_2) := bc_ BK101 2 rfl))
   go_ret
   exact ⟨by first | rfl | (simp [errW_none, errW_some] <;> rfl) | (simp [*, errW_none, errW_some] <;> rfl), pbx HB⟩
  ·rw [if_neg c3] at H; have c3b0 : (a0_1 == 0) = false := beq_eq_false_iff_ne.mpr c3; have c3b1 : (a0_1 != 0) = true := bne_iff_ne.mpr c3; obtain rfl := Option.some.inj H
   go_enter Tryd.func27, Tryd.ntmps27
   go_wp2_with (first | ((with_reducible refine gate_dst (N:=1) rfl ?_); (try (refine gate_guard (by rfl) ?_; dsimp only)); refine be_ (N:=1) (cs := #[.int .i64 a0_0, .int .i64 a0_1, .string a0_2]) (t:=23) ?_; intro gb101 hg w6 hbox hb; have BK101 := Aside0.mk (hbox); replace HB := bs_ HB hb; clear hb hbox hg; have hcz7_0 : w6.cell? ⟨gb101, 0, none⟩ = some (.int .i64 a0_0) := bc_ BK101 0 rfl; have hcz7_1 : w6.cell? ⟨gb101, 1, none⟩ = some (.int .i64 a0_1) := bc_ BK101 1 rfl; have hcz7_2 : w6.cell? ⟨gb101, 2, none⟩ = some (.string a0_2) := bc_ BK101 2 rfl))
   go_ret
   exact ⟨by first | rfl | (simp [errW_none, errW_some] <;> rfl) | (simp [*, errW_none, errW_some] <;> rfl), pbx HB⟩
 ·rw [if_neg c2] at H; have c2b0 : (a0_0 == 0) = false := beq_eq_false_iff_ne.mpr c2; have c2b1 : (a0_0 != 0) = true := bne_iff_ne.mpr c2
  by_cases c8 : a0_0 = 1
  ·rw [if_pos c8] at H; have c8b0 : (a0_0 == 1) = true := beq_iff_eq.mpr c8; have c8b1 : (a0_0 != 1) = false := bne_eq_false_iff_eq.mpr c8; clear c8; replace H := Option.bind_eq_some_iff.mp H; obtain ⟨t102, A90, H⟩ := H
   replace H : (if t102 = true then (some (a0_2.toList == ([] : List UInt8))) else (some false)) = some r := H
   have A9 := Aside0.mk A90; clear A90
   by_cases c10 : t102 = true
   ·subst c10
    have H1 : (some (a0_2.toList == ([] : List UInt8))) = some r := by rw [if_pos rfl] at H; exact H
    clear H; have H := H1; clear H1; obtain rfl := Option.some.inj H
    go_enter Tryd.func27, Tryd.ntmps27
    go_wp2_with (first | ((with_reducible refine gate_dst (N:=1) rfl ?_); (try (refine gate_guard (by rfl) ?_; dsimp only)); refine be_ (N:=1) (cs := #[.int .i64 a0_0, .int .i64 a0_1, .string a0_2]) (t:=23) ?_; intro gb101 hg w11 hbox hb; have BK101 := Aside0.mk (hbox); replace HB := bs_ HB hb; clear hb hbox hg; have hcz12_0 : w11.cell? ⟨gb101, 0, none⟩ = some (.int .i64 a0_0) := bc_ BK101 0 rfl; have hcz12_1 : w11.cell? ⟨gb101, 1, none⟩ = some (.int .i64 a0_1) := bc_ BK101 1 rfl; have hcz12_2 : w11.cell? ⟨gb101, 2, none⟩ = some (.string a0_2) := bc_ BK101 2 rfl) | ((with_reducible refine gate_callee (f:=39) rfl ?_); refine gL_ (some 19) rfl rfl Tryd.func39 rfl #[.int .i64 a0_1] rfl ?_; (with_reducible refine (dec_May.calls a0_1 true _ A9.out).mono ?_); rintro e w' ⟨rfl, ⟨nd, rfl⟩⟩; refine ⟨_, rfl, ?_⟩))
    go_ret
    exact ⟨by first | rfl | (simp [errW_none, errW_some] <;> rfl) | (simp [*, errW_none, errW_some] <;> rfl), pbx HB⟩
   ·replace c10 := Bool.eq_false_iff.mpr c10; subst c10
    have H1 : (some false) = some r := by rw [if_neg (show ¬ (false = true) by decide)] at H; exact H
    clear H; have H := H1; clear H1; obtain rfl := Option.some.inj H
    go_enter Tryd.func27, Tryd.ntmps27
    go_wp2_with (first | ((with_reducible refine gate_dst (N:=1) rfl ?_); (try (refine gate_guard (by rfl) ?_; dsimp only)); refine be_ (N:=1) (cs := #[.int .i64 a0_0, .int .i64 a0_1, .string a0_2]) (t:=23) ?_; intro gb101 hg w13 hbox hb; have BK101 := Aside0.mk (hbox); replace HB := bs_ HB hb; clear hb hbox hg; have hcz14_0 : w13.cell? ⟨gb101, 0, none⟩ = some (.int .i64 a0_0) := bc_ BK101 0 rfl; have hcz14_1 : w13.cell? ⟨gb101, 1, none⟩ = some (.int .i64 a0_1) := bc_ BK101 1 rfl; have hcz14_2 : w13.cell? ⟨gb101, 2, none⟩ = some (.string a0_2) := bc_ BK101 2 rfl) | ((with_reducible refine gate_callee (f:=39) rfl ?_); refine gL_ (some 19) rfl rfl Tryd.func39 rfl #[.int .i64 a0_1] rfl ?_; (with_reducible refine (dec_May.calls a0_1 false _ A9.out).mono ?_); rintro e w' ⟨rfl, ⟨nd, rfl⟩⟩; refine ⟨_, rfl, ?_⟩))
    go_ret
    exact ⟨by first | rfl | (simp [errW_none, errW_some] <;> rfl) | (simp [*, errW_none, errW_some] <;> rfl), pbx HB⟩
  ·rw [if_neg c8] at H; have c8b0 : (a0_0 == 1) = false := beq_eq_false_iff_ne.mpr c8; have c8b1 : (a0_0 != 1) = true := bne_iff_ne.mpr c8
   by_cases c15 : a0_0 = 2
   ·rw [if_pos c15] at H; have c15b0 : (a0_0 == 2) = true := beq_iff_eq.mpr c15; have c15b1 : (a0_0 != 2) = false := bne_eq_false_iff_eq.mpr c15; clear c15
    by_cases c16 : a0_1 = 0
    ·rw [if_pos c16] at H; have c16b0 : (a0_1 == 0) = true := beq_iff_eq.mpr c16; have c16b1 : (a0_1 != 0) = false := bne_eq_false_iff_eq.mpr c16; clear c16; obtain rfl := Option.some.inj H
     go_enter Tryd.func27, Tryd.ntmps27
     go_wp2_with (first | ((with_reducible refine gate_dst (N:=1) rfl ?_); (try (refine gate_guard (by rfl) ?_; dsimp only)); refine be_ (N:=1) (cs := #[.int .i64 a0_0, .int .i64 a0_1, .string a0_2]) (t:=23) ?_; intro gb101 hg w17 hbox hb; have BK101 := Aside0.mk (hbox); replace HB := bs_ HB hb; clear hb hbox hg; have hcz18_0 : w17.cell? ⟨gb101, 0, none⟩ = some (.int .i64 a0_0) := bc_ BK101 0 rfl; have hcz18_1 : w17.cell? ⟨gb101, 1, none⟩ = some (.int .i64 a0_1) := bc_ BK101 1 rfl; have hcz18_2 : w17.cell? ⟨gb101, 2, none⟩ = some (.string a0_2) := bc_ BK101 2 rfl))
     go_ret
     exact ⟨by first | rfl | (simp [errW_none, errW_some] <;> rfl) | (simp [*, errW_none, errW_some] <;> rfl), pbx HB⟩
    ·rw [if_neg c16] at H; have c16b0 : (a0_1 == 0) = false := beq_eq_false_iff_ne.mpr c16; have c16b1 : (a0_1 != 0) = true := bne_iff_ne.mpr c16; obtain rfl := Option.some.inj H
     go_enter Tryd.func27, Tryd.ntmps27
     go_wp2_with (first | ((with_reducible refine gate_dst (N:=1) rfl ?_); (try (refine gate_guard (by rfl) ?_; dsimp only)); refine be_ (N:=1) (cs := #[.int .i64 a0_0, .int .i64 a0_1, .string a0_2]) (t:=23) ?_; intro gb101 hg w19 hbox hb; have BK101 := Aside0.mk (hbox); replace HB := bs_ HB hb; clear hb hbox hg; have hcz20_0 : w19.cell? ⟨gb101, 0, none⟩ = some (.int .i64 a0_0) := bc_ BK101 0 rfl; have hcz20_1 : w19.cell? ⟨gb101, 1, none⟩ = some (.int .i64 a0_1) := bc_ BK101 1 rfl; have hcz20_2 : w19.cell? ⟨gb101, 2, none⟩ = some (.string a0_2) := bc_ BK101 2 rfl))
     go_ret
     exact ⟨by first | rfl | (simp [errW_none, errW_some] <;> rfl) | (simp [*, errW_none, errW_some] <;> rfl), pbx HB⟩
   ·rw [if_neg c15] at H; have c15b0 : (a0_0 == 2) = false := beq_eq_false_iff_ne.mpr c15; have c15b1 : (a0_0 != 2) = true := bne_iff_ne.mpr c15
    by_cases c21 : a0_0 = 3
    ·rw [if_pos c21] at H; have c21b0 : (a0_0 == 3) = true := beq_iff_eq.mpr c21; have c21b1 : (a0_0 != 3) = false := bne_eq_false_iff_eq.mpr c21; clear c21
     by_cases c22 : a0_1 = 0
     ·rw [if_pos c22] at H; have c22b0 : (a0_1 == 0) = true := beq_iff_eq.mpr c22; have c22b1 : (a0_1 != 0) = false := bne_eq_false_iff_eq.mpr c22; clear c22; obtain rfl := Option.some.inj H
      go_enter Tryd.func27, Tryd.ntmps27
      go_wp2_with (first | ((with_reducible refine gate_dst (N:=1) rfl ?_); (try (refine gate_guard (by rfl) ?_; dsimp only)); refine be_ (N:=1) (cs := #[.int .i64 a0_0, .int .i64 a0_1, .string a0_2]) (t:=23) ?_; intro gb101 hg w23 hbox hb; have BK101 := Aside0.mk (hbox); replace HB := bs_ HB hb; clear hb hbox hg; have hcz24_0 : w23.cell? ⟨gb101, 0, none⟩ = some (.int .i64 a0_0) := bc_ BK101 0 rfl; have hcz24_1 : w23.cell? ⟨gb101, 1, none⟩ = some (.int .i64 a0_1) := bc_ BK101 1 rfl; have hcz24_2 : w23.cell? ⟨gb101, 2, none⟩ = some (.string a0_2) := bc_ BK101 2 rfl))
      go_ret
      exact ⟨by first | rfl | (simp [errW_none, errW_some] <;> rfl) | (simp [*, errW_none, errW_some] <;> rfl), pbx HB⟩
     ·rw [if_neg c22] at H; have c22b0 : (a0_1 == 0) = false := beq_eq_false_iff_ne.mpr c22; have c22b1 : (a0_1 != 0) = true := bne_iff_ne.mpr c22
      by_cases c25 : a0_1 = 1
      ·rw [if_pos c25] at H; have c25b0 : (a0_1 == 1) = true := beq_iff_eq.mpr c25; have c25b1 : (a0_1 != 1) = false := bne_eq_false_iff_eq.mpr c25; clear c25; obtain rfl := Option.some.inj H
       go_enter Tryd.func27, Tryd.ntmps27
       go_wp2_with (first | ((with_reducible refine gate_dst (N:=1) rfl ?_); (try (refine gate_guard (by rfl) ?_; dsimp only)); refine be_ (N:=1) (cs := #[.int .i64 a0_0, .int .i64 a0_1, .string a0_2]) (t:=23) ?_; intro gb101 hg w26 hbox hb; have BK101 := Aside0.mk (hbox); replace HB := bs_ HB hb; clear hb hbox hg; have hcz27_0 : w26.cell? ⟨gb101, 0, none⟩ = some (.int .i64 a0_0) := bc_ BK101 0 rfl; have hcz27_1 : w26.cell? ⟨gb101, 1, none⟩ = some (.int .i64 a0_1) := bc_ BK101 1 rfl; have hcz27_2 : w26.cell? ⟨gb101, 2, none⟩ = some (.string a0_2) := bc_ BK101 2 rfl))
       go_ret
       exact ⟨by first | rfl | (simp [errW_none, errW_some] <;> rfl) | (simp [*, errW_none, errW_some] <;> rfl), pbx HB⟩
      ·rw [if_neg c25] at H; have c25b0 : (a0_1 == 1) = false := beq_eq_false_iff_ne.mpr c25; have c25b1 : (a0_1 != 1) = true := bne_iff_ne.mpr c25; obtain rfl := Option.some.inj H
       go_enter Tryd.func27, Tryd.ntmps27
       go_wp2_with (first | ((with_reducible refine gate_dst (N:=1) rfl ?_); (try (refine gate_guard (by rfl) ?_; dsimp only)); refine be_ (N:=1) (cs := #[.int .i64 a0_0, .int .i64 a0_1, .string a0_2]) (t:=23) ?_; intro gb101 hg w28 hbox hb; have BK101 := Aside0.mk (hbox); replace HB := bs_ HB hb; clear hb hbox hg; have hcz29_0 : w28.cell? ⟨gb101, 0, none⟩ = some (.int .i64 a0_0) := bc_ BK101 0 rfl; have hcz29_1 : w28.cell? ⟨gb101, 1, none⟩ = some (.int .i64 a0_1) := bc_ BK101 1 rfl; have hcz29_2 : w28.cell? ⟨gb101, 2, none⟩ = some (.string a0_2) := bc_ BK101 2 rfl))
       go_ret
       exact ⟨by first | rfl | (simp [errW_none, errW_some] <;> rfl) | (simp [*, errW_none, errW_some] <;> rfl), pbx HB⟩
    ·rw [if_neg c21] at H; have c21b0 : (a0_0 == 3) = false := beq_eq_false_iff_ne.mpr c21; have c21b1 : (a0_0 != 3) = true := bne_iff_ne.mpr c21
     by_cases c30 : a0_0 = 4
     ·rw [if_pos c30] at H; have c30b0 : (a0_0 == 4) = true := beq_iff_eq.mpr c30; have c30b1 : (a0_0 != 4) = false := bne_eq_false_iff_eq.mpr c30; clear c30
      by_cases c31 : a0_1 ≥ 1
      ·rw [if_pos c31] at H; have c31b0 : decide (1 ≤ a0_1) = true := decide_eq_true c31; clear c31
       by_cases c32 : a0_1 ≤ 7
       ·rw [if_pos c32] at H; have c32b0 : decide (a0_1 ≤ 7) = true := decide_eq_true c32; clear c32; obtain rfl := Option.some.inj H
        go_enter Tryd.func27, Tryd.ntmps27
        go_wp2_with (first | ((with_reducible refine gate_dst (N:=1) rfl ?_); (try (refine gate_guard (by rfl) ?_; dsimp only)); refine be_ (N:=1) (cs := #[.int .i64 a0_0, .int .i64 a0_1, .string a0_2]) (t:=23) ?_; intro gb101 hg w33 hbox hb; have BK101 := Aside0.mk (hbox); replace HB := bs_ HB hb; clear hb hbox hg; have hcz34_0 : w33.cell? ⟨gb101, 0, none⟩ = some (.int .i64 a0_0) := bc_ BK101 0 rfl; have hcz34_1 : w33.cell? ⟨gb101, 1, none⟩ = some (.int .i64 a0_1) := bc_ BK101 1 rfl; have hcz34_2 : w33.cell? ⟨gb101, 2, none⟩ = some (.string a0_2) := bc_ BK101 2 rfl))
        go_ret
        exact ⟨by first | rfl | (simp [errW_none, errW_some] <;> rfl) | (simp [*, errW_none, errW_some] <;> rfl), pbx HB⟩
       ·rw [if_neg c32] at H; have c32b0 : decide (a0_1 ≤ 7) = false := decide_eq_false c32; clear c32; obtain rfl := Option.some.inj H
        go_enter Tryd.func27, Tryd.ntmps27
        go_wp2_with (first | ((with_reducible refine gate_dst (N:=1) rfl ?_); (try (refine gate_guard (by rfl) ?_; dsimp only)); refine be_ (N:=1) (cs := #[.int .i64 a0_0, .int .i64 a0_1, .string a0_2]) (t:=23) ?_; intro gb101 hg w35 hbox hb; have BK101 := Aside0.mk (hbox); replace HB := bs_ HB hb; clear hb hbox hg; have hcz36_0 : w35.cell? ⟨gb101, 0, none⟩ = some (.int .i64 a0_0) := bc_ BK101 0 rfl; have hcz36_1 : w35.cell? ⟨gb101, 1, none⟩ = some (.int .i64 a0_1) := bc_ BK101 1 rfl; have hcz36_2 : w35.cell? ⟨gb101, 2, none⟩ = some (.string a0_2) := bc_ BK101 2 rfl))
        go_ret
        exact ⟨by first | rfl | (simp [errW_none, errW_some] <;> rfl) | (simp [*, errW_none, errW_some] <;> rfl), pbx HB⟩
      ·rw [if_neg c31] at H; have c31b0 : decide (1 ≤ a0_1) = false := decide_eq_false c31; clear c31; obtain rfl := Option.some.inj H
       go_enter Tryd.func27, Tryd.ntmps27
       go_wp2_with (first | ((with_reducible refine gate_dst (N:=1) rfl ?_); (try (refine gate_guard (by rfl) ?_; dsimp only)); refine be_ (N:=1) (cs := #[.int .i64 a0_0, .int .i64 a0_1, .string a0_2]) (t:=23) ?_; intro gb101 hg w37 hbox hb; have BK101 := Aside0.mk (hbox); replace HB := bs_ HB hb; clear hb hbox hg; have hcz38_0 : w37.cell? ⟨gb101, 0, none⟩ = some (.int .i64 a0_0) := bc_ BK101 0 rfl; have hcz38_1 : w37.cell? ⟨gb101, 1, none⟩ = some (.int .i64 a0_1) := bc_ BK101 1 rfl; have hcz38_2 : w37.cell? ⟨gb101, 2, none⟩ = some (.string a0_2) := bc_ BK101 2 rfl))
       go_ret
       exact ⟨by first | rfl | (simp [errW_none, errW_some] <;> rfl) | (simp [*, errW_none, errW_some] <;> rfl), pbx HB⟩
     ·rw [if_neg c30] at H; have c30b0 : (a0_0 == 4) = false := beq_eq_false_iff_ne.mpr c30; have c30b1 : (a0_0 != 4) = true := bne_iff_ne.mpr c30; obtain rfl := Option.some.inj H
      go_enter Tryd.func27, Tryd.ntmps27
      go_wp2_with (first | ((with_reducible refine gate_dst (N:=1) rfl ?_); (try (refine gate_guard (by rfl) ?_; dsimp only)); refine be_ (N:=1) (cs := #[.int .i64 a0_0, .int .i64 a0_1, .string a0_2]) (t:=23) ?_; intro gb101 hg w39 hbox hb; have BK101 := Aside0.mk (hbox); replace HB := bs_ HB hb; clear hb hbox hg; have hcz40_0 : w39.cell? ⟨gb101, 0, none⟩ = some (.int .i64 a0_0) := bc_ BK101 0 rfl; have hcz40_1 : w39.cell? ⟨gb101, 1, none⟩ = some (.int .i64 a0_1) := bc_ BK101 1 rfl; have hcz40_2 : w39.cell? ⟨gb101, 2, none⟩ = some (.string a0_2) := bc_ BK101 2 rfl))
      go_ret
      exact ⟨by first | rfl | (simp [errW_none, errW_some] <;> rfl) | (simp [*, errW_none, errW_some] <;> rfl), pbx HB⟩

def lex_plain.f (a0 : Int) : Option (Bool) := if a0 ≥ 32 then (some (a0 != 127)) else (some false)
set_option maxHeartbeats 8000000 in
set_option maxRecDepth 100000 in
theorem lex_plain.calls (a0 : Int) (r : Bool) (w : World) (h : lex_plain.f a0 = some r) :
  Calls Tryd.prog 40 #[.int .u8 a0] w fun e w' => e = .returned (.bool r) ∧ Drawn0 w w' := by
 have H : (if a0 ≥ 32 then (some (a0 != 127)) else (some false)) = some r := h
 clear h
 by_cases c2 : a0 ≥ 32
 ·rw [if_pos c2] at H; have c2b0 : decide (32 ≤ a0) = true := decide_eq_true c2; clear c2; obtain rfl := Option.some.inj H
  go_enter Tryd.func40, Tryd.ntmps40
  go_wp2
  go_ret
  exact ⟨by first | rfl | (simp; done) | (simp [*]; done), by repeat (first | exact Drawn0.refl _ | apply Drawn0.step)⟩
 ·rw [if_neg c2] at H; have c2b0 : decide (32 ≤ a0) = false := decide_eq_false c2; clear c2; obtain rfl := Option.some.inj H
  go_enter Tryd.func40, Tryd.ntmps40
  go_wp2
  go_ret
  exact ⟨by first | rfl | (simp; done) | (simp [*]; done), by repeat (first | exact Drawn0.refl _ | apply Drawn0.step)⟩

def lex_Plain.l0 : Nat → ByteArray → Int → Int → Option (Bool)
 | 0, _, _, _ => none
 | k + 1, x0, x5, x6 => if x6 < x5 then (if 0 ≤ x6 then (if x6 < (x0.size : Int) then ((lex_plain.f (bt x0 x6)).bind fun t101 => (if t101 = true then (lex_Plain.l0 k x0 x5 (wrap64 (x6 + 1))) else (some false))) else (none)) else (none)) else (some true)
def lex_Plain.f (k : Nat) (a0 : ByteArray) : Option (Bool) := lex_Plain.l0 k a0 (a0.size : Int) 0
theorem lex_Plain.mono_l : ∀ k, (∀ y0 y1 y2, LeO (lex_Plain.l0 k y0 y1 y2) (lex_Plain.l0 (k + 1) y0 y1 y2))
 | 0 => fun _ _ _ r h => by simp [lex_Plain.l0] at h
 | k + 1 => by
  have ih0 := lex_Plain.mono_l k
  ·intro y0 y1 y2
   unfold lex_Plain.l0
   repeat' first
   | (with_reducible exact ih0 _ _ _)
   | (with_reducible exact LeO.refl _)
   | (with_reducible exact LeO.none _)
   | (with_reducible refine LeO.ite ?_ ?_)
   | (with_reducible refine LeO.bind ?_ (fun _ => ?_))
theorem lex_Plain.mono : ∀ a0 k, LeO (lex_Plain.f k a0) (lex_Plain.f (k + 1) a0) := by
 intro a0 k; have ih0 := lex_Plain.mono_l k
 unfold lex_Plain.f
 repeat' first
   | (with_reducible exact ih0 _ _ _)
   | (with_reducible exact LeO.refl _)
   | (with_reducible exact LeO.none _)
   | (with_reducible refine LeO.ite ?_ ?_)
   | (with_reducible refine LeO.bind ?_ (fun _ => ?_))
set_option maxHeartbeats 8000000 in
set_option maxRecDepth 100000 in
theorem lex_Plain.calls (k : Nat) (a0 : ByteArray) (r : Bool) (w : World) (h : lex_Plain.f k a0 = some r) :
  Calls Tryd.prog 28 #[.string a0] w fun e w' => e = .returned (.bool r) ∧ Drawn0 w w' := by
 have H : (lex_Plain.l0 k a0 (a0.size : Int) 0) = some r := h
 clear h
 have H' := Aside0.mk H
 clear H
 go_enter Tryd.func28, Tryd.ntmps28
 go_wp2
 go_loopg [6] k (fun kq v6 w' => ∃ (x6_1 : Int), v6 = .int .i64 x6_1 ∧ Aside0 (lex_Plain.l0 kq a0 (a0.size : Int) x6_1 = some r) ∧ Aside0 (kq ≤ k) ∧ Drawn0 w w')
 case atStart => exact ⟨(0), (by first | rfl | (simp; done) | (simp [*]; done)), H', ⟨Nat.le_refl _⟩, by repeat (first | exact Drawn0.refl _ | apply Drawn0.step)⟩
 case round =>
  clear H'; obtain ⟨x6_1, rfl, HA, HK1, ⟨m1, rfl⟩⟩ := hrel
  cases gk with
  | zero => exact absurd HA.out (by simp [lex_Plain.l0])
  | succ k1 =>
   have H := HA.out; clear HA
   simp only [lex_Plain.l0] at H
   by_cases c2 : x6_1 < (a0.size : Int)
   ·rw [if_pos c2] at H; have c2b0 : decide (x6_1 < (a0.size : Int)) = true := decide_eq_true c2; clear c2
    by_cases c3 : 0 ≤ x6_1
    ·rw [if_pos c3] at H; have c3b0 : decide (0 ≤ x6_1) = true := decide_eq_true c3; clear c3
     by_cases c4 : x6_1 < (a0.size : Int)
     ·rw [if_pos c4] at H; have c4b0 : decide (x6_1 < (a0.size : Int)) = true := decide_eq_true c4; clear c4; replace H := Option.bind_eq_some_iff.mp H; obtain ⟨t101, A60, H⟩ := H
      replace H : (if t101 = true then (lex_Plain.l0 k1 a0 (a0.size : Int) (wrap64 (x6_1 + 1))) else (some false)) = some r := H
      have A6 := Aside0.mk A60; clear A60
      by_cases c7 : t101 = true
      ·subst c7
       have H1 : (lex_Plain.l0 k1 a0 (a0.size : Int) (wrap64 (x6_1 + 1))) = some r := by rw [if_pos rfl] at H; exact H
       clear H; have H := H1; clear H1
       have H' := Aside0.mk H
       clear H
       have p5 : 0 ≤ (x6_1 : Int) := of_decide_eq_true (by first | (with_reducible assumption) | assumption)
       have q5 : x6_1 < (a0.size : Int) := of_decide_eq_true (by first | (with_reducible assumption) | assumption)
       have hx5 := bt_at a0 x6_1; replace p5 := eq_true p5; replace q5 := eq_true q5
       go_wp2_with (first | ((with_reducible refine gate_callee (f:=40) rfl ?_); refine gL_ (some 12) rfl rfl Tryd.func40 rfl #[.int .u8 (bt a0 x6_1)] rfl ?_; (with_reducible refine (lex_plain.calls (bt a0 x6_1) true _ A6.out).mono ?_); rintro e w' ⟨rfl, ⟨nd, rfl⟩⟩; refine ⟨_, rfl, ?_⟩))
       go_roundg k1
       case measure => have := HK1.out; omega
       case rel => exact ⟨(wrap64 (x6_1 + 1)), (by first | rfl | (simp; done) | (simp [*]; done)), H', ⟨by have := HK1.out; omega⟩, by repeat (first | exact Drawn0.refl _ | apply Drawn0.step)⟩
      ·replace c7 := Bool.eq_false_iff.mpr c7; subst c7
       have H1 : (some false) = some r := by rw [if_neg (show ¬ (false = true) by decide)] at H; exact H
       clear H; have H := H1; clear H1; obtain rfl := Option.some.inj H
       have p5 : 0 ≤ (x6_1 : Int) := of_decide_eq_true (by first | (with_reducible assumption) | assumption)
       have q5 : x6_1 < (a0.size : Int) := of_decide_eq_true (by first | (with_reducible assumption) | assumption)
       have hx5 := bt_at a0 x6_1; replace p5 := eq_true p5; replace q5 := eq_true q5
       go_wp2_with (first | ((with_reducible refine gate_callee (f:=40) rfl ?_); refine gL_ (some 12) rfl rfl Tryd.func40 rfl #[.int .u8 (bt a0 x6_1)] rfl ?_; (with_reducible refine (lex_plain.calls (bt a0 x6_1) false _ A6.out).mono ?_); rintro e w' ⟨rfl, ⟨nd, rfl⟩⟩; refine ⟨_, rfl, ?_⟩))
       go_ret
       exact ⟨by first | rfl | (simp; done) | (simp [*]; done), by repeat (first | exact Drawn0.refl _ | apply Drawn0.step)⟩
     ·rw [if_neg c4] at H
      exact absurd H (by simp)
    ·rw [if_neg c3] at H
     exact absurd H (by simp)
   ·rw [if_neg c2] at H; have c2b0 : decide (x6_1 < (a0.size : Int)) = false := decide_eq_false c2; clear c2; obtain rfl := Option.some.inj H
    go_wp2
    go_ret
    exact ⟨by first | rfl | (simp; done) | (simp [*]; done), by repeat (first | exact Drawn0.refl _ | apply Drawn0.step)⟩

def node_literal.j0 : Nat → Int → Int → ByteArray → Option (Bool)
 | 0, _, _, _ => none
 | k + 1, x102000, x102001, x102002 => (value_May.f x102000 x102001 x102002).bind fun t104 => (some t104)
def node_literal.f (k : Nat) (a0_0 : Int) (a0_1 : Int) (a0_2 : ByteArray) : Option (Bool) := if a0_0 = 2 then ((value_May.f a0_0 a0_1 a0_2).bind fun t102 => (if t102 = true then ((lex_Plain.f k a0_2).bind fun t103 => (some t103)) else (some false))) else (if a0_0 = 1 then (if a0_1 < 0 then (some false) else (node_literal.j0 k a0_0 a0_1 a0_2)) else (if a0_0 = 3 then (node_literal.j0 k a0_0 a0_1 a0_2) else (some false)))
theorem node_literal.mono_l : ∀ k, (∀ y0 y1 y2, LeO (node_literal.j0 k y0 y1 y2) (node_literal.j0 (k + 1) y0 y1 y2))
 | 0 => fun _ _ _ r h => by simp [node_literal.j0] at h
 | k + 1 => by
  have ih0 := node_literal.mono_l k
  ·intro y0 y1 y2
   unfold node_literal.j0
   repeat' first
   | (with_reducible exact ih0 _ _ _)
   | (with_reducible exact lex_Plain.mono _ _)
   | (with_reducible exact LeO.refl _)
   | (with_reducible exact LeO.none _)
   | (with_reducible refine LeO.ite ?_ ?_)
   | (with_reducible refine LeO.bind ?_ (fun _ => ?_))
theorem node_literal.mono : ∀ a0 a1 a2 k, LeO (node_literal.f k a0 a1 a2) (node_literal.f (k + 1) a0 a1 a2) := by
 intro a0 a1 a2 k; have ih0 := node_literal.mono_l k
 unfold node_literal.f
 repeat' first
   | (with_reducible exact ih0 _ _ _)
   | (with_reducible exact lex_Plain.mono _ _)
   | (with_reducible exact LeO.refl _)
   | (with_reducible exact LeO.none _)
   | (with_reducible refine LeO.ite ?_ ?_)
   | (with_reducible refine LeO.bind ?_ (fun _ => ?_))
set_option maxHeartbeats 8000000 in
set_option maxRecDepth 100000 in
theorem node_literal.calls (k : Nat) (a0_0 : Int) (a0_1 : Int) (a0_2 : ByteArray) (r : Bool) (w : World) (h : node_literal.f k a0_0 a0_1 a0_2 = some r) :
  Calls Tryd.prog 21 #[.agg #[.int .i64 a0_0, .int .i64 a0_1, .string a0_2]] w fun e w' => e = .returned (.bool r) ∧ Below w.heap.size w w' := by
 have hu23 := Tryd.underlying23; have HB := Aside0.mk (Below.refl w.heap.size w)
 have H : (if a0_0 = 2 then ((value_May.f a0_0 a0_1 a0_2).bind fun t102 => (if t102 = true then ((lex_Plain.f k a0_2).bind fun t103 => (some t103)) else (some false))) else (if a0_0 = 1 then (if a0_1 < 0 then (some false) else (node_literal.j0 k a0_0 a0_1 a0_2)) else (if a0_0 = 3 then (node_literal.j0 k a0_0 a0_1 a0_2) else (some false)))) = some r := h
 clear h; have HC2 := Aside0.mk H; clear H
 go_enter Tryd.func21, Tryd.ntmps21
 go_upto_block 3 with (first | ((with_reducible refine gate_dst (N:=1) rfl ?_); refine be_ (N:=1) (cs := #[.int .i64 a0_0, .int .i64 a0_1, .string a0_2]) (t:=23) ?_; intro gb101 hg w3 hbox hb; have BK101 := Aside0.mk (hbox); replace HB := bs_ HB hb; clear hb hbox hg; have hcz4_0 : w3.cell? ⟨gb101, 0, none⟩ = some (.int .i64 a0_0) := bc_ BK101 0 rfl; have hcz4_1 : w3.cell? ⟨gb101, 1, none⟩ = some (.int .i64 a0_1) := bc_ BK101 1 rfl; have hcz4_2 : w3.cell? ⟨gb101, 2, none⟩ = some (.string a0_2) := bc_ BK101 2 rfl))
 (try simp only [q_])
 go_cut [] (fun wc => ∃ (kq : Nat), Aside0 (node_literal.j0 kq a0_0 a0_1 a0_2 = some r) ∧ Aside0 (kq ≤ k) ∧ Aside0 (wc.heap[gb101]? = some (.cells #[.int .i64 a0_0, .int .i64 a0_1, .string a0_2] 23 (0, 0))) ∧ Aside0 (Below w.heap.size w wc))
 case first =>
  have H := HC2.out; clear HC2
  by_cases c5 : a0_0 = 2
  ·rw [if_pos c5] at H; have c5b0 : (a0_0 == 2) = true := beq_iff_eq.mpr c5; have c5b1 : (a0_0 != 2) = false := bne_eq_false_iff_eq.mpr c5; clear c5; (first | rw [c5b0] | (simp only [i64_w, i32_w]; rw [c5b0]) | skip)
   replace H := Option.bind_eq_some_iff.mp H; obtain ⟨t102, A60, H⟩ := H
   replace H : (if t102 = true then ((lex_Plain.f k a0_2).bind fun t103 => (some t103)) else (some false)) = some r := H
   have A6 := Aside0.mk A60; clear A60
   by_cases c7 : t102 = true
   ·subst c7
    have H1 : ((lex_Plain.f k a0_2).bind fun t103 => (some t103)) = some r := by rw [if_pos rfl] at H; exact H
    clear H; have H := H1; clear H1; replace H := Option.bind_eq_some_iff.mp H; obtain ⟨t103, A80, H⟩ := H
    replace H : (some t103) = some r := H
    have A8 := Aside0.mk A80; clear A80; obtain rfl := Option.some.inj H
    have hcz9_0 : w3.cell? ⟨gb101, 0, none⟩ = some (.int .i64 a0_0) := bc_ BK101 0 rfl
    have hcz9_1 : w3.cell? ⟨gb101, 1, none⟩ = some (.int .i64 a0_1) := bc_ BK101 1 rfl
    have hcz9_2 : w3.cell? ⟨gb101, 2, none⟩ = some (.string a0_2) := bc_ BK101 2 rfl
    go_wp2_with (first | ((with_reducible refine gate_callee (f:=27) rfl ?_); refine gL_ (some 12) rfl rfl Tryd.func27 rfl #[.agg #[.int .i64 a0_0, .int .i64 a0_1, .string a0_2]] rfl ?_; (with_reducible refine (value_May.calls a0_0 a0_1 a0_2 true _ A6.out).mono ?_); rintro e w10 ⟨rfl, hb⟩; refine ⟨_, rfl, ?_⟩; replace BK101 := bb_ BK101 hb; replace HB := bs_ HB hb; (try clear hb); (try clear hb2); (try clear hk); (try clear hi); have hcz11_0 : w10.cell? ⟨gb101, 0, none⟩ = some (.int .i64 a0_0) := bc_ BK101 0 rfl; have hcz11_1 : w10.cell? ⟨gb101, 1, none⟩ = some (.int .i64 a0_1) := bc_ BK101 1 rfl; have hcz11_2 : w10.cell? ⟨gb101, 2, none⟩ = some (.string a0_2) := bc_ BK101 2 rfl) | (go_at_call 28; (with_reducible refine (lex_Plain.calls k a0_2 t103 _ A8.out).mono ?_); rintro e w' ⟨rfl, ⟨nd, rfl⟩⟩))
    go_ret
    exact ⟨by first | rfl | (simp [errW_none, errW_some] <;> rfl) | (simp [*, errW_none, errW_some] <;> rfl), pbx HB⟩
   ·replace c7 := Bool.eq_false_iff.mpr c7; subst c7
    have H1 : (some false) = some r := by rw [if_neg (show ¬ (false = true) by decide)] at H; exact H
    clear H; have H := H1; clear H1; obtain rfl := Option.some.inj H
    have hcz12_0 : w3.cell? ⟨gb101, 0, none⟩ = some (.int .i64 a0_0) := bc_ BK101 0 rfl
    have hcz12_1 : w3.cell? ⟨gb101, 1, none⟩ = some (.int .i64 a0_1) := bc_ BK101 1 rfl
    have hcz12_2 : w3.cell? ⟨gb101, 2, none⟩ = some (.string a0_2) := bc_ BK101 2 rfl
    go_wp2_with (first | ((with_reducible refine gate_callee (f:=27) rfl ?_); refine gL_ (some 12) rfl rfl Tryd.func27 rfl #[.agg #[.int .i64 a0_0, .int .i64 a0_1, .string a0_2]] rfl ?_; (with_reducible refine (value_May.calls a0_0 a0_1 a0_2 false _ A6.out).mono ?_); rintro e w13 ⟨rfl, hb⟩; refine ⟨_, rfl, ?_⟩; replace BK101 := bb_ BK101 hb; replace HB := bs_ HB hb; (try clear hb); (try clear hb2); (try clear hk); (try clear hi)))
    go_ret
    exact ⟨by first | rfl | (simp [errW_none, errW_some] <;> rfl) | (simp [*, errW_none, errW_some] <;> rfl), pbx HB⟩
  ·rw [if_neg c5] at H; have c5b0 : (a0_0 == 2) = false := beq_eq_false_iff_ne.mpr c5; have c5b1 : (a0_0 != 2) = true := bne_iff_ne.mpr c5; (first | rw [c5b0] | (simp only [i64_w, i32_w]; rw [c5b0]) | skip)
   by_cases c14 : a0_0 = 1
   ·rw [if_pos c14] at H; have c14b0 : (a0_0 == 1) = true := beq_iff_eq.mpr c14; have c14b1 : (a0_0 != 1) = false := bne_eq_false_iff_eq.mpr c14; clear c14
    by_cases c15 : a0_1 < 0
    ·rw [if_pos c15] at H; have c15b0 : decide (a0_1 < 0) = true := decide_eq_true c15; clear c15; obtain rfl := Option.some.inj H
     have hcz16_0 : w3.cell? ⟨gb101, 0, none⟩ = some (.int .i64 a0_0) := bc_ BK101 0 rfl
     have hcz16_1 : w3.cell? ⟨gb101, 1, none⟩ = some (.int .i64 a0_1) := bc_ BK101 1 rfl
     have hcz16_2 : w3.cell? ⟨gb101, 2, none⟩ = some (.string a0_2) := bc_ BK101 2 rfl
     go_wp2
     go_ret
     exact ⟨by first | rfl | (simp [errW_none, errW_some] <;> rfl) | (simp [*, errW_none, errW_some] <;> rfl), pbx HB⟩
    ·rw [if_neg c15] at H; have c15b0 : decide (a0_1 < 0) = false := decide_eq_false c15; clear c15
     have H' := Aside0.mk H
     clear H
     have hcz17_0 : w3.cell? ⟨gb101, 0, none⟩ = some (.int .i64 a0_0) := bc_ BK101 0 rfl
     have hcz17_1 : w3.cell? ⟨gb101, 1, none⟩ = some (.int .i64 a0_1) := bc_ BK101 1 rfl
     have hcz17_2 : w3.cell? ⟨gb101, 2, none⟩ = some (.string a0_2) := bc_ BK101 2 rfl
     go_wp2
     go_meet
     case rel => exact ⟨_, H', ⟨by first | omega | exact Nat.le_refl _⟩, ⟨pkx BK101⟩, ⟨pbx HB⟩⟩
   ·rw [if_neg c14] at H; have c14b0 : (a0_0 == 1) = false := beq_eq_false_iff_ne.mpr c14; have c14b1 : (a0_0 != 1) = true := bne_iff_ne.mpr c14
    by_cases c18 : a0_0 = 3
    ·rw [if_pos c18] at H; have c18b0 : (a0_0 == 3) = true := beq_iff_eq.mpr c18; have c18b1 : (a0_0 != 3) = false := bne_eq_false_iff_eq.mpr c18; clear c18
     have H' := Aside0.mk H
     clear H
     go_wp2
     go_meet
     case rel => exact ⟨_, H', ⟨by first | omega | exact Nat.le_refl _⟩, ⟨pkx BK101⟩, ⟨pbx HB⟩⟩
    ·rw [if_neg c18] at H; have c18b0 : (a0_0 == 3) = false := beq_eq_false_iff_ne.mpr c18; have c18b1 : (a0_0 != 3) = true := bne_iff_ne.mpr c18; obtain rfl := Option.some.inj H
     go_wp2
     go_ret
     exact ⟨by first | rfl | (simp [errW_none, errW_some] <;> rfl) | (simp [*, errW_none, errW_some] <;> rfl), pbx HB⟩
 case rest =>
  clear HC2; (try clear c1); (try clear c2); (try clear p2); (try clear c5); (try clear c5b0); (try clear c5b1); (try clear c7); (try clear c14); (try clear c14b0); (try clear c14b1); (try clear c15); (try clear c15b0); (try clear c18); (try clear c18b0); (try clear c18b1); (try clear hcz11_0); (try clear hcz11_1); (try clear hcz11_2); (try clear hcz12_0); (try clear hcz12_1); (try clear hcz12_2); (try clear hcz16_0); (try clear hcz16_1); (try clear hcz16_2); (try clear hcz17_0); (try clear hcz17_1); (try clear hcz17_2); (try clear hcz4_0); (try clear hcz4_1); (try clear hcz4_2); (try clear hcz9_0); (try clear hcz9_1); (try clear hcz9_2); obtain ⟨kq, HA, HJ1, BK101, HB⟩ := hcut
  cases kq with
  | zero => exact absurd HA.out (by simp [node_literal.j0])
  | succ kj1 =>
   have H := HA.out; clear HA
   simp only [node_literal.j0] at H
   replace H := Option.bind_eq_some_iff.mp H; obtain ⟨t104, A190, H⟩ := H
   replace H : (some t104) = some r := H
   have A19 := Aside0.mk A190; clear A190; obtain rfl := Option.some.inj H
   have hcz20_0 : wc.cell? ⟨gb101, 0, none⟩ = some (.int .i64 a0_0) := bc_ BK101 0 rfl
   have hcz20_1 : wc.cell? ⟨gb101, 1, none⟩ = some (.int .i64 a0_1) := bc_ BK101 1 rfl
   have hcz20_2 : wc.cell? ⟨gb101, 2, none⟩ = some (.string a0_2) := bc_ BK101 2 rfl
   go_wp2_with (first | ((with_reducible refine gate_callee (f:=27) rfl ?_); refine gL_ (some 22) rfl rfl Tryd.func27 rfl #[.agg #[.int .i64 a0_0, .int .i64 a0_1, .string a0_2]] rfl ?_; (with_reducible refine (value_May.calls a0_0 a0_1 a0_2 t104 _ A19.out).mono ?_); rintro e w21 ⟨rfl, hb⟩; refine ⟨_, rfl, ?_⟩; replace BK101 := bb_ BK101 hb; replace HB := bs_ HB hb; (try clear hb); (try clear hb2); (try clear hk); (try clear hi)))
   go_ret
   exact ⟨by first | rfl | (simp [errW_none, errW_some] <;> rfl) | (simp [*, errW_none, errW_some] <;> rfl), pbx HB⟩

def addr_May.f (a0_0 : Int) (a0_1 : Int) : Option (Bool) := if a0_0 ≥ 0 then (if a0_0 < 999 then (if a0_1 ≥ 0 then (some (decide (a0_1 < 702))) else (some false)) else (some false)) else (some false)
set_option maxHeartbeats 8000000 in
set_option maxRecDepth 100000 in
theorem addr_May.calls (a0_0 : Int) (a0_1 : Int) (r : Bool) (w : World) (h : addr_May.f a0_0 a0_1 = some r) :
  Calls Tryd.prog 29 #[.agg #[.int .i64 a0_0, .int .i64 a0_1]] w fun e w' => e = .returned (.bool r) ∧ Below w.heap.size w w' := by
 have hu46 := Tryd.underlying46; have HB := Aside0.mk (Below.refl w.heap.size w)
 have H : (if a0_0 ≥ 0 then (if a0_0 < 999 then (if a0_1 ≥ 0 then (some (decide (a0_1 < 702))) else (some false)) else (some false)) else (some false)) = some r := h
 clear h
 by_cases c2 : a0_0 ≥ 0
 ·rw [if_pos c2] at H; have c2b0 : decide (0 ≤ a0_0) = true := decide_eq_true c2; clear c2
  by_cases c3 : a0_0 < 999
  ·rw [if_pos c3] at H; have c3b0 : decide (a0_0 < 999) = true := decide_eq_true c3; clear c3
   by_cases c4 : a0_1 ≥ 0
   ·rw [if_pos c4] at H; have c4b0 : decide (0 ≤ a0_1) = true := decide_eq_true c4; clear c4; obtain rfl := Option.some.inj H
    go_enter Tryd.func29, Tryd.ntmps29
    go_wp2_with (first | ((with_reducible refine gate_dst (N:=1) rfl ?_); refine be_ (N:=1) (cs := #[.int .i64 a0_0, .int .i64 a0_1]) (t:=46) ?_; intro gb101 hg w5 hbox hb; have BK101 := Aside0.mk (hbox); replace HB := bs_ HB hb; clear hb hbox hg; have hcz6_0 : w5.cell? ⟨gb101, 0, none⟩ = some (.int .i64 a0_0) := bc_ BK101 0 rfl; have hcz6_1 : w5.cell? ⟨gb101, 1, none⟩ = some (.int .i64 a0_1) := bc_ BK101 1 rfl))
    go_ret
    exact ⟨by first | rfl | (simp [errW_none, errW_some] <;> rfl) | (simp [*, errW_none, errW_some] <;> rfl), pbx HB⟩
   ·rw [if_neg c4] at H; have c4b0 : decide (0 ≤ a0_1) = false := decide_eq_false c4; clear c4; obtain rfl := Option.some.inj H
    go_enter Tryd.func29, Tryd.ntmps29
    go_wp2_with (first | ((with_reducible refine gate_dst (N:=1) rfl ?_); refine be_ (N:=1) (cs := #[.int .i64 a0_0, .int .i64 a0_1]) (t:=46) ?_; intro gb101 hg w7 hbox hb; have BK101 := Aside0.mk (hbox); replace HB := bs_ HB hb; clear hb hbox hg; have hcz8_0 : w7.cell? ⟨gb101, 0, none⟩ = some (.int .i64 a0_0) := bc_ BK101 0 rfl; have hcz8_1 : w7.cell? ⟨gb101, 1, none⟩ = some (.int .i64 a0_1) := bc_ BK101 1 rfl))
    go_ret
    exact ⟨by first | rfl | (simp [errW_none, errW_some] <;> rfl) | (simp [*, errW_none, errW_some] <;> rfl), pbx HB⟩
  ·rw [if_neg c3] at H; have c3b0 : decide (a0_0 < 999) = false := decide_eq_false c3; clear c3; obtain rfl := Option.some.inj H
   go_enter Tryd.func29, Tryd.ntmps29
   go_wp2_with (first | ((with_reducible refine gate_dst (N:=1) rfl ?_); refine be_ (N:=1) (cs := #[.int .i64 a0_0, .int .i64 a0_1]) (t:=46) ?_; intro gb101 hg w9 hbox hb; have BK101 := Aside0.mk (hbox); replace HB := bs_ HB hb; clear hb hbox hg; have hcz10_0 : w9.cell? ⟨gb101, 0, none⟩ = some (.int .i64 a0_0) := bc_ BK101 0 rfl; have hcz10_1 : w9.cell? ⟨gb101, 1, none⟩ = some (.int .i64 a0_1) := bc_ BK101 1 rfl))
   go_ret
   exact ⟨by first | rfl | (simp [errW_none, errW_some] <;> rfl) | (simp [*, errW_none, errW_some] <;> rfl), pbx HB⟩
 ·rw [if_neg c2] at H; have c2b0 : decide (0 ≤ a0_0) = false := decide_eq_false c2; clear c2; obtain rfl := Option.some.inj H
  go_enter Tryd.func29, Tryd.ntmps29
  go_wp2_with (first | ((with_reducible refine gate_dst (N:=1) rfl ?_); refine be_ (N:=1) (cs := #[.int .i64 a0_0, .int .i64 a0_1]) (t:=46) ?_; intro gb101 hg w11 hbox hb; have BK101 := Aside0.mk (hbox); replace HB := bs_ HB hb; clear hb hbox hg; have hcz12_0 : w11.cell? ⟨gb101, 0, none⟩ = some (.int .i64 a0_0) := bc_ BK101 0 rfl; have hcz12_1 : w11.cell? ⟨gb101, 1, none⟩ = some (.int .i64 a0_1) := bc_ BK101 1 rfl))
  go_ret
  exact ⟨by first | rfl | (simp [errW_none, errW_some] <;> rfl) | (simp [*, errW_none, errW_some] <;> rfl), pbx HB⟩

def node_ref.f (a0_0 : Int) (a0_1 : Int) (a0_2 : Bool) (a0_3 : Bool) : Option (Bool) := (addr_May.f a0_0 a0_1).bind fun t102 => (some t102)
set_option maxHeartbeats 8000000 in
set_option maxRecDepth 100000 in
theorem node_ref.calls (a0_0 : Int) (a0_1 : Int) (a0_2 : Bool) (a0_3 : Bool) (r : Bool) (w : World) (h : node_ref.f a0_0 a0_1 a0_2 a0_3 = some r) :
  Calls Tryd.prog 22 #[.agg #[.int .i64 a0_0, .int .i64 a0_1, .bool a0_2, .bool a0_3]] w fun e w' => e = .returned (.bool r) ∧ Below w.heap.size w w' := by
 have hu25 := Tryd.underlying25; have hu46 := Tryd.underlying46; have HB := Aside0.mk (Below.refl w.heap.size w)
 have H : ((addr_May.f a0_0 a0_1).bind fun t102 => (some t102)) = some r := h
 clear h; replace H := Option.bind_eq_some_iff.mp H; obtain ⟨t102, A20, H⟩ := H
 replace H : (some t102) = some r := H
 have A2 := Aside0.mk A20; clear A20; obtain rfl := Option.some.inj H
 go_enter Tryd.func22, Tryd.ntmps22
 go_wp2_with (first | ((with_reducible refine gate_dst (N:=1) rfl ?_); refine be_ (N:=1) (cs := #[.int .i64 a0_0, .int .i64 a0_1, .bool a0_2, .bool a0_3]) (t:=25) ?_; intro gb101 hg w3 hbox hb; have BK101 := Aside0.mk (hbox); replace HB := bs_ HB hb; clear hb hbox hg; have hcz4_0 : w3.cell? ⟨gb101, 0, none⟩ = some (.int .i64 a0_0) := bc_ BK101 0 rfl; have hcz4_1 : w3.cell? ⟨gb101, 1, none⟩ = some (.int .i64 a0_1) := bc_ BK101 1 rfl; have hcz4_2 : w3.cell? ⟨gb101, 2, none⟩ = some (.bool a0_2) := bc_ BK101 2 rfl; have hcz4_3 : w3.cell? ⟨gb101, 3, none⟩ = some (.bool a0_3) := bc_ BK101 3 rfl) | ((with_reducible refine gate_callee (f:=29) rfl ?_); refine gL_ (some 8) rfl rfl Tryd.func29 rfl #[.agg #[.int .i64 a0_0, .int .i64 a0_1]] rfl ?_; (with_reducible refine (addr_May.calls a0_0 a0_1 t102 _ A2.out).mono ?_); rintro e w5 ⟨rfl, hb⟩; refine ⟨_, rfl, ?_⟩; replace BK101 := bb_ BK101 hb; replace HB := bs_ HB hb; (try clear hb); (try clear hb2); (try clear hk); (try clear hi)))
 go_ret
 exact ⟨by first | rfl | (simp [errW_none, errW_some] <;> rfl) | (simp [*, errW_none, errW_some] <;> rfl), pbx HB⟩

theorem eqA49 (d : Nat) (w : World) (x0 y0 : Int) (x1 y1 : Int) :
  (Op.equalIn (d + 2) 49 (.agg #[.int .i64 x0, .int .u64 x1]) (.agg #[.int .i64 y0, .int .u64 y1])).run Tryd.prog w = .ok (x0 == y0 && (x1 == y1)) w := by
 refine eqA_of Tryd.underlying49 (by kernel_rfl) ?_
 refine eqf_cons (by rfl) (by go_simp; rfl) (by go_simp; rfl) (by go_simp) ?_
 exact eqf_last (by rfl) (by go_simp; rfl) (by go_simp; rfl) (by go_simp)
def label_Top.f  : Option (Int × Int) := some (15, 18446744073709551615)
set_option maxHeartbeats 8000000 in
set_option maxRecDepth 100000 in
theorem label_Top.calls  (r1 : Int) (r2 : Int) (w : World) (h : label_Top.f  = some (r1, r2)) :
  Calls Tryd.prog 41 #[] w fun e w' => e = .returned (.agg #[.int .i64 r1, .int .u64 r2]) ∧ Below w.heap.size w w' := by
 have hu49 := Tryd.underlying49; have HB := Aside0.mk (Below.refl w.heap.size w)
 have H : (some (15, 18446744073709551615)) = some (r1, r2) := h
 clear h
 simp only [Option.some.injEq, Prod.mk.injEq] at H
 obtain ⟨rfl, rfl⟩ := H
 go_enter Tryd.func41, Tryd.ntmps41
 go_wp2_with (first | ((with_reducible refine gate_dst (N:=0) rfl ?_); refine be_ (N:=0) (cs := #[.int .i64 0, .int .u64 0]) (t:=49) ?_; intro gb101 hg w1 hbox hb; have BK101 := Aside0.mk (hbox); have GW101 := hs_ HB hg; have GE101 := hs_ HB hg; replace HB := bs_ HB hb; clear hb hbox hg; have hcz2_0 : w1.cell? ⟨gb101, 0, none⟩ = some (.int .i64 0) := bc_ BK101 0 rfl; have hcz2_1 : w1.cell? ⟨gb101, 1, none⟩ = some (.int .u64 0) := bc_ BK101 1 rfl; have hfz2_0 := blk_frozen BK101.out 0; have hfz2_1 := blk_frozen BK101.out 1))
 refine bodyPost_ret (results_cell_row rfl _ _ gb101 49 #[.int .i64 15, .int .u64 18446744073709551615] (0, 0) _ rfl (by refine pp_ (cs := #[.int .i64 15, .int .u64 0]) 1 ?_ rfl; refine blk_put (cs := #[.int .i64 0, .int .u64 0]) ?_ 0 _ rfl; exact pkx BK101) Tryd.underlying49 rfl (by kernel_rfl)) rfl ?_
 exact ⟨by first | rfl | (simp [errW_none, errW_some] <;> rfl) | (simp [*, errW_none, errW_some] <;> rfl), by repeat (first | (with_reducible first | exact HB.out | apply below_alloc | apply pw_below_drewN | apply below_drew1 | refine below_set ?_ GE101.out) | exact HB.out)⟩

end Go.Proofs.YtdddhabemdbooaaDoor.X
/-
  DERIVED: THE SHELF's CONTRACTS AT THIS DUMP, IN PLAIN WORDS (tools/lay-plain.mjs out of 'TrydShelf.lean', which tools/lay-shelf.mjs wrote): THE SAME DECLARATIONS UNDER THE SAME NAMES: 'import', 'namespace', 'open', 'def', 'theorem' AND NOTHING ELSE: no command of the shelf's: FOR A HAND-IN. Each laying: the table of numbers ('.._ren') and one theorem, a field a fact of the dump's own or the kernel's comparison; each contract: ONE APPLICATION.
-/
namespace Go.Proofs
open Go.Shelf
def Tryd.laysM171_ren : Go.Shelf.Ren := ⟨fun | 171 => 43 | 243 => 51 | 246 => 59 | 283 => 69 | 284 => 70 | 285 => 71 | 286 => 72 | 129 => 81 | 317 => 80 | 318 => 82 | 319 => 83 | 320 => 84 | 337 => 88 | 338 => 89 | n => n, fun | 3 => 3 | 9 => 9 | 2 => 2 | 4 => 4 | 171 => 86 | 0 => 0 | 53 => 47 | 37 => 80 | 5 => 5 | 173 => 89 | 212 => 99 | 51 => 95 | 20 => 20 | 213 => 100 | 46 => 35 | 232 => 107 | 233 => 108 | n => n, fun | 17 => 1 | 18 => 2 | 19 => 3 | n => n⟩
theorem Tryd.laysM171 : Go.Proofs.LaysM.n171 Tryd.prog Tryd.laysM171_ren := {
  mixed := by kernel_rfl
  f129 := Tryd.func81.trans (congrArg some (by kernel_rfl))
  f171 := Tryd.func43.trans (congrArg some (by kernel_rfl))
  f243 := Tryd.func51.trans (congrArg some (by kernel_rfl))
  f246 := Tryd.func59.trans (congrArg some (by kernel_rfl))
  f283 := Tryd.func69.trans (congrArg some (by kernel_rfl))
  f284 := Tryd.func70.trans (congrArg some (by kernel_rfl))
  f285 := Tryd.func71.trans (congrArg some (by kernel_rfl))
  f286 := Tryd.func72.trans (congrArg some (by kernel_rfl))
  f317 := Tryd.func80.trans (congrArg some (by kernel_rfl))
  f318 := Tryd.func82.trans (congrArg some (by kernel_rfl))
  f319 := Tryd.func83.trans (congrArg some (by kernel_rfl))
  f320 := Tryd.func84.trans (congrArg some (by kernel_rfl))
  f337 := Tryd.func88.trans (congrArg some (by kernel_rfl))
  f338 := Tryd.func89.trans (congrArg some (by kernel_rfl))
  t0 := Tryd.underlying0
  a0 := Tryd.isAgg0
  z0 := Tryd.sizeOf0
  v0 := Tryd.zeroValue0
  t2 := Tryd.underlying2
  a2 := Tryd.isAgg2
  z2 := Tryd.sizeOf2
  v2 := Tryd.zeroValue2
  t3 := Tryd.underlying3
  a3 := Tryd.isAgg3
  z3 := Tryd.sizeOf3
  v3 := Tryd.zeroValue3
  t4 := Tryd.underlying4
  a4 := Tryd.isAgg4
  z4 := Tryd.sizeOf4
  v4 := Tryd.zeroValue4
  t5 := Tryd.underlying5
  a5 := Tryd.isAgg5
  z5 := Tryd.sizeOf5
  v5 := Tryd.zeroValue5
  t9 := Tryd.underlying9
  a9 := Tryd.isAgg9
  z9 := Tryd.sizeOf9
  v9 := Tryd.zeroValue9
  t20 := Tryd.underlying20
  a20 := Tryd.isAgg20
  z20 := Tryd.sizeOf20
  v20 := Tryd.zeroValue20
  t37 := Tryd.underlying80
  a37 := Tryd.isAgg80
  z37 := Tryd.sizeOf80
  v37 := Tryd.zeroValue80
  t46 := Tryd.underlying35
  a46 := Tryd.isAgg35
  z46 := Tryd.sizeOf35
  v46 := Tryd.zeroValue35
  t51 := Tryd.underlying95
  a51 := Tryd.isAgg95
  z51 := Tryd.sizeOf95
  v51 := Tryd.zeroValue95
  t53 := Tryd.underlying47
  a53 := Tryd.isAgg47
  z53 := Tryd.sizeOf47
  v53 := Tryd.zeroValue47
  t171 := Tryd.underlying86
  a171 := Tryd.isAgg86
  z171 := Tryd.sizeOf86
  v171 := Tryd.zeroValue86
  t173 := Tryd.underlying89
  a173 := Tryd.isAgg89
  z173 := Tryd.sizeOf89
  v173 := Tryd.zeroValue89
  t212 := Tryd.underlying99
  a212 := Tryd.isAgg99
  z212 := Tryd.sizeOf99
  v212 := Tryd.zeroValue99
  t213 := Tryd.underlying100
  a213 := Tryd.isAgg100
  z213 := Tryd.sizeOf100
  t232 := Tryd.underlying107
  a232 := Tryd.isAgg107
  z232 := Tryd.sizeOf107
  v232 := Tryd.zeroValue107
  t233 := Tryd.underlying108
  a233 := Tryd.isAgg108
  z233 := Tryd.sizeOf108
  v233 := Tryd.zeroValue108
  g17 := by kernel_rfl
  g18 := by kernel_rfl
  g19 := by kernel_rfl
  i0 := by kernel_rfl
  i2 := by kernel_rfl
  i3 := by kernel_rfl
  i4 := by kernel_rfl
  i5 := by kernel_rfl
  i9 := by kernel_rfl
  i20 := by kernel_rfl
  i37 := by kernel_rfl
  i46 := by kernel_rfl
  i51 := by kernel_rfl
  i53 := by kernel_rfl
  i171 := by kernel_rfl
  i173 := by kernel_rfl
  i212 := by kernel_rfl
  i232 := by kernel_rfl
  i233 := by kernel_rfl
  m17 := by kernel_rfl
  m18 := by kernel_rfl
  m19 := by kernel_rfl }
open Go.RowKit Go.Sort Go.Lib in
theorem Tryd.strconv_Itoa (n : Int) (h0 : -9223372036854775808 ≤ n) (h1 : n ≤ 9223372036854775807) (w : World) (htab : Lib.TabIs Tryd.prog w "internal/strconv.uint64pow10" .u64 Lib.pow10Tab) :
    Calls Tryd.prog 43 #[.int .i64 n] w fun e w' => e = .returned (.string ⟨(Lib.itoa n).toArray⟩) ∧ ∃ k os, w' = grow (w.drewN k) os := Any.strconv_Itoa Tryd.laysM171 n h0 h1 w htab
def Tryd.lays219_ren : Go.Shelf.Ren := ⟨fun | 219 => 58 | 217 => 65 | 225 => 66 | 224 => 67 | 267 => 68 | 266 => 78 | 314 => 79 | n => n, fun | 9 => 9 | 3 => 3 | 4 => 4 | 5 => 5 | 46 => 35 | 146 => 96 | 51 => 95 | n => n, fun | 1 => 0 | n => n⟩
theorem Tryd.lays219 : Go.Proofs.Lays.n219 Tryd.prog Tryd.lays219_ren := {
  mixed := by kernel_rfl
  f217 := Tryd.func65.trans (congrArg some (by kernel_rfl))
  f219 := Tryd.func58.trans (congrArg some (by kernel_rfl))
  f224 := Tryd.func67.trans (congrArg some (by kernel_rfl))
  f225 := Tryd.func66.trans (congrArg some (by kernel_rfl))
  f266 := Tryd.func78.trans (congrArg some (by kernel_rfl))
  f267 := Tryd.func68.trans (congrArg some (by kernel_rfl))
  f314 := Tryd.func79.trans (congrArg some (by kernel_rfl))
  t3 := Tryd.underlying3
  a3 := Tryd.isAgg3
  z3 := Tryd.sizeOf3
  v3 := Tryd.zeroValue3
  t4 := Tryd.underlying4
  a4 := Tryd.isAgg4
  z4 := Tryd.sizeOf4
  v4 := Tryd.zeroValue4
  t5 := Tryd.underlying5
  a5 := Tryd.isAgg5
  z5 := Tryd.sizeOf5
  v5 := Tryd.zeroValue5
  t9 := Tryd.underlying9
  a9 := Tryd.isAgg9
  z9 := Tryd.sizeOf9
  v9 := Tryd.zeroValue9
  t46 := Tryd.underlying35
  a46 := Tryd.isAgg35
  z46 := Tryd.sizeOf35
  v46 := Tryd.zeroValue35
  t51 := Tryd.underlying95
  a51 := Tryd.isAgg95
  z51 := Tryd.sizeOf95
  v51 := Tryd.zeroValue95
  t146 := Tryd.underlying96
  a146 := Tryd.isAgg96
  z146 := Tryd.sizeOf96
  v146 := Tryd.zeroValue96
  g1 := by kernel_rfl }
open Go.RowKit Go.Lib in
theorem Tryd.stringslite_Index_one (s : ByteArray) (c : UInt8) (w : World) :
    Calls Tryd.prog 58 #[.string s, .string ⟨#[c]⟩] w fun e w' => e = .returned (.int .i64 (Lib.indexByte s.data.toList c)) ∧ w' = w := Any.stringslite_Index_one Tryd.lays219 s c w
open Go.RowKit Go.Lib in
theorem Tryd.stringslite_Index (s sub : ByteArray) (m : Int) (w : World) (hs : s.size < 4294967281) (hm : w.cell? ⟨0, 0, none⟩ = some (.int .i64 m)) :
    Calls Tryd.prog 58 #[.string s, .string sub] w fun e w' => e = .returned (.int .i64 (Lib.index s.data.toList sub.data.toList)) ∧ w' = w := Any.stringslite_Index Tryd.lays219 s sub m w hs hm
def Tryd.lays143_ren : Go.Shelf.Ren := ⟨fun | 143 => 75 | 219 => 58 | 217 => 65 | 225 => 66 | 224 => 67 | 267 => 68 | 266 => 78 | 314 => 79 | n => n, fun | 9 => 9 | 3 => 3 | 4 => 4 | 5 => 5 | 46 => 35 | 146 => 96 | 51 => 95 | n => n, fun | 1 => 0 | n => n⟩
theorem Tryd.lays143 : Go.Proofs.Lays.n143 Tryd.prog Tryd.lays143_ren := {
  mixed := by kernel_rfl
  f143 := Tryd.func75.trans (congrArg some (by kernel_rfl))
  f217 := Tryd.func65.trans (congrArg some (by kernel_rfl))
  f219 := Tryd.func58.trans (congrArg some (by kernel_rfl))
  f224 := Tryd.func67.trans (congrArg some (by kernel_rfl))
  f225 := Tryd.func66.trans (congrArg some (by kernel_rfl))
  f266 := Tryd.func78.trans (congrArg some (by kernel_rfl))
  f267 := Tryd.func68.trans (congrArg some (by kernel_rfl))
  f314 := Tryd.func79.trans (congrArg some (by kernel_rfl))
  t3 := Tryd.underlying3
  a3 := Tryd.isAgg3
  z3 := Tryd.sizeOf3
  v3 := Tryd.zeroValue3
  t4 := Tryd.underlying4
  a4 := Tryd.isAgg4
  z4 := Tryd.sizeOf4
  v4 := Tryd.zeroValue4
  t5 := Tryd.underlying5
  a5 := Tryd.isAgg5
  z5 := Tryd.sizeOf5
  v5 := Tryd.zeroValue5
  t9 := Tryd.underlying9
  a9 := Tryd.isAgg9
  z9 := Tryd.sizeOf9
  v9 := Tryd.zeroValue9
  t46 := Tryd.underlying35
  a46 := Tryd.isAgg35
  z46 := Tryd.sizeOf35
  v46 := Tryd.zeroValue35
  t51 := Tryd.underlying95
  a51 := Tryd.isAgg95
  z51 := Tryd.sizeOf95
  v51 := Tryd.zeroValue95
  t146 := Tryd.underlying96
  a146 := Tryd.isAgg96
  z146 := Tryd.sizeOf96
  v146 := Tryd.zeroValue96
  g1 := by kernel_rfl }
open Go.RowKit Go.Lib in
theorem Tryd.strings_Index_one (s : ByteArray) (c : UInt8) (w : World) :
    Calls Tryd.prog 75 #[.string s, .string ⟨#[c]⟩] w fun e w' => e = .returned (.int .i64 (Lib.indexByte s.data.toList c)) ∧ w' = w := Any.strings_Index_one Tryd.lays143 s c w
def Tryd.lays220_ren : Go.Shelf.Ren := ⟨fun | 220 => 50 | 219 => 58 | 217 => 65 | 225 => 66 | 224 => 67 | 267 => 68 | 266 => 78 | 314 => 79 | n => n, fun | 9 => 9 | 4 => 4 | 3 => 3 | 5 => 5 | 46 => 35 | 146 => 96 | 51 => 95 | n => n, fun | 1 => 0 | n => n⟩
theorem Tryd.lays220 : Go.Proofs.Lays.n220 Tryd.prog Tryd.lays220_ren := {
  mixed := by kernel_rfl
  f217 := Tryd.func65.trans (congrArg some (by kernel_rfl))
  f219 := Tryd.func58.trans (congrArg some (by kernel_rfl))
  f220 := Tryd.func50.trans (congrArg some (by kernel_rfl))
  f224 := Tryd.func67.trans (congrArg some (by kernel_rfl))
  f225 := Tryd.func66.trans (congrArg some (by kernel_rfl))
  f266 := Tryd.func78.trans (congrArg some (by kernel_rfl))
  f267 := Tryd.func68.trans (congrArg some (by kernel_rfl))
  f314 := Tryd.func79.trans (congrArg some (by kernel_rfl))
  t3 := Tryd.underlying3
  a3 := Tryd.isAgg3
  z3 := Tryd.sizeOf3
  v3 := Tryd.zeroValue3
  t4 := Tryd.underlying4
  a4 := Tryd.isAgg4
  z4 := Tryd.sizeOf4
  v4 := Tryd.zeroValue4
  t5 := Tryd.underlying5
  a5 := Tryd.isAgg5
  z5 := Tryd.sizeOf5
  v5 := Tryd.zeroValue5
  t9 := Tryd.underlying9
  a9 := Tryd.isAgg9
  z9 := Tryd.sizeOf9
  v9 := Tryd.zeroValue9
  t46 := Tryd.underlying35
  a46 := Tryd.isAgg35
  z46 := Tryd.sizeOf35
  v46 := Tryd.zeroValue35
  t51 := Tryd.underlying95
  a51 := Tryd.isAgg95
  z51 := Tryd.sizeOf95
  v51 := Tryd.zeroValue95
  t146 := Tryd.underlying96
  a146 := Tryd.isAgg96
  z146 := Tryd.sizeOf96
  v146 := Tryd.zeroValue96
  g1 := by kernel_rfl }
open Go.RowKit Go.Lib in
theorem Tryd.stringslite_Cut (s sep : ByteArray) (m : Int) (w : World) (hs : s.size < 4294967281) (hm : w.cell? ⟨0, 0, none⟩ = some (.int .i64 m)) :
    Calls Tryd.prog 50 #[.string s, .string sep] w fun e w' => e = .returned (.tuple #[.string ⟨(Lib.cut s.data.toList sep.data.toList).1.toArray⟩, .string ⟨(Lib.cut s.data.toList sep.data.toList).2.1.toArray⟩, .bool (Lib.cut s.data.toList sep.data.toList).2.2]) ∧ ∃ n, w' = w.drewN n := Any.stringslite_Cut Tryd.lays220 s sep m w hs hm
def Tryd.lays145_ren : Go.Shelf.Ren := ⟨fun | 145 => 42 | 220 => 50 | 219 => 58 | 217 => 65 | 225 => 66 | 224 => 67 | 267 => 68 | 266 => 78 | 314 => 79 | n => n, fun | 9 => 9 | 4 => 4 | 59 => 57 | 3 => 3 | 5 => 5 | 46 => 35 | 146 => 96 | 51 => 95 | n => n, fun | 1 => 0 | n => n⟩
theorem Tryd.lays145 : Go.Proofs.Lays.n145 Tryd.prog Tryd.lays145_ren := {
  mixed := by kernel_rfl
  f145 := Tryd.func42.trans (congrArg some (by kernel_rfl))
  f217 := Tryd.func65.trans (congrArg some (by kernel_rfl))
  f219 := Tryd.func58.trans (congrArg some (by kernel_rfl))
  f220 := Tryd.func50.trans (congrArg some (by kernel_rfl))
  f224 := Tryd.func67.trans (congrArg some (by kernel_rfl))
  f225 := Tryd.func66.trans (congrArg some (by kernel_rfl))
  f266 := Tryd.func78.trans (congrArg some (by kernel_rfl))
  f267 := Tryd.func68.trans (congrArg some (by kernel_rfl))
  f314 := Tryd.func79.trans (congrArg some (by kernel_rfl))
  t3 := Tryd.underlying3
  a3 := Tryd.isAgg3
  z3 := Tryd.sizeOf3
  v3 := Tryd.zeroValue3
  t4 := Tryd.underlying4
  a4 := Tryd.isAgg4
  z4 := Tryd.sizeOf4
  v4 := Tryd.zeroValue4
  t5 := Tryd.underlying5
  a5 := Tryd.isAgg5
  z5 := Tryd.sizeOf5
  v5 := Tryd.zeroValue5
  t9 := Tryd.underlying9
  a9 := Tryd.isAgg9
  z9 := Tryd.sizeOf9
  v9 := Tryd.zeroValue9
  t46 := Tryd.underlying35
  a46 := Tryd.isAgg35
  z46 := Tryd.sizeOf35
  v46 := Tryd.zeroValue35
  t51 := Tryd.underlying95
  a51 := Tryd.isAgg95
  z51 := Tryd.sizeOf95
  v51 := Tryd.zeroValue95
  t59 := Tryd.underlying57
  a59 := Tryd.isAgg57
  z59 := Tryd.sizeOf57
  v59 := Tryd.zeroValue57
  t146 := Tryd.underlying96
  a146 := Tryd.isAgg96
  z146 := Tryd.sizeOf96
  v146 := Tryd.zeroValue96
  g1 := by kernel_rfl }
open Go.RowKit Go.Lib in
theorem Tryd.strings_Cut (s sep : ByteArray) (m : Int) (w : World) (hs : s.size < 4294967281) (hm : w.cell? ⟨0, 0, none⟩ = some (.int .i64 m)) :
    Calls Tryd.prog 42 #[.string s, .string sep] w fun e w' => e = .returned (.tuple #[.string ⟨(Lib.cut s.data.toList sep.data.toList).1.toArray⟩, .string ⟨(Lib.cut s.data.toList sep.data.toList).2.1.toArray⟩, .bool (Lib.cut s.data.toList sep.data.toList).2.2]) ∧ ∃ n, w' = w.drewN n := Any.strings_Cut Tryd.lays145 s sep m w hs hm
def Tryd.lays138_ren : Go.Shelf.Ren := ⟨fun | 138 => 74 | 195 => 85 | 218 => 87 | 143 => 75 | 219 => 58 | 217 => 65 | 225 => 66 | 224 => 67 | 267 => 68 | 266 => 78 | 314 => 79 | n => n, fun | 9 => 9 | 3 => 3 | 4 => 4 | 5 => 5 | 0 => 0 | 46 => 35 | 146 => 96 | 51 => 95 | n => n, fun | 1 => 0 | n => n⟩
theorem Tryd.lays138 : Go.Proofs.Lays.n138 Tryd.prog Tryd.lays138_ren := {
  mixed := by kernel_rfl
  f138 := Tryd.func74.trans (congrArg some (by kernel_rfl))
  f143 := Tryd.func75.trans (congrArg some (by kernel_rfl))
  f195 := Tryd.func85.trans (congrArg some (by kernel_rfl))
  f217 := Tryd.func65.trans (congrArg some (by kernel_rfl))
  f218 := Tryd.func87.trans (congrArg some (by kernel_rfl))
  f219 := Tryd.func58.trans (congrArg some (by kernel_rfl))
  f224 := Tryd.func67.trans (congrArg some (by kernel_rfl))
  f225 := Tryd.func66.trans (congrArg some (by kernel_rfl))
  f266 := Tryd.func78.trans (congrArg some (by kernel_rfl))
  f267 := Tryd.func68.trans (congrArg some (by kernel_rfl))
  f314 := Tryd.func79.trans (congrArg some (by kernel_rfl))
  t0 := Tryd.underlying0
  a0 := Tryd.isAgg0
  z0 := Tryd.sizeOf0
  v0 := Tryd.zeroValue0
  t3 := Tryd.underlying3
  a3 := Tryd.isAgg3
  z3 := Tryd.sizeOf3
  v3 := Tryd.zeroValue3
  t4 := Tryd.underlying4
  a4 := Tryd.isAgg4
  z4 := Tryd.sizeOf4
  v4 := Tryd.zeroValue4
  t5 := Tryd.underlying5
  a5 := Tryd.isAgg5
  z5 := Tryd.sizeOf5
  v5 := Tryd.zeroValue5
  t9 := Tryd.underlying9
  a9 := Tryd.isAgg9
  z9 := Tryd.sizeOf9
  v9 := Tryd.zeroValue9
  t46 := Tryd.underlying35
  a46 := Tryd.isAgg35
  z46 := Tryd.sizeOf35
  v46 := Tryd.zeroValue35
  t51 := Tryd.underlying95
  a51 := Tryd.isAgg95
  z51 := Tryd.sizeOf95
  v51 := Tryd.zeroValue95
  t146 := Tryd.underlying96
  a146 := Tryd.isAgg96
  z146 := Tryd.sizeOf96
  v146 := Tryd.zeroValue96
  g1 := by kernel_rfl }
open Go.RowKit Go.Lib in
theorem Tryd.strings_Count_one (s : ByteArray) (c : UInt8) (w : World) :
    Calls Tryd.prog 74 #[.string s, .string ⟨#[c]⟩] w fun e w' => e = .returned (.int .i64 (Lib.countByte s.data.toList c)) ∧ w' = w := Any.strings_Count_one Tryd.lays138 s c w
def Tryd.lays221_ren : Go.Shelf.Ren := ⟨fun | 221 => 60 | 268 => 73 | 138 => 74 | 143 => 75 | 195 => 85 | 197 => 86 | 218 => 87 | 219 => 58 | 260 => 90 | 217 => 65 | 225 => 66 | 224 => 67 | 267 => 68 | 266 => 78 | 314 => 79 | n => n, fun | 9 => 9 | 3 => 3 | 31 => 67 | 4 => 4 | 0 => 0 | 105 => 104 | 21 => 21 | 5 => 5 | 46 => 35 | 119 => 109 | 139 => 112 | 138 => 111 | 146 => 96 | 51 => 95 | n => n, fun | 1 => 0 | 3 => 4 | 4 => 5 | n => n⟩
theorem Tryd.lays221 : Go.Proofs.Lays.n221 Tryd.prog Tryd.lays221_ren := {
  mixed := by kernel_rfl
  f138 := Tryd.func74.trans (congrArg some (by kernel_rfl))
  f143 := Tryd.func75.trans (congrArg some (by kernel_rfl))
  f195 := Tryd.func85.trans (congrArg some (by kernel_rfl))
  f197 := Tryd.func86.trans (congrArg some (by kernel_rfl))
  f217 := Tryd.func65.trans (congrArg some (by kernel_rfl))
  f218 := Tryd.func87.trans (congrArg some (by kernel_rfl))
  f219 := Tryd.func58.trans (congrArg some (by kernel_rfl))
  f221 := Tryd.func60.trans (congrArg some (by kernel_rfl))
  f224 := Tryd.func67.trans (congrArg some (by kernel_rfl))
  f225 := Tryd.func66.trans (congrArg some (by kernel_rfl))
  f260 := Tryd.func90.trans (congrArg some (by kernel_rfl))
  f266 := Tryd.func78.trans (congrArg some (by kernel_rfl))
  f267 := Tryd.func68.trans (congrArg some (by kernel_rfl))
  f268 := Tryd.func73.trans (congrArg some (by kernel_rfl))
  f314 := Tryd.func79.trans (congrArg some (by kernel_rfl))
  t0 := Tryd.underlying0
  a0 := Tryd.isAgg0
  z0 := Tryd.sizeOf0
  v0 := Tryd.zeroValue0
  t3 := Tryd.underlying3
  a3 := Tryd.isAgg3
  z3 := Tryd.sizeOf3
  v3 := Tryd.zeroValue3
  t4 := Tryd.underlying4
  a4 := Tryd.isAgg4
  z4 := Tryd.sizeOf4
  v4 := Tryd.zeroValue4
  t5 := Tryd.underlying5
  a5 := Tryd.isAgg5
  z5 := Tryd.sizeOf5
  v5 := Tryd.zeroValue5
  t9 := Tryd.underlying9
  a9 := Tryd.isAgg9
  z9 := Tryd.sizeOf9
  v9 := Tryd.zeroValue9
  t21 := Tryd.underlying21
  a21 := Tryd.isAgg21
  z21 := Tryd.sizeOf21
  v21 := Tryd.zeroValue21
  t31 := Tryd.underlying67
  a31 := Tryd.isAgg67
  z31 := Tryd.sizeOf67
  v31 := Tryd.zeroValue67
  t46 := Tryd.underlying35
  a46 := Tryd.isAgg35
  z46 := Tryd.sizeOf35
  v46 := Tryd.zeroValue35
  t51 := Tryd.underlying95
  a51 := Tryd.isAgg95
  z51 := Tryd.sizeOf95
  v51 := Tryd.zeroValue95
  t105 := Tryd.underlying104
  a105 := Tryd.isAgg104
  z105 := Tryd.sizeOf104
  v105 := Tryd.zeroValue104
  t119 := Tryd.underlying109
  a119 := Tryd.isAgg109
  z119 := Tryd.sizeOf109
  t138 := Tryd.underlying111
  a138 := Tryd.isAgg111
  z138 := Tryd.sizeOf111
  v138 := Tryd.zeroValue111
  t139 := Tryd.underlying112
  a139 := Tryd.isAgg112
  z139 := Tryd.sizeOf112
  v139 := Tryd.zeroValue112
  t146 := Tryd.underlying96
  a146 := Tryd.isAgg96
  z146 := Tryd.sizeOf96
  v146 := Tryd.zeroValue96
  g1 := by kernel_rfl
  g3 := by kernel_rfl
  g4 := by kernel_rfl }
def Tryd.lays146_ren : Go.Shelf.Ren := ⟨fun | 146 => 52 | 221 => 60 | 268 => 73 | 138 => 74 | 143 => 75 | 195 => 85 | 197 => 86 | 218 => 87 | 219 => 58 | 260 => 90 | 217 => 65 | 225 => 66 | 224 => 67 | 267 => 68 | 266 => 78 | 314 => 79 | n => n, fun | 9 => 9 | 31 => 67 | 3 => 3 | 4 => 4 | 0 => 0 | 105 => 104 | 21 => 21 | 5 => 5 | 46 => 35 | 119 => 109 | 139 => 112 | 138 => 111 | 146 => 96 | 51 => 95 | n => n, fun | 1 => 0 | 3 => 4 | 4 => 5 | n => n⟩
theorem Tryd.lays146 : Go.Proofs.Lays.n146 Tryd.prog Tryd.lays146_ren := {
  mixed := by kernel_rfl
  f138 := Tryd.func74.trans (congrArg some (by kernel_rfl))
  f143 := Tryd.func75.trans (congrArg some (by kernel_rfl))
  f146 := Tryd.func52.trans (congrArg some (by kernel_rfl))
  f195 := Tryd.func85.trans (congrArg some (by kernel_rfl))
  f197 := Tryd.func86.trans (congrArg some (by kernel_rfl))
  f217 := Tryd.func65.trans (congrArg some (by kernel_rfl))
  f218 := Tryd.func87.trans (congrArg some (by kernel_rfl))
  f219 := Tryd.func58.trans (congrArg some (by kernel_rfl))
  f221 := Tryd.func60.trans (congrArg some (by kernel_rfl))
  f224 := Tryd.func67.trans (congrArg some (by kernel_rfl))
  f225 := Tryd.func66.trans (congrArg some (by kernel_rfl))
  f260 := Tryd.func90.trans (congrArg some (by kernel_rfl))
  f266 := Tryd.func78.trans (congrArg some (by kernel_rfl))
  f267 := Tryd.func68.trans (congrArg some (by kernel_rfl))
  f268 := Tryd.func73.trans (congrArg some (by kernel_rfl))
  f314 := Tryd.func79.trans (congrArg some (by kernel_rfl))
  t0 := Tryd.underlying0
  a0 := Tryd.isAgg0
  z0 := Tryd.sizeOf0
  v0 := Tryd.zeroValue0
  t3 := Tryd.underlying3
  a3 := Tryd.isAgg3
  z3 := Tryd.sizeOf3
  v3 := Tryd.zeroValue3
  t4 := Tryd.underlying4
  a4 := Tryd.isAgg4
  z4 := Tryd.sizeOf4
  v4 := Tryd.zeroValue4
  t5 := Tryd.underlying5
  a5 := Tryd.isAgg5
  z5 := Tryd.sizeOf5
  v5 := Tryd.zeroValue5
  t9 := Tryd.underlying9
  a9 := Tryd.isAgg9
  z9 := Tryd.sizeOf9
  v9 := Tryd.zeroValue9
  t21 := Tryd.underlying21
  a21 := Tryd.isAgg21
  z21 := Tryd.sizeOf21
  v21 := Tryd.zeroValue21
  t31 := Tryd.underlying67
  a31 := Tryd.isAgg67
  z31 := Tryd.sizeOf67
  v31 := Tryd.zeroValue67
  t46 := Tryd.underlying35
  a46 := Tryd.isAgg35
  z46 := Tryd.sizeOf35
  v46 := Tryd.zeroValue35
  t51 := Tryd.underlying95
  a51 := Tryd.isAgg95
  z51 := Tryd.sizeOf95
  v51 := Tryd.zeroValue95
  t105 := Tryd.underlying104
  a105 := Tryd.isAgg104
  z105 := Tryd.sizeOf104
  v105 := Tryd.zeroValue104
  t119 := Tryd.underlying109
  a119 := Tryd.isAgg109
  z119 := Tryd.sizeOf109
  t138 := Tryd.underlying111
  a138 := Tryd.isAgg111
  z138 := Tryd.sizeOf111
  v138 := Tryd.zeroValue111
  t139 := Tryd.underlying112
  a139 := Tryd.isAgg112
  z139 := Tryd.sizeOf112
  v139 := Tryd.zeroValue112
  t146 := Tryd.underlying96
  a146 := Tryd.isAgg96
  z146 := Tryd.sizeOf96
  v146 := Tryd.zeroValue96
  g1 := by kernel_rfl
  g3 := by kernel_rfl
  g4 := by kernel_rfl }
open Go.RowKit Go.Lib in
theorem Tryd.strings_Split (s sep : ByteArray) (m : Int) (w : World) (hs : s.size < 4294967281) (hm : w.cell? ⟨0, 0, none⟩ = some (.int .i64 m)) (h1 : 1 ≤ sep.size) :
    Calls Tryd.prog 52 #[.string s, .string sep] w fun e w' =>
      e = .returned (.slice (some ⟨w.heap.size, 0, none⟩) (Lib.countB s sep + 1) (Lib.countB s sep + 1)) ∧ w' = w.alloc (.cells ((Lib.splitB sep 0 (Lib.countB s sep) s).map Value.string).toArray 9) := Any.strings_Split Tryd.lays146 (by kernel_rfl) s sep m w hs hm h1
end Go.Proofs
/- The contract, by hand, of internal/stringslite.Index at a needle of one byte: out of the shelf's. -/
set_option linter.unusedVariables false
namespace Go.Proofs.YtdddhabemdbooaaDoor.X
open Go.RowKit Go.Proofs.YtdddhabemdbooaaDoorW.PrintWords Go.Proofs.YtdddhabemdbooaaDoorW.PrintLast Go.Proofs.YtdddhabemdbooaaDoorW.PrintMore
def stringslite_Index.f (a0 : ByteArray) (a1 : ByteArray) : Option Int := if h : a1.size = 1 then some (Lib.indexByte a0.data.toList (a1[0]'(by omega))) else none
theorem stringslite_Index.calls (a0 : ByteArray) (a1 : ByteArray) (r : Int) (w : World) (h : stringslite_Index.f a0 a1 = some r) :
    Calls Tryd.prog 58 #[.string a0, .string a1] w fun e w' => e = .returned (.int .i64 r) ∧ Drawn0 w w' := by
  unfold stringslite_Index.f at h
  by_cases hs : a1.size = 1
  · rw [dif_pos hs] at h
    obtain rfl := Option.some.inj h
    obtain ⟨⟨l⟩⟩ := a1
    obtain ⟨c, rfl⟩ : ∃ c, l = [c] := by
      match l, hs with
      | [c], _ => exact ⟨c, rfl⟩
    refine (Tryd.stringslite_Index_one a0 c w).mono ?_
    rintro e w' ⟨rfl, rfl⟩
    exact ⟨rfl, Drawn0.refl _⟩
  · rw [dif_neg hs] at h
    cases h
end Go.Proofs.YtdddhabemdbooaaDoor.X
namespace Go.Proofs.YtdddhabemdbooaaDoor.X
open Go.RowKit Go.Proofs.YtdddhabemdbooaaDoorW.PrintWords Go.Proofs.YtdddhabemdbooaaDoorW.PrintLast Go.Proofs.YtdddhabemdbooaaDoorW.PrintMore
attribute [local go_sem] max2_int min2_int max_two min_two max_three min_three max_four min_four
set_option linter.unusedVariables false
set_option linter.unusedSimpArgs false
def stringslite_Cut.f (a0 : ByteArray) (a1 : ByteArray) : Option (ByteArray × ByteArray × Bool) := (stringslite_Index.f a0 a1).bind fun t101 => (if t101 ≥ 0 then (if 0 ≤ t101 then (if t101 ≤ (a0.size : Int) then (if 0 ≤ (wrap64 (t101 + (a1.size : Int))) then (if (wrap64 (t101 + (a1.size : Int))) ≤ (a0.size : Int) then (some (a0.extract 0 (t101 : Int).toNat, a0.extract ((wrap64 (t101 + (a1.size : Int))) : Int).toNat a0.size, true)) else (none)) else (none)) else (none)) else (none)) else (some (a0, (⟨#[]⟩ : ByteArray), false)))
set_option maxHeartbeats 8000000 in
set_option maxRecDepth 100000 in
theorem stringslite_Cut.calls (a0 : ByteArray) (a1 : ByteArray) (r1 : ByteArray) (r2 : ByteArray) (r3 : Bool) (w : World) (h : stringslite_Cut.f a0 a1 = some (r1, r2, r3)) :
  Calls Tryd.prog 50 #[.string a0, .string a1] w fun e w' => e = .returned (.tuple #[.string r1, .string r2, .bool r3]) ∧ Drawn0 w w' := by
 have H : ((stringslite_Index.f a0 a1).bind fun t101 => (if t101 ≥ 0 then (if 0 ≤ t101 then (if t101 ≤ (a0.size : Int) then (if 0 ≤ (wrap64 (t101 + (a1.size : Int))) then (if (wrap64 (t101 + (a1.size : Int))) ≤ (a0.size : Int) then (some (a0.extract 0 (t101 : Int).toNat, a0.extract ((wrap64 (t101 + (a1.size : Int))) : Int).toNat a0.size, true)) else (none)) else (none)) else (none)) else (none)) else (some (a0, (⟨#[]⟩ : ByteArray), false)))) = some (r1, r2, r3) := h
 clear h; replace H := Option.bind_eq_some_iff.mp H; obtain ⟨t101, A30, H⟩ := H
 replace H : (if t101 ≥ 0 then (if 0 ≤ t101 then (if t101 ≤ (a0.size : Int) then (if 0 ≤ (wrap64 (t101 + (a1.size : Int))) then (if (wrap64 (t101 + (a1.size : Int))) ≤ (a0.size : Int) then (some (a0.extract 0 (t101 : Int).toNat, a0.extract ((wrap64 (t101 + (a1.size : Int))) : Int).toNat a0.size, true)) else (none)) else (none)) else (none)) else (none)) else (some (a0, (⟨#[]⟩ : ByteArray), false))) = some (r1, r2, r3) := H
 have A3 := Aside0.mk A30; clear A30
 by_cases c4 : t101 ≥ 0
 ·rw [if_pos c4] at H; have c4b0 : decide (0 ≤ t101) = true := decide_eq_true c4; clear c4
  by_cases c5 : 0 ≤ t101
  ·rw [if_pos c5] at H; have c5b0 := eq_true c5; have c5b1 : decide (0 ≤ t101) = true := decide_eq_true c5; clear c5
   by_cases c6 : t101 ≤ (a0.size : Int)
   ·rw [if_pos c6] at H; have c6b0 := eq_true c6; have c6b1 : decide (t101 ≤ (a0.size : Int)) = true := decide_eq_true c6; clear c6; obtain ⟨ji7, hji7⟩ : ∃ j_ : Int, (wrap64 (t101 + (a1.size : Int))) = j_ := ⟨_, rfl⟩
    replace H : (if 0 ≤ (ji7) then (if (ji7) ≤ (a0.size : Int) then (some (a0.extract 0 (t101 : Int).toNat, a0.extract ((ji7) : Int).toNat a0.size, true)) else (none)) else (none)) = some (r1, r2, r3) := by first | (rw [hji7] at H; exact H) | (simp only [hji7] at H ⊢; exact H)
    (try rw [hji7] at A3)
    have hji7w : (IntKind.i64.wrap (t101 + (a1.size : Int))) = ji7 := (i64_w _).trans hji7
    by_cases c8 : 0 ≤ (ji7)
    ·rw [if_pos c8] at H; have c8b0 := eq_true c8; have c8b1 : decide (0 ≤ (ji7)) = true := decide_eq_true c8; clear c8
     by_cases c9 : (ji7) ≤ (a0.size : Int)
     ·rw [if_pos c9] at H; have c9b0 := eq_true c9; have c9b1 : decide ((ji7) ≤ (a0.size : Int)) = true := decide_eq_true c9; clear c9
      simp only [Option.some.injEq, Prod.mk.injEq] at H
      obtain ⟨rfl, rfl, rfl⟩ := H
      go_enter Tryd.func50, Tryd.ntmps50
      go_wp2_with (first | (go_at_call 58; (with_reducible refine (stringslite_Index.calls a0 a1 t101 _ A3.out).mono ?_); rintro e w' ⟨rfl, ⟨nd, rfl⟩⟩; (try first | exact ⟨rfl, _, World.drewN_drewN _ _ _⟩ | exact ⟨rfl, _, Eq.trans (World.drewN_drewN _ _ _) (congrArg (World.drewN _) (Nat.add_assoc _ _ _))⟩)))
      repeat (go_quiet (first | (go_at_call 58; (with_reducible refine (stringslite_Index.calls a0 a1 t101 _ A3.out).mono ?_); rintro e w' ⟨rfl, ⟨nd, rfl⟩⟩; (try first | exact ⟨rfl, _, World.drewN_drewN _ _ _⟩ | exact ⟨rfl, _, Eq.trans (World.drewN_drewN _ _ _) (congrArg (World.drewN _) (Nat.add_assoc _ _ _))⟩))); try go_wp2_with (first | (go_at_call 58; (with_reducible refine (stringslite_Index.calls a0 a1 t101 _ A3.out).mono ?_); rintro e w' ⟨rfl, ⟨nd, rfl⟩⟩; (try first | exact ⟨rfl, _, World.drewN_drewN _ _ _⟩ | exact ⟨rfl, _, Eq.trans (World.drewN_drewN _ _ _) (congrArg (World.drewN _) (Nat.add_assoc _ _ _))⟩))))
      go_ret3
      exact ⟨by first | rfl | (simp; done) | (simp only [← hji7] <;> (first | rfl | simp)) | (simp [*]; done), by repeat (first | exact Drawn0.refl _ | apply Drawn0.step)⟩
     ·rw [if_neg c9] at H
      exact absurd H (by simp)
    ·rw [if_neg c8] at H
     exact absurd H (by simp)
   ·rw [if_neg c6] at H
    exact absurd H (by simp)
  ·rw [if_neg c5] at H
   exact absurd H (by simp)
 ·rw [if_neg c4] at H; have c4b0 : decide (0 ≤ t101) = false := decide_eq_false c4; clear c4
  simp only [Option.some.injEq, Prod.mk.injEq] at H
  obtain ⟨rfl, rfl, rfl⟩ := H
  go_enter Tryd.func50, Tryd.ntmps50
  go_wp2_with (first | (go_at_call 58; (with_reducible refine (stringslite_Index.calls a0 a1 t101 _ A3.out).mono ?_); rintro e w' ⟨rfl, ⟨nd, rfl⟩⟩; (try first | exact ⟨rfl, _, World.drewN_drewN _ _ _⟩ | exact ⟨rfl, _, Eq.trans (World.drewN_drewN _ _ _) (congrArg (World.drewN _) (Nat.add_assoc _ _ _))⟩)))
  repeat (go_quiet (first | (go_at_call 58; (with_reducible refine (stringslite_Index.calls a0 a1 t101 _ A3.out).mono ?_); rintro e w' ⟨rfl, ⟨nd, rfl⟩⟩; (try first | exact ⟨rfl, _, World.drewN_drewN _ _ _⟩ | exact ⟨rfl, _, Eq.trans (World.drewN_drewN _ _ _) (congrArg (World.drewN _) (Nat.add_assoc _ _ _))⟩))); try go_wp2_with (first | (go_at_call 58; (with_reducible refine (stringslite_Index.calls a0 a1 t101 _ A3.out).mono ?_); rintro e w' ⟨rfl, ⟨nd, rfl⟩⟩; (try first | exact ⟨rfl, _, World.drewN_drewN _ _ _⟩ | exact ⟨rfl, _, Eq.trans (World.drewN_drewN _ _ _) (congrArg (World.drewN _) (Nat.add_assoc _ _ _))⟩))))
  go_ret3
  exact ⟨by first | rfl | (simp; done) | (simp [*]; done), by repeat (first | exact Drawn0.refl _ | apply Drawn0.step)⟩

def strings_Cut.f (a0 : ByteArray) (a1 : ByteArray) : Option (ByteArray × ByteArray × Bool) := (stringslite_Cut.f a0 a1).bind fun bt101 => (some (bt101.1, bt101.2.1, bt101.2.2))
set_option maxHeartbeats 8000000 in
set_option maxRecDepth 100000 in
theorem strings_Cut.calls (a0 : ByteArray) (a1 : ByteArray) (r1 : ByteArray) (r2 : ByteArray) (r3 : Bool) (w : World) (h : strings_Cut.f a0 a1 = some (r1, r2, r3)) :
  Calls Tryd.prog 42 #[.string a0, .string a1] w fun e w' => e = .returned (.tuple #[.string r1, .string r2, .bool r3]) ∧ Drawn0 w w' := by
 have H : ((stringslite_Cut.f a0 a1).bind fun bt101 => (some (bt101.1, bt101.2.1, bt101.2.2))) = some (r1, r2, r3) := h
 clear h; replace H := Option.bind_eq_some_iff.mp H; obtain ⟨⟨t101, t102, t103⟩, A30, H⟩ := H
 replace H : (some (t101, t102, t103)) = some (r1, r2, r3) := H
 have A3 := Aside0.mk A30; clear A30
 simp only [Option.some.injEq, Prod.mk.injEq] at H
 obtain ⟨rfl, rfl, rfl⟩ := H
 go_enter Tryd.func42, Tryd.ntmps42
 go_wp2_with (first | ((with_reducible refine gate_callee (f:=50) rfl ?_); refine gL_ (some 9) rfl rfl Tryd.func50 rfl #[.string a0, .string a1] rfl ?_; (with_reducible refine (stringslite_Cut.calls a0 a1 t101 t102 t103 _ A3.out).mono ?_); rintro e w' ⟨rfl, ⟨nd, rfl⟩⟩; refine ⟨_, rfl, ?_⟩))
 go_ret3
 exact ⟨by first | rfl | (simp; done) | (simp [*]; done), by repeat (first | exact Drawn0.refl _ | apply Drawn0.step)⟩

mutual
def cats_number.j0 : Nat → ByteArray → Bool → Option (Int × Bool)
 | 0, _, _ => none
 | k + 1, x0, x23 => if x23 = true then (some (0, false)) else (cats_number.l0 k x0 0 (x0.size : Int) 0)
def cats_number.l0 : Nat → ByteArray → Int → Int → Int → Option (Int × Bool)
 | 0, _, _, _, _ => none
 | k + 1, x0, x4, x25, x26 => if x26 < x25 then (if 0 ≤ x26 then (if x26 < (x0.size : Int) then (if (bt x0 x26) < 48 then (some (0, false)) else (if (bt x0 x26) > 57 then (some (0, false)) else (cats_number.l0 k x0 (wrap64 ((wrap64 (x4 * 10)) + (((bt x0 x26) - 48) % 256))) x25 (wrap64 (x26 + 1))))) else (none)) else (none)) else (some (x4, decide (x4 < 64)))
end
def cats_number.f (k : Nat) (a0 : ByteArray) : Option (Int × Bool) := if (a0.size : Int) < 1 then (cats_number.j0 k a0 true) else (if (a0.size : Int) > 2 then (cats_number.j0 k a0 true) else (if (a0.size : Int) = 2 then (if 0 < (a0.size : Int) then (cats_number.j0 k a0 ((bt a0 0) == 48)) else (none)) else (cats_number.j0 k a0 false)))
theorem cats_number.mono_l : ∀ k, (∀ y0 y1, LeO (cats_number.j0 k y0 y1) (cats_number.j0 (k + 1) y0 y1)) ∧ (∀ y0 y1 y2 y3, LeO (cats_number.l0 k y0 y1 y2 y3) (cats_number.l0 (k + 1) y0 y1 y2 y3))
 | 0 => ⟨fun _ _ r h => by simp [cats_number.j0] at h, fun _ _ _ _ r h => by simp [cats_number.l0] at h⟩
 | k + 1 => by
  obtain ⟨ih0, ih1⟩ := cats_number.mono_l k
  refine ⟨?_, ?_⟩
  ·intro y0 y1
   unfold cats_number.j0
   repeat' first
   | (with_reducible exact ih0 _ _)
   | (with_reducible exact ih1 _ _ _ _)
   | (with_reducible exact LeO.refl _)
   | (with_reducible exact LeO.none _)
   | (with_reducible refine LeO.ite ?_ ?_)
   | (with_reducible refine LeO.bind ?_ (fun _ => ?_))
  ·intro y0 y1 y2 y3
   unfold cats_number.l0
   repeat' first
   | (with_reducible exact ih0 _ _)
   | (with_reducible exact ih1 _ _ _ _)
   | (with_reducible exact LeO.refl _)
   | (with_reducible exact LeO.none _)
   | (with_reducible refine LeO.ite ?_ ?_)
   | (with_reducible refine LeO.bind ?_ (fun _ => ?_))
theorem cats_number.mono : ∀ a0 k, LeO (cats_number.f k a0) (cats_number.f (k + 1) a0) := by
 intro a0 k; obtain ⟨ih0, ih1⟩ := cats_number.mono_l k
 unfold cats_number.f
 repeat' first
   | (with_reducible exact ih0 _ _)
   | (with_reducible exact ih1 _ _ _ _)
   | (with_reducible exact LeO.refl _)
   | (with_reducible exact LeO.none _)
   | (with_reducible refine LeO.ite ?_ ?_)
   | (with_reducible refine LeO.bind ?_ (fun _ => ?_))
set_option maxHeartbeats 8000000 in
set_option maxRecDepth 100000 in
theorem cats_number.calls (k : Nat) (a0 : ByteArray) (r1 : Int) (r2 : Bool) (w : World) (h : cats_number.f k a0 = some (r1, r2)) :
  Calls Tryd.prog 53 #[.string a0] w fun e w' => e = .returned (.tuple #[.int .i64 r1, .bool r2]) ∧ Drawn0 w w' := by
 have H : (if (a0.size : Int) < 1 then (cats_number.j0 k a0 true) else (if (a0.size : Int) > 2 then (cats_number.j0 k a0 true) else (if (a0.size : Int) = 2 then (if 0 < (a0.size : Int) then (cats_number.j0 k a0 ((bt a0 0) == 48)) else (none)) else (cats_number.j0 k a0 false)))) = some (r1, r2) := h
 clear h; have HC2 := Aside0.mk H; clear H
 go_enter Tryd.func53, Tryd.ntmps53
 go_upto_region 1 with (fail)
 go_cut [23] (fun v23 wc => ∃ (kq : Nat) (x23_1 : Bool), v23 = .bool x23_1 ∧ Aside0 (cats_number.j0 kq a0 x23_1 = some (r1, r2)) ∧ Aside0 (kq ≤ k) ∧ Drawn0 w wc)
 case first =>
  have H := HC2.out; clear HC2
  by_cases c3 : (a0.size : Int) < 1
  ·rw [if_pos c3] at H; have c3b0 : decide ((a0.size : Int) < 1) = true := decide_eq_true c3; have c3b1 : decide (a0.size < 1) = true := decide_eq_true (by omega); clear c3; (first | rw [c3b0] | (simp only [i64_w, i32_w]; rw [c3b0]) | skip)
   have H' := Aside0.mk H
   clear H
   go_wp2
   go_meet
   case rel => exact ⟨_, (true), (by first | rfl | (simp; done) | (simp [*]; done)), H', ⟨by first | omega | exact Nat.le_refl _⟩, by repeat (first | exact Drawn0.refl _ | apply Drawn0.step)⟩
  ·rw [if_neg c3] at H; have c3b0 : decide ((a0.size : Int) < 1) = false := decide_eq_false c3; have c3b1 : decide (a0.size < 1) = false := decide_eq_false (by omega); clear c3; (first | rw [c3b0] | (simp only [i64_w, i32_w]; rw [c3b0]) | skip)
   by_cases c4 : (a0.size : Int) > 2
   ·rw [if_pos c4] at H; have c4b0 : decide (2 < (a0.size : Int)) = true := decide_eq_true c4; have c4b1 : decide (2 < a0.size) = true := decide_eq_true (by omega); clear c4
    have H' := Aside0.mk H
    clear H
    go_wp2
    go_meet
    case rel => exact ⟨_, (true), (by first | rfl | (simp; done) | (simp [*]; done)), H', ⟨by first | omega | exact Nat.le_refl _⟩, by repeat (first | exact Drawn0.refl _ | apply Drawn0.step)⟩
   ·rw [if_neg c4] at H; have c4b0 : decide (2 < (a0.size : Int)) = false := decide_eq_false c4; have c4b1 : decide (2 < a0.size) = false := decide_eq_false (by omega); clear c4
    by_cases c5 : (a0.size : Int) = 2
    ·rw [if_pos c5] at H; have c5b0 : ((a0.size : Int) == 2) = true := beq_iff_eq.mpr c5; have c5b1 : ((a0.size : Int) != 2) = false := bne_eq_false_iff_eq.mpr c5; clear c5
     by_cases c6 : 0 < (a0.size : Int)
     ·rw [if_pos c6] at H; have c6b0 : decide (0 < (a0.size : Int)) = true := decide_eq_true c6; have c6b1 : decide (0 < a0.size) = true := decide_eq_true (by omega); clear c6
      have H' := Aside0.mk H
      clear H
      have p7 : 0 ≤ (0 : Int) := (by omega)
      have q7 : 0 < a0.size := (by have : (0 : Int) < (a0.size : Int) := of_decide_eq_true (by first | (with_reducible assumption) | assumption); omega)
      have hx7 : ∀ h : 0 < a0.size, ((a0[0]'h).toNat : Int) = bt a0 0 := bt_at a0 0
      clear p7; have qi7 : (0 < (a0.size : Int)) = True := eq_true (of_decide_eq_true (by first | (with_reducible assumption) | assumption)); replace q7 := eq_true q7
      go_wp2
      go_meet
      case rel => exact ⟨_, (((bt a0 0) == 48)), (by first | rfl | (simp; done) | (simp [*]; done)), H', ⟨by first | omega | exact Nat.le_refl _⟩, by repeat (first | exact Drawn0.refl _ | apply Drawn0.step)⟩
     ·rw [if_neg c6] at H
      exact absurd H (by simp)
    ·rw [if_neg c5] at H; have c5b0 : ((a0.size : Int) == 2) = false := beq_eq_false_iff_ne.mpr c5; have c5b1 : ((a0.size : Int) != 2) = true := bne_iff_ne.mpr c5
     have H' := Aside0.mk H
     clear H
     go_wp2
     go_meet
     case rel => exact ⟨_, (false), (by first | rfl | (simp; done) | (simp [*]; done)), H', ⟨by first | omega | exact Nat.le_refl _⟩, by repeat (first | exact Drawn0.refl _ | apply Drawn0.step)⟩
 case rest =>
  clear HC2; (try clear p2); (try clear c3); (try clear c3b0); (try clear c3b1); (try clear c4); (try clear c4b0); (try clear c4b1); (try clear c5); (try clear c5b0); (try clear c5b1); (try clear c6); (try clear c6b0); (try clear c6b1); (try clear p7); (try clear q7); (try clear hx7); (try clear qi7); (try clear p7); (try clear q7); obtain ⟨kq, x23_1, rfl, HA, HJ1, ⟨mc1, rfl⟩⟩ := hcut
  cases kq with
  | zero => exact absurd HA.out (by simp [cats_number.j0])
  | succ kj1 =>
   have H := HA.out; clear HA
   simp only [cats_number.j0] at H
   by_cases c8 : x23_1 = true
   ·subst c8
    have H1 : (some (0, false)) = some (r1, r2) := by rw [if_pos rfl] at H; exact H
    clear H; have H := H1; clear H1
    simp only [Option.some.injEq, Prod.mk.injEq] at H
    obtain ⟨rfl, rfl⟩ := H
    go_wp2
    go_ret2
    exact ⟨by first | rfl | (simp; done) | (simp [*]; done), by repeat (first | exact Drawn0.refl _ | apply Drawn0.step)⟩
   ·replace c8 := Bool.eq_false_iff.mpr c8; subst c8
    have H1 : (cats_number.l0 kj1 a0 0 (a0.size : Int) 0) = some (r1, r2) := by rw [if_neg (show ¬ (false = true) by decide)] at H; exact H
    clear H; have H := H1; clear H1
    have H' := Aside0.mk H
    clear H
    go_wp2
    go_loopg [4, 26] kj1 (fun kq v4 v26 w' => ∃ (x4_2 : Int) (x26_2 : Int), v4 = .int .i64 x4_2 ∧ v26 = .int .i64 x26_2 ∧ Aside0 (cats_number.l0 kq a0 x4_2 (a0.size : Int) x26_2 = some (r1, r2)) ∧ Aside0 (kq ≤ kj1) ∧ Drawn0 w w')
    case atStart => exact ⟨(0), (0), (by first | rfl | (simp; done) | (simp [*]; done)), (by first | rfl | (simp; done) | (simp [*]; done)), H', ⟨Nat.le_refl _⟩, by repeat (first | exact Drawn0.refl _ | apply Drawn0.step)⟩
    case round =>
     clear H'; (try clear c1); (try clear p2); (try clear c3); (try clear c3b0); (try clear c3b1); (try clear c4); (try clear c4b0); (try clear c4b1); (try clear c5); (try clear c5b0); (try clear c5b1); (try clear c6); (try clear c6b0); (try clear c6b1); (try clear p7); (try clear q7); (try clear hx7); (try clear qi7); (try clear c8); (try clear p2); (try clear p7); (try clear q7); obtain ⟨x4_2, x26_2, rfl, rfl, HA, HK2, ⟨m2, rfl⟩⟩ := hrel
     cases gk with
     | zero => exact absurd HA.out (by simp [cats_number.l0])
     | succ k2 =>
      have H := HA.out; clear HA
      simp only [cats_number.l0] at H
      by_cases c9 : x26_2 < (a0.size : Int)
      ·rw [if_pos c9] at H; have c9b0 : decide (x26_2 < (a0.size : Int)) = true := decide_eq_true c9; clear c9
       by_cases c10 : 0 ≤ x26_2
       ·rw [if_pos c10] at H; have c10b0 : decide (0 ≤ x26_2) = true := decide_eq_true c10; clear c10
        by_cases c11 : x26_2 < (a0.size : Int)
        ·rw [if_pos c11] at H; have c11b0 : decide (x26_2 < (a0.size : Int)) = true := decide_eq_true c11; clear c11
         by_cases c13 : (bt a0 x26_2) < 48
         ·rw [if_pos c13] at H; have c13b0 : decide ((bt a0 x26_2) < 48) = true := decide_eq_true c13; clear c13
          simp only [Option.some.injEq, Prod.mk.injEq] at H
          obtain ⟨rfl, rfl⟩ := H
          have p12 : 0 ≤ (x26_2 : Int) := of_decide_eq_true (by first | (with_reducible assumption) | assumption)
          have q12 : x26_2 < (a0.size : Int) := of_decide_eq_true (by first | (with_reducible assumption) | assumption)
          have hx12 := bt_at a0 x26_2; replace p12 := eq_true p12; replace q12 := eq_true q12
          go_wp2
          go_ret2
          exact ⟨by first | rfl | (simp; done) | (simp [*]; done), by repeat (first | exact Drawn0.refl _ | apply Drawn0.step)⟩
         ·rw [if_neg c13] at H; have c13b0 : decide ((bt a0 x26_2) < 48) = false := decide_eq_false c13; clear c13
          by_cases c15 : (bt a0 x26_2) > 57
          ·rw [if_pos c15] at H; have c15b0 : decide (57 < (bt a0 x26_2)) = true := decide_eq_true c15; clear c15
           simp only [Option.some.injEq, Prod.mk.injEq] at H
           obtain ⟨rfl, rfl⟩ := H
           have p12 : 0 ≤ (x26_2 : Int) := of_decide_eq_true (by first | (with_reducible assumption) | assumption)
           have q12 : x26_2 < (a0.size : Int) := of_decide_eq_true (by first | (with_reducible assumption) | assumption)
           have hx12 := bt_at a0 x26_2; replace p12 := eq_true p12; replace q12 := eq_true q12
           have p14 : 0 ≤ (x26_2 : Int) := of_decide_eq_true (by first | (with_reducible assumption) | assumption)
           have q14 : x26_2 < (a0.size : Int) := of_decide_eq_true (by first | (with_reducible assumption) | assumption)
           have hx14 := bt_at a0 x26_2; replace p14 := eq_true p14; replace q14 := eq_true q14
           go_wp2
           go_ret2
           exact ⟨by first | rfl | (simp; done) | (simp [*]; done), by repeat (first | exact Drawn0.refl _ | apply Drawn0.step)⟩
          ·rw [if_neg c15] at H; have c15b0 : decide (57 < (bt a0 x26_2)) = false := decide_eq_false c15; clear c15
           have H' := Aside0.mk H
           clear H
           have p12 : 0 ≤ (x26_2 : Int) := of_decide_eq_true (by first | (with_reducible assumption) | assumption)
           have q12 : x26_2 < (a0.size : Int) := of_decide_eq_true (by first | (with_reducible assumption) | assumption)
           have hx12 := bt_at a0 x26_2; replace p12 := eq_true p12; replace q12 := eq_true q12
           have p14 : 0 ≤ (x26_2 : Int) := of_decide_eq_true (by first | (with_reducible assumption) | assumption)
           have q14 : x26_2 < (a0.size : Int) := of_decide_eq_true (by first | (with_reducible assumption) | assumption)
           have hx14 := bt_at a0 x26_2; replace p14 := eq_true p14; replace q14 := eq_true q14
           have p16 : 0 ≤ (x26_2 : Int) := of_decide_eq_true (by first | (with_reducible assumption) | assumption)
           have q16 : x26_2 < (a0.size : Int) := of_decide_eq_true (by first | (with_reducible assumption) | assumption)
           have hx16 := bt_at a0 x26_2; replace p16 := eq_true p16; replace q16 := eq_true q16
           go_wp2
           go_roundg k2
           case measure => have := HJ1.out; have := HK2.out; omega
           case rel => exact ⟨(wrap64 ((wrap64 (x4_2 * 10)) + (((bt a0 x26_2) - 48) % 256))), (wrap64 (x26_2 + 1)), (by first | rfl | (simp; done) | (simp [*]; done)), (by first | rfl | (simp; done) | (simp [*]; done)), H', ⟨by have := HJ1.out; have := HK2.out; omega⟩, by repeat (first | exact Drawn0.refl _ | apply Drawn0.step)⟩
        ·rw [if_neg c11] at H
         exact absurd H (by simp)
       ·rw [if_neg c10] at H
        exact absurd H (by simp)
      ·rw [if_neg c9] at H; have c9b0 : decide (x26_2 < (a0.size : Int)) = false := decide_eq_false c9; clear c9
       simp only [Option.some.injEq, Prod.mk.injEq] at H
       obtain ⟨rfl, rfl⟩ := H
       go_wp2
       go_ret2
       exact ⟨by first | rfl | (simp; done) | (simp [*]; done), by repeat (first | exact Drawn0.refl _ | apply Drawn0.step)⟩

end Go.Proofs.YtdddhabemdbooaaDoor.X
/- The contract of strings.Split at a separator of one byte: out of the shelf's. -/
set_option linter.unusedVariables false
namespace Go.Proofs.YtdddhabemdbooaaDoor.X
open Go.RowKit Go.Proofs.YtdddhabemdbooaaDoorW.PrintWords Go.Proofs.YtdddhabemdbooaaDoorW.PrintLast Go.Proofs.YtdddhabemdbooaaDoorW.PrintMore
def strings_Split.f (a0 a1 : ByteArray) : Option (List ByteArray) := if a1.size = 1 ∧ a0.size < 4294967281 then some (Lib.splitB a1 0 (Lib.countB a0 a1) a0) else none
theorem heap_new_ (w : World) (o : Obj) : (w.alloc o).heap[w.heap.size]? = some o := by
  show (w.heap.push o)[w.heap.size]? = some o
  simp
theorem strs_own (W : World) (l : List ByteArray) (hl : l.length ≤ 9223372036854775807) :
    Kd.R Kd.string 9 (W.alloc (.cells (l.map Value.string).toArray 9)) W.heap.size (fun _ => True) (.slice (some ⟨W.heap.size, 0, none⟩) l.length l.length) l := by
  refine ⟨fun _ _ => trivial, l.map Value.string, ⟨by simp [Kd.string, Kd.scalar], Or.inr ⟨W.heap.size, l.length, (l.map Value.string).toArray, rfl, Nat.le_refl _, heap_new_ W _, Nat.le_refl _, by unfold maxLen; omega, by simp [Kd.string, Kd.scalar], by simp only [Kd.string, Kd.scalar, Nat.mul_one]; rw [List.take_of_length_le (by simp)]⟩⟩, ?_⟩
  exact Kd.reps_scalar l
theorem gensplit_one (s : ByteArray) (c : UInt8) (w : World) (hs : s.size < 4294967281) :
    Calls Tryd.prog 60 #[.string s, .string ⟨#[c]⟩, .int .i64 0, .int .i64 (-1)] w fun e w' =>
      e = .returned (.slice (some ⟨w.heap.size, 0, none⟩) (Lib.countB s ⟨#[c]⟩ + 1) (Lib.countB s ⟨#[c]⟩ + 1)) ∧ w' = w.alloc (.cells ((Lib.splitB ⟨#[c]⟩ 0 (Lib.countB s ⟨#[c]⟩) s).map Value.string).toArray 9) := by
  have h1 : 1 ≤ (⟨#[c]⟩ : ByteArray).size := Nat.le_refl _
  have hle := Lib.countB_le ⟨#[c]⟩ h1 s.size s (Nat.le_refl _)
  have hlen := Lib.splitB_all ⟨#[c]⟩ h1 0 _ s rfl
  have c0 := Any.strings_genSplit_core Tryd.lays221 (by kernel_rfl) s ⟨#[c]⟩ 0 (-1) (Lib.countB s ⟨#[c]⟩ + 1) w hs h1 (Nat.zero_le _)
    (fun x d hx => (Tryd.strings_Index_one x c _).mono fun e w' ⟨he, hw⟩ => ⟨by rw [he, ← Lib.index_one], hw⟩)
    ((Tryd.strings_Count_one s c w).mono fun e w' ⟨he, hw⟩ => ⟨by
      rw [he]
      show _ = Ending.returned (Value.int .i64 ((Lib.count s.data.toList [c] : Nat) : Int))
      rw [Lib.count_one]
      rfl, hw⟩) (by decide) (by decide) (by rw [if_pos (by decide)]; omega)
  rw [Nat.add_sub_cancel, hlen] at c0
  have e2 : Lib.cellsOf (Lib.splitB ⟨#[c]⟩ 0 (Lib.countB s ⟨#[c]⟩) s) (Lib.countB s ⟨#[c]⟩ + 1) = ((Lib.splitB ⟨#[c]⟩ 0 (Lib.countB s ⟨#[c]⟩) s).map Value.string).toArray := by rw [← hlen]; exact Lib.cellsOf_full _
  rw [e2] at c0
  exact c0
theorem split_one_w (s : ByteArray) (c : UInt8) (w : World) (hs : s.size < 4294967281) :
    Calls Tryd.prog 52 #[.string s, .string ⟨#[c]⟩] w fun e w' =>
      e = .returned (.slice (some ⟨w.heap.size, 0, none⟩) (Lib.countB s ⟨#[c]⟩ + 1) (Lib.countB s ⟨#[c]⟩ + 1)) ∧ w' = w.alloc (.cells ((Lib.splitB ⟨#[c]⟩ 0 (Lib.countB s ⟨#[c]⟩) s).map Value.string).toArray 9) := by
  go_enter Tryd.func52, Tryd.ntmps52
  go_wp2_with (go_at_call 60; refine (gensplit_one s c w hs).mono ?_; rintro e w' ⟨rfl, hw⟩; rw [hw])
  go_ret
  exact ⟨rfl, rfl⟩
theorem strings_Split.calls (a0 a1 : ByteArray) (r : List ByteArray) (w : World) (h : strings_Split.f a0 a1 = some r) :
    Calls Tryd.prog 52 #[.string a0, .string a1] w fun e w' => ∃ v0_ : Value, e = .returned (v0_) ∧ Kd.R Kd.string 9 w' w.heap.size (fun _ => True) v0_ r ∧ Below w.heap.size w w' := by
  unfold strings_Split.f at h
  by_cases hs : a1.size = 1 ∧ a0.size < 4294967281
  · rw [if_pos hs] at h
    obtain rfl := Option.some.inj h
    obtain ⟨c, rfl⟩ := Lib.one_byte a1 hs.1
    have h1 : 1 ≤ (⟨#[c]⟩ : ByteArray).size := Nat.le_refl _
    have hle := Lib.countB_le ⟨#[c]⟩ h1 a0.size a0 (Nat.le_refl _)
    have hlen := Lib.splitB_all ⟨#[c]⟩ h1 0 _ a0 rfl
    refine (split_one_w a0 c w hs.2).mono ?_
    rintro e w' ⟨rfl, rfl⟩
    have := strs_own w (Lib.splitB ⟨#[c]⟩ 0 (Lib.countB a0 ⟨#[c]⟩) a0) (by rw [hlen]; omega)
    rw [hlen] at this
    exact ⟨_, rfl, this, (Below.refl _ w).alloc (Nat.le_refl _) _⟩
  · rw [if_neg hs] at h
    cases h
end Go.Proofs.YtdddhabemdbooaaDoor.X
namespace Go.Proofs.YtdddhabemdbooaaDoor.X
open Go.RowKit Go.Proofs.YtdddhabemdbooaaDoorW.PrintWords Go.Proofs.YtdddhabemdbooaaDoorW.PrintLast Go.Proofs.YtdddhabemdbooaaDoorW.PrintMore
attribute [local go_sem] max2_int min2_int max_two min_two max_three min_three max_four min_four
set_option linter.unusedVariables false
set_option linter.unusedSimpArgs false
def cats_Parse.l0 : Nat → Int → List ByteArray → Int → Int → Option (Int × Bool)
 | 0, _, _, _, _ => none
 | k + 1, x4, x12, x13, x14 => if x14 < x13 then (if 0 ≤ x14 then (if x14 < (x12.length : Int) then ((cats_number.f k (rdOf ByteArray.empty x12 x14)).bind fun bt105 => (if bt105.2 = true then (if 0 ≤ (IntKind.u64.wrap (bt105.1)) then (if (shr .u64 x4 (IntKind.u64.wrap (bt105.1))) = 0 then (cats_Parse.l0 k (Go.bits .or .u64 x4 (shl .u64 1 (IntKind.u64.wrap (bt105.1)))) x12 x13 (wrap64 (x14 + 1))) else (some (0, false))) else (none)) else (some (0, false)))) else (none)) else (none)) else (some (x4, true))
def cats_Parse.f (k : Nat) (a0 : ByteArray) : Option (Int × Bool) := if a0.toList = ([] : List UInt8) then (some (0, true)) else ((strings_Split.f a0 (⟨#[44]⟩ : ByteArray)).bind fun t101 => (cats_Parse.l0 k 0 t101 (t101.length : Int) 0))
theorem cats_Parse.mono_l : ∀ k, (∀ y0 y1 y2 y3, LeO (cats_Parse.l0 k y0 y1 y2 y3) (cats_Parse.l0 (k + 1) y0 y1 y2 y3))
 | 0 => fun _ _ _ _ r h => by simp [cats_Parse.l0] at h
 | k + 1 => by
  have ih0 := cats_Parse.mono_l k
  ·intro y0 y1 y2 y3
   unfold cats_Parse.l0
   repeat' first
   | (with_reducible exact ih0 _ _ _ _)
   | (with_reducible exact cats_number.mono _ _)
   | (with_reducible exact LeO.refl _)
   | (with_reducible exact LeO.none _)
   | (with_reducible refine LeO.ite ?_ ?_)
   | (with_reducible refine LeO.bind ?_ (fun _ => ?_))
theorem cats_Parse.mono : ∀ a0 k, LeO (cats_Parse.f k a0) (cats_Parse.f (k + 1) a0) := by
 intro a0 k; have ih0 := cats_Parse.mono_l k
 unfold cats_Parse.f
 repeat' first
   | (with_reducible exact ih0 _ _ _ _)
   | (with_reducible exact cats_number.mono _ _)
   | (with_reducible exact LeO.refl _)
   | (with_reducible exact LeO.none _)
   | (with_reducible refine LeO.ite ?_ ?_)
   | (with_reducible refine LeO.bind ?_ (fun _ => ?_))
set_option maxHeartbeats 8000000 in
set_option maxRecDepth 100000 in
theorem cats_Parse.calls (k : Nat) (a0 : ByteArray) (r1 : Int) (r2 : Bool) (w : World) (h : cats_Parse.f k a0 = some (r1, r2)) :
  Calls Tryd.prog 44 #[.string a0] w fun e w' => e = .returned (.tuple #[.int .u64 r1, .bool r2]) ∧ Below w.heap.size w w' := by
 have HB := Aside0.mk (Below.refl w.heap.size w)
 have H : (if a0.toList = ([] : List UInt8) then (some (0, true)) else ((strings_Split.f a0 (⟨#[44]⟩ : ByteArray)).bind fun t101 => (cats_Parse.l0 k 0 t101 (t101.length : Int) 0))) = some (r1, r2) := h
 clear h
 by_cases c2 : a0.toList = ([] : List UInt8)
 ·rw [if_pos c2] at H; have c2b0 : (a0.toList == ([] : List UInt8)) = true := beq_iff_eq.mpr c2; have c2b1 : (a0.toList != ([] : List UInt8)) = false := bne_eq_false_iff_eq.mpr c2; clear c2
  simp only [Option.some.injEq, Prod.mk.injEq] at H
  obtain ⟨rfl, rfl⟩ := H
  go_enter Tryd.func44, Tryd.ntmps44
  go_wp2
  go_ret2
  exact ⟨by first | rfl | (simp [errW_none, errW_some] <;> rfl) | (simp [*, errW_none, errW_some] <;> rfl), pbx HB⟩
 ·rw [if_neg c2] at H; have c2b0 : (a0.toList == ([] : List UInt8)) = false := beq_eq_false_iff_ne.mpr c2; have c2b1 : (a0.toList != ([] : List UInt8)) = true := bne_iff_ne.mpr c2; replace H := Option.bind_eq_some_iff.mp H; obtain ⟨t101, A30, H⟩ := H
  replace H : (cats_Parse.l0 k 0 t101 (t101.length : Int) 0) = some (r1, r2) := H
  have A3 := Aside0.mk A30; clear A30
  have H' := Aside0.mk H
  clear H
  go_enter Tryd.func44, Tryd.ntmps44
  go_wp2_with (first | ((with_reducible refine gate_callee (f:=52) rfl ?_); refine gL_ (some 12) rfl rfl Tryd.func52 rfl #[.string a0, .string (⟨#[44]⟩ : ByteArray)] rfl ?_; (with_reducible refine (strings_Split.calls a0 (⟨#[44]⟩ : ByteArray) t101 _ A3.out).mono ?_); rintro e w4 ⟨v102, rfl, ho0, hb⟩; refine ⟨_, rfl, ?_⟩; have HO103 := Aside0.mk (Kd.R_lower ho0 (below_size (pbx HB))); replace HB := bs_ HB hb; (try clear hb); (try clear hb2); (try clear hk); (try clear hi); (try clear ho0); obtain ⟨Ao5, co5, eo5⟩ := Kd.R_slice HO103.out; subst eo5))
  go_loopg [4, 14] k (fun kq v4 v14 w' => ∃ (x4_1 : Int) (x14_1 : Int), v4 = .int .u64 x4_1 ∧ v14 = .int .i64 x14_1 ∧ Aside0 (cats_Parse.l0 kq x4_1 t101 (t101.length : Int) x14_1 = some (r1, r2)) ∧ Aside0 (kq ≤ k) ∧ Aside0 (Kd.R Kd.string 9 w' w.heap.size (fun _ => True) (.slice Ao5 t101.length co5) t101) ∧ Aside0 (Below w.heap.size w w'))
  case atStart => exact ⟨(0), (0), (by first | rfl | (simp; done) | (simp [*]; done)), (by first | rfl | (simp; done) | (simp [*]; done)), H', ⟨Nat.le_refl _⟩, ⟨by (with_reducible repeat (first | apply Kd.R_alloc | apply Kd.R_drewN | apply Kd.R_drew)); exact HO103.out⟩, ⟨pbx HB⟩⟩
  case round =>
   clear H'; (try clear c2); (try clear c2b0); (try clear c2b1); (try clear p2); (try clear c4); (try clear c5); obtain ⟨x4_1, x14_1, rfl, rfl, HA, HK1, HO_12, HB⟩ := hrel
   cases gk with
   | zero => exact absurd HA.out (by simp [cats_Parse.l0])
   | succ k1 =>
    have H := HA.out; clear HA
    simp only [cats_Parse.l0] at H
    by_cases c6 : x14_1 < (t101.length : Int)
    ·rw [if_pos c6] at H; have c6b0 : decide (x14_1 < (t101.length : Int)) = true := decide_eq_true c6; clear c6
     by_cases c7 : 0 ≤ x14_1
     ·rw [if_pos c7] at H; have c7b0 : decide (0 ≤ x14_1) = true := decide_eq_true c7; clear c7
      by_cases c8 : x14_1 < (t101.length : Int)
      ·rw [if_pos c8] at H; have c8b0 : decide (x14_1 < (t101.length : Int)) = true := decide_eq_true c8; clear c8; replace H := Option.bind_eq_some_iff.mp H; obtain ⟨⟨t105, t106⟩, A90, H⟩ := H
       replace H : (if t106 = true then (if 0 ≤ (IntKind.u64.wrap (t105)) then (if (shr .u64 x4_1 (IntKind.u64.wrap (t105))) = 0 then (cats_Parse.l0 k1 (Go.bits .or .u64 x4_1 (shl .u64 1 (IntKind.u64.wrap (t105)))) t101 (t101.length : Int) (wrap64 (x14_1 + 1))) else (some (0, false))) else (none)) else (some (0, false))) = some (r1, r2) := H
       have A9 := Aside0.mk A90; clear A90
       by_cases c10 : t106 = true
       ·subst c10
        have H1 : (if 0 ≤ (IntKind.u64.wrap (t105)) then (if (shr .u64 x4_1 (IntKind.u64.wrap (t105))) = 0 then (cats_Parse.l0 k1 (Go.bits .or .u64 x4_1 (shl .u64 1 (IntKind.u64.wrap (t105)))) t101 (t101.length : Int) (wrap64 (x14_1 + 1))) else (some (0, false))) else (none)) = some (r1, r2) := by rw [if_pos rfl] at H; exact H
        clear H; have H := H1; clear H1; obtain ⟨ji11, hji11⟩ : ∃ j_ : Int, (IntKind.u64.wrap (t105)) = j_ := ⟨_, rfl⟩
        replace H : (if 0 ≤ (ji11) then (if (shr .u64 x4_1 (ji11)) = 0 then (cats_Parse.l0 k1 (Go.bits .or .u64 x4_1 (shl .u64 1 (ji11))) t101 (t101.length : Int) (wrap64 (x14_1 + 1))) else (some (0, false))) else (none)) = some (r1, r2) := by first | (rw [hji11] at H; exact H) | (simp only [hji11] at H ⊢; exact H)
        (try rw [hji11] at A9)
        by_cases c12 : 0 ≤ (ji11)
        ·rw [if_pos c12] at H; have c12b0 := eq_true c12; have c12b1 : decide (0 ≤ (ji11)) = true := decide_eq_true c12; clear c12; obtain ⟨ji13, hji13⟩ : ∃ j_ : Int, (shr .u64 x4_1 (ji11)) = j_ := ⟨_, rfl⟩
         replace H : (if (ji13) = 0 then (cats_Parse.l0 k1 (Go.bits .or .u64 x4_1 (shl .u64 1 (ji11))) t101 (t101.length : Int) (wrap64 (x14_1 + 1))) else (some (0, false))) = some (r1, r2) := by first | (rw [hji13] at H; exact H) | (simp only [hji13] at H ⊢; exact H)
         (try rw [hji13] at A9)
         have hji13_ : (x4_1 / 2 ^ min (ji11).toNat 64) = ji13 := hji13
         have hji13z : (ji11) ≤ 64 → (x4_1 / 2 ^ (ji11).toNat) = ji13 := shr_small hji13
         by_cases c14 : (ji13) = 0
         ·rw [if_pos c14] at H; have c14b0 : ((ji13) == 0) = true := beq_iff_eq.mpr c14; have c14b1 : ((ji13) != 0) = false := bne_eq_false_iff_eq.mpr c14; clear c14; have c15b0 := eq_true (of_decide_eq_true (by first | (with_reducible assumption) | assumption) : 0 ≤ (ji11)); obtain ⟨ji16, hji16⟩ : ∃ j_ : Int, (shl .u64 1 (ji11)) = j_ := ⟨_, rfl⟩
          replace H : (cats_Parse.l0 k1 (Go.bits .or .u64 x4_1 (ji16)) t101 (t101.length : Int) (wrap64 (x14_1 + 1))) = some (r1, r2) := by first | (rw [hji16] at H; exact H) | (simp only [hji16] at H ⊢; exact H)
          (try rw [hji16] at A9)
          have hji16_ : (IntKind.u64.wrap (1 * 2 ^ min (ji11).toNat 64)) = ji16 := hji16
          have hji16z : (ji11) ≤ 64 → (IntKind.u64.wrap (1 * 2 ^ (ji11).toNat)) = ji16 := shl_small hji16
          have hji16u : (IntKind.u64.wrap (2 ^ min (ji11).toNat 64)) = ji16 := by have h_ := hji16_; rw [Int.one_mul] at h_; exact h_
          have hji16v : (ji11) ≤ 64 → (IntKind.u64.wrap (2 ^ (ji11).toNat)) = ji16 := fun hle_ => by have h_ := hji16z hle_; rw [Int.one_mul] at h_; exact h_
          have H' := Aside0.mk H
          clear H
          have p104 : 0 ≤ (x14_1 : Int) := of_decide_eq_true (by first | (with_reducible assumption) | assumption)
          have q104 : x14_1 < (t101.length : Int) := of_decide_eq_true (by first | (with_reducible assumption) | assumption)
          obtain ⟨ad104, e104, hx104_0⟩ := Kd.at_string (Kd.R_reads' HO_12.out).2.2 x14_1 p104 q104
          cases e104
          replace p104 := eq_true p104; replace q104 := eq_true q104
          go_wp2_with (first | ((with_reducible refine gate_callee (f:=53) rfl ?_); refine gL_ (some 20) rfl rfl Tryd.func53 rfl #[.string (rdOf ByteArray.empty t101 x14_1)] rfl ?_; (with_reducible refine (cats_number.calls k1 (rdOf ByteArray.empty t101 x14_1) t105 true _ A9.out).mono ?_); rintro e w' ⟨rfl, ⟨nd, rfl⟩⟩; refine ⟨_, rfl, ?_⟩))
          go_roundg k1
          case measure => have := HK1.out; omega
          case rel => exact ⟨(Go.bits .or .u64 x4_1 (ji16)), (wrap64 (x14_1 + 1)), (by first | rfl | (simp; done) | (simp only [← hji16] <;> (first | rfl | simp)) | (simp [*]; done)), (by first | rfl | (simp; done) | (simp [*]; done)), H', ⟨by have := HK1.out; omega⟩, ⟨by (with_reducible repeat (first | apply Kd.R_alloc | apply Kd.R_drewN | apply Kd.R_drew)); exact HO_12.out⟩, ⟨pbx HB⟩⟩
         ·rw [if_neg c14] at H; have c14b0 : ((ji13) == 0) = false := beq_eq_false_iff_ne.mpr c14; have c14b1 : ((ji13) != 0) = true := bne_iff_ne.mpr c14
          simp only [Option.some.injEq, Prod.mk.injEq] at H
          obtain ⟨rfl, rfl⟩ := H
          have p104 : 0 ≤ (x14_1 : Int) := of_decide_eq_true (by first | (with_reducible assumption) | assumption)
          have q104 : x14_1 < (t101.length : Int) := of_decide_eq_true (by first | (with_reducible assumption) | assumption)
          obtain ⟨ad104, e104, hx104_0⟩ := Kd.at_string (Kd.R_reads' HO_12.out).2.2 x14_1 p104 q104
          cases e104
          replace p104 := eq_true p104; replace q104 := eq_true q104
          go_wp2_with (first | ((with_reducible refine gate_callee (f:=53) rfl ?_); refine gL_ (some 20) rfl rfl Tryd.func53 rfl #[.string (rdOf ByteArray.empty t101 x14_1)] rfl ?_; (with_reducible refine (cats_number.calls k1 (rdOf ByteArray.empty t101 x14_1) t105 true _ A9.out).mono ?_); rintro e w' ⟨rfl, ⟨nd, rfl⟩⟩; refine ⟨_, rfl, ?_⟩))
          go_ret2
          exact ⟨by first | rfl | (simp [errW_none, errW_some] <;> rfl) | (simp only [← hji11, ← hji13]; first | rfl | (simp [errW_none, errW_some] <;> rfl)) | (simp [*, errW_none, errW_some] <;> rfl), pbx HB⟩
        ·rw [if_neg c12] at H
         exact absurd H (by simp)
       ·replace c10 := Bool.eq_false_iff.mpr c10; subst c10
        have H1 : (some (0, false)) = some (r1, r2) := by rw [if_neg (show ¬ (false = true) by decide)] at H; exact H
        clear H; have H := H1; clear H1
        simp only [Option.some.injEq, Prod.mk.injEq] at H
        obtain ⟨rfl, rfl⟩ := H
        have p104 : 0 ≤ (x14_1 : Int) := of_decide_eq_true (by first | (with_reducible assumption) | assumption)
        have q104 : x14_1 < (t101.length : Int) := of_decide_eq_true (by first | (with_reducible assumption) | assumption)
        obtain ⟨ad104, e104, hx104_0⟩ := Kd.at_string (Kd.R_reads' HO_12.out).2.2 x14_1 p104 q104
        cases e104
        replace p104 := eq_true p104; replace q104 := eq_true q104
        go_wp2_with (first | ((with_reducible refine gate_callee (f:=53) rfl ?_); refine gL_ (some 20) rfl rfl Tryd.func53 rfl #[.string (rdOf ByteArray.empty t101 x14_1)] rfl ?_; (with_reducible refine (cats_number.calls k1 (rdOf ByteArray.empty t101 x14_1) t105 false _ A9.out).mono ?_); rintro e w' ⟨rfl, ⟨nd, rfl⟩⟩; refine ⟨_, rfl, ?_⟩))
        go_ret2
        exact ⟨by first | rfl | (simp [errW_none, errW_some] <;> rfl) | (simp [*, errW_none, errW_some] <;> rfl), pbx HB⟩
      ·rw [if_neg c8] at H
       exact absurd H (by simp)
     ·rw [if_neg c7] at H
      exact absurd H (by simp)
    ·rw [if_neg c6] at H; have c6b0 : decide (x14_1 < (t101.length : Int)) = false := decide_eq_false c6; clear c6
     simp only [Option.some.injEq, Prod.mk.injEq] at H
     obtain ⟨rfl, rfl⟩ := H
     go_wp2
     go_ret2
     exact ⟨by first | rfl | (simp [errW_none, errW_some] <;> rfl) | (simp [*, errW_none, errW_some] <;> rfl), pbx HB⟩

end Go.Proofs.YtdddhabemdbooaaDoor.X
/- The contract of strconv.Itoa, out of the shelf's: where the table is laid. -/
set_option linter.unusedVariables false
namespace Go.Proofs.YtdddhabemdbooaaDoor.X
open Go.RowKit Go.Proofs.YtdddhabemdbooaaDoorW.PrintWords Go.Proofs.YtdddhabemdbooaaDoorW.PrintLast Go.Proofs.YtdddhabemdbooaaDoorW.PrintMore
open Go.Sort
def strconv_Itoa.f (a0 : Int) : Option ByteArray := if -9223372036854775808 ≤ a0 ∧ a0 ≤ 9223372036854775807 then some ⟨(Lib.itoa a0).toArray⟩ else none
theorem strconv_Itoa.calls (a0 : Int) (r : ByteArray) (w : World) (hT : Aside0 (Tab w)) (h : strconv_Itoa.f a0 = some r) :
    Calls Tryd.prog 43 #[.int .i64 a0] w fun e w' => e = .returned (.string r) ∧ Below w.heap.size w w' := by
  unfold strconv_Itoa.f at h
  by_cases hs : -9223372036854775808 ≤ a0 ∧ a0 ≤ 9223372036854775807
  · rw [if_pos hs] at h
    obtain rfl := Option.some.inj h
    refine (Tryd.strconv_Itoa a0 hs.1 hs.2 w hT.out.pow).mono ?_
    rintro e w' ⟨rfl, k, os, rfl⟩
    refine ⟨rfl, ?_⟩
    have h1 : Below w.heap.size w (w.drewN k) := (Drawn0.refl w).step k |>.below
    have h2 : Below (w.drewN k).heap.size (w.drewN k) (grow (w.drewN k) os) := ⟨rfl, rfl, rfl, by simp [grow], fun i hi => by simp only [grow]; exact Array.getElem?_append_left hi⟩
    exact h1.trans h2
  · rw [if_neg hs] at h
    cases h
end Go.Proofs.YtdddhabemdbooaaDoor.X
